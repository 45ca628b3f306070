/-
  The plain law of NameNames: the chapter's examples come out as it tells.
-/
import Derived.Test.YtpmenahlbfefmaaGx2
namespace Go.Proofs.Ytpmenahlbfefmaa.Pure
open Go.RowKit Go.Proofs.Ytpmenahlbfefmaa.G Go.Proofs.YtpmenahlbfefmaaW.PrintWords Go.Proofs.YtpmenahlbfefmaaW.PrintLast

theorem NameNames : pagemenderlaw03_NameNames.Pure := ⟨130, by decide +kernel⟩
end Go.Proofs.Ytpmenahlbfefmaa.Pure
