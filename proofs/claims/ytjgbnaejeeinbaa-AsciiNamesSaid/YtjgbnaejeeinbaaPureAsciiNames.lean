/-
  AsciiNames: the chapter's examples come out as it tells.
-/
import Derived.Test.YtjgbnaejeeinbaaANx1
namespace Go.Proofs.Ytjgbnaejeeinbaa.Pure
open Go.RowKit Go.Proofs.Ytjgbnaejeeinbaa.AN Go.Proofs.YtjgbnaejeeinbaaW.PrintWords Go.Proofs.YtjgbnaejeeinbaaW.PrintLast
set_option linter.unusedVariables false

theorem AsciiNames : pagemenderlaw12_AsciiNames.Pure := by
  unfold pagemenderlaw12_AsciiNames.Pure
  decide +kernel
end Go.Proofs.Ytjgbnaejeeinbaa.Pure
