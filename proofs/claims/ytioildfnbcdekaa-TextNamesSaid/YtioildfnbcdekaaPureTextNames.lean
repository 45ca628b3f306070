/-
  TextNames: the chapter's examples come out as it tells.
-/
import Derived.Test.YtioildfnbcdekaaPNx2
import Derived.Test.YtioildfnbcdekaaTy
namespace Go.Proofs.Ytioildfnbcdekaa.Pure
open Go.RowKit Go.Proofs.Ytioildfnbcdekaa.PN Go.Proofs.YtioildfnbcdekaaW.PrintWords Go.Proofs.YtioildfnbcdekaaW.PrintLast
set_option linter.unusedVariables false
set_option linter.unusedSimpArgs false

theorem many_size (n : Nat) : (strOfNums (List.replicate n 0)).size = n := by
  unfold strOfNums
  rw [Lib.size_eq]
  simp
theorem TextNames : pagemenderlaw04_TextNames.Pure := by
  refine ⟨10, ?_⟩
  have h := putlit_long (strOfNums (List.replicate 65537 0)) (by rw [many_size]; omega)
  unfold pagemenderlaw04_TextNames.f
  rw [h]
  decide +kernel
end Go.Proofs.Ytioildfnbcdekaa.Pure
