/-
  The plain law of ClassOne: each byte is of one class alone; asked of each of the 256 bytes.
-/
import Derived.Test.YtmcdhldaffljnaaGx3
namespace Go.Proofs.Ytmcdhldaffljnaa.Pure
open Go.RowKit Go.Proofs.Ytmcdhldaffljnaa.G Go.Proofs.YtmcdhldaffljnaaW.PrintWords Go.Proofs.YtmcdhldaffljnaaW.PrintLast
set_option linter.unusedVariables false
set_option linter.unusedSimpArgs false

theorem one_all : ∀ n : Fin 256, pagemenderlaw01_ClassOne.f 6 (n.val : Int) = some true := by decide +kernel

theorem ClassOne : pagemenderlaw01_ClassOne.Pure := by
  intro a ha
  have hb : 0 ≤ a ∧ a < 256 := by
    have hh : (decide (IntKind.u8.min ≤ a) && decide (a ≤ IntKind.u8.max)) = true := ha
    rw [Bool.and_eq_true, decide_eq_true_eq, decide_eq_true_eq] at hh
    have e : IntKind.u8.min = 0 := by decide
    have e' : IntKind.u8.max = 255 := by decide
    omega
  refine ⟨6, ?_⟩
  have := one_all ⟨a.toNat, by omega⟩
  simp only [Int.toNat_of_nonneg hb.1] at this
  exact this
end Go.Proofs.Ytmcdhldaffljnaa.Pure
