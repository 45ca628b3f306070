/-
  The contract of class.White: it answers by the byte's class.
-/
import Derived.Test.YtjgbnaejeeinbaaCa
namespace Go.Proofs.Ytjgbnaejeeinbaa
open Go.RowKit
set_option linter.unusedVariables false
set_option linter.unusedSimpArgs false

def class_White.f (a0 : Int) : Option Bool := if 0 ≤ a0 ∧ a0 < 256 then some (clsN a0.toNat == 1) else none

theorem class_White.calls (a0 : Int) (r : Bool) (w : World) (h : class_White.f a0 = some r) :
    Calls Try.prog 25 #[.int .u8 a0] w fun e w' => e = .returned (.bool r) ∧ Below w.heap.size w w' := by
  unfold class_White.f at h
  split at h
  case isFalse => cases h
  case isTrue hb =>
  have hix := tab_index a0 hb.1 hb.2
  obtain rfl := Option.some.inj h
  generalize clsN a0.toNat = c at *
  go_enter Try.func25, Try.ntmps25
  go_wp2_with (go_at_call 33; refine (table_calls _).mono ?_; rintro e w' ⟨rfl, hb⟩)
  go_ret
  exact ⟨ret_bool (by rw [Bool.eq_iff_iff]; simp; omega), by assumption⟩
end Go.Proofs.Ytjgbnaejeeinbaa
