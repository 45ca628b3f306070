/-
  The contract of the reference's Delim: a delimiter is one of ten bytes.
-/
import Derived.Test.YtpmenahlbfefmaaCp
import Derived.Test.YtpmenahlbfefmaaProg
import Derived.WalkKit
import Derived.WalkSpells
import Derived.WalkLawsBesides
import Derived.Below
import Derived.KernelRfl
import Derived.Lib.Hide
namespace Go.Proofs.Ytpmenahlbfefmaa
open Go.RowKit
set_option linter.unusedVariables false
set_option linter.unusedSimpArgs false

def pagemenderref01_Delim.f (a0 : Int) : Option Bool := if 0 ≤ a0 ∧ a0 < 256 then some (clsN a0.toNat == 2) else none

theorem cls_delim (a : Int) (h : 0 ≤ a) : (clsN a.toNat == 2) = (a == 40 || a == 41 || a == 60 || a == 62 || a == 91 || a == 93 || a == 123 || a == 125 || a == 47 || a == 37) := by
  obtain ⟨n, rfl⟩ := Int.eq_ofNat_of_zero_le h
  rw [Bool.eq_iff_iff]
  simp only [Int.toNat_natCast, clsN, beq_iff_eq, Bool.or_eq_true]
  split
  · constructor <;> intro <;> omega
  · split
    · simp only [true_iff]; omega
    · constructor <;> intro <;> omega

set_option maxHeartbeats 1000000 in
theorem pagemenderref01_Delim.calls (a0 : Int) (r : Bool) (w : World) (h : pagemenderref01_Delim.f a0 = some r) :
    Calls Try.prog 35 #[.int .u8 a0] w fun e w' => e = .returned (.bool r) ∧ Below w.heap.size w w' := by
  unfold pagemenderref01_Delim.f at h
  split at h
  case isFalse => cases h
  case isTrue hb =>
  have HR := Lib.hid ((Option.some.inj h).symm.trans (cls_delim a0 hb.1))
  clear h
  have e0 : (((⟨#[40, 41, 60, 62, 91, 93, 123, 125, 47, 37]⟩ : ByteArray)[0]'(by decide)).toNat) = 40 := rfl
  have e1 : (((⟨#[40, 41, 60, 62, 91, 93, 123, 125, 47, 37]⟩ : ByteArray)[1]'(by decide)).toNat) = 41 := rfl
  have e2 : (((⟨#[40, 41, 60, 62, 91, 93, 123, 125, 47, 37]⟩ : ByteArray)[2]'(by decide)).toNat) = 60 := rfl
  have e3 : (((⟨#[40, 41, 60, 62, 91, 93, 123, 125, 47, 37]⟩ : ByteArray)[3]'(by decide)).toNat) = 62 := rfl
  have e4 : (((⟨#[40, 41, 60, 62, 91, 93, 123, 125, 47, 37]⟩ : ByteArray)[4]'(by decide)).toNat) = 91 := rfl
  have e5 : (((⟨#[40, 41, 60, 62, 91, 93, 123, 125, 47, 37]⟩ : ByteArray)[5]'(by decide)).toNat) = 93 := rfl
  have e6 : (((⟨#[40, 41, 60, 62, 91, 93, 123, 125, 47, 37]⟩ : ByteArray)[6]'(by decide)).toNat) = 123 := rfl
  have e7 : (((⟨#[40, 41, 60, 62, 91, 93, 123, 125, 47, 37]⟩ : ByteArray)[7]'(by decide)).toNat) = 125 := rfl
  have e8 : (((⟨#[40, 41, 60, 62, 91, 93, 123, 125, 47, 37]⟩ : ByteArray)[8]'(by decide)).toNat) = 47 := rfl
  have e9 : (((⟨#[40, 41, 60, 62, 91, 93, 123, 125, 47, 37]⟩ : ByteArray)[9]'(by decide)).toNat) = 37 := rfl
  go_enter Try.func35, Try.ntmps35
  go_wp2
  refine wp_loop_rounds 11 ?_
  iterate 11 (all_goals (try (rw [rounds_succ]; go_wp2)))
  all_goals (go_ret; refine ⟨ret_bool ?_, Below.refl _ _⟩; rw [HR.out])
  all_goals (clear HR; rw [Bool.eq_iff_iff]; simp only [e0, e1, e2, e3, e4, e5, e6, e7, e8, e9, beq_iff_eq, beq_eq_false_iff_ne, Bool.or_eq_true, true_iff, false_iff, Bool.false_eq_true] at *; omega)
end Go.Proofs.Ytpmenahlbfefmaa
