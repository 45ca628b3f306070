/-
  The contract of ascii.HexPut.
-/
import Derived.Test.YtjgbnaejeeinbaaAa
namespace Go.Proofs.Ytjgbnaejeeinbaa
open Go.RowKit Go.Proofs.YtjgbnaejeeinbaaW.PrintWords Go.Proofs.YtjgbnaejeeinbaaW.PrintLast
set_option linter.unusedVariables false
set_option linter.unusedSimpArgs false

/-- What is known at a round's head. -/
def PhAt (s : ByteArray) (i : Nat) (put : List UInt8) : Prop := put = hexAll (s.data.toList.take i) ∧ put.length ≤ 2 * i
theorem ph_step {s : ByteArray} {i : Nat} {put : List UInt8} (h : PhAt s i put) (hi : i < s.size) : PhAt s (i + 1) (put ++ [hexd (s[i].toNat / 16)] ++ [hexd (s[i].toNat % 16)]) := by
  obtain ⟨h1, h2⟩ := h
  refine ⟨?_, by simp; omega⟩
  rw [take_snoc s i hi, h1]
  simp [hexAll, hexB]

set_option maxRecDepth 100000 in
set_option maxHeartbeats 2000000 in
theorem hexput_any (s : ByteArray) (w : World) (hs : s.size ≤ 1000000) :
    Calls Try.prog 9 #[.string s] w fun e w' => e = .returned (.string ⟨(hexAll s.data.toList ++ [62]).toArray⟩) ∧ Below w.heap.size w w' := by
  have HF : Aside0 (Lib.IsBuilder 35 5 w.heap.size w.heap.size (Lib.byteCells []) (w.alloc (.cells #[.pointer none, .slice none 0 0] 35))) := Aside0.mk (Lib.fresh_isBuilder 35 5 w)
  go_enter Try.func9, Try.ntmps9
  go_wp2_with fail
  go_loopg [7] s.size (fun g s12 wx => ∃ (i : Nat) (put : List UInt8), i + g = s.size ∧ s12 = .int .i64 i ∧ Aside0 (PhAt s i put) ∧ Aside0 (Lib.IsBuilder 35 5 w.heap.size w.heap.size (Lib.byteCells put) wx ∧ Below w.heap.size w wx))
  case atStart => exact ⟨0, [], by omega, by first | rfl | simp, Aside0.mk ⟨by simp [hexAll], by simp⟩, Aside0.mk ⟨HF.out, (Below.refl w.heap.size w).alloc (Nat.le_refl _) _⟩⟩
  case round =>
    obtain ⟨i, put, hig, rfl, HA, HI⟩ := hrel
    have HL : Aside0 ((Lib.byteCells put).length + 1 ≤ 140737488355328) := Aside0.mk (by rw [cells_len]; have := HA.out.2; omega)
    cases gk with
    | zero =>
      have hz : ¬ ((i : Int) < (s.size : Int)) := by omega
      have hput : Aside0 (hexAll s.data.toList = put) := by
        have := HA.out.1
        rw [List.take_of_length_le (by rw [← Lib.size_eq]; omega)] at this
        exact Aside0.mk this.symm
      have HB2 := Aside0.mk HI.out.2.size
      have hsz : (9223372036854775807 < (⟨put.toArray⟩ : ByteArray).size + 1) = False := eq_false (by rw [size_mk]; have := HA.out.2; omega)
      have hsz2 : (9223372036854775807 < put.length + 1) = False := eq_false (by have := HA.out.2; omega)
      go_wp2_with (go_at_call 16; (with_reducible refine (Try.Builder_String_any w.heap.size w.heap.size put _ HI.out.1 HB2.out).mono ?_); rintro e w3 ⟨rfl, hs2⟩; have HS2 := Aside0.mk hs2; clear hs2)
      go_ret
      exact ⟨ret_str (by rw [hput.out]; rfl), HI.out.2.trans HS2.out⟩
    | succ g =>
      have hz : (i : Int) < (s.size : Int) := by omega
      have hi : i < s.size := by omega
      have HN := Aside0.mk (ph_step HA.out hi)
      have hbl := byte_lt s[i]
      have e1 : IntKind.u8.wrap ((s[i].toNat : Int) / 16) = (s[i].toNat : Int) / 16 := IntWalk.u8_in _ ⟨by omega, by omega⟩
      have e3 : ((s[i].toNat : Int)).tmod 16 = (s[i].toNat : Int) % 16 := Int.tmod_eq_emod_of_nonneg (by omega)
      have d1 := dig_at ((s[i].toNat : Int) / 16) (by omega) (by omega)
      have d2 := dig_at ((s[i].toNat : Int) % 16) (by omega) (by omega)
      have n1 : ((s[i].toNat : Int) / 16).toNat = s[i].toNat / 16 := by omega
      have n2 : ((s[i].toNat : Int) % 16).toNat = s[i].toNat % 16 := by omega
      rw [n1] at d1
      rw [n2] at d2
      clear n1 n2
      have HL2 : Aside0 ((Lib.byteCells (put ++ [hexd (s[i].toNat / 16)])).length + 1 ≤ 140737488355328) := Aside0.mk (by rw [cells_len]; have := HA.out.2; simp; omega)
      obtain ⟨x, hx⟩ : ∃ x, x = hexd (s[i].toNat / 16) := ⟨_, rfl⟩
      obtain ⟨y, hy⟩ : ∃ y, y = hexd (s[i].toNat % 16) := ⟨_, rfl⟩
      rw [← hx] at d1 HL2 HN
      rw [← hy] at d2 HN
      clear hx hy
      go_wp2_with (go_at_call 15; (with_reducible refine (bu_WriteByte w.heap.size w.heap.size (Lib.byteCells put) (x.toNat : Int) _ HI.out.1 HL.out HI.out.2.size).mono ?_); rintro e w2 ⟨rfl, hb2⟩; have HW2 := Aside0.mk (isb_snoc x hb2); clear hb2)
      go_wp2_with (go_at_call 15; (with_reducible refine (bu_WriteByte w.heap.size w.heap.size (Lib.byteCells (put ++ [x])) (y.toNat : Int) _ HW2.out.1 HL2.out (Nat.le_trans HI.out.2.size HW2.out.2.size)).mono ?_); rintro e w3 ⟨rfl, hb3⟩; have HW3 := Aside0.mk (isb_snoc y hb3); clear hb3)
      go_roundg g
      case measure => omega
      case rel => exact ⟨i + 1, put ++ [x] ++ [y], by omega, by first | rfl | simp, HN, Aside0.mk ⟨HW3.out.1, (HI.out.2.trans HW2.out.2).trans HW3.out.2⟩⟩

def ascii_HexPut.f (s : ByteArray) : Option ByteArray := if s.size ≤ 1000000 then some ⟨(hexAll s.data.toList ++ [62]).toArray⟩ else none
theorem ascii_HexPut.calls (s r : ByteArray) (w : World) (h : ascii_HexPut.f s = some r) :
    Calls Try.prog 9 #[.string s] w fun e w' => e = .returned (.string r) ∧ Below w.heap.size w w' := by
  unfold ascii_HexPut.f at h
  split at h
  case isFalse => cases h
  case isTrue hs =>
  obtain rfl := Option.some.inj h
  exact hexput_any s w hs
end Go.Proofs.Ytjgbnaejeeinbaa
