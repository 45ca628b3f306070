/-
  The contract of text.PutHex.
-/
import Derived.Test.YtioildfnbcdekaaTl
namespace Go.Proofs.Ytioildfnbcdekaa
open Go.RowKit Go.Proofs.YtioildfnbcdekaaW.PrintWords Go.Proofs.YtioildfnbcdekaaW.PrintLast
set_option linter.unusedVariables false
set_option linter.unusedSimpArgs false

/-- A hexadecimal digit. -/
def hexd (n : Nat) : UInt8 := UInt8.ofNat (if n < 10 then 48 + n else 55 + n)
def hexB (c : UInt8) : List UInt8 := [hexd (c.toNat / 16), hexd (c.toNat % 16)]
def hexAll (l : List UInt8) : List UInt8 := l.flatMap hexB
theorem hexAll_len : ∀ l, (hexAll l).length = 2 * l.length
  | [] => rfl
  | c :: t => by
    have ih := hexAll_len t
    have e : hexAll (c :: t) = hexB c ++ hexAll t := by simp [hexAll]
    rw [e, List.length_append, ih]; simp [hexB]; omega
/-- What PutHex answers. -/
def putHexL (l : List UInt8) : List UInt8 × Int := if 65536 < l.length then ([], 3) else (60 :: (hexAll l ++ [62]), 0)
theorem hexd_all : ∀ n : Fin 16, ((#[48, 49, 50, 51, 52, 53, 54, 55, 56, 57, 65, 66, 67, 68, 69, 70] : Array UInt8)[n.val]?) = some (hexd n.val) := by decide +kernel
theorem byte_div_lt (c : UInt8) : c.toNat / 16 < 16 := by have := c.toNat_lt; omega
theorem dig_at (q : Int) (h0 : 0 ≤ q) (h1 : q < 16) (W : World) : (Instr.index 9 (.string ⟨#[48, 49, 50, 51, 52, 53, 54, 55, 56, 57, 65, 66, 67, 68, 69, 70]⟩) (.int .u8 q)).run Try.prog W = .ok (.int .u8 ((hexd q.toNat).toNat : Int)) W := by
  obtain ⟨n, rfl⟩ := Int.eq_ofNat_of_zero_le h0
  have hn : n < 16 := by omega
  rw [run_index_string _ _ _ _ _ Try.underlying9, dif_pos ⟨by omega, by show (n : Int) < 16; omega⟩]
  have h := hexd_all ⟨n, hn⟩
  simp only at h
  have e : ((⟨#[48, 49, 50, 51, 52, 53, 54, 55, 56, 57, 65, 66, 67, 68, 69, 70]⟩ : ByteArray)[(n : Int).toNat]'(by show _ < 16; omega)) = hexd n := by
    have := (Array.getElem?_eq_some_iff.1 h).2
    exact this
  simp only [Int.toNat_natCast] at e ⊢
  rw [e]
theorem take_snoc (s : ByteArray) (i : Nat) (h : i < s.size) : s.data.toList.take (i + 1) = s.data.toList.take i ++ [s[i]] := by
  have hg : s.data.toList[i]? = some s[i] := by rw [List.getElem?_eq_getElem (by rw [← Lib.size_eq]; exact h)]; rfl
  rw [List.take_add_one, hg]; rfl
theorem isb_snoc {T e : TypeId} {B b : Nat} {put : List UInt8} {w w' : World} (c : UInt8) (h : Lib.BuilderAt T e B b (.pointer (some ⟨b, 0, none⟩)) (Lib.byteCells put ++ [Value.int .u8 (c.toNat : Int)]) w' ∧ Below B w w') : Lib.IsBuilder T e B b (Lib.byteCells (put ++ [c])) w' ∧ Below B w w' := by
  rw [← cells_snoc]; exact ⟨.inr h.1, h.2⟩
/-- What is known at a round's head. -/
def PhAt (s : ByteArray) (i : Nat) (put : List UInt8) : Prop := put = 60 :: hexAll (s.data.toList.take i) ∧ put.length ≤ 1 + 2 * i
theorem ph_step {s : ByteArray} {i : Nat} {put : List UInt8} (h : PhAt s i put) (hi : i < s.size) : PhAt s (i + 1) (put ++ [hexd (s[i].toNat / 16)] ++ [hexd (s[i].toNat % 16)]) := by
  obtain ⟨h1, h2⟩ := h
  refine ⟨?_, by simp; omega⟩
  rw [take_snoc s i hi, h1]
  simp [hexAll, hexB]

set_option maxRecDepth 100000 in
set_option maxHeartbeats 2000000 in
theorem puthex_short (s : ByteArray) (w : World) (hs : s.size ≤ 65536) :
    Calls Try.prog 13 #[.string s] w fun e w' => e = .returned (.tuple #[.string ⟨(60 :: (hexAll s.data.toList ++ [62])).toArray⟩, .int .i64 0]) ∧ Below w.heap.size w w' := by
  have HF : Aside0 (Lib.IsBuilder 37 5 w.heap.size w.heap.size (Lib.byteCells []) (w.alloc (.cells #[.pointer none, .slice none 0 0] 37))) := Aside0.mk (Lib.fresh_isBuilder 37 5 w)
  have hs' : (s.size : Int) ≤ 65536 := by omega
  go_enter Try.func13, Try.ntmps13
  go_wp2_with (go_at_call 19; (with_reducible refine (bu_WriteByte w.heap.size w.heap.size (Lib.byteCells []) 60 _ HF.out (by decide) (by simp)).mono ?_); rintro e w2 ⟨rfl, hb2⟩; have HW := Aside0.mk hb2; clear hb2)
  go_loopg [12] s.size (fun g s12 wx => ∃ (i : Nat) (put : List UInt8), i + g = s.size ∧ s12 = .int .i64 i ∧ Aside0 (PhAt s i put) ∧ Aside0 (Lib.IsBuilder 37 5 w.heap.size w.heap.size (Lib.byteCells put) wx ∧ Below w.heap.size w wx))
  case atStart => exact ⟨0, [60], by omega, by first | rfl | simp, Aside0.mk ⟨by simp [hexAll], by simp⟩, Aside0.mk ⟨.inr HW.out.1, ((Below.refl w.heap.size w).alloc (Nat.le_refl _) _).trans HW.out.2⟩⟩
  case round =>
    obtain ⟨i, put, hig, rfl, HA, HI⟩ := hrel
    have HL : Aside0 ((Lib.byteCells put).length + 1 ≤ 140737488355328) := Aside0.mk (by rw [cells_len]; have := HA.out.2; omega)
    cases gk with
    | zero =>
      have hz : ¬ ((i : Int) < (s.size : Int)) := by omega
      have hput : Aside0 (60 :: hexAll s.data.toList = put) := by
        have := HA.out.1
        rw [List.take_of_length_le (by rw [← Lib.size_eq]; omega)] at this
        exact Aside0.mk this.symm
      go_wp2_with (go_at_call 19; (with_reducible refine (bu_WriteByte w.heap.size w.heap.size (Lib.byteCells put) 62 _ HI.out.1 HL.out HI.out.2.size).mono ?_); rintro e w2 ⟨rfl, hb2⟩; have HW2 := Aside0.mk (isb_snoc 62 hb2); clear hb2)
      have HB2 := Aside0.mk (Nat.le_trans HI.out.2.size HW2.out.2.size)
      go_wp2_with (go_at_call 21; (with_reducible refine (Try.Builder_String_any w.heap.size w.heap.size (put ++ [62]) _ HW2.out.1 HB2.out).mono ?_); rintro e w3 ⟨rfl, hs2⟩; have HS2 := Aside0.mk hs2; clear hs2)
      go_ret2
      exact ⟨ret_two (by rw [← hput.out]; rfl) rfl, (HI.out.2.trans HW2.out.2).trans HS2.out⟩
    | succ g =>
      have hz : (i : Int) < (s.size : Int) := by omega
      have hi : i < s.size := by omega
      have HN := Aside0.mk (ph_step HA.out hi)
      have hbl := byte_lt s[i]
      have e1 : IntKind.u8.wrap ((s[i].toNat : Int) / 16) = (s[i].toNat : Int) / 16 := IntWalk.u8_in _ ⟨by omega, by omega⟩
      have e3 : ((s[i].toNat : Int)).tmod 16 = (s[i].toNat : Int) % 16 := Int.tmod_eq_emod_of_nonneg (by omega)
      have d1 := dig_at ((s[i].toNat : Int) / 16) (by omega) (by omega)
      have d2 := dig_at ((s[i].toNat : Int) % 16) (by omega) (by omega)
      have n1 : ((s[i].toNat : Int) / 16).toNat = s[i].toNat / 16 := by omega
      have n2 : ((s[i].toNat : Int) % 16).toNat = s[i].toNat % 16 := by omega
      rw [n1] at d1
      rw [n2] at d2
      clear n1 n2
      have HL2 : Aside0 ((Lib.byteCells (put ++ [hexd (s[i].toNat / 16)])).length + 1 ≤ 140737488355328) := Aside0.mk (by rw [cells_len]; have := HA.out.2; simp; omega)
      obtain ⟨x, hx⟩ : ∃ x, x = hexd (s[i].toNat / 16) := ⟨_, rfl⟩
      obtain ⟨y, hy⟩ : ∃ y, y = hexd (s[i].toNat % 16) := ⟨_, rfl⟩
      rw [← hx] at d1 HL2 HN
      rw [← hy] at d2 HN
      clear hx hy
      go_wp2_with (go_at_call 19; (with_reducible refine (bu_WriteByte w.heap.size w.heap.size (Lib.byteCells put) (x.toNat : Int) _ HI.out.1 HL.out HI.out.2.size).mono ?_); rintro e w2 ⟨rfl, hb2⟩; have HW2 := Aside0.mk (isb_snoc x hb2); clear hb2)
      go_wp2_with (go_at_call 19; (with_reducible refine (bu_WriteByte w.heap.size w.heap.size (Lib.byteCells (put ++ [x])) (y.toNat : Int) _ HW2.out.1 HL2.out (Nat.le_trans HI.out.2.size HW2.out.2.size)).mono ?_); rintro e w3 ⟨rfl, hb3⟩; have HW3 := Aside0.mk (isb_snoc y hb3); clear hb3)
      go_roundg g
      case measure => omega
      case rel => exact ⟨i + 1, put ++ [x] ++ [y], by omega, by first | rfl | simp, HN, Aside0.mk ⟨HW3.out.1, (HI.out.2.trans HW2.out.2).trans HW3.out.2⟩⟩

def text_PutHex.f (s : ByteArray) : Option (ByteArray × Int) := some (⟨(putHexL s.data.toList).1.toArray⟩, (putHexL s.data.toList).2)
theorem text_PutHex.calls (s : ByteArray) (r1 : ByteArray) (r2 : Int) (w : World) (h : text_PutHex.f s = some (r1, r2)) :
    Calls Try.prog 13 #[.string s] w fun e w' => e = .returned (.tuple #[.string r1, .int .i64 r2]) ∧ Below w.heap.size w w' := by
  obtain ⟨h1, h2⟩ := Prod.mk.inj (Option.some.inj h)
  subst h1 h2
  by_cases hs : s.size ≤ 65536
  · have e : putHexL s.data.toList = (60 :: (hexAll s.data.toList ++ [62]), 0) := by unfold putHexL; rw [if_neg (by rw [← Lib.size_eq]; omega)]
    rw [e]
    exact puthex_short s w hs
  · have e : putHexL s.data.toList = ([], 3) := by unfold putHexL; rw [if_pos (by rw [← Lib.size_eq]; omega)]
    rw [e]
    have hs' : (65536 : Int) < (s.size : Int) := by omega
    clear e h
    go_enter Try.func13, Try.ntmps13
    go_wp2_with fail
    go_ret2
    exact ⟨rfl, Below.refl _ _⟩
end Go.Proofs.Ytioildfnbcdekaa
