/-
  The contracts of name.Check, name.Strict, name.Loose.
-/
import Derived.Test.YtpmenahlbfefmaaNq
import Derived.Test.YtpmenahlbfefmaaSh
import Derived.WalkLawsBesides
namespace Go.Proofs.Ytpmenahlbfefmaa
open Go.RowKit Go.Proofs.Ytpmenahlbfefmaa.E Go.Proofs.YtpmenahlbfefmaaW.PrintWords Go.Proofs.YtpmenahlbfefmaaW.PrintLast
set_option linter.unusedVariables false
set_option linter.unusedSimpArgs false

def name_Check.f (s : ByteArray) : Option Int := some (checkL s.data.toList)
theorem index_lt : ∀ (l : List UInt8) (c : UInt8), (0 ≤ Lib.indexByte l c) ↔ c ∈ l
  | [], c => by simp [Lib.indexByte]
  | x :: l, c => by
    have ih := index_lt l c
    have hge := Lib.indexByte_ge l c
    simp only [Lib.indexByte, List.mem_cons]
    by_cases h : x = c
    · subst h; simp
    · have h' : ¬ c = x := fun e => h e.symm
      simp only [h, h', false_or, ← ih, beq_iff_eq]
      by_cases h2 : Lib.indexByte l c = -1
      · simp [h2]
      · simp [h2]; omega
theorem name_Check.calls (s : ByteArray) (r : Int) (w : World) (h : name_Check.f s = some r) :
    Calls Try.prog 13 #[.string s] w fun e w' => e = .returned (.int .i64 r) ∧ Below w.heap.size w w' := by
  have HR := Aside0.mk (Option.some.inj h)
  clear h
  have HS := Aside0.mk (Lib.size_eq s)
  by_cases h1 : (127 : Int) < (s.size : Int)
  · go_enter Try.func13, Try.ntmps13
    go_wp2
    go_ret
    refine ⟨ret_int ?_, Below.refl _ _⟩
    rw [← HR.out]
    unfold checkL
    have := HS.out
    rw [if_pos (by omega)]
  · have hi := index_lt s.data.toList 0
    by_cases h2 : (0 : UInt8) ∈ s.data.toList
    · have h3 := hi.2 h2
      have H2 := Aside0.mk h2
      clear h2 hi
      go_enter Try.func13, Try.ntmps13
      go_wp2_with (go_at_call 26; refine (Try.strings_IndexByte _ _ _).mono ?_; rintro e w1 ⟨rfl, rfl⟩)
      go_ret
      refine ⟨ret_int ?_, Below.refl _ _⟩
      rw [← HR.out]
      unfold checkL
      have := HS.out
      rw [if_neg (by omega), if_pos H2.out]
    · have h3 : Lib.indexByte s.data.toList 0 < 0 := by
        rcases Int.lt_or_le (Lib.indexByte s.data.toList 0) 0 with h | h
        · exact h
        · exact absurd (hi.1 h) h2
      have H2 := Aside0.mk h2
      clear h2 hi
      go_enter Try.func13, Try.ntmps13
      go_wp2_with (go_at_call 26; refine (Try.strings_IndexByte _ _ _).mono ?_; rintro e w1 ⟨rfl, rfl⟩)
      go_ret
      refine ⟨ret_int ?_, Below.refl _ _⟩
      rw [← HR.out]
      unfold checkL
      have := HS.out
      rw [if_neg (by omega), if_neg H2.out]

/-! ### Run, as the printed function tells it -/
theorem plc_mn (s : ByteArray) (a : Int) : mn (mx 0 a) (s.size : Int) = plc s a := by unfold mn mx plc; split <;> split <;> (try split) <;> (try split) <;> omega
theorem regular_byte (c : UInt8) : class_Regular.f (c.toNat : Int) = some (clsN c.toNat == 0) := by
  unfold class_Regular.f; rw [if_pos (byte_lt c)]; simp
theorem bt_nat (s : ByteArray) (i : Nat) (h : i < s.size) : bt s (i : Int) = (s[i].toNat : Int) := by
  unfold bt
  rw [dif_pos (by simpa using h)]
  rfl
theorem run_go (s : ByteArray) (hs : s.size ≤ 140737488351232) : ∀ (m i : Nat), i + m = s.size → ∀ k, m + 1 ≤ k → class_Run.l0 k s (i : Int) = some (((i + runL (s.data.toList.drop i) : Nat)) : Int) := by
  intro m
  induction m with
  | zero =>
    intro i hi k hk
    obtain ⟨k, rfl⟩ : ∃ j, k = j + 1 := ⟨k - 1, by omega⟩
    simp only [class_Run.l0]
    rw [if_neg (by omega), List.drop_of_length_le (by rw [← Lib.size_eq]; omega)]
    simp [runL]
  | succ m ih =>
    intro i hi k hk
    obtain ⟨k, rfl⟩ : ∃ j, k = j + 1 := ⟨k - 1, by omega⟩
    have hlt : i < s.size := by omega
    simp only [class_Run.l0]
    rw [if_pos (by omega), if_pos (by omega), bt_nat s i hlt, regular_byte, drop_at s i hlt]
    simp only [Option.bind_some, runL]
    by_cases h : clsN s[i].toNat = 0
    · have e : wrap64 ((i : Int) + 1) = ((i + 1 : Nat) : Int) := by rw [wrap_small (by omega) (by omega)]; omega
      rw [if_pos (by simpa using h), if_pos h, e, ih (i + 1) (by omega) k (by omega), Nat.add_assoc]
    · rw [if_neg (by simpa using h), if_neg h]; simp
theorem run_is (s : ByteArray) (a : Int) (hs : s.size ≤ 140737488351232) (k : Nat) (hk : s.size + 1 ≤ k) : class_Run.f k s a = some (((plc s a + runL (s.data.toList.drop (plc s a)) : Nat)) : Int) := by
  have hp := plc_le s a
  unfold class_Run.f class_place.f
  rw [Option.bind_some, plc_mn]
  exact run_go s hs (s.size - plc s a) (plc s a) (by omega) k (by omega)
theorem run_zero (s : ByteArray) (hs : s.size ≤ 140737488351232) : class_Run.f (s.size + 1) s 0 = some (runL s.data.toList : Int) := by
  rw [run_is s 0 hs _ (Nat.le_refl _)]
  have : plc s 0 = 0 := plc_in s 0 (by omega)
  rw [this]
  simp

theorem ret_two {k : IntKind} {a b : ByteArray} {m n : Int} (h : a = b) (h' : m = n) : Ending.returned (.tuple #[.string a, .int k m]) = .returned (.tuple #[.string b, .int k n]) := by rw [h, h']
theorem ret_str {a b : ByteArray} (h : a = b) : Ending.returned (.string a) = .returned (.string b) := by rw [h]

def name_Loose.f (s : ByteArray) : Option ByteArray := if s.size ≤ 70368744175616 then some ⟨(looseL s.data.toList).toArray⟩ else none
def name_Strict.f (s : ByteArray) : Option (ByteArray × Int) := if s.size ≤ 70368744175616 then some (⟨(strictL s.data.toList).1.toArray⟩, (strictL s.data.toList).2) else none

set_option maxRecDepth 100000 in
theorem name_Loose.calls (s : ByteArray) (r : ByteArray) (w : World) (h : name_Loose.f s = some r) :
    Calls Try.prog 14 #[.string s] w fun e w' => e = .returned (.string r) ∧ Below w.heap.size w w' := by
  unfold name_Loose.f at h
  split at h
  case isFalse => cases h
  case isTrue hs =>
  have HR := Aside0.mk (Option.some.inj h)
  clear h
  have HZ : Aside0 (s.size ≤ 140737488351232) := Aside0.mk (by omega)
  have HF : Aside0 (Lib.IsBuilder 37 5 w.heap.size w.heap.size (Lib.byteCells []) (w.alloc (.cells #[.pointer none, .slice none 0 0] 37))) := Aside0.mk (Lib.fresh_isBuilder 37 5 w)
  go_enter Try.func14, Try.ntmps14
  go_wp2_with (first
    | (go_at_call 20; (with_reducible refine (read_calls s w.heap.size w.heap.size [] _ HZ.out (Nat.zero_le _) HF.out (by simp)).mono ?_); rintro e w1 ⟨rfl, hI⟩; have HI := Aside0.mk hI; clear hI)
    | (go_at_call 22; (with_reducible refine (Try.Builder_String_any w.heap.size w.heap.size _ _ HI.out.1 (by have := HI.out.2.size; simp at this; omega)).mono ?_); rintro e w2 ⟨rfl, hs2⟩; have HS2 := Aside0.mk hs2; clear hs2))
  go_ret
  exact ⟨ret_str (by rw [← HR.out]), (((Below.refl w.heap.size w).alloc (Nat.le_refl _) _).trans HI.out.2).trans HS2.out⟩

theorem isb_below {T e : TypeId} {w w0 : World} (h : Below (w.alloc (.cells #[.pointer none, .slice none 0 0] T)).heap.size (w.alloc (.cells #[.pointer none, .slice none 0 0] T)) w0) : Lib.IsBuilder T e w.heap.size w.heap.size (Lib.byteCells []) w0 :=
  Or.inl ⟨Nat.le_refl _, .slice none 0 0, (h.block _ (by simp)).trans (heap_alloc_new w _), World.ownsRow_nil _ _ _ _, by simp [Value.ownBlock]⟩

set_option maxRecDepth 100000 in
theorem name_Strict.calls (s : ByteArray) (r1 : ByteArray) (r2 : Int) (w : World) (h : name_Strict.f s = some (r1, r2)) :
    Calls Try.prog 9 #[.string s] w fun e w' => e = .returned (.tuple #[.string r1, .int .i64 r2]) ∧ Below w.heap.size w w' := by
  unfold name_Strict.f at h
  split at h
  case isFalse => cases h
  case isTrue hs =>
  have HR := Aside0.mk (Prod.mk.inj (Option.some.inj h))
  clear h
  have HZ : Aside0 (s.size ≤ 140737488351232) := Aside0.mk (by omega)
  have HF : Aside0 (Lib.IsBuilder 37 5 w.heap.size w.heap.size (Lib.byteCells []) (w.alloc (.cells #[.pointer none, .slice none 0 0] 37))) := Aside0.mk (Lib.fresh_isBuilder 37 5 w)
  have HRun := Aside0.mk (run_zero s HZ.out)
  have HSz := Aside0.mk (Lib.size_eq s)
  have HB0 := Aside0.mk ((Below.refl w.heap.size w).alloc (Nat.le_refl _) (.cells #[.pointer none, .slice none 0 0] 37))
  by_cases h1 : runL s.data.toList = s.size
  · have h2 : ((runL s.data.toList : Int) != (s.size : Int)) = false := by rw [h1]; simp
    have H1 := Aside0.mk h1
    clear h1
    cases hg : goodL s.data.toList with
    | false =>
      have HG := Aside0.mk hg
      go_enter Try.func9, Try.ntmps9
      go_wp2_with (first
        | (go_at_call 19; (with_reducible refine (class_Run.calls _ s 0 _ _ HRun.out).mono ?_); rintro e w0 ⟨rfl, hr⟩; have HRn := Aside0.mk hr; clear hr)
        | (go_at_call 20; (with_reducible refine (read_calls s w.heap.size w.heap.size [] _ HZ.out (Nat.zero_le _) (isb_below HRn.out) (Nat.le_trans (by simp) HRn.out.size)).mono ?_); rintro e w1 ⟨rfl, hI⟩; have HI := Aside0.mk hI; clear hI))
      go_ret2
      refine ⟨ret_two ?_ ?_, (HB0.out.trans (HRn.out.mono (by simp))).trans HI.out.2⟩
      · rw [← HR.out.1]; simp [strictL, HG.out]
      · rw [← HR.out.2]; simp [strictL, HG.out]
    | true =>
      have HG := Aside0.mk hg
      by_cases h3 : 127 < (looseL s.data.toList).length
      · have h4 : (127 : Int) < ((looseL s.data.toList).length : Int) := by omega
        have h4' : (127 : Int) < ((Lib.byteCells (looseL s.data.toList)).length : Int) := by rw [cells_len]; exact h4
        clear h4
        have H3 := Aside0.mk h3
        clear h3
        go_enter Try.func9, Try.ntmps9
        go_wp2_with (first
          | (go_at_call 19; (with_reducible refine (class_Run.calls _ s 0 _ _ HRun.out).mono ?_); rintro e w0 ⟨rfl, hr⟩; have HRn := Aside0.mk hr; clear hr)
          | (go_at_call 20; (with_reducible refine (read_calls s w.heap.size w.heap.size [] _ HZ.out (Nat.zero_le _) (isb_below HRn.out) (Nat.le_trans (by simp) HRn.out.size)).mono ?_); rintro e w1 ⟨rfl, hI⟩; have HI := Aside0.mk hI; clear hI)
          | (go_at_call 21; (with_reducible refine (Try.Builder_Len w.heap.size w.heap.size _ _ HI.out.1).mono ?_); rintro e w2 ⟨rfl, rfl⟩))
        go_ret2
        refine ⟨ret_two ?_ ?_, (HB0.out.trans (HRn.out.mono (by simp))).trans HI.out.2⟩
        · rw [← HR.out.1]; simp only [strictL]; rw [if_pos ⟨by rw [H1.out, HSz.out], HG.out⟩, if_pos H3.out]
        · rw [← HR.out.2]; simp only [strictL]; rw [if_pos ⟨by rw [H1.out, HSz.out], HG.out⟩, if_pos H3.out]
      · have h4' : ((Lib.byteCells (looseL s.data.toList)).length : Int) ≤ 127 := by rw [cells_len]; omega
        have H3 := Aside0.mk h3
        clear h3
        go_enter Try.func9, Try.ntmps9
        go_wp2_with (first
          | (go_at_call 19; (with_reducible refine (class_Run.calls _ s 0 _ _ HRun.out).mono ?_); rintro e w0 ⟨rfl, hr⟩; have HRn := Aside0.mk hr; clear hr)
          | (go_at_call 20; (with_reducible refine (read_calls s w.heap.size w.heap.size [] _ HZ.out (Nat.zero_le _) (isb_below HRn.out) (Nat.le_trans (by simp) HRn.out.size)).mono ?_); rintro e w1 ⟨rfl, hI⟩; have HI := Aside0.mk hI; clear hI)
          | (go_at_call 21; (with_reducible refine (Try.Builder_Len w.heap.size w.heap.size _ _ HI.out.1).mono ?_); rintro e w2 ⟨rfl, rfl⟩)
          | (go_at_call 22; (with_reducible refine (Try.Builder_String_any w.heap.size w.heap.size _ _ HI.out.1 (by have := HI.out.2.size; have h0 := HRn.out.size; simp at h0; omega)).mono ?_); rintro e w2 ⟨rfl, hs2⟩; have HS2 := Aside0.mk hs2; clear hs2))
        go_ret2
        refine ⟨ret_two ?_ ?_, ((HB0.out.trans (HRn.out.mono (by simp))).trans HI.out.2).trans HS2.out⟩
        · rw [← HR.out.1]; simp only [strictL]; rw [if_pos ⟨by rw [H1.out, HSz.out], HG.out⟩, if_neg H3.out]
        · rw [← HR.out.2]; simp only [strictL]; rw [if_pos ⟨by rw [H1.out, HSz.out], HG.out⟩, if_neg H3.out]
  · have h2 : ((runL s.data.toList : Int) != (s.size : Int)) = true := by rw [bne_iff_ne]; omega
    have H1 := Aside0.mk h1
    clear h1
    go_enter Try.func9, Try.ntmps9
    go_wp2_with (first
      | (go_at_call 19; (with_reducible refine (class_Run.calls _ s 0 _ _ HRun.out).mono ?_); rintro e w0 ⟨rfl, hr⟩; have HRn := Aside0.mk hr; clear hr))
    go_ret2
    refine ⟨ret_two ?_ ?_, HB0.out.trans (HRn.out.mono (by simp))⟩
    · rw [← HR.out.1]; simp only [strictL]; rw [if_neg (fun h => H1.out (by rw [h.1, HSz.out]))]
    · rw [← HR.out.2]; simp only [strictL]; rw [if_neg (fun h => H1.out (by rw [h.1, HSz.out]))]
end Go.Proofs.Ytpmenahlbfefmaa
