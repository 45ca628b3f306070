/-
  The plain law of NameLoose: what Strict reads Loose reads; bytes without # are themselves; two texts behind one another are read one by one.
-/
import Derived.Test.YtpmenahlbfefmaaGx9
namespace Go.Proofs.Ytpmenahlbfefmaa.Pure
open Go.RowKit Go.Proofs.Ytpmenahlbfefmaa.G Go.Proofs.YtpmenahlbfefmaaW.PrintWords Go.Proofs.YtpmenahlbfefmaaW.PrintLast
set_option linter.unusedVariables false
set_option linter.unusedSimpArgs false

theorem lives_ok : pagemenderlaw03_lives.f = some true := by decide +kernel
theorem toList_mk (l : List UInt8) : (⟨l.toArray⟩ : ByteArray).toList = l := by rw [Lib.toList_data]
theorem loose_plain : ∀ l : List UInt8, (35 : UInt8) ∉ l → looseL l = l
  | [], _ => by simp [looseL]
  | [c], _ => by simp [looseL]
  | [c, d], _ => by simp [looseL]
  | c :: a :: b :: t, h => by
    have hc : c ≠ 35 := fun e => h (by simp [e])
    rw [(loose_other c (a :: b :: t) hc).1, loose_plain (a :: b :: t) (fun h' => h (List.mem_cons_of_mem _ h'))]
/-- No # stands at the end, or one byte ahead of it. -/
def okEnd : List UInt8 → Bool
  | [] => true
  | [c] => c != 35
  | [c, d] => c != 35 && d != 35
  | _ :: a :: b :: t => okEnd (a :: b :: t)
theorem loose_append : ∀ s t : List UInt8, okEnd s = true → looseL (s ++ t) = looseL s ++ looseL t
  | [], t, _ => by simp [looseL]
  | [c], t, h => by
    have hc : c ≠ 35 := by simpa [okEnd] using h
    show looseL (c :: t) = _
    rw [(loose_other c t hc).1]; simp [looseL]
  | [c, d], t, h => by
    have hc : c ≠ 35 ∧ d ≠ 35 := by simpa [okEnd] using h
    show looseL (c :: d :: t) = _
    rw [(loose_other c (d :: t) hc.1).1, (loose_other d t hc.2).1]; simp [looseL]
  | c :: a :: b :: s, t, h => by
    have h1 : okEnd (a :: b :: s) = true := h
    have ih1 := loose_append (a :: b :: s) t h1
    have h2 : okEnd s = true := by
      match s, h1 with
      | [], _ => rfl
      | [x], h1 => simp [okEnd] at h1 ⊢; exact h1.2
      | x :: y :: s, h1 =>
        cases s with
        | nil => exact h1
        | cons z s => exact h1
    have ih2 := loose_append s t h2
    show looseL (c :: a :: b :: (s ++ t)) = _
    simp only [looseL]
    split
    · rw [ih2]; rfl
    · rw [show a :: b :: (s ++ t) = (a :: b :: s) ++ t from rfl, ih1]; rfl
theorem okEnd_of : ∀ l : List UInt8, (∀ c, l[l.length - 1]? = some c → c ≠ 35) → (2 ≤ l.length → ∀ c, l[l.length - 2]? = some c → c ≠ 35) → okEnd l = true
  | [], _, _ => rfl
  | [c], h, _ => by simpa [okEnd] using h c (by simp)
  | [c, d], h, h2 => by
    have e1 := h d (by simp)
    have e2 := h2 (by simp) c (by simp)
    simp [okEnd, e1, e2]
  | x :: a :: b :: t, h, h2 => by
    show okEnd (a :: b :: t) = true
    refine okEnd_of (a :: b :: t) (fun c hc => h c ?_) (fun _ c hc => h2 (by simp) c ?_)
    · simp only [List.length_cons] at hc ⊢
      rw [show t.length + 1 + 1 + 1 - 1 = (t.length + 1 + 1 - 1) + 1 by omega, List.getElem?_cons_succ]; exact hc
    · simp only [List.length_cons] at hc ⊢
      rw [show t.length + 1 + 1 + 1 - 2 = (t.length + 1 + 1 - 2) + 1 by omega, List.getElem?_cons_succ]; exact hc

theorem loose_f (s : ByteArray) (h : s.size ≤ 70368744175616) : name_Loose.f s = some ⟨(looseL s.data.toList).toArray⟩ := by unfold name_Loose.f; rw [if_pos h]
theorem size_mk (l : List UInt8) : (⟨l.toArray⟩ : ByteArray).size = l.length := by rw [Lib.size_eq]
theorem data_append (x y : ByteArray) : (x ++ y).data.toList = x.data.toList ++ y.data.toList := by simp

theorem bt_last (s : ByteArray) (i : Nat) (hi : i < s.size) (h : ¬ bt s (i : Int) = 35) : ∀ c, s.data.toList[i]? = some c → c ≠ 35 := by
  rintro c hc rfl
  exact h (bt_get s i 35 hc)

theorem j3_ok (s t : ByteArray) (hs : s.size ≤ 600) (ht : t.size ≤ 600) (k : Nat) : pagemenderlaw03_NameLoose.j3 (k + 1) s t false = some true := by
  have hz := Lib.size_eq s
  have hl1 := looseL_le s.data.toList
  have hl2 := looseL_le t.data.toList
  have hz2 := Lib.size_eq t
  have happ : (s ++ t).size = s.size + t.size := by simp
  have fin : okEnd s.data.toList = true → (if s.size + t.size ≤ 9223372036854775807 then ((name_Loose.f (s ++ t)).bind fun t204 => ((name_Loose.f s).bind fun t205 => ((name_Loose.f t).bind fun t206 => (if t205.size + t206.size ≤ 9223372036854775807 then (some (t204.toList == (t205 ++ t206).toList)) else (none))))) else (none)) = some true := by
    intro hok
    rw [if_pos (by omega), loose_f _ (by omega), loose_f _ (by omega), loose_f _ (by omega)]
    simp only [Option.bind_some]
    rw [size_mk, size_mk, if_pos (by omega), toList_mk, Lib.toList_data, data_append, data_append, loose_append _ _ hok]
    simp
  have w1 : wrap64 ((s.size : Int) - 1) = (s.size : Int) - 1 := wrap_small (by omega) (by omega)
  have w2 : wrap64 ((s.size : Int) - 2) = (s.size : Int) - 2 := wrap_small (by omega) (by omega)
  simp only [pagemenderlaw03_NameLoose.j3]
  rw [if_neg (by simp), w1, w2]
  by_cases h0 : (s.size : Int) > 0
  · have e1 : (s.size : Int) - 1 = ((s.size - 1 : Nat) : Int) := by omega
    rw [if_pos h0, if_pos (by omega), if_pos (by omega), e1]
    by_cases hb1 : bt s ((s.size - 1 : Nat) : Int) = 35
    · rw [if_pos hb1]
    · rw [if_neg hb1]
      have g1 := bt_last s (s.size - 1) (by omega) hb1
      by_cases h1 : (s.size : Int) > 1
      · have e2 : (s.size : Int) - 2 = ((s.size - 2 : Nat) : Int) := by omega
        rw [if_pos h1, if_pos (by omega), if_pos (by omega), e2]
        by_cases hb2 : bt s ((s.size - 2 : Nat) : Int) = 35
        · rw [if_pos hb2]
        · rw [if_neg hb2]
          have g2 := bt_last s (s.size - 2) (by omega) hb2
          exact fin (okEnd_of _ (by rw [← hz]; exact g1) (fun _ => by rw [← hz]; exact g2))
      · rw [if_neg h1]
        exact fin (okEnd_of _ (by rw [← hz]; exact g1) (fun h => by omega))
  · rw [if_neg h0, if_neg (by omega)]
    have hnil : s.data.toList = [] := List.eq_nil_of_length_eq_zero (by omega)
    exact fin (by rw [hnil]; rfl)

theorem l0_go (s t : ByteArray) (hs : s.size ≤ 600) (ht : t.size ≤ 600) : ∀ (m i : Nat) (b : Bool), i + m = s.size → (b = false → (35 : UInt8) ∉ s.data.toList.take i) → ∀ k, m + 2 ≤ k → pagemenderlaw03_NameLoose.l0 k s t b (i : Int) = some true := by
  intro m
  induction m with
  | zero =>
    intro i b hi hb k hk
    obtain ⟨k, rfl⟩ : ∃ j, k = j + 2 := ⟨k - 2, by omega⟩
    simp only [pagemenderlaw03_NameLoose.l0]
    rw [if_neg (by omega)]
    cases b with
    | true => rw [if_pos rfl]; exact j3_ok s t hs ht k
    | false =>
      rw [if_neg (by simp), loose_f _ (by omega)]
      have h := hb rfl
      rw [List.take_of_length_le (by rw [← Lib.size_eq]; omega)] at h
      simp only [Option.bind_some]
      rw [toList_mk, loose_plain _ h, Lib.toList_data]
      simp only [bne_self_eq_false]
      exact j3_ok s t hs ht k
  | succ m ih =>
    intro i b hi hb k hk
    obtain ⟨k, rfl⟩ : ∃ j, k = j + 1 := ⟨k - 1, by omega⟩
    have hlt : i < s.size := by omega
    have e : wrap64 ((i : Int) + 1) = ((i + 1 : Nat) : Int) := by rw [wrap_small (by omega) (by omega)]; omega
    simp only [pagemenderlaw03_NameLoose.l0]
    rw [if_pos (by omega), e]
    cases b with
    | true => rw [if_pos rfl]; exact ih (i + 1) true (by omega) (by simp) k (by omega)
    | false =>
      rw [if_neg (by simp), if_pos (by omega)]
      refine ih (i + 1) _ (by omega) ?_ k (by omega)
      intro h35
      have hg : s.data.toList[i]? = some s[i] := by rw [List.getElem?_eq_getElem (by rw [← Lib.size_eq]; exact hlt)]; rfl
      rw [List.take_add_one, hg]
      simp only [Option.toList_some, List.mem_append, List.mem_singleton, not_or]
      refine ⟨hb rfl, ?_⟩
      intro e35
      rw [bt_get s i s[i] hg, ← e35] at h35
      simp at h35

theorem NameLoose : pagemenderlaw03_NameLoose.Pure := by
  intro s t hs ht
  refine ⟨s.size + 5, ?_⟩
  unfold pagemenderlaw03_NameLoose.f
  rw [lives_ok]
  simp only [Option.bind_some, if_true]
  by_cases h1 : (s.size : Int) > 600
  · rw [if_pos h1]; simp [pagemenderlaw03_NameLoose.j0]
  · rw [if_neg h1]
    by_cases h2 : (t.size : Int) > 600
    · rw [decide_eq_true h2]; simp [pagemenderlaw03_NameLoose.j0]
    · rw [decide_eq_false h2]
      have hl0 := l0_go s t (by omega) (by omega) s.size 0 false (by omega) (by simp) (s.size + 3) (by omega)
      simp only [pagemenderlaw03_NameLoose.j0]
      rw [if_neg (by simp)]
      have hst : name_Strict.f s = some (⟨(strictL s.data.toList).1.toArray⟩, (strictL s.data.toList).2) := by unfold name_Strict.f; rw [if_pos (by omega)]
      rw [hst]
      simp only [Option.bind_some]
      have j1ok : pagemenderlaw03_NameLoose.j1 (s.size + 4) s t false = some true := by
        simp only [pagemenderlaw03_NameLoose.j1]
        rw [if_neg (by simp)]
        exact hl0
      by_cases he : (strictL s.data.toList).2 = 0
      · rw [if_pos he, loose_f _ (by omega)]
        simp only [Option.bind_some]
        have : (strictL s.data.toList).1 = looseL s.data.toList := by
          unfold strictL at he ⊢
          split at he
          · split at he
            · simp at he
            · rename_i h1 h2; rw [if_pos h1, if_neg h2]
          · simp at he
        rw [toList_mk, toList_mk, this]
        simpa using j1ok
      · rw [if_neg he]; exact j1ok
end Go.Proofs.Ytpmenahlbfefmaa.Pure
