/-
  Plain laws: a white byte between characters changes nothing; what the characters by eighty-five are.
-/
import Derived.Test.YtjgbnaejeeinbaaAl
namespace Go.Proofs.Ytjgbnaejeeinbaa
set_option linter.unusedVariables false
set_option linter.unusedSimpArgs false

theorem ok_run (bud : Int) : ∀ (x : List UInt8) (s : St), OkS s → OkS (runM bud s x)
  | [], s, h => h
  | c :: x, s, h => by
    by_cases h0 : s.mode = 0
    · rw [runM_done bud s h0]; exact h
    · rw [runM_cons bud s h0]; exact ok_run bud x _ (ok_step bud s c h h0).1
theorem mode_put (nm : Nat) (out part l : List UInt8) (bud : Int) : (putS nm out part l bud).mode = 0 ∨ (putS nm out part l bud).mode = nm := by unfold putS; split <;> simp
theorem mode_flush (nm : Nat) (out part : List UInt8) (bud : Int) : (flushS nm out part bud).mode = 0 ∨ (flushS nm out part bud).mode = nm := by
  unfold flushS
  split
  · exact mode_put _ _ _ _ _
  · simp
theorem modes_hex (bud : Int) : ∀ (x : List UInt8) (s : St), s.mode ≤ 2 → (runM bud s x).mode ≤ 2
  | [], s, h => h
  | c :: x, s, h => by
    by_cases h0 : s.mode = 0
    · rw [runM_done bud s h0]; exact h
    · rw [runM_cons bud s h0]
      refine modes_hex bud x _ ?_
      unfold stepM
      by_cases h1 : s.mode = 1
      · rw [if_pos h1]
        unfold stepD
        split
        · simp
        split
        · simp
        split <;> simp
      · rw [if_neg h1, if_pos (by omega)]
        unfold stepE
        split
        · simp
        split
        · rcases mode_put 0 s.out [s.part.headD 0] [16 * s.part.headD 0] bud with h | h <;> rw [h] <;> omega
        split
        · simp
        · rcases mode_put 1 s.out [s.part.headD 0] [16 * s.part.headD 0 + UInt8.ofNat (hexv c).toNat] bud with h | h <;> rw [h] <;> omega
theorem modes_85 (bud : Int) : ∀ (x : List UInt8), (∀ c ∈ x, c ≠ 126) → ∀ s : St, s.mode = 0 ∨ s.mode = 3 → (runM bud s x).mode = 0 ∨ (runM bud s x).mode = 3
  | [], _, s, h => h
  | c :: x, hx, s, h => by
    by_cases h0 : s.mode = 0
    · rw [runM_done bud s h0]; exact h
    · rw [runM_cons bud s h0]
      refine modes_85 bud x (fun d hd => hx d (by simp [hd])) _ ?_
      have h3 : s.mode = 3 := h.resolve_left h0
      have hc := hx c (by simp)
      unfold stepM
      rw [if_neg (by omega), if_neg (by omega), if_pos h3]
      unfold stepG
      split
      · simp
      try rw [if_neg hc]
      split
      · exact mode_put _ _ _ _ _
      split
      · simp
      split
      · simp
      · exact mode_flush _ _ _ _
theorem white_stays (bud : Int) (s : St) (w : UInt8) (hw : clsN w.toNat = 1) (ho : OkS s) (hm : s.mode = 1 ∨ s.mode = 2 ∨ s.mode = 3) : stepM bud s w = s := by
  obtain ⟨m, o, p, e⟩ := s
  obtain ⟨h1, h2, h3, h4⟩ := ho
  simp only at hm h2 h3
  have he : e = 0 := h2 (by omega)
  subst he
  unfold stepM
  rcases hm with rfl | rfl | rfl
  · rw [if_pos rfl]; unfold stepD; rw [if_pos hw]
  · rw [if_neg (by simp), if_pos rfl]
    obtain ⟨q, rfl⟩ := h3 rfl
    unfold stepE; rw [if_pos hw]; rfl
  · rw [if_neg (by simp), if_neg (by simp), if_pos rfl]; unfold stepG; rw [if_pos hw]
theorem white_skip (bud : Int) (s : St) (x y : List UInt8) (w : UInt8) (hw : clsN w.toNat = 1) (ho : OkS s) (hm : (runM bud s x).mode ≠ 4) : runM bud s (x ++ w :: y) = runM bud s (x ++ y) := by
  rw [runM_app, runM_app]
  have h1 := ok_run bud x s ho
  by_cases h0 : (runM bud s x).mode = 0
  · rw [runM_done _ _ h0, runM_done _ _ h0]
  · rw [runM_cons _ _ h0, white_stays bud _ w hw h1 (by have := h1.1; omega)]
theorem ok_start (m : Nat) (h : m = 1 ∨ m = 3) : OkS ⟨m, [], [], 0⟩ := by
  rcases h with rfl | rfl
  · exact ⟨by simp, by simp, by simp, by simp⟩
  · exact ⟨by simp, by simp, by simp, fun _ => ⟨by simp, by simp⟩⟩
theorem readS_same (first : Nat) (l l' : List UInt8) (bud : Int) (h : runM bud ⟨first, [], [], 0⟩ l = runM bud ⟨first, [], [], 0⟩ l') : readS first l bud = readS first l' bud := by
  unfold readS
  rw [h]

/-! ### What the characters are -/
theorem chr5_chr (n : Nat) (hn : n < 4294967296) : ∀ c ∈ chr5 n, chrG c := by
  obtain ⟨a, b, c, d, e, h, g0, g1, g2, g3, g4, _⟩ := chr5_tell n hn
  rw [h]
  intro x hx
  simp only [List.mem_cons, List.mem_nil_iff, or_false] at hx
  rcases hx with rfl | rfl | rfl | rfl | rfl <;> assumption
theorem put85_chr : ∀ (v : List UInt8), ∀ c ∈ put85 v, c = 122 ∨ chrG c
  | [], c, h => by simp [put85] at h
  | [a], c, h => by simp only [put85] at h; exact .inr (chr5_chr _ (num4_lt _ _ _ _) c (List.mem_of_mem_take h))
  | [a, b], c, h => by simp only [put85] at h; exact .inr (chr5_chr _ (num4_lt _ _ _ _) c (List.mem_of_mem_take h))
  | [a, b, d], c, h => by simp only [put85] at h; exact .inr (chr5_chr _ (num4_lt _ _ _ _) c (List.mem_of_mem_take h))
  | a :: b :: d :: e :: v, c, h => by
    simp only [put85, List.mem_append] at h
    rcases h with h | h
    · split at h
      · left; simpa using h
      · exact .inr (chr5_chr _ (num4_lt _ _ _ _) c h)
    · exact put85_chr v c h
theorem chr_not_tilde (c : UInt8) (h : c = 122 ∨ chrG c) : c ≠ 126 := by
  rcases h with rfl | h
  · decide
  · rintro rfl
    unfold chrG at h
    exact absurd h.2 (by decide)
theorem put85_len : ∀ (l : List UInt8), (put85 l).length ≤ 5 * l.length
  | [] => by simp [put85]
  | [a] => by simp only [put85, List.length_take, List.length_cons, List.length_nil]; omega
  | [a, b] => by simp only [put85, List.length_take, List.length_cons, List.length_nil]; omega
  | [a, b, c] => by simp only [put85, List.length_take, List.length_cons, List.length_nil]; omega
  | a :: b :: c :: d :: t => by
    have ih := put85_len t
    simp only [put85, List.length_append, List.length_cons]
    split
    · simp; omega
    · have : (chr5 (num4 a b c d)).length = 5 := rfl
      omega

theorem hex_blank (v t : List UInt8) (i : Nat) (w : UInt8) (hw : clsN w.toNat = 1) : readS 1 ((hexAll v).take i ++ w :: ((hexAll v).drop i ++ 62 :: t)) (v.length : Int) = (v, 0) := by
  rw [readS_same 1 _ ((hexAll v).take i ++ ((hexAll v).drop i ++ 62 :: t)) _ (white_skip _ _ _ _ w hw (ok_start 1 (.inl rfl)) (by have := modes_hex (v.length : Int) ((hexAll v).take i) ⟨1, [], [], 0⟩ (by simp); omega)), ← List.append_assoc, List.take_append_drop]
  exact hex_get v t
theorem blank_85 (v t : List UInt8) (i : Nat) (w : UInt8) (hw : clsN w.toNat = 1) : readS 3 ((put85 v).take i ++ w :: w :: ((put85 v).drop i ++ 126 :: 62 :: t)) (v.length : Int) = (v, 0) := by
  have hm : (runM (v.length : Int) ⟨3, [], [], 0⟩ ((put85 v).take i)).mode ≠ 4 := by
    have := modes_85 (v.length : Int) ((put85 v).take i) (fun c hc => chr_not_tilde c (put85_chr v c (List.mem_of_mem_take hc))) ⟨3, [], [], 0⟩ (.inr rfl)
    omega
  rw [readS_same 3 _ ((put85 v).take i ++ w :: ((put85 v).drop i ++ 126 :: 62 :: t)) _ (white_skip _ _ _ _ w hw (ok_start 3 (.inr rfl)) hm),
    readS_same 3 _ ((put85 v).take i ++ ((put85 v).drop i ++ 126 :: 62 :: t)) _ (white_skip _ _ _ _ w hw (ok_start 3 (.inr rfl)) hm), ← List.append_assoc, List.take_append_drop]
  exact get_85 v t
end Go.Proofs.Ytjgbnaejeeinbaa
