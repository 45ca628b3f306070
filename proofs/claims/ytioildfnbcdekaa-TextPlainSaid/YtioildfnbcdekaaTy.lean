/-
  What text.Literal's and text.Hex's answers tell of the text that they read. No walk.
-/
import Derived.Test.YtioildfnbcdekaaTv
import Derived.Test.YtioildfnbcdekaaTn
namespace Go.Proofs.Ytioildfnbcdekaa
open Go.RowKit Go.Proofs.YtioildfnbcdekaaW.PrintWords Go.Proofs.YtioildfnbcdekaaW.PrintLast
set_option linter.unusedVariables false
set_option linter.unusedSimpArgs false

theorem putlit_long (s : ByteArray) (hs : 65536 < s.size) : text_PutLiteral.f s = some (⟨#[]⟩, 3) := by
  unfold text_PutLiteral.f putLitL
  rw [if_pos (by rw [← Lib.size_eq]; exact hs)]
theorem at_split (l : List UInt8) (a n : Nat) (c : UInt8) (h : l[a]? = some c) : l.take (a + 1 + n) = l.take a ++ c :: (l.drop (a + 1)).take n := by
  obtain ⟨h1, h2⟩ := List.getElem?_eq_some_iff.1 h
  rw [Nat.add_assoc, List.take_add, List.drop_eq_getElem_cons h1, h2, Nat.add_comm 1 n, List.take_succ_cons]
theorem bt_at (s : ByteArray) (i : Nat) (c : UInt8) (h : s.data.toList[i]? = some c) : i < s.size ∧ bt s (i : Int) = (c.toNat : Int) := by
  obtain ⟨h1, h2⟩ := List.getElem?_eq_some_iff.1 h
  have h3 : i < s.size := by rw [Lib.size_eq]; exact h1
  refine ⟨h3, ?_⟩
  rw [bt_nat s i h3]
  have : s[i] = c := by rw [← h2]; rfl
  rw [this]
theorem literal_some (s : ByteArray) (a : Int) (hz : s.size ≤ 140737488351232) : text_Literal.f s a = some (⟨(litF s a).1.toArray⟩, (litF s a).2.1, (litF s a).2.2) := by
  unfold text_Literal.f; rw [if_pos hz]
theorem hex_some (s : ByteArray) (a : Int) (hz : s.size ≤ 140737488351232) : text_Hex.f s a = some (⟨(hexF s a).1.toArray⟩, (hexF s a).2.1, (hexF s a).2.2) := by
  unfold text_Hex.f; rw [if_pos hz]
theorem literal_inv (s : ByteArray) (a : Int) (h : (litF s a).2.2 = 0) : ∃ (i n : Nat) (o : List UInt8), a = i ∧ s.data.toList[i]? = some 40 ∧ lit 1 (s.data.toList.drop (i + 1)) = some (o, n) ∧ o.length ≤ 65536 ∧ litF s a = (o, (i : Int) + 1 + n, 0) := by
  unfold litF at h ⊢
  by_cases hc : 0 ≤ a ∧ a < s.size ∧ s.data.toList[a.toNat]? = some 40
  · rw [if_pos hc] at h ⊢
    obtain ⟨h1, h2, h3⟩ := hc
    refine ⟨a.toNat, ?_⟩
    unfold litR at h ⊢
    cases hl : lit 1 (s.data.toList.drop (a.toNat + 1)) with
    | none => rw [hl] at h; simp at h
    | some x =>
      obtain ⟨o, n⟩ := x
      rw [hl] at h
      simp only at h
      by_cases hb : 65536 < o.length
      · rw [if_pos hb] at h; simp at h
      · refine ⟨n, o, by omega, h3, rfl, by omega, ?_⟩
        show (if 65536 < o.length then _ else _) = _
        rw [if_neg hb]
  · rw [if_neg hc] at h; simp at h
theorem hex_inv (s : ByteArray) (a : Int) (h : (hexF s a).2.2 = 0) : ∃ (i n : Nat) (ds : List UInt8), a = i ∧ s.data.toList[i]? = some 60 ∧ hexS (s.data.toList.drop (i + 1)) = (0, ds, n) ∧ (pairs ds).length ≤ 65536 ∧ hexF s a = (pairs ds, (i : Int) + 1 + n + 1, 0) := by
  unfold hexF at h ⊢
  by_cases hc : 0 ≤ a ∧ a < s.size ∧ s.data.toList[a.toNat]? = some 60
  · rw [if_pos hc] at h ⊢
    obtain ⟨h1, h2, h3⟩ := hc
    refine ⟨a.toNat, ?_⟩
    unfold hexR at h ⊢
    generalize hd : hexS (s.data.toList.drop (a.toNat + 1)) = r at h ⊢
    obtain ⟨e, ds, n⟩ := r
    simp only at h
    by_cases he : e ≠ 0
    · rw [if_pos he] at h; exact absurd h he
    · have he0 : e = 0 := by simpa using he
      subst he0
      rw [if_neg he] at h
      by_cases hb : 65536 < (pairs ds).length
      · rw [if_pos hb] at h; simp at h
      · refine ⟨n, ds, by omega, h3, rfl, by omega, ?_⟩
        show (if (0 : Int) ≠ 0 then _ else if 65536 < (pairs ds).length then _ else _) = _
        rw [if_neg (by simp), if_neg hb]
  · rw [if_neg hc] at h; simp at h
end Go.Proofs.Ytioildfnbcdekaa
