/-
  TextBack: what is put is read again, whatever stands around it, and ends behind it.
-/
import Derived.Test.YtioildfnbcdekaaPBx2
import Derived.Test.YtioildfnbcdekaaTy
namespace Go.Proofs.Ytioildfnbcdekaa.Pure
open Go.RowKit Go.Proofs.Ytioildfnbcdekaa.PB Go.Proofs.YtioildfnbcdekaaW.PrintWords Go.Proofs.YtioildfnbcdekaaW.PrintLast
set_option linter.unusedVariables false
set_option linter.unusedSimpArgs false

theorem lives_ok : pagemenderlaw04_lives.f = some true := by decide +kernel
theorem plain_l0 (s : ByteArray) (hs : s.size ≤ 1500) : ∀ (m i : Nat), i + m = s.size → ∀ k, m + 1 ≤ k → text_Plain.l0 k s (s.size : Int) (i : Int) = some ((s.data.toList.drop i).all plainC) := by
  intro m
  induction m with
  | zero =>
    intro i hi k hk
    obtain ⟨k, rfl⟩ : ∃ j, k = j + 1 := ⟨k - 1, by omega⟩
    simp only [text_Plain.l0]
    rw [if_neg (by omega), List.drop_of_length_le (by rw [← Lib.size_eq]; omega)]
    rfl
  | succ m ih =>
    intro i hi k hk
    obtain ⟨k, rfl⟩ : ∃ j, k = j + 1 := ⟨k - 1, by omega⟩
    have hlt : i < s.size := by omega
    have e1 : wrap64 ((i : Int) + 1) = ((i + 1 : Nat) : Int) := by rw [wrap_small (by omega) (by omega)]; omega
    simp only [text_Plain.l0]
    rw [if_pos (by omega), if_pos (by omega), if_pos (by omega), bt_nat s i hlt, e1, ih (i + 1) (by omega) k (by omega), drop_at s i hlt, List.all_cons]
    have hp : plainC s[i] = (decide (32 ≤ s[i].toNat) && decide (s[i].toNat ≤ 126) && decide (s[i].toNat ≠ 40) && decide (s[i].toNat ≠ 41) && decide (s[i].toNat ≠ 92)) := by
      unfold plainC
      have a1 : (s[i] ≠ 40) ↔ s[i].toNat ≠ 40 := not_congr (byte_eq s[i] 40 (by decide))
      have a2 : (s[i] ≠ 41) ↔ s[i].toNat ≠ 41 := not_congr (byte_eq s[i] 41 (by decide))
      have a3 : (s[i] ≠ 92) ↔ s[i].toNat ≠ 92 := not_congr (byte_eq s[i] 92 (by decide))
      rw [decide_eq_decide.2 a1, decide_eq_decide.2 a2, decide_eq_decide.2 a3]
    rw [hp]
    by_cases c1 : (s[i].toNat : Int) < 32
    · rw [if_pos c1]; have : ¬ 32 ≤ s[i].toNat := by omega
      simp [this]
    · rw [if_neg c1]
      by_cases c2 : (s[i].toNat : Int) > 126
      · rw [if_pos c2]; have : ¬ s[i].toNat ≤ 126 := by omega
        simp [this]
      · rw [if_neg c2]
        by_cases c3 : (s[i].toNat : Int) = 40
        · rw [if_pos c3]; have : s[i].toNat = 40 := by omega
          simp [this]
        · rw [if_neg c3]
          by_cases c4 : (s[i].toNat : Int) = 41
          · rw [if_pos c4]; have : s[i].toNat = 41 := by omega
            simp [this]
          · rw [if_neg c4]
            by_cases c5 : (s[i].toNat : Int) = 92
            · rw [if_pos c5]; have : s[i].toNat = 92 := by omega
              simp [this]
            · rw [if_neg c5]
              have d1 : 32 ≤ s[i].toNat := by omega
              have d2 : s[i].toNat ≤ 126 := by omega
              have d3 : s[i].toNat ≠ 40 := by omega
              have d4 : s[i].toNat ≠ 41 := by omega
              have d5 : s[i].toNat ≠ 92 := by omega
              simp [d1, d2, d3, d4, d5]
theorem plain_tell (s : ByteArray) (hs : s.size ≤ 1500) (k : Nat) (hk : 1600 ≤ k) : text_Plain.f k s = some (s.data.toList.all plainC) := by
  unfold text_Plain.f
  exact plain_l0 s hs s.size 0 (by omega) k (by omega)
theorem j0_yes (k : Nat) (s p q : ByteArray) : pagemenderlaw04_TextBack.j0 (k + 1) s p q true = some true := by
  simp only [pagemenderlaw04_TextBack.j0]
  exact if_pos trivial

theorem j1_go (s p q y z : ByteArray) (hs : s.size ≤ 1500) (hp : p.size ≤ 1500) (hq : q.size ≤ 1500) (hy : y.data.toList = 40 :: (litAll s.data.toList ++ [41])) (hz : z.data.toList = 60 :: (hexAll s.data.toList ++ [62])) (k : Nat) (hk : 1600 ≤ k) :
    pagemenderlaw04_TextBack.j1 (k + 1) s p q y z false = some true := by
  have sz := Lib.size_eq s
  have pz := Lib.size_eq p
  have hal := hexAll_len s.data.toList
  have hll := litAll_le s.data.toList
  have yz : y.size = (litAll s.data.toList).length + 2 := by rw [Lib.size_eq, hy]; simp
  have zz : z.size = 2 * s.size + 2 := by rw [Lib.size_eq, hz]; simp; omega
  have a1 : (p ++ y).size = p.size + y.size := ByteArray.size_append
  have a2 : ((p ++ y) ++ q).size = p.size + y.size + q.size := by rw [ByteArray.size_append, a1]
  have b1 : (p ++ z).size = p.size + z.size := ByteArray.size_append
  have b2 : ((p ++ z) ++ q).size = p.size + z.size + q.size := by rw [ByteArray.size_append, b1]
  have hlit := literal_at ((p ++ y) ++ q) p.data.toList (litAll s.data.toList ++ 41 :: q.data.toList) _ _ (by rw [a2]; omega) (by rw [app_list, app_list, hy]; simp) (put_read s.data.toList q.data.toList) (by omega)
  have hhex := hex_at ((p ++ z) ++ q) p.data.toList (hexAll s.data.toList ++ 62 :: q.data.toList) _ _ (by rw [b2]; omega) (by rw [app_list, app_list, hz]; simp) (hex_put s.data.toList q.data.toList) (by rw [hexAll_pairs]; omega)
  rw [hexAll_pairs] at hhex
  have l0 : text_Literal.f ((p ++ y) ++ q) (p.size : Int) = some (⟨s.data.toList.toArray⟩, (p.size : Int) + (y.size : Int), 0) := by
    rw [pz]
    refine hlit.trans ?_
    congr 3
    rw [yz]; omega
  have h0 : text_Hex.f ((p ++ z) ++ q) (p.size : Int) = some (⟨s.data.toList.toArray⟩, (p.size : Int) + (z.size : Int), 0) := by
    rw [pz]
    refine hhex.trans ?_
    congr 3
    rw [zz, hal, sz]; omega
  have e1 : Aside0 (wrap64 ((p.size : Int) + (y.size : Int)) = (p.size : Int) + (y.size : Int)) := Aside0.mk (wrap_small (by omega) (by omega))
  have e2 : Aside0 (wrap64 ((p.size : Int) + (z.size : Int)) = (p.size : Int) + (z.size : Int)) := Aside0.mk (wrap_small (by omega) (by omega))
  have e3 : Aside0 (wrap64 (wrap64 (2 * (s.size : Int)) + 2) = (z.size : Int)) := Aside0.mk (by rw [wrap_small (i := 2 * (s.size : Int)) (by omega) (by omega), wrap_small (by omega) (by omega), zz]; omega)
  have c1 : p.size + y.size ≤ 9223372036854775807 := by omega
  have c2 : (p ++ y).size + q.size ≤ 9223372036854775807 := by omega
  have c3 : p.size + z.size ≤ 9223372036854775807 := by omega
  have c4 : (p ++ z).size + q.size ≤ 9223372036854775807 := by omega
  have c5 : 1 + s.size ≤ 9223372036854775807 := by omega
  have c6 : ((⟨#[40]⟩ : ByteArray) ++ s).size + 1 ≤ 9223372036854775807 := by
    rw [ByteArray.size_append]; show 1 + s.size + 1 ≤ _; omega
  have s2 : (⟨s.data.toList.toArray⟩ : ByteArray).toList = s.toList := rfl
  have hpl := plain_tell s hs k hk
  simp only [pagemenderlaw04_TextBack.j1]
  rw [if_neg (by decide), if_pos c1, if_pos c2, l0, Option.bind_some, if_pos c3, if_pos c4, h0, Option.bind_some]
  dsimp only
  rw [if_pos rfl, s2, if_pos rfl, e1.out, if_pos rfl, if_pos rfl, if_pos rfl, e2.out, if_pos rfl, hpl, Option.bind_some, e3.out]
  by_cases hp : s.data.toList.all plainC = true
  · have hyl : y.toList = (((⟨#[40]⟩ : ByteArray) ++ s) ++ (⟨#[41]⟩ : ByteArray)).toList := by
      rw [Lib.toList_data, Lib.toList_data, hy, put_plain _ (List.all_eq_true.1 hp), app_list, app_list]; rfl
    rw [if_pos hp, if_pos c5, if_pos c6, if_pos hyl]
    simp
  · rw [if_neg hp]
    simp

theorem j0_go (s p q : ByteArray) (hs : s.size ≤ 1500) (hp : p.size ≤ 1500) (hq : q.size ≤ 1500) (k : Nat) (hk : 1600 ≤ k) : pagemenderlaw04_TextBack.j0 (k + 2) s p q false = some true := by
  simp only [pagemenderlaw04_TextBack.j0]
  rw [if_neg (by decide), putlit_at s (by omega), Option.bind_some, puthex_at s (by omega), Option.bind_some]
  dsimp only
  rw [if_pos rfl]
  exact j1_go s p q _ _ hs hp hq rfl rfl k hk

theorem TextBack : pagemenderlaw04_TextBack.Pure := by
  intro s p q hs hp hq
  refine ⟨1602, ?_⟩
  unfold pagemenderlaw04_TextBack.f
  rw [lives_ok, Option.bind_some, if_pos rfl]
  by_cases h1 : (s.size : Int) > 1500
  · rw [if_pos h1]; exact j0_yes 1601 s p q
  · rw [if_neg h1]
    by_cases h2 : (p.size : Int) > 1500
    · rw [if_pos h2]; exact j0_yes 1601 s p q
    · rw [if_neg h2]
      by_cases h3 : (q.size : Int) > 1500
      · rw [decide_eq_true h3]; exact j0_yes 1601 s p q
      · rw [decide_eq_false h3]; exact j0_go s p q (by omega) (by omega) (by omega) 1600 (Nat.le_refl _)
end Go.Proofs.Ytioildfnbcdekaa.Pure
