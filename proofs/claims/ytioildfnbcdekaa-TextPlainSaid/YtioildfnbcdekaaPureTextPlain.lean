/-
  TextPlain: bytes that are put can be seen, but blanks; what is read hangs on nothing behind its end.
-/
import Derived.Test.YtioildfnbcdekaaPLx2
import Derived.Test.YtioildfnbcdekaaTy
namespace Go.Proofs.Ytioildfnbcdekaa.Pure
open Go.RowKit Go.Proofs.Ytioildfnbcdekaa.PL Go.Proofs.YtioildfnbcdekaaW.PrintWords Go.Proofs.YtioildfnbcdekaaW.PrintLast
set_option linter.unusedVariables false
set_option linter.unusedSimpArgs false

theorem lives_ok : pagemenderlaw04_lives.f = some true := by decide +kernel
theorem j0_yes (k : Nat) (s q : ByteArray) (a : Int) : pagemenderlaw04_TextPlain.j0 (k + 1) s q a true = some true := by
  simp only [pagemenderlaw04_TextPlain.j0]
  exact if_pos trivial
theorem cut_list (s q : ByteArray) (m : Nat) (h : m ≤ s.size) : (s.extract 0 m ++ q).data.toList = s.data.toList.take m ++ q.data.toList ∧ (s.extract 0 m).size = m := by
  refine ⟨by rw [app_list, ext_list, List.drop_zero, Nat.sub_zero], ?_⟩
  rw [Lib.size_eq, ext_list, List.drop_zero, Nat.sub_zero, List.length_take, ← Lib.size_eq]; omega

theorem j3_go (k : Nat) (s q : ByteArray) (a : Int) (hs : s.size ≤ 1500) (hq : q.size ≤ 1500) : pagemenderlaw04_TextPlain.j3 (k + 1) s q a 0 = some true := by
  have sz := Lib.size_eq s
  simp only [pagemenderlaw04_TextPlain.j3]
  rw [hex_some s a (by omega), Option.bind_some]
  dsimp only
  by_cases he : (hexF s a).2.2 = 0
  · obtain ⟨i, n, ds, rfl, hc, hr, hl, hf⟩ := hex_inv s a he
    obtain ⟨g1, g2, g3⟩ := hex_cut _ ds n hr
    rw [List.length_drop, ← sz] at g1
    have hi : i + 1 + n + 1 ≤ s.size := by omega
    have hb : s.data.toList[i + 1 + n]? = some 62 := by rw [← g2, List.getElem?_drop]
    obtain ⟨hb1, hb2⟩ := bt_at s _ _ hb
    obtain ⟨x1, x2⟩ := cut_list s q (i + 1 + n + 1) hi
    have hsp := at_split s.data.toList i (n + 1) 60 hc
    have e0 : i + 1 + n + 1 = i + 1 + (n + 1) := by omega
    have hx : (s.extract 0 (i + 1 + n + 1) ++ q).size = i + 1 + n + 1 + q.size := by rw [ByteArray.size_append, x2]
    have hpl : (s.data.toList.take i).length = i := by rw [List.length_take, ← sz]; omega
    have h2 := hex_at (s.extract 0 (i + 1 + n + 1) ++ q) (s.data.toList.take i) ((s.data.toList.drop (i + 1)).take (n + 1) ++ q.data.toList) ds n (by rw [hx]; omega) (by rw [x1, e0, hsp]; simp) (g3 _) hl
    rw [hpl] at h2
    rw [hf]
    dsimp only
    have t1 : ((i : Int) + 1 + n + 1).toNat = i + 1 + n + 1 := by omega
    have c1 : (0 : Int) ≤ (i : Int) + 1 + n + 1 := by omega
    have c2 : (i : Int) + 1 + n + 1 ≤ (s.size : Int) := by omega
    have c3 : (s.extract 0 (i + 1 + n + 1)).size + q.size ≤ 9223372036854775807 := by rw [x2]; omega
    have c4 : ¬ ((i : Int) + 1 + n + 1 < 1) := by omega
    have c5 : (0 : Int) ≤ ((i + 1 + n : Nat) : Int) := by omega
    have c6 : ((i + 1 + n : Nat) : Int) < (s.size : Int) := by omega
    have e1 : wrap64 ((i : Int) + 1 + n + 1 - 1) = ((i + 1 + n : Nat) : Int) := by rw [wrap_small (by omega) (by omega)]; omega
    rw [if_pos rfl, if_pos c1, if_pos c2, t1, if_pos c3, h2, Option.bind_some]
    dsimp only
    rw [if_pos rfl, if_pos rfl, if_pos rfl, if_neg c4, e1, if_pos c5, if_pos c6, hb2]
    simp
  · rw [if_neg he]
    simp

theorem j2_go (k : Nat) (s q : ByteArray) (hs : s.size ≤ 1500) (hq : q.size ≤ 1500) (i n : Nat) (o : List UInt8) (hc : s.data.toList[i]? = some 40) (hr : lit 1 (s.data.toList.drop (i + 1)) = some (o, n)) (hl : o.length ≤ 65536) :
    pagemenderlaw04_TextPlain.j2 (k + 2) s q (i : Int) 0 ⟨o.toArray⟩ ((i : Int) + 1 + n) false = some true := by
  have sz := Lib.size_eq s
  obtain ⟨g0, g1, g2, g3⟩ := lit_cut _ 1 _ o n (Nat.le_refl _) hr
  rw [List.length_drop, ← sz] at g1
  have hi : i + 1 + n ≤ s.size := by omega
  obtain ⟨x1, x2⟩ := cut_list s q (i + 1 + n) hi
  have hsp := at_split s.data.toList i n 40 hc
  have hx : (s.extract 0 (i + 1 + n) ++ q).size = i + 1 + n + q.size := by rw [ByteArray.size_append, x2]
  have hpl : (s.data.toList.take i).length = i := by rw [List.length_take, ← sz]; omega
  have h2 := literal_at (s.extract 0 (i + 1 + n) ++ q) (s.data.toList.take i) ((s.data.toList.drop (i + 1)).take n ++ q.data.toList) o n (by rw [hx]; omega) (by rw [x1, hsp]; simp) (g3 _) hl
  rw [hpl] at h2
  have t1 : ((i : Int) + 1 + n).toNat = i + 1 + n := by omega
  have c1 : (0 : Int) ≤ (i : Int) + 1 + n := by omega
  have c2 : (i : Int) + 1 + n ≤ (s.size : Int) := by omega
  have c3 : (s.extract 0 (i + 1 + n)).size + q.size ≤ 9223372036854775807 := by rw [x2]; omega
  simp only [pagemenderlaw04_TextPlain.j2]
  rw [if_neg (by decide), if_pos c1, if_pos c2, t1, if_pos c3, h2, Option.bind_some]
  dsimp only
  rw [if_pos rfl, if_pos rfl, if_pos rfl]
  exact j3_go k s q _ hs hq

theorem end_go (k : Nat) (s q y : ByteArray) (a : Int) (hs : s.size ≤ 1500) (hq : q.size ≤ 1500) : pagemenderlaw04_TextPlain.l0 (k + 3) s q a y 0 (y.size : Int) = some true := by
  have sz := Lib.size_eq s
  simp only [pagemenderlaw04_TextPlain.l0]
  rw [if_neg (by omega), literal_some s a (by omega), Option.bind_some]
  dsimp only
  by_cases he : (litF s a).2.2 = 0
  · obtain ⟨i, n, o, rfl, hc, hr, hl, hf⟩ := literal_inv s a he
    obtain ⟨g0, g1, g2, g3⟩ := lit_cut _ 1 _ o n (Nat.le_refl _) hr
    rw [List.length_drop, ← sz] at g1
    have hb : s.data.toList[i + n]? = some 41 := by rw [← g2, List.getElem?_drop]; congr 1; omega
    obtain ⟨hb1, hb2⟩ := bt_at s _ _ hb
    obtain ⟨hb3, hb4⟩ := bt_at s _ _ hc
    rw [hf]
    dsimp only
    have c1 : ¬ ((i : Int) + 1 + n ≤ (i : Int)) := by omega
    have c2 : ¬ ((i : Int) + 1 + n > (s.size : Int)) := by omega
    have c3 : (0 : Int) ≤ ((i + n : Nat) : Int) := by omega
    have c4 : ((i + n : Nat) : Int) < (s.size : Int) := by omega
    have c5 : (0 : Int) ≤ (i : Int) := by omega
    have c6 : (i : Int) < (s.size : Int) := by omega
    have e1 : wrap64 ((i : Int) + 1 + n - 1) = ((i + n : Nat) : Int) := by rw [wrap_small (by omega) (by omega)]; omega
    rw [if_pos rfl, if_neg c1, if_neg c2, e1, if_pos c3, if_pos c4, hb2, if_pos (by decide), if_pos c5, if_pos c6, hb4]
    exact j2_go k s q hs hq i n o hc hr hl
  · rw [if_neg he]
    exact j3_go (k + 1) s q a hs hq

theorem l0_go (s q y : ByteArray) (a : Int) (hs : s.size ≤ 1500) (hq : q.size ≤ 1500) (hy : ∀ b ∈ y.data.toList, 32 ≤ b.toNat ∧ b.toNat ≤ 126) (hyz : y.size ≤ 10000) : ∀ (m i : Nat), i + m = y.size → ∀ k, m + 3 ≤ k → pagemenderlaw04_TextPlain.l0 k s q a y 0 (i : Int) = some true := by
  intro m
  induction m with
  | zero =>
    intro i hi k hk
    obtain ⟨k, rfl⟩ : ∃ j, k = j + 3 := ⟨k - 3, by omega⟩
    have : i = y.size := by omega
    rw [this]
    exact end_go k s q y a hs hq
  | succ m ih =>
    intro i hi k hk
    obtain ⟨k, rfl⟩ : ∃ j, k = j + 1 := ⟨k - 1, by omega⟩
    have hlt : i < y.size := by omega
    have hm := hy y[i] (by
      have : y[i] = y.data.toList[i]'(by rw [← Lib.size_eq]; exact hlt) := rfl
      rw [this]; exact List.getElem_mem _)
    have c1 : (i : Int) < (y.size : Int) := by omega
    have c2 : (0 : Int) ≤ (i : Int) := by omega
    have c3 : ¬ ((y[i].toNat : Int) < 32) := by omega
    have c4 : ¬ ((y[i].toNat : Int) > 126) := by omega
    have e1 : wrap64 ((i : Int) + 1) = ((i + 1 : Nat) : Int) := by rw [wrap_small (by omega) (by omega)]; omega
    simp only [pagemenderlaw04_TextPlain.l0]
    rw [if_pos c1, if_pos c2, bt_nat y i hlt, if_neg c3, if_neg c4, e1]
    exact ih (i + 1) (by omega) k (by omega)

theorem TextPlain : pagemenderlaw04_TextPlain.Pure := by
  intro s q a hs hq ha
  refine ⟨10101, ?_⟩
  unfold pagemenderlaw04_TextPlain.f
  rw [lives_ok, Option.bind_some, if_pos rfl]
  by_cases h1 : (s.size : Int) > 1500
  · rw [if_pos h1]; exact j0_yes 10100 s q a
  · rw [if_neg h1]
    by_cases h3 : (q.size : Int) > 1500
    · rw [decide_eq_true h3]; exact j0_yes 10100 s q a
    · rw [decide_eq_false h3]
      have go : ∀ k, 10100 ≤ k → pagemenderlaw04_TextPlain.j0 (k + 1) s q a false = some true := by
        intro k hk
        have hal := litAll_le s.data.toList
        have sz := Lib.size_eq s
        have yz : (⟨(40 :: (litAll s.data.toList ++ [41])).toArray⟩ : ByteArray).size = (litAll s.data.toList).length + 2 := by rw [size_mk]; simp
        simp only [pagemenderlaw04_TextPlain.j0]
        rw [if_neg (by decide), putlit_at s (by omega), Option.bind_some]
        exact l0_go s q _ a (by omega) (by omega) (put_seen s.data.toList) (by rw [yz]; omega) _ 0 (Nat.zero_add _) k (by rw [yz]; omega)
      exact go 10100 (Nat.le_refl _)
end Go.Proofs.Ytioildfnbcdekaa.Pure
