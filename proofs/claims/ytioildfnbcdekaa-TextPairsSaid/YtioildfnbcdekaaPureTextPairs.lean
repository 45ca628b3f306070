/-
  TextPairs: brackets that stand in pairs need no backslash; a white byte more within a hexadecimal string changes nothing.
-/
import Derived.Test.YtioildfnbcdekaaPPx2
import Derived.Test.YtioildfnbcdekaaTv
namespace Go.Proofs.Ytioildfnbcdekaa.Pure
open Go.RowKit Go.Proofs.Ytioildfnbcdekaa.PP Go.Proofs.YtioildfnbcdekaaW.PrintWords Go.Proofs.YtioildfnbcdekaaW.PrintLast
set_option linter.unusedVariables false
set_option linter.unusedSimpArgs false

theorem lives_ok : pagemenderlaw04_lives.f = some true := by decide +kernel
theorem plain_l0 (s : ByteArray) (hs : s.size ≤ 600) : ∀ (m i : Nat), i + m = s.size → ∀ k, m + 1 ≤ k → text_Plain.l0 k s (s.size : Int) (i : Int) = some ((s.data.toList.drop i).all plainC) := by
  intro m
  induction m with
  | zero =>
    intro i hi k hk
    obtain ⟨k, rfl⟩ : ∃ j, k = j + 1 := ⟨k - 1, by omega⟩
    simp only [text_Plain.l0]
    rw [if_neg (by omega), List.drop_of_length_le (by rw [← Lib.size_eq]; omega)]
    rfl
  | succ m ih =>
    intro i hi k hk
    obtain ⟨k, rfl⟩ : ∃ j, k = j + 1 := ⟨k - 1, by omega⟩
    have hlt : i < s.size := by omega
    have e1 : wrap64 ((i : Int) + 1) = ((i + 1 : Nat) : Int) := by rw [wrap_small (by omega) (by omega)]; omega
    simp only [text_Plain.l0]
    rw [if_pos (by omega), if_pos (by omega), if_pos (by omega), bt_nat s i hlt, e1, ih (i + 1) (by omega) k (by omega), drop_at s i hlt, List.all_cons]
    have hp : plainC s[i] = (decide (32 ≤ s[i].toNat) && decide (s[i].toNat ≤ 126) && decide (s[i].toNat ≠ 40) && decide (s[i].toNat ≠ 41) && decide (s[i].toNat ≠ 92)) := by
      unfold plainC
      have a1 : (s[i] ≠ 40) ↔ s[i].toNat ≠ 40 := not_congr (byte_eq s[i] 40 (by decide))
      have a2 : (s[i] ≠ 41) ↔ s[i].toNat ≠ 41 := not_congr (byte_eq s[i] 41 (by decide))
      have a3 : (s[i] ≠ 92) ↔ s[i].toNat ≠ 92 := not_congr (byte_eq s[i] 92 (by decide))
      rw [decide_eq_decide.2 a1, decide_eq_decide.2 a2, decide_eq_decide.2 a3]
    rw [hp]
    by_cases c1 : (s[i].toNat : Int) < 32
    · rw [if_pos c1]; have : ¬ 32 ≤ s[i].toNat := by omega
      simp [this]
    · rw [if_neg c1]
      by_cases c2 : (s[i].toNat : Int) > 126
      · rw [if_pos c2]; have : ¬ s[i].toNat ≤ 126 := by omega
        simp [this]
      · rw [if_neg c2]
        by_cases c3 : (s[i].toNat : Int) = 40
        · rw [if_pos c3]; have : s[i].toNat = 40 := by omega
          simp [this]
        · rw [if_neg c3]
          by_cases c4 : (s[i].toNat : Int) = 41
          · rw [if_pos c4]; have : s[i].toNat = 41 := by omega
            simp [this]
          · rw [if_neg c4]
            by_cases c5 : (s[i].toNat : Int) = 92
            · rw [if_pos c5]; have : s[i].toNat = 92 := by omega
              simp [this]
            · rw [if_neg c5]
              have d1 : 32 ≤ s[i].toNat := by omega
              have d2 : s[i].toNat ≤ 126 := by omega
              have d3 : s[i].toNat ≠ 40 := by omega
              have d4 : s[i].toNat ≠ 41 := by omega
              have d5 : s[i].toNat ≠ 92 := by omega
              simp [d1, d2, d3, d4, d5]
theorem plain_tell (s : ByteArray) (hs : s.size ≤ 600) (k : Nat) (hk : 700 ≤ k) : text_Plain.f k s = some (s.data.toList.all plainC) := by
  unfold text_Plain.f
  exact plain_l0 s hs s.size 0 (by omega) k (by omega)
theorem pick_ok (a : Int) (m : Nat) (hm : 1 ≤ m) (hb : m ≤ 1000000) : ∃ n : Nat, n < m ∧ pagemenderkit_Pick.f a (m : Int) = some (n : Int) := by
  obtain ⟨h1, h2⟩ := tmod_small a m (by omega)
  unfold pagemenderkit_Pick.f
  rw [if_neg (by omega), if_neg (by omega)]
  by_cases h : Int.tmod a (m : Int) < 0
  · refine ⟨(Int.tmod a (m : Int) + m).toNat, by omega, ?_⟩
    rw [if_pos h, wrap_small (by omega) (by omega)]
    congr 1; omega
  · refine ⟨(Int.tmod a (m : Int)).toNat, by omega, ?_⟩
    rw [if_neg h]
    congr 1; omega
theorem times_l0 (c : UInt8) (d : Nat) (hd : d ≤ 60) : ∀ (m i : Nat), i + m = d → ∀ out : ByteArray, out.data.toList = List.replicate i c → ∀ k, m + 1 ≤ k → ∃ r : ByteArray, pagemenderkit_Times.l0 k ⟨#[c]⟩ (d : Int) out (i : Int) = some r ∧ r.data.toList = List.replicate d c := by
  intro m
  induction m with
  | zero =>
    intro i hi out ho k hk
    obtain ⟨k, rfl⟩ : ∃ j, k = j + 1 := ⟨k - 1, by omega⟩
    refine ⟨out, ?_, by rw [ho]; congr 1⟩
    simp only [pagemenderkit_Times.l0]
    rw [if_neg (by omega)]
  | succ m ih =>
    intro i hi out ho k hk
    obtain ⟨k, rfl⟩ : ∃ j, k = j + 1 := ⟨k - 1, by omega⟩
    have e1 : wrap64 ((i : Int) + 1) = ((i + 1 : Nat) : Int) := by rw [wrap_small (by omega) (by omega)]; omega
    have hz : out.size = i := by rw [Lib.size_eq, ho, List.length_replicate]
    obtain ⟨r, hr, hl⟩ := ih (i + 1) (by omega) (out ++ ⟨#[c]⟩) (by rw [app_list, ho, List.replicate_succ']) k (by omega)
    refine ⟨r, ?_, hl⟩
    simp only [pagemenderkit_Times.l0]
    rw [if_pos (by omega), if_pos (by rw [hz]; show i + 1 ≤ _; omega), e1, hr]
theorem times_ok (c : UInt8) (d : Nat) (hd : d ≤ 60) (k : Nat) (hk : 100 ≤ k) : ∃ r : ByteArray, pagemenderkit_Times.f k ⟨#[c]⟩ (d : Int) = some r ∧ r.data.toList = List.replicate d c :=
  times_l0 c d hd d 0 (by omega) _ rfl k (by omega)

theorem j0_yes (k : Nat) (s : ByteArray) (a b : Int) : pagemenderlaw04_TextPairs.j0 (k + 1) s a b true = some true := by
  simp only [pagemenderlaw04_TextPairs.j0]
  exact if_pos trivial

theorem j0_go (s : ByteArray) (hs : s.size ≤ 600) (hp : s.data.toList.all plainC = true) (a b : Int) (k : Nat) (hk : 800 ≤ k) : pagemenderlaw04_TextPairs.j0 (k + 1) s a b false = some true := by
  have hz := Lib.size_eq s
  obtain ⟨d, hd, hpick⟩ := pick_ok a 60 (by omega) (by omega)
  obtain ⟨p, hp1, hp2⟩ := times_ok 40 d (by omega) k (by omega)
  obtain ⟨q, hq1, hq2⟩ := times_ok 41 d (by omega) k (by omega)
  have pz : p.size = d := by rw [Lib.size_eq, hp2, List.length_replicate]
  have qz : q.size = d := by rw [Lib.size_eq, hq2, List.length_replicate]
  have hpl : ∀ c ∈ s.data.toList, plainC c = true := List.all_eq_true.1 hp
  -- the literal
  have w1 : (p ++ s).size = d + s.size := by rw [ByteArray.size_append, pz]
  have w2 : ((p ++ s) ++ q).size = d + s.size + d := by rw [ByteArray.size_append, w1, qz]
  have w3 : ((⟨#[40]⟩ : ByteArray) ++ ((p ++ s) ++ q)).size = 1 + (d + s.size + d) := by rw [ByteArray.size_append, w2]; rfl
  have hlist : ((p ++ s) ++ q).data.toList = List.replicate d 40 ++ s.data.toList ++ List.replicate d 41 := by rw [app_list, app_list, hp2, hq2]
  have hread := pairs_read s.data.toList hpl d []
  rw [← hlist] at hread
  have w4 : (((⟨#[40]⟩ : ByteArray) ++ ((p ++ s) ++ q)) ++ (⟨#[41]⟩ : ByteArray)).size = 1 + (d + s.size + d) + 1 := by rw [ByteArray.size_append, w3]; rfl
  have hlit := literal_at (((⟨#[40]⟩ : ByteArray) ++ ((p ++ s) ++ q)) ++ (⟨#[41]⟩ : ByteArray)) [] (((p ++ s) ++ q).data.toList ++ [41]) _ _ (by rw [w4]; omega) (by rw [app_list, app_list]; rfl) hread (by rw [← Lib.size_eq, w2]; omega)
  generalize hX : (p ++ s) ++ q = X at *
  -- the hexadecimal string
  have hput := puthex_at s (by omega)
  obtain ⟨y, hy⟩ : ∃ y : ByteArray, y = ⟨(60 :: (hexAll s.data.toList ++ [62])).toArray⟩ := ⟨_, rfl⟩
  have yl : y.data.toList = 60 :: (hexAll s.data.toList ++ [62]) := by rw [hy]
  rw [← hy] at hput
  have hal := hexAll_len s.data.toList
  rw [← hz] at hal
  have yz : y.size = 2 * s.size + 2 := by rw [Lib.size_eq, yl]; simp; omega
  obtain ⟨j, hj, hpick2⟩ := pick_ok b (2 * s.size + 1) (by omega) (by omega)
  have e3 : Aside0 (wrap64 ((y.size : Int) - 1) = ((2 * s.size + 1 : Nat) : Int)) := Aside0.mk (by rw [wrap_small (by omega) (by omega)]; omega)
  have e4 : Aside0 (wrap64 (1 + (j : Int)) = ((j + 1 : Nat) : Int)) := Aside0.mk (by rw [wrap_small (by omega) (by omega)]; omega)
  obtain ⟨u, hu⟩ : ∃ u : ByteArray, u = y.extract 0 (j + 1) := ⟨_, rfl⟩
  obtain ⟨v, hv⟩ : ∃ v : ByteArray, v = y.extract (j + 1) y.size := ⟨_, rfl⟩
  have hjl : j ≤ (hexAll s.data.toList).length := by rw [hal]; omega
  have ul : u.data.toList = 60 :: (hexAll s.data.toList).take j := by rw [hu]; exact head_part y 60 _ [62] j yl hjl
  have vl : v.data.toList = (hexAll s.data.toList).drop j ++ [62] := by rw [hv]; exact tail_part y 60 _ [62] j yl hjl
  have uz : u.size = j + 1 := by rw [Lib.size_eq, ul, List.length_cons, List.length_take]; omega
  have vz : v.size = 2 * s.size - j + 1 := by rw [Lib.size_eq, vl, List.length_append, List.length_drop]; simp; omega
  have x1 : (u ++ (⟨#[32]⟩ : ByteArray)).size = j + 2 := by rw [ByteArray.size_append, uz]; rfl
  have x2 : ((u ++ (⟨#[32]⟩ : ByteArray)) ++ v).size = 2 * s.size + 3 := by rw [ByteArray.size_append, x1, vz]; omega
  have hhex := hex_at ((u ++ (⟨#[32]⟩ : ByteArray)) ++ v) [] ((hexAll s.data.toList).take j ++ 32 :: ((hexAll s.data.toList).drop j ++ [62])) _ _ (by rw [x2]; omega) (by rw [app_list, app_list, ul, vl]; simp) (hex_put_blank s.data.toList [] j (by omega)) (by rw [hexAll_pairs, ← hz]; omega)
  rw [hexAll_pairs] at hhex
  generalize hZ : (u ++ (⟨#[32]⟩ : ByteArray)) ++ v = Z at *
  have e5 : Aside0 (wrap64 ((X.size : Int) + 2) = (X.size : Int) + 2) := Aside0.mk (wrap_small (by omega) (by omega))
  have e6 : Aside0 (wrap64 ((y.size : Int) + 1) = (y.size : Int) + 1) := Aside0.mk (wrap_small (by omega) (by omega))
  have t1 : Int.toNat ((j + 1 : Nat) : Int) = j + 1 := Int.toNat_natCast _
  simp only [pagemenderlaw04_TextPairs.j0]
  have p60 : pagemenderkit_Pick.f a 60 = some (d : Int) := hpick
  have l0 : text_Literal.f (((⟨#[40]⟩ : ByteArray) ++ X) ++ (⟨#[41]⟩ : ByteArray)) 0 = some (⟨X.data.toList.toArray⟩, (X.size : Int) + 2, 0) := by
    refine hlit.trans ?_
    congr 3
    simp; omega
  have h0 : text_Hex.f Z 0 = some (⟨s.data.toList.toArray⟩, (y.size : Int) + 1, 0) := by
    refine hhex.trans ?_
    congr 3
    simp; omega
  rw [if_neg (by decide), p60, Option.bind_some, hp1, Option.bind_some, if_pos (by omega), hq1, Option.bind_some, hX, if_pos (by omega), if_pos (by omega), if_pos (by omega), l0, Option.bind_some, hput, Option.bind_some]
  dsimp only
  rw [e3.out, hpick2, Option.bind_some, e4.out, t1, ← hu, ← hv, hZ, if_pos (by omega), if_pos (by omega), if_pos (by omega), if_pos (by omega), h0, Option.bind_some]
  rw [e5.out, e6.out]
  have s1 : (⟨X.data.toList.toArray⟩ : ByteArray).toList = X.toList := rfl
  have s2 : (⟨s.data.toList.toArray⟩ : ByteArray).toList = s.toList := rfl
  rw [s1, s2]
  simp

theorem TextPairs : pagemenderlaw04_TextPairs.Pure := by
  intro s a b hs ha hb
  refine ⟨801, ?_⟩
  unfold pagemenderlaw04_TextPairs.f
  rw [lives_ok, Option.bind_some, if_pos rfl]
  by_cases h6 : (s.size : Int) > 600
  · rw [if_pos h6, j0_yes]
  · rw [if_neg h6, plain_tell s (by omega) 801 (by omega), Option.bind_some]
    by_cases hp : s.data.toList.all plainC = true
    · rw [hp]
      exact j0_go s (by omega) hp a b 800 (Nat.le_refl _)
    · have hp := Bool.not_eq_true _ ▸ hp
      rw [hp]
      exact j0_yes 800 s a b
end Go.Proofs.Ytioildfnbcdekaa.Pure
