/-
  AsciiPlain: what is told has characters alone that can be seen, and is as long as the document's rules let it be.
-/
import Derived.Test.YtjgbnaejeeinbaaAPx2
import Derived.Test.YtjgbnaejeeinbaaAo
namespace Go.Proofs.Ytjgbnaejeeinbaa.Pure
open Go.RowKit Go.Proofs.Ytjgbnaejeeinbaa.AP Go.Proofs.YtjgbnaejeeinbaaW.PrintWords Go.Proofs.YtjgbnaejeeinbaaW.PrintLast
set_option linter.unusedVariables false
set_option linter.unusedSimpArgs false

theorem lives_ok : pagemenderlaw12_lives.f = some true := by decide +kernel
theorem hexput_at (s : ByteArray) (hs : s.size ≤ 1000) : ascii_HexPut.f s = some ⟨(hexAll s.data.toList ++ [62]).toArray⟩ := by unfold ascii_HexPut.f; rw [if_pos (by omega)]
theorem put85_at (s : ByteArray) (hs : s.size ≤ 1000) : ascii_Put85.f s = some ⟨(put85 s.data.toList ++ [126, 62]).toArray⟩ := by unfold ascii_Put85.f; rw [if_pos (by omega)]

/-! ### By sixteen -/
theorem digit_all : ∀ n : Fin 16, (pagemenderref01_Hex.f 1 ((hexd n.val).toNat : Int)).any (fun x => decide (0 ≤ x)) = true ∧ (hexd n.val).toNat < 97 := by decide +kernel
theorem digit_of (c : UInt8) (v : List UInt8) (h : c ∈ hexAll v) : (∃ x : Int, 0 ≤ x ∧ pagemenderref01_Hex.f 1 (c.toNat : Int) = some x) ∧ c.toNat < 97 := by
  unfold hexAll at h
  obtain ⟨b, _, hb⟩ := List.mem_flatMap.1 h
  have hlt := b.toNat_lt
  obtain ⟨n, hn, hc⟩ : ∃ n, n < 16 ∧ c = hexd n := by
    simp only [hexB, List.mem_cons, List.mem_nil_iff, or_false] at hb
    rcases hb with rfl | rfl
    · exact ⟨b.toNat / 16, by omega, rfl⟩
    · exact ⟨b.toNat % 16, by omega, rfl⟩
  subst hc
  obtain ⟨h1, h2⟩ := digit_all ⟨n, hn⟩
  simp only at h1 h2
  refine ⟨?_, h2⟩
  cases hx : pagemenderref01_Hex.f 1 ((hexd n).toNat : Int) with
  | none => rw [hx] at h1; cases h1
  | some x => rw [hx] at h1; exact ⟨x, by simpa using h1, rfl⟩
theorem hex_more (k : Nat) (x : Int) : pagemenderref01_Hex.f (k + 1) x = pagemenderref01_Hex.f 1 x := rfl
theorem l0_go (s x y : ByteArray) (v : List UInt8) (hx : x.data.toList = hexAll v ++ [62]) (hz : x.size ≤ 10000) : ∀ (m i : Nat), i + m + 1 = x.size → ∀ k, 1 ≤ k → pagemenderlaw12_AsciiPlain.l0 (k + m + 1) s x y (i : Int) = pagemenderlaw12_AsciiPlain.l1 k s y 0 0 := by
  intro m
  induction m with
  | zero =>
    intro i hi k hk
    have c1 : ¬ ((i : Int) < (x.size : Int) - 1) := by omega
    simp only [pagemenderlaw12_AsciiPlain.l0]
    rw [wrap_small (i := (x.size : Int) - 1) (by omega) (by omega), if_neg c1]
  | succ m ih =>
    intro i hi k hk
    have hlt : i < x.size := by omega
    have xz : x.size = (hexAll v).length + 1 := by rw [Lib.size_eq, hx]; simp
    have hmem : x[i] ∈ hexAll v := by
      have e : x[i] = x.data.toList[i]'(by rw [← Lib.size_eq]; exact hlt) := rfl
      have e2 : x.data.toList[i]? = (hexAll v)[i]? := by rw [hx, List.getElem?_append_left (by omega)]
      rw [e]
      have e3 := List.getElem?_eq_getElem (l := x.data.toList) (i := i) (by rw [← Lib.size_eq]; exact hlt)
      rw [e2] at e3
      exact List.mem_of_getElem? e3
    obtain ⟨⟨d, hd0, hd⟩, h97⟩ := digit_of _ _ hmem
    have c1 : (i : Int) < (x.size : Int) - 1 := by omega
    have c2 : (0 : Int) ≤ (i : Int) := by omega
    have c3 : (i : Int) < (x.size : Int) := by omega
    have c4 : ¬ (d < 0) := by omega
    have c5 : ¬ ((x[i].toNat : Int) ≥ 97) := by omega
    have e1 : wrap64 ((i : Int) + 1) = ((i + 1 : Nat) : Int) := by rw [wrap_small (by omega) (by omega)]; omega
    obtain ⟨K, hK⟩ : ∃ K, K = k + m + 1 := ⟨_, rfl⟩
    have hdK : pagemenderref01_Hex.f K (x[i].toNat : Int) = some d := by rw [hK]; exact (hex_more _ _).trans hd
    have ih2 := ih (i + 1) (by omega) k hk
    have ek : k + (m + 1) + 1 = K + 1 := by omega
    rw [ek]
    rw [← hK] at ih2
    simp only [pagemenderlaw12_AsciiPlain.l0]
    rw [wrap_small (i := (x.size : Int) - 1) (by omega) (by omega), if_pos c1, if_pos c2, if_pos c3, bt_nat x i hlt, hdK, Option.bind_some, if_neg c4, if_neg c5, e1]
    exact ih2

/-! ### By eighty-five -/
theorem l1_step (s y : ByteArray) (hz : y.size ≤ 10000) (i n : Nat) (hn : n ≤ 100000) (hi : i + 2 < y.size) (c : UInt8) (hc : y.data.toList[i]? = some c) (h : (c = 122 ∧ n % 5 = 0) ∨ chrG c) (k : Nat) :
    pagemenderlaw12_AsciiPlain.l1 (k + 2) s y (n : Int) (i : Int) = pagemenderlaw12_AsciiPlain.l1 k s y ((n + (if c = 122 then 5 else 1) : Nat) : Int) ((i + 1 : Nat) : Int) := by
  obtain ⟨h1, h2⟩ := List.getElem?_eq_some_iff.1 hc
  have hlt : i < y.size := by omega
  have hb : bt y (i : Int) = (c.toNat : Int) := by rw [bt_nat y i hlt, show y[i] = c from h2]
  have c1 : (i : Int) < (y.size : Int) - 2 := by omega
  have c2 : (0 : Int) ≤ (i : Int) := by omega
  have c3 : (i : Int) < (y.size : Int) := by omega
  have e1 : wrap64 ((i : Int) + 1) = ((i + 1 : Nat) : Int) := by rw [wrap_small (by omega) (by omega)]; omega
  have e2 : wrap64 ((n : Int) + 1) = ((n + 1 : Nat) : Int) := by rw [wrap_small (by omega) (by omega)]; omega
  have e5 : wrap64 ((n : Int) + 5) = ((n + 5 : Nat) : Int) := by rw [wrap_small (by omega) (by omega)]; omega
  simp only [pagemenderlaw12_AsciiPlain.l1]
  rw [wrap_small (i := (y.size : Int) - 2) (by omega) (by omega), if_pos c1, if_pos c2, if_pos c3, hb]
  rcases h with ⟨rfl, h5⟩ | ⟨g1, g2⟩
  · have q : (((122 : UInt8).toNat : Nat) : Int) = 122 := rfl
    have q5 : Int.tmod (n : Int) 5 = 0 := by rw [Int.tmod_eq_emod_of_nonneg (by omega)]; omega
    rw [if_pos q, if_pos q5]
    simp only [pagemenderlaw12_AsciiPlain.j3]
    rw [if_neg (by decide), if_pos c2, if_pos c3, hb, if_pos q, e5, e1, if_pos trivial]
  · have q : ¬ ((c.toNat : Int) = 122) := by omega
    have q1 : ¬ ((c.toNat : Int) < 33) := by omega
    have q2 : ¬ ((c.toNat : Int) > 117) := by omega
    have qc : ¬ (c = 122) := by rintro rfl; exact absurd g2 (by decide)
    rw [if_neg q, if_neg q1, decide_eq_false q2]
    simp only [pagemenderlaw12_AsciiPlain.j3]
    rw [if_neg (by decide), if_pos c2, if_pos c3, hb, if_neg q, e2, e1, if_neg qc]
theorem l1_run (s y : ByteArray) (hz : y.size ≤ 10000) : ∀ (xs r : List UInt8) (i n : Nat), n + xs.length ≤ 100000 → 2 ≤ r.length → y.data.toList.drop i = xs ++ r → (∀ c ∈ xs, chrG c) → ∀ k,
    pagemenderlaw12_AsciiPlain.l1 (k + 2 * xs.length) s y (n : Int) (i : Int) = pagemenderlaw12_AsciiPlain.l1 k s y ((n + xs.length : Nat) : Int) ((i + xs.length : Nat) : Int)
  | [], r, i, n, hn, hr, hd, hc, k => by simp
  | c :: xs, r, i, n, hn, hr, hd, hc, k => by
    have hl := congrArg List.length hd
    rw [List.length_drop, ← Lib.size_eq, List.length_append, List.length_cons] at hl
    have hg : y.data.toList[i]? = some c := by
      have := congrArg (fun l => l[0]?) hd
      simpa [List.getElem?_drop] using this
    have hd2 : y.data.toList.drop (i + 1) = xs ++ r := by
      have := congrArg (List.drop 1) hd
      simpa [List.drop_drop] using this
    have gc := hc c (by simp)
    have qc : ¬ (c = 122) := by rintro rfl; exact absurd gc.2 (by decide)
    have ek : k + 2 * (c :: xs).length = (k + 2 * xs.length) + 2 := by simp; omega
    rw [List.length_cons] at hn
    rw [ek, l1_step s y hz i n (by omega) (by omega) c hg (.inr gc), if_neg qc, l1_run s y hz xs r (i + 1) (n + 1) (by omega) hr hd2 (fun x hx => hc x (by simp [hx])) k]
    have q1 : n + 1 + xs.length = n + (c :: xs).length := by rw [List.length_cons]; omega
    have q2 : i + 1 + xs.length = i + (c :: xs).length := by rw [List.length_cons]; omega
    rw [q1, q2]
/-- How many characters a text's groups count as. -/
def tot (n : Nat) : Nat := n / 4 * 5 + if n % 4 = 0 then 0 else n % 4 + 1
theorem l1_all (s y : ByteArray) (hz : y.size ≤ 10000) : ∀ (v : List UInt8) (i n : Nat), v.length ≤ 1000 → n + 5 * v.length ≤ 50000 → n % 5 = 0 → y.data.toList.drop i = put85 v ++ [126, 62] → ∀ k,
    pagemenderlaw12_AsciiPlain.l1 (k + 2 * (put85 v).length) s y (n : Int) (i : Int) = pagemenderlaw12_AsciiPlain.l1 k s y ((n + tot v.length : Nat) : Int) ((i + (put85 v).length : Nat) : Int)
  | [], i, n, hv, hn, h5, hd, k => by simp [put85, tot]
  | [a], i, n, hv, hn, h5, hd, k => by
    have hlen : (put85 [a]).length = 2 := rfl
    have htot : tot [a].length = 2 := by simp [tot]
    rw [l1_run s y hz (put85 [a]) [126, 62] i n (by rw [hlen]; omega) (by simp) hd (fun c hc => by simp only [put85] at hc; exact chr5_chr _ (num4_lt _ _ _ _) c (List.mem_of_mem_take hc)) k, hlen, htot]
  | [a, b], i, n, hv, hn, h5, hd, k => by
    have hlen : (put85 [a, b]).length = 3 := rfl
    have htot : tot [a, b].length = 3 := by simp [tot]
    rw [l1_run s y hz (put85 [a, b]) [126, 62] i n (by rw [hlen]; omega) (by simp) hd (fun c hc => by simp only [put85] at hc; exact chr5_chr _ (num4_lt _ _ _ _) c (List.mem_of_mem_take hc)) k, hlen, htot]
  | [a, b, d], i, n, hv, hn, h5, hd, k => by
    have hlen : (put85 [a, b, d]).length = 4 := rfl
    have htot : tot [a, b, d].length = 4 := by simp [tot]
    rw [l1_run s y hz (put85 [a, b, d]) [126, 62] i n (by rw [hlen]; omega) (by simp) hd (fun c hc => by simp only [put85] at hc; exact chr5_chr _ (num4_lt _ _ _ _) c (List.mem_of_mem_take hc)) k, hlen, htot]
  | a :: b :: d :: e :: v, i, n, hv, hn, h5, hd, k => by
    have ht : tot (a :: b :: d :: e :: v).length = 5 + tot v.length := by
      simp only [List.length_cons]
      unfold tot
      have e1 : (v.length + 1 + 1 + 1 + 1) % 4 = v.length % 4 := by omega
      have e2 : (v.length + 1 + 1 + 1 + 1) / 4 = v.length / 4 + 1 := by omega
      rw [e1, e2]; omega
    have hl4 : (a :: b :: d :: e :: v).length = v.length + 4 := rfl
    rw [hl4] at hv hn
    rw [ht]
    by_cases hzz : a = 0 ∧ b = 0 ∧ d = 0 ∧ e = 0
    · have hp : put85 (a :: b :: d :: e :: v) = 122 :: put85 v := by simp only [put85]; rw [if_pos hzz]; rfl
      rw [hp] at hd ⊢
      have hll := congrArg List.length hd
      rw [List.length_drop, ← Lib.size_eq] at hll
      simp only [List.cons_append, List.length_cons, List.length_append, List.length_nil] at hll
      have hg : y.data.toList[i]? = some 122 := by
        have := congrArg (fun l => l[0]?) hd
        simpa [List.getElem?_drop] using this
      have hd2 : y.data.toList.drop (i + 1) = put85 v ++ [126, 62] := by
        have := congrArg (List.drop 1) hd
        simpa [List.drop_drop] using this
      have ek : k + 2 * (122 :: put85 v).length = (k + 2 * (put85 v).length) + 2 := by simp; omega
      rw [ek, l1_step s y hz i n (by omega) (by omega) 122 hg (.inl ⟨rfl, h5⟩), if_pos rfl, l1_all s y hz v (i + 1) (n + 5) (by omega) (by omega) (by omega) hd2 k]
      have q1 : n + 5 + tot v.length = n + (5 + tot v.length) := by omega
      have q2 : i + 1 + (put85 v).length = i + (122 :: put85 v).length := by rw [List.length_cons]; omega
      rw [q1, q2]
    · have hp : put85 (a :: b :: d :: e :: v) = chr5 (num4 a b d e) ++ put85 v := by simp only [put85]; rw [if_neg hzz]
      have h5l : (chr5 (num4 a b d e)).length = 5 := rfl
      rw [hp] at hd ⊢
      rw [List.append_assoc] at hd
      have hd2 : y.data.toList.drop (i + 5) = put85 v ++ [126, 62] := by
        have := congrArg (List.drop 5) hd
        rw [List.drop_drop] at this
        rw [this]
        exact List.drop_left' h5l
      have ek : k + 2 * (chr5 (num4 a b d e) ++ put85 v).length = (k + 2 * (put85 v).length) + 2 * (chr5 (num4 a b d e)).length := by rw [List.length_append]; omega
      rw [ek, l1_run s y hz (chr5 (num4 a b d e)) (put85 v ++ [126, 62]) i n (by rw [h5l]; omega) (by simp) hd (chr5_chr _ (num4_lt _ _ _ _)), h5l, l1_all s y hz v (i + 5) (n + 5) (by omega) (by omega) (by omega) hd2 k]
      have q1 : n + 5 + tot v.length = n + (5 + tot v.length) := by omega
      have q2 : i + 5 + (put85 v).length = i + (chr5 (num4 a b d e) ++ put85 v).length := by rw [List.length_append, h5l]; omega
      rw [q1, q2]

theorem l1_end (s y : ByteArray) (hs : s.size ≤ 1000) (hz : y.size ≤ 10000) (h2 : 2 ≤ y.size) (k : Nat) : pagemenderlaw12_AsciiPlain.l1 (k + 1) s y ((tot s.size : Nat) : Int) ((y.size - 2 : Nat) : Int) = some true := by
  have c1 : ¬ (((y.size - 2 : Nat) : Int) < (y.size : Int) - 2) := by omega
  have w1 : wrap64 ((s.size : Int) / 4) = (s.size : Int) / 4 := wrap_small (by omega) (by omega)
  have w2 : wrap64 ((s.size : Int) / 4 * 5) = (s.size : Int) / 4 * 5 := wrap_small (by omega) (by omega)
  have w3 : wrap64 ((s.size : Int) / 4 * 5 + (s.size : Int) % 4) = (s.size : Int) / 4 * 5 + (s.size : Int) % 4 := wrap_small (by omega) (by omega)
  have w4 : wrap64 ((s.size : Int) / 4 * 5 + (s.size : Int) % 4 + 1) = (s.size : Int) / 4 * 5 + (s.size : Int) % 4 + 1 := wrap_small (by omega) (by omega)
  simp only [pagemenderlaw12_AsciiPlain.l1]
  rw [wrap_small (i := (y.size : Int) - 2) (by omega) (by omega), if_neg c1, w1, w2, w3, w4]
  clear w1 w2 w3 w4
  unfold tot
  by_cases h0 : s.size % 4 = 0
  · rw [if_pos h0, if_pos (by omega), if_pos (by omega)]
  · rw [if_neg h0, if_neg (by omega), if_pos (by omega), decide_eq_true (by omega)]

theorem AsciiPlain : pagemenderlaw12_AsciiPlain.Pure := by
  intro s hs
  have go : s.size ≤ 1000 → ∃ k, pagemenderlaw12_AsciiPlain.f k s = some true := by
    intro h1
    have sz := Lib.size_eq s
    have hl := hexAll_len s.data.toList
    have pl := put85_len s.data.toList
    obtain ⟨x, hx⟩ : ∃ x : ByteArray, x = ⟨(hexAll s.data.toList ++ [62]).toArray⟩ := ⟨_, rfl⟩
    obtain ⟨y, hy⟩ : ∃ y : ByteArray, y = ⟨(put85 s.data.toList ++ [126, 62]).toArray⟩ := ⟨_, rfl⟩
    have xl : x.data.toList = hexAll s.data.toList ++ [62] := by rw [hx]
    have yl : y.data.toList = put85 s.data.toList ++ [126, 62] := by rw [hy]
    have xz : x.size = 2 * s.size + 1 := by rw [Lib.size_eq, xl]; simp; omega
    have yz : y.size = (put85 s.data.toList).length + 2 := by rw [Lib.size_eq, yl]; simp
    have hp := hexput_at s h1
    have pp := put85_at s h1
    rw [← hx] at hp
    rw [← hy] at pp
    have w1 : Aside0 (wrap64 (wrap64 (2 * (s.size : Int)) + 1) = (x.size : Int)) := Aside0.mk (by rw [wrap_small (i := 2 * (s.size : Int)) (by omega) (by omega), wrap_small (by omega) (by omega), xz]; omega)
    have w2 : Aside0 (wrap64 ((y.size : Int) - 2) = ((y.size - 2 : Nat) : Int)) := Aside0.mk (by rw [wrap_small (by omega) (by omega)]; omega)
    have w3 : Aside0 (wrap64 ((x.size : Int) - 1) = ((x.size - 1 : Nat) : Int)) := Aside0.mk (by rw [wrap_small (by omega) (by omega)]; omega)
    have t1 : Int.toNat ((y.size - 2 : Nat) : Int) = y.size - 2 := Int.toNat_natCast _
    have htail : (y.extract (y.size - 2) y.size).toList = ([126, 62] : List UInt8) := by
      rw [Lib.toList_data, ext_list, List.take_of_length_le (by rw [List.length_drop, ← Lib.size_eq]; exact Nat.le_refl _), yl, yz, Nat.add_sub_cancel]
      exact List.drop_left' rfl
    have hlast : bt x ((x.size - 1 : Nat) : Int) = 62 := by
      rw [bt_nat x (x.size - 1) (by omega)]
      have e : x.data.toList[x.size - 1]? = some 62 := by
        rw [xl, xz, List.getElem?_append_right (by omega)]
        have q0 : 2 * s.size + 1 - 1 - (hexAll s.data.toList).length = 0 := by omega
        rw [q0]; rfl
      obtain ⟨q1, q2⟩ := List.getElem?_eq_some_iff.1 e
      have : x[x.size - 1]'(by omega) = 62 := q2
      rw [this]; rfl
    have c1 : ¬ ((y.size : Int) < 2) := by omega
    have c2 : (0 : Int) ≤ ((y.size - 2 : Nat) : Int) := by omega
    have c3 : ((y.size - 2 : Nat) : Int) ≤ (y.size : Int) := by omega
    have c4 : (0 : Int) ≤ ((x.size - 1 : Nat) : Int) := by omega
    have c5 : ((x.size - 1 : Nat) : Int) < (x.size : Int) := by omega
    have hn6 : ¬ ((s.size : Int) > 1000) := by omega
    have hb : ((62 : Int) != 62) = false := rfl
    have fin : ∀ K, pagemenderlaw12_AsciiPlain.j0 ((1 + 2 * (put85 s.data.toList).length) + (x.size - 1) + 1 + 1 + K - K) s x y false = some true := by
      intro K
      rw [Nat.add_sub_cancel]
      simp only [pagemenderlaw12_AsciiPlain.j0]
      rw [if_neg (by decide)]
      have h0 := l0_go s x y s.data.toList xl (by omega) (x.size - 1) 0 (by omega) (1 + 2 * (put85 s.data.toList).length) (by omega)
      rw [show ((0 : Nat) : Int) = 0 from rfl] at h0
      rw [h0]
      have h1' := l1_all s y (by omega) s.data.toList 0 0 (by omega) (by omega) rfl (by rw [yl]; rfl) 1
      rw [show ((0 : Nat) : Int) = 0 from rfl] at h1'
      rw [h1', Nat.zero_add, Nat.zero_add, ← sz]
      have e := l1_end s y h1 (by omega) (by omega) 0
      have e2 : y.size - 2 = (put85 s.data.toList).length := by omega
      rw [e2] at e
      exact e
    refine ⟨(1 + 2 * (put85 s.data.toList).length) + (x.size - 1) + 1 + 1, ?_⟩
    have fin0 := fin 0
    rw [Nat.add_zero, Nat.sub_zero] at fin0
    generalize (1 + 2 * (put85 s.data.toList).length) + (x.size - 1) + 1 + 1 = K at fin0 ⊢
    unfold pagemenderlaw12_AsciiPlain.f
    rw [lives_ok, Option.bind_some, if_pos rfl, if_neg hn6, hp, Option.bind_some, pp, Option.bind_some, w1.out, if_pos rfl, if_neg c1, w2.out, if_pos c2, if_pos c3, t1, if_pos htail, w3.out, if_pos c4, if_pos c5, hlast, hb]
    exact fin0
  by_cases h6 : (s.size : Int) > 1000
  · refine ⟨1, ?_⟩
    unfold pagemenderlaw12_AsciiPlain.f
    rw [lives_ok, Option.bind_some, if_pos rfl, if_pos h6]
  · exact go (by omega)
end Go.Proofs.Ytjgbnaejeeinbaa.Pure
