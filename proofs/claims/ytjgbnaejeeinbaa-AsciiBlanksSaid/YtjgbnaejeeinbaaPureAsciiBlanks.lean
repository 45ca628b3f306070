/-
  AsciiBlanks: white bytes between characters change nothing.
-/
import Derived.Test.YtjgbnaejeeinbaaAKx2
import Derived.Test.YtjgbnaejeeinbaaAo
namespace Go.Proofs.Ytjgbnaejeeinbaa.Pure
open Go.RowKit Go.Proofs.Ytjgbnaejeeinbaa.AK Go.Proofs.YtjgbnaejeeinbaaW.PrintWords Go.Proofs.YtjgbnaejeeinbaaW.PrintLast
set_option linter.unusedVariables false
set_option linter.unusedSimpArgs false

theorem lives_ok : pagemenderlaw12_lives.f = some true := by decide +kernel
theorem wf_64 {a : Int} (h : (Lit.int .i64 a).wf = true) : -9223372036854775808 ≤ a ∧ a ≤ 9223372036854775807 := by
  simp [Lit.wf, IntKind.min, IntKind.max, IntKind.signed, IntKind.bits] at h
  omega
theorem tmod_small (a m : Int) (hm : 1 ≤ m) : -m < Int.tmod a m ∧ Int.tmod a m < m := by
  have h1 := Int.tmod_lt_of_pos a (show 0 < m by omega)
  have h2 : -m < Int.tmod a m := by
    have h3 := Int.tmod_lt_of_pos (-a) (show 0 < m by omega)
    rw [Int.neg_tmod] at h3
    omega
  exact ⟨h2, h1⟩
theorem pick_ok (a : Int) (m : Nat) (hm : 1 ≤ m) (hb : m ≤ 1000000) : ∃ n : Nat, n < m ∧ pagemenderkit_Pick.f a (m : Int) = some (n : Int) := by
  obtain ⟨h1, h2⟩ := tmod_small a m (by omega)
  unfold pagemenderkit_Pick.f
  rw [if_neg (by omega), if_neg (by omega)]
  by_cases h : Int.tmod a (m : Int) < 0
  · refine ⟨(Int.tmod a (m : Int) + m).toNat, by omega, ?_⟩
    rw [if_pos h, wrap_small (by omega) (by omega)]
    congr 1; omega
  · refine ⟨(Int.tmod a (m : Int)).toNat, by omega, ?_⟩
    rw [if_neg h]
    congr 1; omega
theorem hexput_at (s : ByteArray) (hs : s.size ≤ 1000) : ascii_HexPut.f s = some ⟨(hexAll s.data.toList ++ [62]).toArray⟩ := by unfold ascii_HexPut.f; rw [if_pos (by omega)]
theorem put85_at (s : ByteArray) (hs : s.size ≤ 1000) : ascii_Put85.f s = some ⟨(put85 s.data.toList ++ [126, 62]).toArray⟩ := by unfold ascii_Put85.f; rw [if_pos (by omega)]
theorem hexget_at (s : ByteArray) (bud : Int) (hs : s.size ≤ 1000000) (o : List UInt8) (e : Int) (h : readS 1 s.data.toList bud = (o, e)) : ascii_HexGet.f s bud = some (⟨o.toArray⟩, e) := by unfold ascii_HexGet.f; rw [if_pos hs, h]
theorem get85_at (s : ByteArray) (bud : Int) (hs : s.size ≤ 1000000) (o : List UInt8) (e : Int) (h : readS 3 s.data.toList bud = (o, e)) : ascii_Get85.f s bud = some (⟨o.toArray⟩, e) := by unfold ascii_Get85.f; rw [if_pos hs, h]


def whites : ByteArray := ⟨#[0, 9, 10, 12, 13, 32]⟩
theorem white_at : ∀ n : Fin 6, (match (whites.extract n.val (n.val + 1)).data.toList with | [x] => clsN x.toNat == 1 | _ => false) = true := by decide +kernel
theorem white_one (n : Nat) (h : n < 6) : ∃ w : UInt8, (whites.extract n (n + 1)).data.toList = [w] ∧ clsN w.toNat = 1 := by
  have h1 := white_at ⟨n, h⟩
  simp only at h1
  split at h1
  · rename_i x hx; exact ⟨x, hx, by simpa using h1⟩
  · cases h1
theorem parts_list (y : ByteArray) (H K : List UInt8) (j : Nat) (hy : y.data.toList = H ++ K) (h : j ≤ H.length) : (y.extract 0 j).data.toList = H.take j ∧ (y.extract j y.size).data.toList = H.drop j ++ K := by
  refine ⟨?_, ?_⟩
  · rw [ext_list, hy, List.drop_zero, Nat.sub_zero, List.take_append_of_le_length h]
  · rw [ext_list, List.take_of_length_le (by rw [List.length_drop, ← Lib.size_eq]; exact Nat.le_refl _), hy, List.drop_append_of_le_length h]

theorem AsciiBlanks : pagemenderlaw12_AsciiBlanks.Pure := by
  intro s at_ wh hs hat hwh
  have hw8 : 0 ≤ wh ∧ wh < 256 := by
    simp [Lit.wf, IntKind.min, IntKind.max, IntKind.signed, IntKind.bits] at hwh
    omega
  unfold pagemenderlaw12_AsciiBlanks.f
  rw [lives_ok, Option.bind_some, if_pos rfl]
  by_cases h6 : (s.size : Int) > 600
  · rw [if_pos h6]
  · rw [if_neg h6]
    have hs6 : s.size ≤ 600 := by omega
    have sz := Lib.size_eq s
    have hl := hexAll_len s.data.toList
    have pl := put85_len s.data.toList
    -- the white byte
    obtain ⟨n, hn, hq⟩ : ∃ n : Nat, n < 6 ∧ Int.tmod wh 6 = (n : Int) := by
      have := tmod_small wh 6 (by omega)
      have h0 : 0 ≤ Int.tmod wh 6 := Int.tmod_nonneg 6 hw8.1
      exact ⟨(Int.tmod wh 6).toNat, by omega, by omega⟩
    have hq1 : ((n : Int) + 1) % 256 = ((n + 1 : Nat) : Int) := by omega
    obtain ⟨w, hw, hcw⟩ := white_one n hn
    obtain ⟨W, hW⟩ : ∃ W : ByteArray, W = whites.extract n (n + 1) := ⟨_, rfl⟩
    rw [← hW] at hw
    have wz : W.size = 1 := by rw [Lib.size_eq, hw]; rfl
    -- what is put
    obtain ⟨x, hx⟩ : ∃ x : ByteArray, x = ⟨(hexAll s.data.toList ++ [62]).toArray⟩ := ⟨_, rfl⟩
    obtain ⟨y, hy⟩ : ∃ y : ByteArray, y = ⟨(put85 s.data.toList ++ [126, 62]).toArray⟩ := ⟨_, rfl⟩
    have xl : x.data.toList = hexAll s.data.toList ++ [62] := by rw [hx]
    have yl : y.data.toList = put85 s.data.toList ++ [126, 62] := by rw [hy]
    have xz : x.size = 2 * s.size + 1 := by rw [Lib.size_eq, xl]; simp; omega
    have yz : y.size = (put85 s.data.toList).length + 2 := by rw [Lib.size_eq, yl]; simp
    have hp := hexput_at s (by omega)
    have pp := put85_at s (by omega)
    rw [← hx] at hp
    rw [← hy] at pp
    obtain ⟨i, hi, hpi⟩ := pick_ok at_ x.size (by omega) (by omega)
    obtain ⟨k, hk, hpk⟩ := pick_ok at_ (y.size - 1) (by omega) (by omega)
    have e1 : Aside0 (wrap64 ((y.size : Int) - 1) = ((y.size - 1 : Nat) : Int)) := Aside0.mk (by rw [wrap_small (by omega) (by omega)]; omega)
    obtain ⟨x1, x2⟩ := parts_list x _ [62] i xl (by omega)
    obtain ⟨y1, y2⟩ := parts_list y _ [126, 62] k yl (by omega)
    obtain ⟨xa, hxa⟩ : ∃ z : ByteArray, z = x.extract 0 i := ⟨_, rfl⟩
    obtain ⟨xb, hxb⟩ : ∃ z : ByteArray, z = x.extract i x.size := ⟨_, rfl⟩
    obtain ⟨ya, hya⟩ : ∃ z : ByteArray, z = y.extract 0 k := ⟨_, rfl⟩
    obtain ⟨yb, hyb⟩ : ∃ z : ByteArray, z = y.extract k y.size := ⟨_, rfl⟩
    rw [← hxa] at x1
    rw [← hxb] at x2
    rw [← hya] at y1
    rw [← hyb] at y2
    have xaz : xa.size = i := by rw [Lib.size_eq, x1, List.length_take]; omega
    have xbz : xb.size = 2 * s.size + 1 - i := by rw [Lib.size_eq, x2, List.length_append, List.length_drop]; simp; omega
    have yaz : ya.size = k := by rw [Lib.size_eq, y1, List.length_take]; omega
    have ybz : yb.size = (put85 s.data.toList).length - k + 2 := by rw [Lib.size_eq, y2, List.length_append, List.length_drop]; simp
    have c1 : (xa ++ W).size = i + 1 := by rw [ByteArray.size_append, xaz, wz]
    have c2 : ((xa ++ W) ++ xb).size ≤ 1000000 := by rw [ByteArray.size_append, c1, xbz]; omega
    have c3 : (ya ++ W).size = k + 1 := by rw [ByteArray.size_append, yaz, wz]
    have c4 : ((ya ++ W) ++ W).size = k + 2 := by rw [ByteArray.size_append, c3, wz]
    have c5 : (((ya ++ W) ++ W) ++ yb).size ≤ 1000000 := by rw [ByteArray.size_append, c4, ybz]; omega
    have g1 : ascii_HexGet.f ((xa ++ W) ++ xb) (s.size : Int) = some (⟨s.data.toList.toArray⟩, 0) := by
      refine hexget_at _ _ c2 _ _ ?_
      rw [app_list, app_list, x1, x2, hw, sz, List.append_assoc]
      exact hex_blank s.data.toList [] i w hcw
    have g2 : ascii_Get85.f (((ya ++ W) ++ W) ++ yb) (s.size : Int) = some (⟨s.data.toList.toArray⟩, 0) := by
      refine get85_at _ _ c5 _ _ ?_
      rw [app_list, app_list, app_list, y1, y2, hw, sz, List.append_assoc, List.append_assoc]
      exact blank_85 s.data.toList [] k w hcw
    have s2 : (⟨s.data.toList.toArray⟩ : ByteArray).toList = s.toList := rfl
    have t1 : Int.toNat (n : Int) = n := Int.toNat_natCast n
    have t2 : Int.toNat ((n + 1 : Nat) : Int) = n + 1 := Int.toNat_natCast _
    have t3 : Int.toNat (i : Int) = i := Int.toNat_natCast i
    have t4 : Int.toNat (k : Int) = k := Int.toNat_natCast k
    have hW' : (⟨#[0, 9, 10, 12, 13, 32]⟩ : ByteArray).extract n (n + 1) = W := hW.symm
    have d1 : (0 : Int) ≤ (n : Int) := by omega
    have d2 : (n : Int) ≤ ((n + 1 : Nat) : Int) := by omega
    have d3 : ((n + 1 : Nat) : Int) ≤ 6 := by omega
    have d4 : ¬ ((y.size : Int) < 2) := by omega
    have d5 : (0 : Int) ≤ (i : Int) := by omega
    have d6 : (i : Int) ≤ (x.size : Int) := by omega
    have d7 : xa.size + W.size ≤ 9223372036854775807 := by omega
    have d8 : (xa ++ W).size + xb.size ≤ 9223372036854775807 := by omega
    have d9 : (0 : Int) ≤ (k : Int) := by omega
    have d10 : (k : Int) ≤ (y.size : Int) := by omega
    have d11 : ya.size + W.size ≤ 9223372036854775807 := by omega
    have d12 : (ya ++ W).size + W.size ≤ 9223372036854775807 := by omega
    have d13 : ((ya ++ W) ++ W).size + yb.size ≤ 9223372036854775807 := by omega
    rw [hq, hq1, if_pos d1, if_pos d2, if_pos d3, hp, Option.bind_some, pp, Option.bind_some, if_neg d4, hpi, Option.bind_some, e1.out, hpk, Option.bind_some]
    rw [t1, t2, t3, t4, hW', ← hxa, ← hxb, ← hya, ← hyb]
    rw [if_pos d5, if_pos d6, if_pos d7, if_pos d8, g1, Option.bind_some, if_pos d9, if_pos d10, if_pos d11, if_pos d12, if_pos d13, g2, Option.bind_some]
    dsimp only
    rw [s2, if_pos rfl, if_pos rfl, if_pos rfl]
    simp
end Go.Proofs.Ytjgbnaejeeinbaa.Pure
