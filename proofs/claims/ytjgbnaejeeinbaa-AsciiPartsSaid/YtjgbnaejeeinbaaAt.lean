/-
  AsciiParts: the walk.
-/
import Derived.Test.YtjgbnaejeeinbaaAu
import Derived.Test.YtjgbnaejeeinbaaARx1
import Derived.Test.YtjgbnaejeeinbaaAh
import Derived.Test.YtjgbnaejeeinbaaAp
import Derived.Test.YtjgbnaejeeinbaaAd
import Derived.Deep.RegionWith
import Derived.Deep.RegionHeld3
import Derived.Maps.OwnSet
import Derived.Lib.Hide
import Derived.Test.YtjgbnaejeeinbaaWLast
import Derived.Test.YtjgbnaejeeinbaaWMore
namespace Go.Proofs.Ytjgbnaejeeinbaa
open Go.RowKit Go.Proofs.YtjgbnaejeeinbaaW.PrintWords Go.Proofs.YtjgbnaejeeinbaaW.PrintLast
set_option linter.unusedVariables false
set_option linter.unusedSimpArgs false

theorem ar_lives : AR.pagemenderlaw12_lives.f = some true := by decide +kernel
theorem parts_far (s t : ByteArray) (w : World) (h : (600 : Int) < (s.size : Int) ∨ ¬ ((600 : Int) < (s.size : Int)) ∧ (600 : Int) < (t.size : Int)) :
    Calls Try.prog 4 #[.string s, .string t] w fun e w' => e = .returned (.bool true) ∧ Below w.heap.size w w' := by
  rcases h with h | ⟨h, h2⟩
  · go_enter Try.func4, Try.ntmps4
    go_wp2_with (go_at_call 8; (with_reducible refine (AR.pagemenderlaw12_lives.calls true _ ar_lives).mono ?_); rintro e w1 ⟨rfl, hb1⟩)
    go_ret
    exact ⟨rfl, hb1⟩
  · go_enter Try.func4, Try.ntmps4
    go_wp2_with (go_at_call 8; (with_reducible refine (AR.pagemenderlaw12_lives.calls true _ ar_lives).mono ?_); rintro e w1 ⟨rfl, hb1⟩)
    go_ret
    exact ⟨rfl, hb1⟩

set_option maxRecDepth 100000 in
set_option maxHeartbeats 1600000 in
theorem parts_main (s t v A B C D : ByteArray) (w : World) (c1 : ¬ ((600 : Int) < (s.size : Int))) (c2 : ¬ ((600 : Int) < (t.size : Int)))
    (hv : v = s.extract 0 (s.size / 4 * 4)) (PA : Aside0 (ascii_Put85.f v = some A)) (PB : Aside0 (ascii_Put85.f t = some B)) (PC : Aside0 (ascii_HexPut.f v = some C)) (PD : Aside0 (ascii_HexPut.f t = some D))
    (PE : Aside0 (ascii_Put85.f (v ++ t) = some (A.extract 0 (A.size - 2) ++ B))) (PF : Aside0 (ascii_HexPut.f (v ++ t) = some (C.extract 0 (C.size - 1) ++ D)))
    (PG : Aside0 (ascii_HexGet.f ⟨(lows C.data.toList C.size).toArray⟩ v.size = some (v, 0))) (a2 : ¬ ((A.size : Int) < 2)) (a3 : A.size ≤ 4000) (k1 : ¬ ((C.size : Int) < 1)) (k2 : C.size ≤ 4000) (b3 : B.size ≤ 4000) (d3 : D.size ≤ 4000) (v3 : v.size ≤ 600) :
    Calls Try.prog 4 #[.string s, .string t] w fun e w' => e = .returned (.bool true) ∧ Below w.heap.size w w' := by
  have hcb := fun (W : World) => Lib.run_convert_string_bytes (P := Try.prog) W 9 26 5 C Try.underlying9 Try.underlying26 Try.underlying5
  go_enter Try.func4, Try.ntmps4
  go_upto_region 6 with (go_at_call 8; (with_reducible refine (AR.pagemenderlaw12_lives.calls true _ ar_lives).mono ?_); rintro e w1 ⟨rfl, hb1⟩)
  rw [← hv]
  clear hv
  go_wp2_with (first
    | (go_at_call_of 10 t; (with_reducible refine (ascii_Put85.calls t B _ PB.out).mono ?_); rintro e w3 ⟨rfl, hb3⟩)
    | (go_at_call_of 10 v; (with_reducible refine (ascii_Put85.calls v A _ PA.out).mono ?_); rintro e w2 ⟨rfl, hb2⟩)
    | (go_at_call 9; (with_reducible refine (ascii_HexPut.calls v C _ PC.out).mono ?_); rintro e w4 ⟨rfl, hb4⟩))
  have HBB : Aside0 (Below w.heap.size w w4) := Aside0.mk (by
    have g1 := hb1
    have g2 := g1.trans (hb2.mono g1.size)
    have g3 := g2.trans (hb3.mono g2.size)
    exact g3.trans (hb4.mono g3.size))
  clear hb1 hb2 hb3 hb4
  obtain ⟨l, hl⟩ : ∃ l, l = C.data.toList := ⟨_, rfl⟩
  have hlz : l.length = C.size := by rw [hl, Lib.size_eq]
  have HN : Aside0 (Sm w4.heap.size (lows l 0) (Lib.bytesWorld w4 5 C)) := Aside0.mk (by rw [lows_zero, hl]; exact sm_new w4 C)
  rw [← hl] at PG
  clear hl hcb
  go_loopg [9] C.size (fun g s9 wx => ∃ (i : Nat), i + g = C.size ∧ s9 = .int .i64 i ∧ Aside0 (Sm w4.heap.size (lows l i) wx ∧ Below w.heap.size w wx))
  case atStart => exact ⟨0, by omega, by first | rfl | simp, Aside0.mk ⟨HN.out, HBB.out.trans (below_new w4 C HBB.out.size)⟩⟩
  case round =>
    obtain ⟨i, hig, rfl, HI⟩ := hrel
    cases gk with
    | zero =>
      have hz : ¬ ((i : Int) < (C.size : Int)) := by omega
      have hi : i = C.size := by omega
      subst hi
      have hcv := sm_str HI.out.1 C.size (grownCap w4 C.size 0 5) (by rw [lows_len _ _ (by omega), hlz])
      go_upto_region 16 with (go_at_call 12; (with_reducible refine (ascii_HexGet.calls _ _ v 0 _ PG.out).mono ?_); rintro e w5 ⟨rfl, hb5⟩)
      clear hcv
      have HB5 : Aside0 (Below w.heap.size w w5) := Aside0.mk (HI.out.2.trans (hb5.mono HI.out.2.size))
      clear hb5 hz
      have x1 : IntKind.i64.wrap ((A.size : Int) - 2) = (A.size : Int) - 2 := IntWalk.i64_in _ ⟨by omega, by omega⟩
      have x2 : (0 : Int) ≤ (A.size : Int) - 2 := by omega
      have x3 : ((A.size : Int) - 2).toNat = A.size - 2 := by omega
      have x4 : IntKind.i64.wrap ((C.size : Int) - 1) = (C.size : Int) - 1 := IntWalk.i64_in _ ⟨by omega, by omega⟩
      have x5 : (0 : Int) ≤ (C.size : Int) - 1 := by omega
      have x6 : ((C.size : Int) - 1).toNat = C.size - 1 := by omega
      have x7 : (A.size : Int) - 2 ≤ (A.size : Int) := by omega
      have x8 : (C.size : Int) - 1 ≤ (C.size : Int) := by omega
      have x9 : A.size - 2 ≤ A.size := by omega
      have x10 : C.size - 1 ≤ C.size := by omega
      have y1 : (9223372036854775807 < v.size + t.size) = False := eq_false (by omega)
      have y2 : (9223372036854775807 < A.size - 2 + B.size) = False := eq_false (by omega)
      have y3 : (9223372036854775807 < C.size - 1 + D.size) = False := eq_false (by omega)
      have y4 : (9223372036854775807 < min (A.size - 2) A.size + B.size) = False := eq_false (by omega)
      have y5 : (9223372036854775807 < min (C.size - 1) C.size + D.size) = False := eq_false (by omega)
      go_region_held3 (fun w' => Below w.heap.size w w')
        (first | assumption | exact below_drew1 HB5.out | exact below_step (by assumption) hb8 | exact below_step (by assumption) hb7 | exact below_step (by assumption) hb6)
        (first
        | (go_at_call 10; (with_reducible refine (ascii_Put85.calls (v ++ t) _ _ PE.out).mono ?_); rintro e w6 ⟨rfl, hb6⟩)
        | (go_at_call_of 9 v; (with_reducible refine (ascii_HexPut.calls (v ++ t) _ _ PF.out).mono ?_); rintro e w7 ⟨rfl, hb7⟩)
        | (go_at_call 9; (with_reducible refine (ascii_HexPut.calls t D _ PD.out).mono ?_); rintro e w8 ⟨rfl, hb8⟩))
      all_goals (go_wp2_with fail; go_ret; exact ⟨rfl, by assumption⟩)
    | succ g =>
      have hz : (i : Int) < (C.size : Int) := by omega
      have hi : i < l.length := by omega
      obtain ⟨c, hc⟩ : ∃ c, c = l[i] := ⟨_, rfl⟩
      have k0 := sm_cell HI.out.1 i c (by rw [lows_at l i hi, hc])
      have k1 := sm_frozen HI.out.1 i (by rw [lows_len l i (by omega)]; exact hi)
      have HS : Aside0 (Sm w4.heap.size (lows l (i + 1)) (wr.setCell ⟨w4.heap.size, i, none⟩ (.int .u8 ((low c).toNat : Int)))) := Aside0.mk (by
        rw [← lows_set l i hi, ← hc]
        exact sm_set HI.out.1 i (low c) _ rfl (by rw [lows_len l i (by omega)]; exact hi))
      have HK : Aside0 (low c = c → Sm w4.heap.size (lows l (i + 1)) wr) := Aside0.mk (fun e => by
        rw [lows_same l i hi (by rw [← hc]; exact e)]; exact HI.out.1)
      clear hc hi
      by_cases h1 : (65 : Int) ≤ (c.toNat : Int)
      · by_cases h2 : (c.toNat : Int) ≤ 70
        · have e1 : IntKind.u8.wrap ((c.toNat : Int) + 32) = ((low c).toNat : Int) := by
            rw [IntWalk.u8_in _ ⟨by omega, by omega⟩]
            unfold low
            rw [if_pos ⟨by omega, by omega⟩, UInt8.toNat_ofNat']
            omega
          go_wp2_with fail
          go_roundg g
          case measure => omega
          case rel => exact ⟨i + 1, by omega, by first | rfl | simp, Aside0.mk ⟨HS.out, below_cell HI.out.2 HBB.out.size i _⟩⟩
        · have HL : Aside0 (low c = c) := Aside0.mk (by unfold low; rw [if_neg (by omega)])
          go_wp2_with fail
          go_roundg g
          case measure => omega
          case rel => exact ⟨i + 1, by omega, by first | rfl | simp, Aside0.mk ⟨HK.out HL.out, HI.out.2⟩⟩
      · have HL : Aside0 (low c = c) := Aside0.mk (by unfold low; rw [if_neg (by omega)])
        go_wp2_with fail
        go_roundg g
        case measure => omega
        case rel => exact ⟨i + 1, by omega, by first | rfl | simp, Aside0.mk ⟨HK.out HL.out, HI.out.2⟩⟩
theorem put85_fits (s : ByteArray) (h : s.size ≤ 1200) : ascii_Put85.f s = some ⟨(put85 s.data.toList ++ [126, 62]).toArray⟩ := by unfold ascii_Put85.f; rw [if_pos (by omega)]
theorem hexput_fits (s : ByteArray) (h : s.size ≤ 1200) : ascii_HexPut.f s = some ⟨(hexAll s.data.toList ++ [62]).toArray⟩ := by unfold ascii_HexPut.f; rw [if_pos (by omega)]
theorem cut_app (x y : List UInt8) (n : Nat) (B : ByteArray) (hn : n = x.length) : ((⟨(x ++ y).toArray⟩ : ByteArray).extract 0 n) ++ B = ⟨(x ++ B.data.toList).toArray⟩ := by
  apply ByteArray.ext
  apply Array.ext'
  rw [app_list, ext_list]
  subst hn
  simp
theorem parts_calls (s t : ByteArray) (w : World) : Calls Try.prog 4 #[.string s, .string t] w fun e w' => e = .returned (.bool true) ∧ Below w.heap.size w w' := by
  by_cases c1 : (600 : Int) < (s.size : Int)
  · exact parts_far s t w (.inl c1)
  by_cases c2 : (600 : Int) < (t.size : Int)
  · exact parts_far s t w (.inr ⟨c1, c2⟩)
  obtain ⟨v, hv⟩ : ∃ v, v = s.extract 0 (s.size / 4 * 4) := ⟨_, rfl⟩
  have vz : v.size = s.size / 4 * 4 := by rw [hv, ByteArray.size_extract]; omega
  have vl : v.data.toList.length = s.size / 4 * 4 := by rw [← Lib.size_eq, vz]
  have tl := Lib.size_eq t
  have p1 := put85_len4 v.data.toList
  have p2 := put85_len4 t.data.toList
  have h1 := hexAll_len v.data.toList
  have h2 := hexAll_len t.data.toList
  have za : (⟨(put85 v.data.toList ++ [126, 62]).toArray⟩ : ByteArray).size = (put85 v.data.toList).length + 2 := by rw [size_mk]; simp
  have zb : (⟨(put85 t.data.toList ++ [126, 62]).toArray⟩ : ByteArray).size = (put85 t.data.toList).length + 2 := by rw [size_mk]; simp
  have zc : (⟨(hexAll v.data.toList ++ [62]).toArray⟩ : ByteArray).size = (hexAll v.data.toList).length + 1 := by rw [size_mk]; simp
  have zd : (⟨(hexAll t.data.toList ++ [62]).toArray⟩ : ByteArray).size = (hexAll t.data.toList).length + 1 := by rw [size_mk]; simp
  have vt : (v ++ t).size = v.size + t.size := ByteArray.size_append
  refine parts_main s t v _ _ _ _ w c1 c2 hv (Aside0.mk (put85_fits v (by omega))) (Aside0.mk (put85_fits t (by omega))) (Aside0.mk (hexput_fits v (by omega))) (Aside0.mk (hexput_fits t (by omega))) (Aside0.mk ?_) (Aside0.mk ?_) (Aside0.mk ?_) (by rw [za]; omega) (by rw [za]; omega) (by rw [zc]; omega) (by rw [zc]; omega) (by rw [zb]; omega) (by rw [zd]; omega) (by omega)
  · rw [put85_fits _ (by omega), cut_app _ _ _ _ (by rw [za]; omega), app_list, put85_app _ _ (by rw [vl]; omega), List.append_assoc]
  · rw [hexput_fits _ (by omega), cut_app _ _ _ _ (by rw [zc]; omega), app_list, hexAll_app, List.append_assoc]
  · have e : lows (hexAll v.data.toList ++ [62]) (⟨(hexAll v.data.toList ++ [62]).toArray⟩ : ByteArray).size = (hexAll v.data.toList ++ [62]).map low := by
      rw [size_mk]; exact lows_all _
    show ascii_HexGet.f ⟨(lows (hexAll v.data.toList ++ [62]) _).toArray⟩ _ = _
    rw [e]
    have g := low_get v.data.toList
    unfold ascii_HexGet.f
    rw [if_pos (by rw [size_mk]; simp; omega)]
    show some ((⟨(readS 1 ((hexAll v.data.toList ++ [62]).map low) (v.size : Int)).1.toArray⟩ : ByteArray), (readS 1 ((hexAll v.data.toList ++ [62]).map low) (v.size : Int)).2) = _
    rw [Lib.size_eq v, g]
end Go.Proofs.Ytjgbnaejeeinbaa
