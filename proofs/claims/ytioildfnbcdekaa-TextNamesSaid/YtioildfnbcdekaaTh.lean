/-
  The contract of text.Hex.
-/
import Derived.Test.YtioildfnbcdekaaTx
import Derived.Test.YtioildfnbcdekaaTl
import Derived.Test.YtioildfnbcdekaaEx1
import Derived.StillTailTactics
namespace Go.Proofs.Ytioildfnbcdekaa
open Go.RowKit Go.Proofs.Ytioildfnbcdekaa.E Go.Proofs.YtioildfnbcdekaaW.PrintWords Go.Proofs.YtioildfnbcdekaaW.PrintLast
set_option linter.unusedVariables false
set_option linter.unusedSimpArgs false

theorem hex_all : ∀ n : Fin 256, class_Hex.f 1 (n.val : Int) = some (hexv (UInt8.ofNat n.val)) := by decide +kernel
theorem hex_byte (c : UInt8) : class_Hex.f 1 (c.toNat : Int) = some (hexv c) := by
  have h := hex_all ⟨c.toNat, c.toNat_lt⟩
  simpa using h
theorem white_byte (c : UInt8) : class_White.f (c.toNat : Int) = some (clsN c.toNat == 1) := by
  unfold class_White.f; rw [if_pos (byte_lt c)]; simp

def byteRow (l : List UInt8) : List Value := l.map fun c => .int .u8 (c.toNat : Int)

theorem below_row {B n size : Nat} {w w1 w2 : World} {e : TypeId} {v : Value} {xs : List Value} (h : Below B w w1) (hB : B ≤ w1.heap.size) (hrow : w1.ownsRow B e size v n xs) (hg : w1.grownBy w2 v.ownBlock) : Below B w w2 := by
  refine ⟨hg.os.trans h.os, hg.tape.trans h.tape, hg.output.trans h.output, Nat.le_trans h.size hg.size, fun k hk => ?_⟩
  refine (hg.block k (by omega) ?_).trans (h.block k hk)
  intro e
  have := (hrow.lt k e.symm).1
  omega
theorem one_cell (w : World) (x : Value) (T : TypeId) : ∀ (j : Nat) (u : Value), [x][j]? = some u → (w.alloc (.cells #[x] T)).cell? ((⟨w.heap.size, 0, none⟩ : Addr).add j) = some u := by
  intro j u hj
  match j, hj with
  | 0, hj =>
    have e : u = x := by simpa using hj.symm
    subst e
    have : ((⟨w.heap.size, 0, none⟩ : Addr).add 0) = ⟨w.heap.size, 0, none⟩ := by simp [Addr.add]
    rw [this, Lib.cell_of_heap (heap_alloc_new w _)]
    rfl
theorem row_block {w : World} {B n : Nat} {A : Option Addr} {c : Nat} {e : TypeId} {xs : List Value} (h : w.ownsRow B e 1 (.slice A n c) n xs) (h0 : 0 < n) : ∃ g, A = some ⟨g, 0, none⟩ := by
  obtain ⟨g, cap, hv, _⟩ := h.form h0
  injection hv with h1 h2 h3
  exact ⟨g, h1⟩
theorem row_cells {w : World} {B n : Nat} {v : Value} {e : TypeId} {l : List UInt8} (h : w.ownsRow B e 1 v n (byteRow l)) (i : Nat) (hi : i < l.length) : ∀ g, v.ownBlock = some g → w.cell? ⟨g, i, none⟩ = some (.int .u8 (l[i].toNat : Int)) := by
  intro g hg
  have := h.cells hg i (.int .u8 (l[i].toNat : Int)) (by simp [byteRow, hi])
  have e : ((⟨g, 0, none⟩ : Addr).add i) = ⟨g, i, none⟩ := by unfold Addr.add; split <;> simp_all
  rw [e] at this
  exact this
theorem pairs_step (l : List UInt8) (i : Nat) (put : List UInt8) (h : i + 1 < l.length) (he : put ++ pairs (l.drop i) = pairs l) : (put ++ [16 * l[i] + l[i + 1]]) ++ pairs (l.drop (i + 2)) = pairs l := by
  rw [← he, List.drop_eq_getElem_cons (by omega : i < l.length), List.drop_eq_getElem_cons h]
  simp [pairs]
theorem u8_pair (x y : UInt8) : IntKind.u8.wrap (IntKind.u8.wrap (16 * (x.toNat : Int)) + (y.toNat : Int)) = ((16 * x + y : UInt8).toNat : Int) := by
  rw [IntKind.wrap_u8, IntKind.wrap_u8]
  have : (16 * x + y : UInt8).toNat = (16 * x.toNat % 256 + y.toNat) % 256 := by
    rw [UInt8.toNat_add, UInt8.toNat_mul]; rfl
  rw [this]
  omega

theorem u8_sum (x y : UInt8) : (16 * (x.toNat : Int) + (y.toNat : Int)) % 256 = ((16 * x + y : UInt8).toNat : Int) := by
  rw [← u8_pair, IntKind.wrap_u8, IntKind.wrap_u8]; omega

set_option maxRecDepth 100000 in
set_option maxHeartbeats 4000000 in
theorem hex_in (s : ByteArray) (a : Nat) (w : World) (hs : s.size ≤ 140737488351232) (ha : a < s.size) (hc : s[a] = 60) :
    Calls Try.prog 14 #[.string s, .int .i64 (a : Int)] w fun e w' => e = .returned (.tuple #[.string ⟨(hexR s a).1.toArray⟩, .int .i64 (hexR s a).2.1, .int .i64 (hexR s a).2.2]) ∧ Below w.heap.size w w' := by
  obtain ⟨i0, hi, hz0, hz1, hz2⟩ := info_parts by_info
  have ha' : (a : Int) < (s.size : Int) := by omega
  have hc' : ((s[a].toNat : Int) != 60) = false := by rw [hc]; rfl
  have ha0 : decide ((a : Int) < 0) = false := decide_eq_false (by omega)
  have ha1 : decide (s.size ≤ a) = false := decide_eq_false (by omega)
  go_enter Try.func14, Try.ntmps14
  go_wp2_with fail
  go_loopg [1, 7] (s.size - (a + 1)) (fun g s1 s7 wx => ∃ (p : Nat) (digs : List UInt8), p + g = s.size ∧ s1 = .int .i64 p ∧ Aside0 (HexAt s a p digs) ∧ wx.ownsRow w.heap.size 5 1 s7 digs.length (byteRow digs) ∧ Below w.heap.size w wx)
  case atStart => exact ⟨a + 1, [], by omega, by first | rfl | simp, Aside0.mk (hexat_start s a ha), World.ownsRow_nil _ _ _ _, Below.refl _ _⟩
  case round =>
    obtain ⟨p, digs, hpg, rfl, HA, hrow, hbx⟩ := hrel
    have HX := Aside0.mk hbx
    clear hbx
    by_cases hz : p < s.size
    · have hz' : (p : Int) < (s.size : Int) := by omega
      have hdl : digs.length ≤ p := HA.out.2.2.1
      by_cases c1 : s[p] = 62
      · have c1' : ((s[p].toNat : Int) != 62) = false := by rw [c1]; rfl
        have HSH := Aside0.mk (hexat_shut HA.out hz c1)
        clear c1
        generalize wr = w1 at *
        have hpe : ((p : Int) == (s.size : Int)) = false := by rw [beq_eq_false_iff_ne]; omega
        obtain ⟨A, c, rfl⟩ := own_slice hrow
        by_cases hpar : digs.length % 2 = 0
        · have hrem : ((digs.length : Int) % 2 != 0) = false := by rw [bne_eq_false_iff_eq]; omega
          have HF : Aside0 (Lib.IsBuilder 37 5 w1.heap.size w1.heap.size (Lib.byteCells []) (w1.alloc (.cells #[.pointer none, .slice none 0 0] 37))) := Aside0.mk (Lib.fresh_isBuilder 37 5 w1)
          go_wp2_with fail
          go_loopg [10] digs.length (fun g s10 wx => ∃ (i : Nat) (put : List UInt8), i + g = digs.length ∧ i % 2 = 0 ∧ s10 = .int .i64 i ∧ Aside0 (put ++ pairs (digs.drop i) = pairs digs ∧ put.length ≤ i) ∧ Aside0 (Lib.IsBuilder 37 5 w1.heap.size w1.heap.size (Lib.byteCells put) wx ∧ Below w1.heap.size w1 wx))
          case atStart => exact ⟨0, [], by omega, by omega, by first | rfl | simp, Aside0.mk ⟨by simp, by simp⟩, Aside0.mk ⟨HF.out, (Below.refl _ _).alloc (Nat.le_refl _) _⟩⟩
          case round =>
            obtain ⟨i, put, hig, hi2, rfl, HP, HI⟩ := hrel
            by_cases hzi : i < digs.length
            · have hzi' : (i : Int) < (digs.length : Int) := by omega
              have hi1 : i + 1 < digs.length := by omega
              have hrx := pw_own_below hrow HI.out.2
              have hx := row_cells hrx i hzi
              have hy := row_cells hrx (i + 1) hi1
              obtain ⟨g0, hA⟩ := row_block hrx (by omega)
              subst hA
              have hx' := Aside0.mk (hx g0 rfl)
              have hy' := Aside0.mk (hy g0 rfl)
              clear hx hy hrx
              have HPn := Aside0.mk (pairs_step digs i put hi1 HP.out.1)
              have HLn : Aside0 ((Lib.byteCells put).length + 1 ≤ 140737488355328) := Aside0.mk (by rw [cells_len]; have := HP.out.2; omega)
              obtain ⟨x, hxd⟩ : ∃ x, x = digs[i] := ⟨_, rfl⟩
              obtain ⟨y, hyd⟩ : ∃ y, y = digs[i + 1] := ⟨_, rfl⟩
              rw [← hxd] at hx' HPn
              rw [← hyd] at hy' HPn
              have hx2 := hx'.out
              have hy2 := hy'.out
              have hsum : IntKind.u8.wrap (IntKind.u8.wrap (16 * (x.toNat : Int)) + (y.toNat : Int)) = ((16 * x + y : UInt8).toNat : Int) := u8_pair x y
              have hw1 : IntKind.i64.wrap ((i : Int) + 1) = (i : Int) + 1 := IntWalk.i64_in _ ⟨by omega, by omega⟩
              have hi1' : (i : Int) + 1 < (digs.length : Int) := by omega
              have hnn : (0 : Int) ≤ (i : Int) + 1 := by omega
              have hnt : ((i : Int) + 1).toNat = i + 1 := by omega
              clear hxd hyd
              go_wp2_with fail
              go_still_tail 11, (by kernel_rfl)
              change wpList _ _ _ _ _ wr.drew
              go_wp2_with (go_at_call 19; (with_reducible refine (bu_WriteByte w1.heap.size w1.heap.size (Lib.byteCells put) _ _ (isb_keep HI.out (Below.drew (Below.refl _ _))).1 HLn.out (isb_keep HI.out (Below.drew (Below.refl _ _))).2.size).mono ?_); rintro e w3 ⟨rfl, hb3⟩; have HW := Aside0.mk hb3; clear hb3)
              go_roundg (gk - 2)
              case measure => omega
              case rel => exact ⟨i + 2, put ++ [16 * x + y], by omega, by omega, by first | rfl | simp, Aside0.mk ⟨HPn.out, by have := HP.out.2; simp; omega⟩, Aside0.mk ⟨.inr (by have := HW.out.1; rw [u8_sum] at this; rw [← cells_snoc]; exact this), (isb_keep HI.out (Below.drew (Below.refl _ _))).2.trans HW.out.2⟩⟩
            · have hzi' : ¬ ((i : Int) < (digs.length : Int)) := by omega
              have HPP : Aside0 (put = pairs digs) := Aside0.mk (by have := HP.out.1; rw [List.drop_of_length_le (by omega)] at this; exact (show put = pairs digs by simpa [pairs] using this).trans rfl)
              by_cases hlong : 65536 < put.length
              · have hlong' : (65536 : Int) < ((Lib.byteCells put).length : Int) := by rw [cells_len]; omega
                have HR : Aside0 (hexR s a = ([], 0, 3)) := Aside0.mk (by unfold hexR; rw [HSH.out]; simp only; rw [if_neg (by simp), if_pos (by rw [← HPP.out]; exact hlong)])
                clear hlong
                go_wp2_with (go_at_call 20; (with_reducible refine (Try.Builder_Len w1.heap.size w1.heap.size _ _ HI.out.1).mono ?_); rintro e w2 ⟨rfl, rfl⟩)
                go_ret3
                exact ⟨ret_three (by rw [HR.out]) (by rw [HR.out]) (by rw [HR.out]), HX.out.trans (HI.out.2.mono HX.out.size)⟩
              · have hlong' : ((Lib.byteCells put).length : Int) ≤ 65536 := by rw [cells_len]; omega
                have hap : a + 1 ≤ p := HA.out.1
                have HR : Aside0 (hexR s a = (put, (p : Int) + 1, 0)) := Aside0.mk (by unfold hexR; rw [HSH.out]; simp only; rw [if_neg (by simp), if_neg (by rw [← HPP.out]; exact hlong), ← HPP.out]; congr 2; omega)
                clear hlong
                go_wp2_with (first | (go_at_call 20; (with_reducible refine (Try.Builder_Len w1.heap.size w1.heap.size _ _ HI.out.1).mono ?_); rintro e w2 ⟨rfl, rfl⟩) | (go_at_call 21; (with_reducible refine (Try.Builder_String_any w1.heap.size w1.heap.size _ _ HI.out.1 HI.out.2.size).mono ?_); rintro e w2 ⟨rfl, hs2⟩; have HS2 := Aside0.mk hs2; clear hs2))
                go_ret3
                exact ⟨ret_three (by rw [HR.out]) (by rw [HR.out]) (by rw [HR.out]), HX.out.trans ((HI.out.2.trans HS2.out).mono HX.out.size)⟩
        · have hrem : ((digs.length : Int) % 2 != 0) = true := by rw [bne_iff_ne]; omega
          have hpar4 : (digs ++ [0]).length % 2 = 0 := by simp; omega
          have hp4 : pairs (digs ++ [0]) = pairs digs := pairs_odd digs hpar
          go_wp2_with (at_builtin; refine wpList_append_own _ rfl _ _ 33 rfl w.heap.size 5 i0 (.int .u8 0) 1 1 Try.underlying33 hi hz0 hz1 hz2 rfl (by decide) _ _ _ rfl (hrow.alloc _) ⟨w1.heap.size, 0, none⟩ 1 1 [.int .u8 0] rfl rfl ?c1 ?c2 ?c3 ?c4 ?c5 ?_)
          case c1 => exact one_cell _ _ _
          case c2 => intro u hu; simp at hu; subst hu; rfl
          case c3 => unfold maxLen; omega
          case c4 => omega
          case c5 => have := HX.out.size; simp; omega
          intro v' w4 hown4 hgrow4 _
          have HX4 := Aside0.mk (below_row (HX.out.alloc HX.out.size (.cells #[.int .u8 0] 5)) (by have := HX.out.size; simp; omega) (hrow.alloc (.cells #[.int .u8 0] 5)) hgrow4)
          have hrow4 : w4.ownsRow w.heap.size 5 1 v' (digs ++ [0]).length (byteRow (digs ++ [0])) := by
            have e : byteRow (digs ++ [0]) = byteRow digs ++ [.int .u8 0] := by simp [byteRow]
            rw [e, List.length_append]; exact hown4
          have hLl : (digs ++ [0]).length ≤ 140737488351233 := by simp; omega
          have hDl : digs.length + 1 = (digs ++ [0]).length := by simp
          rw [hDl] at hown4
          generalize digs ++ [0] = L at *
          obtain ⟨A, c, rfl⟩ := own_slice hrow4
          have HF : Aside0 (Lib.IsBuilder 37 5 w4.heap.size w4.heap.size (Lib.byteCells []) (w4.alloc (.cells #[.pointer none, .slice none 0 0] 37))) := Aside0.mk (Lib.fresh_isBuilder 37 5 w4)
          go_wp2_with fail
          go_loopg [10] L.length (fun g s10 wx => ∃ (i : Nat) (put : List UInt8), i + g = L.length ∧ i % 2 = 0 ∧ s10 = .int .i64 i ∧ Aside0 (put ++ pairs (L.drop i) = pairs L ∧ put.length ≤ i) ∧ Aside0 (Lib.IsBuilder 37 5 w4.heap.size w4.heap.size (Lib.byteCells put) wx ∧ Below w4.heap.size w4 wx))
          case atStart => exact ⟨0, [], by omega, by omega, by first | rfl | simp, Aside0.mk ⟨by simp, by simp⟩, Aside0.mk ⟨HF.out, (Below.refl _ _).alloc (Nat.le_refl _) _⟩⟩
          case round =>
            obtain ⟨i, put, hig, hi2, rfl, HP, HI⟩ := hrel
            by_cases hzi : i < L.length
            · have hzi' : (i : Int) < (L.length : Int) := by omega
              have hi1 : i + 1 < L.length := by omega
              have hrx := pw_own_below hrow4 HI.out.2
              have hx := row_cells hrx i hzi
              have hy := row_cells hrx (i + 1) hi1
              obtain ⟨g0, hA⟩ := row_block hrx (by omega)
              subst hA
              have hx' := Aside0.mk (hx g0 rfl)
              have hy' := Aside0.mk (hy g0 rfl)
              clear hx hy hrx
              have HPn := Aside0.mk (pairs_step L i put hi1 HP.out.1)
              have HLn : Aside0 ((Lib.byteCells put).length + 1 ≤ 140737488355328) := Aside0.mk (by rw [cells_len]; have := HP.out.2; omega)
              obtain ⟨x, hxd⟩ : ∃ x, x = L[i] := ⟨_, rfl⟩
              obtain ⟨y, hyd⟩ : ∃ y, y = L[i + 1] := ⟨_, rfl⟩
              rw [← hxd] at hx' HPn
              rw [← hyd] at hy' HPn
              have hx2 := hx'.out
              have hy2 := hy'.out
              have hsum : IntKind.u8.wrap (IntKind.u8.wrap (16 * (x.toNat : Int)) + (y.toNat : Int)) = ((16 * x + y : UInt8).toNat : Int) := u8_pair x y
              have hw1 : IntKind.i64.wrap ((i : Int) + 1) = (i : Int) + 1 := IntWalk.i64_in _ ⟨by omega, by omega⟩
              have hi1' : (i : Int) + 1 < (L.length : Int) := by omega
              have hnn : (0 : Int) ≤ (i : Int) + 1 := by omega
              have hnt : ((i : Int) + 1).toNat = i + 1 := by omega
              clear hxd hyd
              go_wp2_with fail
              go_still_tail 11, (by kernel_rfl)
              change wpList _ _ _ _ _ wr.drew
              go_wp2_with (go_at_call 19; (with_reducible refine (bu_WriteByte w4.heap.size w4.heap.size (Lib.byteCells put) _ _ (isb_keep HI.out (Below.drew (Below.refl _ _))).1 HLn.out (isb_keep HI.out (Below.drew (Below.refl _ _))).2.size).mono ?_); rintro e w3 ⟨rfl, hb3⟩; have HW := Aside0.mk hb3; clear hb3)
              go_roundg (gk - 2)
              case measure => omega
              case rel => exact ⟨i + 2, put ++ [16 * x + y], by omega, by omega, by first | rfl | simp, Aside0.mk ⟨HPn.out, by have := HP.out.2; simp; omega⟩, Aside0.mk ⟨.inr (by have := HW.out.1; rw [u8_sum] at this; rw [← cells_snoc]; exact this), (isb_keep HI.out (Below.drew (Below.refl _ _))).2.trans HW.out.2⟩⟩
            · have hzi' : ¬ ((i : Int) < (L.length : Int)) := by omega
              have HPP : Aside0 (put = pairs digs) := Aside0.mk (by have := HP.out.1; rw [List.drop_of_length_le (by omega)] at this; exact (show put = pairs L by simpa [pairs] using this).trans hp4)
              by_cases hlong : 65536 < put.length
              · have hlong' : (65536 : Int) < ((Lib.byteCells put).length : Int) := by rw [cells_len]; omega
                have HR : Aside0 (hexR s a = ([], 0, 3)) := Aside0.mk (by unfold hexR; rw [HSH.out]; simp only; rw [if_neg (by simp), if_pos (by rw [← HPP.out]; exact hlong)])
                clear hlong
                go_wp2_with (go_at_call 20; (with_reducible refine (Try.Builder_Len w4.heap.size w4.heap.size _ _ HI.out.1).mono ?_); rintro e w2 ⟨rfl, rfl⟩)
                go_ret3
                exact ⟨ret_three (by rw [HR.out]) (by rw [HR.out]) (by rw [HR.out]), HX4.out.trans (HI.out.2.mono HX4.out.size)⟩
              · have hlong' : ((Lib.byteCells put).length : Int) ≤ 65536 := by rw [cells_len]; omega
                have hap : a + 1 ≤ p := HA.out.1
                have HR : Aside0 (hexR s a = (put, (p : Int) + 1, 0)) := Aside0.mk (by unfold hexR; rw [HSH.out]; simp only; rw [if_neg (by simp), if_neg (by rw [← HPP.out]; exact hlong), ← HPP.out]; congr 2; omega)
                clear hlong
                go_wp2_with (first | (go_at_call 20; (with_reducible refine (Try.Builder_Len w4.heap.size w4.heap.size _ _ HI.out.1).mono ?_); rintro e w2 ⟨rfl, rfl⟩) | (go_at_call 21; (with_reducible refine (Try.Builder_String_any w4.heap.size w4.heap.size _ _ HI.out.1 HI.out.2.size).mono ?_); rintro e w2 ⟨rfl, hs2⟩; have HS2 := Aside0.mk hs2; clear hs2))
                go_ret3
                exact ⟨ret_three (by rw [HR.out]) (by rw [HR.out]) (by rw [HR.out]), HX4.out.trans ((HI.out.2.trans HS2.out).mono HX4.out.size)⟩
      · have c1' : ((s[p].toNat : Int) != 62) = true := by
          rw [bne_iff_ne]; intro e; exact c1 (UInt8.toNat_inj.1 (by have : (62 : UInt8).toNat = 62 := rfl; omega))
        have C1 := Aside0.mk c1
        clear c1
        by_cases c2 : clsN s[p].toNat = 1
        · have HW : Aside0 (class_White.f (s[p].toNat : Int) = some true) := Aside0.mk (by rw [white_byte]; simp [c2])
          have HN := Aside0.mk (hexat_white HA.out hz C1.out c2)
          clear c2
          go_wp2_with (go_at_call 22; (with_reducible refine (class_White.calls _ true _ HW.out).mono ?_); rintro e w2 ⟨rfl, hb2⟩; have HB2 := Aside0.mk hb2; clear hb2)
          go_roundg (gk - 1)
          case measure => omega
          case rel => exact ⟨p + 1, digs, by omega, by first | rfl | simp, HN, pw_own_below hrow HB2.out, HX.out.trans (HB2.out.mono HX.out.size)⟩
        · have HW : Aside0 (class_White.f (s[p].toNat : Int) = some false) := Aside0.mk (by rw [white_byte]; simp [c2])
          have HH := Aside0.mk (hex_byte s[p])
          have hr := hexv_range s[p]
          by_cases c3 : hexv s[p] < 0
          · have HR : Aside0 (hexR s a = ([], 0, 7)) := Aside0.mk (by unfold hexR; simp only; rw [hexat_bad HA.out hz C1.out c2 c3]; rfl)
            generalize hexv s[p] = v at *
            clear c2
            go_wp2_with (first | (go_at_call 22; (with_reducible refine (class_White.calls _ false _ HW.out).mono ?_); rintro e w2 ⟨rfl, hb2⟩; have HB2 := Aside0.mk hb2; clear hb2) | (go_at_call 23; (with_reducible refine (class_Hex.calls 1 _ v _ HH.out).mono ?_); rintro e w3 ⟨rfl, ⟨nd, rfl⟩⟩))
            go_ret3
            exact ⟨ret_three (by rw [HR.out]) (by rw [HR.out]) (by rw [HR.out]), pw_below_drewN (HX.out.trans (HB2.out.mono HX.out.size)) _⟩
          · have HN := Aside0.mk (hexat_digit HA.out hz C1.out c2 c3)
            generalize hexv s[p] = v at *
            have hv8 : ((UInt8.ofNat v.toNat).toNat : Int) = v % 256 := by simp only [UInt8.toNat_ofNat']; omega
            have hv8' : IntKind.u8.wrap v = v % 256 := IntKind.wrap_u8 v
            clear c2
            go_wp2_with (first | (go_at_call 22; (with_reducible refine (class_White.calls _ false _ HW.out).mono ?_); rintro e w2 ⟨rfl, hb2⟩; have HB2 := Aside0.mk hb2; clear hb2; have hrow2 := pw_own_below hrow HB2.out) | (go_at_call 23; (with_reducible refine (class_Hex.calls 1 _ v _ HH.out).mono ?_); rintro e w3 ⟨rfl, ⟨nd, rfl⟩⟩; have hrow3 := pw_own_below hrow2 (pw_below_drewN (Below.refl _ _) nd)) | (at_builtin; refine wpList_append_own _ rfl _ _ 33 rfl w.heap.size 5 i0 (.int .u8 0) 1 1 Try.underlying33 hi hz0 hz1 hz2 rfl (by decide) _ _ _ rfl (hrow3.alloc _) ⟨(w2.drewN nd).heap.size, 0, none⟩ 1 1 [.int .u8 (v % 256)] rfl rfl ?c1 ?c2 ?c3 ?c4 ?c5 ?_))
            case c1 => exact one_cell _ _ _
            case c2 => intro u hu; simp at hu; subst hu; rfl
            case c3 => unfold maxLen; omega
            case c4 => omega
            case c5 => have := HX.out.size; have := HB2.out.size; simp; omega
            intro v' w4 hown4 hgrow4 _
            have hrowA := hrow3.alloc (.cells #[.int .u8 (v % 256)] 5)
            have HX4 := Aside0.mk (below_row ((pw_below_drewN (HX.out.trans (HB2.out.mono HX.out.size)) nd).alloc (by have := HX.out.size; have := HB2.out.size; simp; omega) (.cells #[.int .u8 (v % 256)] 5)) (by have := HX.out.size; have := HB2.out.size; simp; omega) hrowA hgrow4)
            go_wp2_with fail
            go_roundg (gk - 1)
            case measure => omega
            case rel => exact ⟨p + 1, digs ++ [UInt8.ofNat v.toNat], by omega, by first | rfl | simp, HN, by
              have e : byteRow (digs ++ [UInt8.ofNat v.toNat]) = byteRow digs ++ [.int .u8 (v % 256)] := by unfold byteRow; rw [List.map_append, ← hv8]; rfl
              rw [e, List.length_append]; exact hown4, HX4.out⟩
    · have hz' : ¬ ((p : Int) < (s.size : Int)) := by omega
      have HR : Aside0 (hexR s a = ([], 0, 8)) := Aside0.mk (by unfold hexR; simp only; rw [hexat_end HA.out (by omega)]; rfl)
      have hps : (p : Int) = (s.size : Int) := by have := HA.out.2.1; omega
      go_wp2_with fail
      go_ret3
      exact ⟨ret_three (by rw [HR.out]) (by rw [HR.out]) (by rw [HR.out]), HX.out⟩

def text_Hex.f (s : ByteArray) (a : Int) : Option (ByteArray × Int × Int) := if s.size ≤ 140737488351232 then some (⟨(hexF s a).1.toArray⟩, (hexF s a).2.1, (hexF s a).2.2) else none
theorem hex_out (s : ByteArray) (a : Int) (w : World) (h : a < 0 ∨ (s.size : Int) ≤ a) :
    Calls Try.prog 14 #[.string s, .int .i64 a] w fun e w' => e = .returned (.tuple #[.string ⟨#[]⟩, .int .i64 0, .int .i64 7]) ∧ Below w.heap.size w w' := by
  by_cases h1 : a < 0
  · go_enter Try.func14, Try.ntmps14
    go_wp2_with fail
    go_ret3
    exact ⟨rfl, Below.refl _ _⟩
  · have h2 : (s.size : Int) ≤ a := by omega
    clear h
    go_enter Try.func14, Try.ntmps14
    go_wp2_with fail
    go_ret3
    exact ⟨rfl, Below.refl _ _⟩
theorem hex_not (s : ByteArray) (a : Nat) (w : World) (ha : a < s.size) (hc : s[a] ≠ 60) :
    Calls Try.prog 14 #[.string s, .int .i64 (a : Int)] w fun e w' => e = .returned (.tuple #[.string ⟨#[]⟩, .int .i64 0, .int .i64 7]) ∧ Below w.heap.size w w' := by
  have ha' : (a : Int) < (s.size : Int) := by omega
  have ha0 : decide ((a : Int) < 0) = false := decide_eq_false (by omega)
  have ha1 : decide (s.size ≤ a) = false := decide_eq_false (by omega)
  have hc' : ((s[a].toNat : Int) != 60) = true := by
    rw [bne_iff_ne]; intro e; exact hc (UInt8.toNat_inj.1 (by have : (60 : UInt8).toNat = 60 := rfl; omega))
  go_enter Try.func14, Try.ntmps14
  go_wp2_with fail
  go_ret3
  exact ⟨rfl, Below.refl _ _⟩

theorem text_Hex.calls (s : ByteArray) (a : Int) (r1 : ByteArray) (r2 r3 : Int) (w : World) (h : text_Hex.f s a = some (r1, r2, r3)) :
    Calls Try.prog 14 #[.string s, .int .i64 a] w fun e w' => e = .returned (.tuple #[.string r1, .int .i64 r2, .int .i64 r3]) ∧ Below w.heap.size w w' := by
  unfold text_Hex.f at h
  split at h
  case isFalse => cases h
  case isTrue hs =>
  obtain ⟨h1, h2⟩ := Prod.mk.inj (Option.some.inj h)
  obtain ⟨h2, h3⟩ := Prod.mk.inj h2
  subst h1 h2 h3
  by_cases hr : a < 0 ∨ (s.size : Int) ≤ a
  · have e : hexF s a = ([], 0, 7) := by unfold hexF; rw [if_neg (by omega)]
    rw [e]
    exact hex_out s a w hr
  · obtain ⟨n, rfl⟩ := Int.eq_ofNat_of_zero_le (show 0 ≤ a by omega)
    have hn : n < s.size := by omega
    have hb := byte_at s n hn
    by_cases hc : s[n] = 60
    · have e : hexF s (n : Int) = hexR s n := by unfold hexF; rw [if_pos ⟨by omega, by omega, by rw [Int.toNat_natCast, hb, hc]⟩, Int.toNat_natCast]
      rw [e]
      exact hex_in s n w hs hn hc
    · have e : hexF s (n : Int) = ([], 0, 7) := by
        unfold hexF
        rw [if_neg]
        rintro ⟨-, -, h⟩
        rw [Int.toNat_natCast, hb] at h
        exact hc (Option.some.inj h)
      rw [e]
      exact hex_not s n w hn hc
end Go.Proofs.Ytioildfnbcdekaa
