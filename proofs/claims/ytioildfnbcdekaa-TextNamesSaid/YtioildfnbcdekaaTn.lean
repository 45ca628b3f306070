/-
  The contract of text.PutLiteral.
-/
import Derived.Test.YtioildfnbcdekaaTm
import Derived.Test.YtioildfnbcdekaaTu
import Derived.StillTailTactics
namespace Go.Proofs.Ytioildfnbcdekaa
open Go.RowKit Go.Maps Go.Proofs.YtioildfnbcdekaaW.PrintWords Go.Proofs.YtioildfnbcdekaaW.PrintLast
set_option linter.unusedVariables false
set_option linter.unusedSimpArgs false

set_option maxRecDepth 100000 in
theorem escapes_at (w : World) : Calls Try.prog 24 #[] w fun e w' => e = .returned (.map (some w.heap.size)) ∧ w'.ownsMap Try.prog 5 (plainElem Try.prog 5) w.heap.size 5 escD ∧ Below w.heap.size w w' := by
  have hmm := @run_makeMap Try.prog
  go_enter Try.func24, Try.ntmps24
  go_wp2_with (first
    | (refine wpList_insert_own (H := Unit) _ rfl _ _ _ 50 rfl 5 5 escLaw Try.underlying50 (plainElem Try.prog 5) w.heap.size 0 _ rfl (World.ownsMap_made _ _ _ _) (by unfold maxLen; omega) (.int .u8 110) (.int .u8 10) (.int .u8 110) rfl rfl (escKey 110 (by omega) (by omega)) (.lit (.int .u8 10)) [] (plainElem_int Try.underlying5 (by decide)) ?_; intro w1 h1 g1)
    | (refine wpList_insert_own (H := Unit) _ rfl _ _ _ 50 rfl 5 5 escLaw Try.underlying50 (plainElem Try.prog 5) w.heap.size 1 _ rfl h1 (by unfold maxLen; omega) (.int .u8 114) (.int .u8 13) (.int .u8 114) rfl rfl (escKey 114 (by omega) (by omega)) (.lit (.int .u8 13)) [] (plainElem_int Try.underlying5 (by decide)) ?_; intro w2 h2 g2)
    | (refine wpList_insert_own (H := Unit) _ rfl _ _ _ 50 rfl 5 5 escLaw Try.underlying50 (plainElem Try.prog 5) w.heap.size 2 _ rfl h2 (by unfold maxLen; omega) (.int .u8 116) (.int .u8 9) (.int .u8 116) rfl rfl (escKey 116 (by omega) (by omega)) (.lit (.int .u8 9)) [] (plainElem_int Try.underlying5 (by decide)) ?_; intro w3 h3 g3)
    | (refine wpList_insert_own (H := Unit) _ rfl _ _ _ 50 rfl 5 5 escLaw Try.underlying50 (plainElem Try.prog 5) w.heap.size 3 _ rfl h3 (by unfold maxLen; omega) (.int .u8 98) (.int .u8 8) (.int .u8 98) rfl rfl (escKey 98 (by omega) (by omega)) (.lit (.int .u8 8)) [] (plainElem_int Try.underlying5 (by decide)) ?_; intro w4 h4 g4)
    | (refine wpList_insert_own (H := Unit) _ rfl _ _ _ 50 rfl 5 5 escLaw Try.underlying50 (plainElem Try.prog 5) w.heap.size 4 _ rfl h4 (by unfold maxLen; omega) (.int .u8 102) (.int .u8 12) (.int .u8 102) rfl rfl (escKey 102 (by omega) (by omega)) (.lit (.int .u8 12)) [] (plainElem_int Try.underlying5 (by decide)) ?_; intro w5 h5 g5))
  go_ret
  have hb : ∀ {w1 w2 : World}, Below w.heap.size w w1 → w1.grownBy w2 (some w.heap.size) → Below w.heap.size w w2 := fun h g => ⟨g.os.trans h.os, g.tape.trans h.tape, g.output.trans h.output, Nat.le_trans h.size g.size, fun k hk => (g.block k (Nat.lt_of_lt_of_le hk h.size) (by intro e; have := Option.some.inj e; omega)).trans (h.block k hk)⟩
  exact ⟨rfl, h5, hb (hb (hb (hb (hb ((Below.refl _ _).alloc (Nat.le_refl _) _) g1) g2) g3) g4) g5⟩

theorem conv_three (w : World) (a b c : Int) : (convert 33 9 (.slice (some ⟨w.heap.size, 0, none⟩) 3 3)).run Try.prog (w.alloc (.cells #[.int .u8 a, .int .u8 b, .int .u8 c] 5)) = Result.ok (.string ⟨#[UInt8.ofNat a.toNat, UInt8.ofNat b.toNat, UInt8.ofNat c.toNat]⟩) (w.alloc (.cells #[.int .u8 a, .int .u8 b, .int .u8 c] 5)) := by
  have h : (w.alloc (.cells #[.int .u8 a, .int .u8 b, .int .u8 c] 5)).ownsRow w.heap.size 5 1 (.slice (some ⟨w.heap.size, 0, none⟩) 3 3) 3 (nums .u8 [a, b, c]) := by
    exact ⟨by simp [nums], .inr ⟨w.heap.size, 3, _, rfl, Nat.le_refl _, heap_alloc_new w _, Nat.le_refl _, by decide, rfl, by simp [nums]⟩⟩
  rw [own_string Try.underlying33 Try.underlying5 Try.underlying9 h]
  simp [strOfNums]
theorem grown_of_below {w w' : World} {B : Nat} (hb : Below B w w') (hB : w.heap.size ≤ B) : w.grownBy w' none := ⟨hb.os, hb.tape, hb.output, hb.size, fun i hi _ => hb.block i (Nat.lt_of_lt_of_le hi hB)⟩
/-- A byte that has a letter. -/
def letIs (c : UInt8) : Bool := c == 10 || c == 13 || c == 9 || c == 8 || c == 12
def letZ (c : UInt8) : UInt8 := if c = 10 then 110 else if c = 13 then 114 else if c = 9 then 116 else if c = 8 then 98 else if c = 12 then 102 else 0
theorem let_has : ∀ n : Fin 256, Maps.has letD (.int .u8 (n.val : Int)) = letIs (UInt8.ofNat n.val) := by decide +kernel
theorem let_at : ∀ n : Fin 256, (match letD.atKey (.int .u8 (n.val : Int)) (.lit (.int .u8 0)) with | .lit (.int .u8 v) => decide (v = ((letZ (UInt8.ofNat n.val)).toNat : Int)) | _ => false) = true := by decide +kernel
theorem let_look {w : World} {b n : Nat} (h : w.ownsMap Try.prog 5 (plainElem Try.prog 5) b n letD) (c : UInt8) :
    (Instr.lookup 50 (.map (some b)) (.int .u8 (c.toNat : Int)) true).run Try.prog w = .ok (.tuple #[.int .u8 ((letZ c).toNat : Int), .bool (letIs c)]) w := by
  obtain ⟨v, ps, hrun, hv⟩ := h.look_ok escLaw Try.underlying50 (escZero w) (plainElem_int Try.underlying5 (by decide)) (escKey (c.toNat : Int) (by omega) (by have := c.toNat_lt; omega))
  have h1 := let_has ⟨c.toNat, c.toNat_lt⟩
  have h2 := let_at ⟨c.toNat, c.toNat_lt⟩
  have hc : UInt8.ofNat c.toNat = c := by simp
  simp only [hc] at h1 h2
  obtain ⟨a, rfl, hz, hw⟩ := plainElem_int_inv Try.underlying5 hv
  have h3 := congrArg Prod.fst hz
  simp only at h3
  rw [h3] at h2
  have h4 : a = ((letZ c).toNat : Int) := by simpa using h2
  rw [hrun, h1, h4]

theorem lit_let {c : UInt8} (h : letIs c = true) : litB c = [92, letZ c] := by
  have : ∀ n : Fin 256, letIs (UInt8.ofNat n.val) = true → litB (UInt8.ofNat n.val) = [92, letZ (UInt8.ofNat n.val)] := by decide +kernel
  have h1 := this ⟨c.toNat, c.toNat_lt⟩
  simp only [byte_ofNat] at h1
  exact h1 h
theorem let_not {c : UInt8} (h : letIs c = false) : c ≠ 10 ∧ c ≠ 13 ∧ c ≠ 9 ∧ c ≠ 8 ∧ c ≠ 12 := by
  unfold letIs at h
  simp only [Bool.or_eq_false_iff, beq_eq_false_iff_ne] at h
  exact ⟨h.1.1.1.1, h.1.1.1.2, h.1.1.2, h.1.2, h.2⟩
theorem lit_self {c : UInt8} (h : letIs c = false) (h1 : ¬ (c = 40 ∨ c = 41 ∨ c = 92)) (h2 : 32 ≤ c.toNat ∧ c.toNat < 127) : litB c = [c] := by
  obtain ⟨a1, a2, a3, a4, a5⟩ := let_not h
  unfold litB
  rw [if_neg h1, if_neg a1, if_neg a2, if_neg a3, if_neg a4, if_neg a5, if_pos h2]
theorem lit_num {c : UInt8} (h : letIs c = false) (h1 : ¬ (c = 40 ∨ c = 41 ∨ c = 92)) (h2 : ¬ (32 ≤ c.toNat ∧ c.toNat < 127)) : litB c = [92, dgo (c.toNat / 64), dgo (c.toNat / 8 % 8), dgo (c.toNat % 8)] := by
  obtain ⟨a1, a2, a3, a4, a5⟩ := let_not h
  unfold litB
  rw [if_neg h1, if_neg a1, if_neg a2, if_neg a3, if_neg a4, if_neg a5, if_neg h2]
/-- What is known at a round's head. -/
def PlAt (s : ByteArray) (i : Nat) (put : List UInt8) : Prop := put = 40 :: litAll (s.data.toList.take i) ∧ put.length ≤ 1 + 4 * i
theorem pl_step {s : ByteArray} {i : Nat} {put : List UInt8} (h : PlAt s i put) (hi : i < s.size) : PlAt s (i + 1) (put ++ litB s[i]) := by
  obtain ⟨h1, h2⟩ := h
  have := litB_le s[i]
  refine ⟨?_, by simp; omega⟩
  rw [take_snoc s i hi, h1]
  simp [litAll]

set_option maxRecDepth 100000 in
set_option maxHeartbeats 4000000 in
theorem putlit_short (s : ByteArray) (w : World) (hs : s.size ≤ 65536) :
    Calls Try.prog 15 #[.string s] w fun e w' => e = .returned (.tuple #[.string ⟨(40 :: (litAll s.data.toList ++ [41])).toArray⟩, .int .i64 0]) ∧ Below w.heap.size w w' := by
  have hs' : (s.size : Int) ≤ 65536 := by omega
  have hmm := @run_makeMap Try.prog
  have e1 : (w.alloc (.map #[] 0)).heap.size = w.heap.size + 1 := by simp
  go_enter Try.func15, Try.ntmps15
  go_wp2_with (first
    | (go_at_call 24; (with_reducible refine (escapes_at _).mono ?_); rintro e w1 ⟨rfl, hm1, hb1⟩; rw [e1] at hm1 hb1 ⊢)
    | (at_range; refine wpList_range_own _ rfl _ 50 rfl 5 5 escLaw Try.underlying50 _ (w.heap.size + 1) 5 _ rfl hm1 ?_; intro w0 hrg0 hg0 hs0))
  go_frame
  have HB0 : Aside0 (Below w.heap.size w w0) := Aside0.mk ((((Below.refl w.heap.size w).alloc (Nat.le_refl _) _).trans (hb1.mono (Nat.le_succ _))).grown hg0 (by have := hb1.size; simp at this; omega) (fun j hj => by cases hj))
  have HM0 : Aside0 (w0.ownsMap (H := Unit) Try.prog 5 (plainElem Try.prog 5) w.heap.size 0 (.map [])) := Aside0.mk (((World.ownsMap_made (H := Unit) w _ _ _).kept (grown_of_below hb1 (by simp)) (by simp)).kept hg0 (by simp))
  have HZ : Aside0 (Maps.size escD = 5) := Aside0.mk (by kernel_rfl)
  have HR0 := Aside0.mk (HZ.out ▸ hrg0)
  obtain ⟨rr, hrr⟩ : ∃ rr, rr = w1.heap.size := ⟨_, rfl⟩
  have HRR : Aside0 (w.heap.size + 1 < rr) := Aside0.mk (by have := hm1.lt; omega)
  rw [← hrr] at HR0 ⊢
  clear hrg0 hm1 hb1 hg0 hs0 hrr e1
  go_loopw [5, 6] (fun _ _ wr => ∃ (left : Lit → Bool) (cnt : Nat) (Dout : DataW Unit), wr.ranges Try.prog 5 (plainElem Try.prog 5) (w.heap.size + 1) rr 5 escD left cnt ∧ cnt ≤ 5 ∧ wr.ownsMap Try.prog 5 (plainElem Try.prog 5) w.heap.size (5 - cnt) Dout ∧ Aside0 (InvD Dout left) ∧ Aside0 (Below w.heap.size w wr))
    (fun _ _ wr => wr.rangeLeft (w.heap.size + 1) rr)
  case atStart => exact ⟨_, _, .map [], HR0.out, Nat.le_refl _, HM0.out, Aside0.mk inv_start, HB0⟩
  case round =>
    obtain ⟨left, cnt, Dout, hrg, hcs, hout, HA, HX⟩ := hrel
    go_wp2_with (at_next; refine wpList_next_ranges_ii _ rfl _ rfl 5 5 .u8 .u8 escLaw Try.underlying5 Try.underlying5 (w.heap.size + 1) rr 5 _ _ _ rfl hrg ?_ ?_)
    · intro hc0 hl0
      have hout2 := hout
      rw [inv_end HA.out hl0 (hout.canon escLaw)] at hout2
      clear hout hl0 hrg HA
      have HM := Aside0.mk hout2
      clear hout2 hc0
      generalize wr = W at *
      have HF : Aside0 (Lib.IsBuilder 37 5 W.heap.size W.heap.size (Lib.byteCells []) (W.alloc (.cells #[.pointer none, .slice none 0 0] 37))) := Aside0.mk (Lib.fresh_isBuilder 37 5 W)
      go_wp2_with (go_at_call 19; (with_reducible refine (bu_WriteByte W.heap.size W.heap.size (Lib.byteCells []) 40 _ HF.out (by decide) (by simp)).mono ?_); rintro e w2 ⟨rfl, hb2⟩; have HW := Aside0.mk hb2; clear hb2)
      go_loopg [29] s.size (fun g s29 wx => ∃ (i : Nat) (put : List UInt8), i + g = s.size ∧ s29 = .int .i64 i ∧ Aside0 (PlAt s i put) ∧ Aside0 (Lib.IsBuilder 37 5 W.heap.size W.heap.size (Lib.byteCells put) wx ∧ Below W.heap.size W wx))
      case atStart => exact ⟨0, [40], by omega, by first | rfl | simp, Aside0.mk ⟨by simp [litAll], by simp⟩, Aside0.mk ⟨.inr HW.out.1, ((Below.refl W.heap.size W).alloc (Nat.le_refl _) _).trans HW.out.2⟩⟩
      case round =>
        obtain ⟨i, put, hig, rfl, HA, HI⟩ := hrel
        have HL : Aside0 ((Lib.byteCells put).length + 1 ≤ 140737488355328) := Aside0.mk (by rw [cells_len]; have := HA.out.2; omega)
        cases gk with
        | zero =>
          have hz : ¬ ((i : Int) < (s.size : Int)) := by omega
          have hput : Aside0 (40 :: litAll s.data.toList = put) := by
            have := HA.out.1
            rw [List.take_of_length_le (by rw [← Lib.size_eq]; omega)] at this
            exact Aside0.mk this.symm
          go_wp2_with (go_at_call 19; (with_reducible refine (bu_WriteByte W.heap.size W.heap.size (Lib.byteCells put) 41 _ HI.out.1 HL.out HI.out.2.size).mono ?_); rintro e w2 ⟨rfl, hb2⟩; have HW2 := Aside0.mk (isb_snoc 41 hb2); clear hb2)
          have HB2 := Aside0.mk (Nat.le_trans HI.out.2.size HW2.out.2.size)
          go_wp2_with (go_at_call 21; (with_reducible refine (Try.Builder_String_any W.heap.size W.heap.size (put ++ [41]) _ HW2.out.1 HB2.out).mono ?_); rintro e w3 ⟨rfl, hs2⟩; have HS2 := Aside0.mk hs2; clear hs2)
          go_ret2
          exact ⟨ret_two (by rw [← hput.out]; rfl) rfl, HX.out.trans (((HI.out.2.trans HW2.out.2).trans HS2.out).mono HX.out.size)⟩
        | succ g =>
          have hz : (i : Int) < (s.size : Int) := by omega
          have hi : i < s.size := by omega
          have hlk := let_look (HM.out.kept (grown_of_below HI.out.2 (Nat.le_refl _)) (by simp)) s[i]
          have HN := Aside0.mk (pl_step HA.out hi)
          have hi1 : (i : Int) + 1 ≤ (s.size : Int) := by omega
          have HLx : Aside0 (∀ x : ByteArray, x = s.extract i (i + 1) → (Lib.byteCells put).length + ((⟨#[92]⟩ : ByteArray) ++ x).size ≤ 140737488355328) := Aside0.mk (by
            rintro x rfl
            rw [ext_one s i hi, cells_len, ByteArray.size_append]
            show put.length + (1 + 1) ≤ _
            have := HA.out.2
            omega)
          have HC : Aside0 (Lib.strCells ((⟨#[92]⟩ : ByteArray) ++ s.extract i (i + 1)) = Lib.byteCells [92, s[i]]) := Aside0.mk (by rw [ext_one s i hi]; simp [Lib.strCells, Lib.byteCells])
          have HL2 : Aside0 (∀ x : ByteArray, x.size = 2 → (Lib.byteCells put).length + x.size ≤ 140737488355328) := Aside0.mk (by intro x hx; have := HA.out.2; rw [cells_len, hx]; omega)
          have HC2 : Aside0 (Lib.strCells ((⟨#[92]⟩ : ByteArray) ++ (⟨#[letZ s[i]]⟩ : ByteArray)) = Lib.byteCells [92, letZ s[i]]) := Aside0.mk (by simp [Lib.strCells, Lib.byteCells])
          have HL4 : Aside0 (∀ x : ByteArray, x.size = 4 → (Lib.byteCells put).length + x.size ≤ 140737488355328) := Aside0.mk (by intro x hx; have := HA.out.2; rw [cells_len, hx]; omega)
          have HC4 : Aside0 (Lib.strCells ((⟨#[92]⟩ : ByteArray) ++ (⟨#[dgo (s[i].toNat / 64), dgo (s[i].toNat / 8 % 8), dgo (s[i].toNat % 8)]⟩ : ByteArray)) = Lib.byteCells [92, dgo (s[i].toNat / 64), dgo (s[i].toNat / 8 % 8), dgo (s[i].toNat % 8)]) := Aside0.mk (by simp [Lib.strCells, Lib.byteCells])
          by_cases c1 : s[i] = 40
          · have q1 : ((s[i].toNat : Int) == 40) = true := by rw [c1]; rfl
            have HP : Aside0 (litB s[i] = [92, s[i]]) := Aside0.mk (by rw [c1]; rfl)
            clear c1
            go_wp2_with (go_at_call 17; (with_reducible refine (bu_WriteString W.heap.size W.heap.size (Lib.byteCells put) _ _ HI.out.1 (HLx.out _ rfl) HI.out.2.size).mono ?_); rintro e w3 ⟨rfl, hb3⟩; have HW := Aside0.mk hb3; clear hb3)
            go_roundg g
            case measure => omega
            case rel => exact ⟨i + 1, put ++ litB s[i], by omega, by first | rfl | simp, HN, Aside0.mk ⟨.inr (by have := HW.out.1; rw [HC.out, ← Lib.byteCells_append] at this; rw [HP.out]; exact this), HI.out.2.trans HW.out.2⟩⟩
          · have q1 : ((s[i].toNat : Int) == 40) = false := by
              rw [beq_eq_false_iff_ne]; intro e; exact c1 (UInt8.toNat_inj.1 (by have : (40 : UInt8).toNat = 40 := rfl; omega))
            by_cases c2 : s[i] = 41
            · have q2 : ((s[i].toNat : Int) == 41) = true := by rw [c2]; rfl
              have HP : Aside0 (litB s[i] = [92, s[i]]) := Aside0.mk (by rw [c2]; rfl)
              clear c1 c2
              go_wp2_with (go_at_call 17; (with_reducible refine (bu_WriteString W.heap.size W.heap.size (Lib.byteCells put) _ _ HI.out.1 (HLx.out _ rfl) HI.out.2.size).mono ?_); rintro e w3 ⟨rfl, hb3⟩; have HW := Aside0.mk hb3; clear hb3)
              go_roundg g
              case measure => omega
              case rel => exact ⟨i + 1, put ++ litB s[i], by omega, by first | rfl | simp, HN, Aside0.mk ⟨.inr (by have := HW.out.1; rw [HC.out, ← Lib.byteCells_append] at this; rw [HP.out]; exact this), HI.out.2.trans HW.out.2⟩⟩
            · have q2 : ((s[i].toNat : Int) == 41) = false := by
                rw [beq_eq_false_iff_ne]; intro e; exact c2 (UInt8.toNat_inj.1 (by have : (41 : UInt8).toNat = 41 := rfl; omega))
              by_cases c3 : s[i] = 92
              · have q3 : ((s[i].toNat : Int) == 92) = true := by rw [c3]; rfl
                have HP : Aside0 (litB s[i] = [92, s[i]]) := Aside0.mk (by rw [c3]; rfl)
                clear c1 c2 c3
                go_wp2_with (go_at_call 17; (with_reducible refine (bu_WriteString W.heap.size W.heap.size (Lib.byteCells put) _ _ HI.out.1 (HLx.out _ rfl) HI.out.2.size).mono ?_); rintro e w3 ⟨rfl, hb3⟩; have HW := Aside0.mk hb3; clear hb3)
                go_roundg g
                case measure => omega
                case rel => exact ⟨i + 1, put ++ litB s[i], by omega, by first | rfl | simp, HN, Aside0.mk ⟨.inr (by have := HW.out.1; rw [HC.out, ← Lib.byteCells_append] at this; rw [HP.out]; exact this), HI.out.2.trans HW.out.2⟩⟩
              · have q3 : ((s[i].toNat : Int) == 92) = false := by
                  rw [beq_eq_false_iff_ne]; intro e; exact c3 (UInt8.toNat_inj.1 (by have : (92 : UInt8).toNat = 92 := rfl; omega))
                have q1' : ¬ ((s[i].toNat : Int) = 40) := by simpa using q1
                have q2' : ¬ ((s[i].toNat : Int) = 41) := by simpa using q2
                have q3' : ¬ ((s[i].toNat : Int) = 92) := by simpa using q3
                cases hl : letIs s[i] with
                | true =>
                  have HP : Aside0 (litB s[i] = [92, letZ s[i]]) := Aside0.mk (lit_let hl)
                  rw [hl] at hlk
                  clear c1 c2 c3 hl
                  have hcv := fun W0 => conv_one W0 (letZ s[i])
                  go_wp2_with (go_at_call 17; (with_reducible refine (bu_WriteString W.heap.size W.heap.size (Lib.byteCells put) _ _ (isb_keep HI.out ((Below.refl _ _).alloc (Nat.le_refl _) _)).1 (HL2.out _ rfl) (isb_keep HI.out ((Below.refl _ _).alloc (Nat.le_refl _) _)).2.size).mono ?_); rintro e w3 ⟨rfl, hb3⟩; have HW := Aside0.mk hb3; clear hb3)
                  go_roundg g
                  case measure => omega
                  case rel => exact ⟨i + 1, put ++ litB s[i], by omega, by first | rfl | simp, HN, Aside0.mk ⟨.inr (by have := HW.out.1; rw [HC2.out, ← Lib.byteCells_append] at this; rw [HP.out]; exact this), (isb_keep HI.out ((Below.refl _ _).alloc (Nat.le_refl _) _)).2.trans HW.out.2⟩⟩
                | false =>
                  rw [hl] at hlk
                  by_cases c4 : 32 ≤ s[i].toNat ∧ s[i].toNat < 127
                  · have HP : Aside0 (litB s[i] = [s[i]]) := Aside0.mk (lit_self hl (fun h => h.elim c1 (fun h => h.elim c2 c3)) c4)
                    have q4 : (32 : Int) ≤ (s[i].toNat : Int) := by omega
                    have q5 : (s[i].toNat : Int) < 127 := by omega
                    clear c1 c2 c3 c4 hl
                    go_wp2_with (go_at_call 19; (with_reducible refine (bu_WriteByte W.heap.size W.heap.size (Lib.byteCells put) (s[i].toNat : Int) _ HI.out.1 HL.out HI.out.2.size).mono ?_); rintro e w3 ⟨rfl, hb3⟩; have HW := Aside0.mk (isb_snoc s[i] hb3); clear hb3)
                    go_roundg g
                    case measure => omega
                    case rel => exact ⟨i + 1, put ++ litB s[i], by omega, by first | rfl | simp, HN, Aside0.mk ⟨by rw [HP.out]; exact HW.out.1, HI.out.2.trans HW.out.2⟩⟩
                  · have HP : Aside0 (litB s[i] = [92, dgo (s[i].toNat / 64), dgo (s[i].toNat / 8 % 8), dgo (s[i].toNat % 8)]) := Aside0.mk (lit_num hl (fun h => h.elim c1 (fun h => h.elim c2 c3)) c4)
                    have hbl := byte_lt s[i]
                    have hcv := fun W0 => conv_three W0 (48 + (s[i].toNat : Int) / 64) (48 + (s[i].toNat : Int) / 8 % 8) (48 + (s[i].toNat : Int) % 8)
                    have u1 : UInt8.ofNat (48 + (s[i].toNat : Int) / 64).toNat = dgo (s[i].toNat / 64) := by unfold dgo; congr 1; try omega
                    have u2 : UInt8.ofNat (48 + (s[i].toNat : Int) / 8 % 8).toNat = dgo (s[i].toNat / 8 % 8) := by unfold dgo; congr 1; try omega
                    have u3 : UInt8.ofNat (48 + (s[i].toNat : Int) % 8).toNat = dgo (s[i].toNat % 8) := by unfold dgo; congr 1; try omega
                    rw [u1, u2, u3] at hcv
                    clear u1 u2 u3
                    have e1 : IntKind.u8.wrap ((s[i].toNat : Int) / 64) = (s[i].toNat : Int) / 64 := IntWalk.u8_in _ ⟨by omega, by omega⟩
                    have e2 : IntKind.u8.wrap ((s[i].toNat : Int) / 8) = (s[i].toNat : Int) / 8 := IntWalk.u8_in _ ⟨by omega, by omega⟩
                    have e3 : ((s[i].toNat : Int) / 8).tmod 8 = (s[i].toNat : Int) / 8 % 8 := Int.tmod_eq_emod_of_nonneg (by omega)
                    have e4 : ((s[i].toNat : Int)).tmod 8 = (s[i].toNat : Int) % 8 := Int.tmod_eq_emod_of_nonneg (by omega)
                    have e5 : IntKind.u8.wrap (48 + (s[i].toNat : Int) / 64) = 48 + (s[i].toNat : Int) / 64 := IntWalk.u8_in _ ⟨by omega, by omega⟩
                    have e6 : IntKind.u8.wrap (48 + (s[i].toNat : Int) / 8 % 8) = 48 + (s[i].toNat : Int) / 8 % 8 := IntWalk.u8_in _ ⟨by omega, by omega⟩
                    have e7 : IntKind.u8.wrap (48 + (s[i].toNat : Int) % 8) = 48 + (s[i].toNat : Int) % 8 := IntWalk.u8_in _ ⟨by omega, by omega⟩
                    by_cases c5 : s[i].toNat < 32
                    · have q4 : (s[i].toNat : Int) < 32 := by omega
                      clear c1 c2 c3 c4 hl c5
                      go_wp2_with (go_at_call 17; (with_reducible refine (bu_WriteString W.heap.size W.heap.size (Lib.byteCells put) _ _ (isb_keep HI.out ((Below.refl _ _).alloc (Nat.le_refl _) _)).1 (HL4.out _ rfl) (isb_keep HI.out ((Below.refl _ _).alloc (Nat.le_refl _) _)).2.size).mono ?_); rintro e w3 ⟨rfl, hb3⟩; have HW := Aside0.mk hb3; clear hb3)
                      go_roundg g
                      case measure => omega
                      case rel => exact ⟨i + 1, put ++ litB s[i], by omega, by first | rfl | simp, HN, Aside0.mk ⟨.inr (by have := HW.out.1; rw [HC4.out, ← Lib.byteCells_append] at this; rw [HP.out]; exact this), (isb_keep HI.out ((Below.refl _ _).alloc (Nat.le_refl _) _)).2.trans HW.out.2⟩⟩
                    · have q4 : (32 : Int) ≤ (s[i].toNat : Int) := by omega
                      have q5 : (127 : Int) ≤ (s[i].toNat : Int) := by omega
                      clear c1 c2 c3 c4 hl c5
                      go_wp2_with (go_at_call 17; (with_reducible refine (bu_WriteString W.heap.size W.heap.size (Lib.byteCells put) _ _ (isb_keep HI.out ((Below.refl _ _).alloc (Nat.le_refl _) _)).1 (HL4.out _ rfl) (isb_keep HI.out ((Below.refl _ _).alloc (Nat.le_refl _) _)).2.size).mono ?_); rintro e w3 ⟨rfl, hb3⟩; have HW := Aside0.mk hb3; clear hb3)
                      go_roundg g
                      case measure => omega
                      case rel => exact ⟨i + 1, put ++ litB s[i], by omega, by first | rfl | simp, HN, Aside0.mk ⟨.inr (by have := HW.out.1; rw [HC4.out, ← Lib.byteCells_append] at this; rw [HP.out]; exact this), (isb_keep HI.out ((Below.refl _ _).alloc (Nat.le_refl _) _)).2.trans HW.out.2⟩⟩
    · intro x c w2 cnt1 hwx hwc hlx hat hrg1 hlt hg1 hs1 hen
      have HAT := Aside0.mk hat
      clear hat
      have hout1 := hout.kept hg1 (by have := HRR.out; simp; omega)
      go_wp2_with (at_mapUpdate; refine wpList_mapUpdate_own _ rfl _ _ _ 50 rfl 5 5 escLaw Try.underlying50 _ w.heap.size _ _ rfl hout1 (by unfold maxLen; omega) _ _ _ rfl rfl (keyOf_int_mk Try.underlying5 hwc) _ [] (plainElem_int Try.underlying5 hwx) ?_; intro w3 hout2 hg2; go_frame)
      have hrg2 := hrg1.kept hg2 (fun e => by have := Option.some.inj e; omega) (fun e => by have := Option.some.inj e; have := HRR.out; omega)
      go_roundw
      case rel =>
        exact ⟨_, cnt1, _, hrg2, by omega, hout2.mono (by omega), Aside0.mk (inv_step HA.out hout.isMap HAT.out), Aside0.mk ((HX.out.grown hg1 HX.out.size (fun j hj => by cases hj; have := HRR.out; omega)).grown hg2 (by have := HX.out.size; omega) (fun j hj => by cases hj; exact Nat.le_refl _))⟩
      case measure => rw [hrg2.left_eq, hrg.left_eq]; exact hlt

def text_PutLiteral.f (s : ByteArray) : Option (ByteArray × Int) := some (⟨(putLitL s.data.toList).1.toArray⟩, (putLitL s.data.toList).2)
theorem text_PutLiteral.calls (s : ByteArray) (r1 : ByteArray) (r2 : Int) (w : World) (h : text_PutLiteral.f s = some (r1, r2)) :
    Calls Try.prog 15 #[.string s] w fun e w' => e = .returned (.tuple #[.string r1, .int .i64 r2]) ∧ Below w.heap.size w w' := by
  obtain ⟨h1, h2⟩ := Prod.mk.inj (Option.some.inj h)
  subst h1 h2
  by_cases hs : s.size ≤ 65536
  · have e : putLitL s.data.toList = (40 :: (litAll s.data.toList ++ [41]), 0) := by unfold putLitL; rw [if_neg (by rw [← Lib.size_eq]; omega)]
    rw [e]
    exact putlit_short s w hs
  · have e : putLitL s.data.toList = ([], 3) := by unfold putLitL; rw [if_pos (by rw [← Lib.size_eq]; omega)]
    rw [e]
    have hs' : (65536 : Int) < (s.size : Int) := by omega
    clear e h
    go_enter Try.func15, Try.ntmps15
    go_wp2_with fail
    go_ret2
    exact ⟨rfl, Below.refl _ _⟩
theorem putlit_at (s : ByteArray) (hs : s.size ≤ 65536) : text_PutLiteral.f s = some (⟨(40 :: (litAll s.data.toList ++ [41])).toArray⟩, 0) := by
  unfold text_PutLiteral.f putLitL
  rw [if_neg (by rw [← Lib.size_eq]; omega)]
end Go.Proofs.Ytioildfnbcdekaa
