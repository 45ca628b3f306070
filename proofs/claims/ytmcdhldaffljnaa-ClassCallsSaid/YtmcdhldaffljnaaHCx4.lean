/- Printed for this seat by a program of the prover's own (over the kit's print): each function of the translation as a plain Lean function, and the proof that the code comes to its answers. -/
import Derived.Test.YtmcdhldaffljnaaHCx0
import Derived.Test.YtmcdhldaffljnaaHCx3
namespace Go.Proofs.Ytmcdhldaffljnaa.HC
open Go.RowKit Go.Proofs.YtmcdhldaffljnaaW.PrintWords Go.Proofs.YtmcdhldaffljnaaW.PrintLast Go.Proofs.YtmcdhldaffljnaaW.PrintMore
attribute [local go_sem] max2_int min2_int max_two min_two max_three min_three max_four min_four   -- for this text's walks alone
set_option linter.unusedVariables false
set_option linter.unusedSimpArgs false

/-! ### pagemenderref01_Eol: function 24 -/
def pagemenderref01_Eol.j0 : Nat → ByteArray → Int → Bool → Option (Int)
  | 0, _, _, _ => none
  | k + 1, x0, x1, x8 => if x8 = true then (some 0) else (if 0 ≤ x1 then (if x1 < (x0.size : Int) then (if (bt x0 x1) = 13 then (if (wrap64 (x1 + 1)) < (x0.size : Int) then (if 0 ≤ (wrap64 (x1 + 1)) then (if (bt x0 (wrap64 (x1 + 1))) = 10 then (some 2) else (some 1)) else (none)) else (some 1)) else (some 1)) else (none)) else (none))
def pagemenderref01_Eol.f (k : Nat) (a0 : ByteArray) (a1 : Int) : Option (Int) := (pagemenderref01_place.f a0 a1).bind fun t111 => (if t111 = (a0.size : Int) then (pagemenderref01_Eol.j0 k a0 t111 true) else (if 0 ≤ t111 then (if t111 < (a0.size : Int) then (if (bt a0 t111) = 10 then (pagemenderref01_Eol.j0 k a0 t111 false) else (pagemenderref01_Eol.j0 k a0 t111 ((bt a0 t111) != 13))) else (none)) else (none)))
theorem pagemenderref01_Eol.mono_l : ∀ k, (∀ y0 y1 y2, LeO (pagemenderref01_Eol.j0 k y0 y1 y2) (pagemenderref01_Eol.j0 (k + 1) y0 y1 y2))
  | 0 => fun _ _ _ r h => by simp [pagemenderref01_Eol.j0] at h
  | k + 1 => by
    have ih0 := pagemenderref01_Eol.mono_l k
    · intro y0 y1 y2
      unfold pagemenderref01_Eol.j0
      repeat' first
      | (with_reducible exact ih0 _ _ _)
      | (with_reducible exact LeO.refl _)
      | (with_reducible exact LeO.none _)
      | (with_reducible refine LeO.ite ?_ ?_)
      | (with_reducible refine LeO.bind ?_ (fun _ => ?_))
      | exact ih0 _ _ _
      | exact LeO.none _
      | refine LeO.ite ?_ ?_
      | refine LeO.bind ?_ (fun _ => ?_)
theorem pagemenderref01_Eol.mono : ∀ a0 a1 k, LeO (pagemenderref01_Eol.f k a0 a1) (pagemenderref01_Eol.f (k + 1) a0 a1) := by
  intro a0 a1 k
  have ih0 := pagemenderref01_Eol.mono_l k
  unfold pagemenderref01_Eol.f
  repeat' first
      | (with_reducible exact ih0 _ _ _)
      | (with_reducible exact LeO.refl _)
      | (with_reducible exact LeO.none _)
      | (with_reducible refine LeO.ite ?_ ?_)
      | (with_reducible refine LeO.bind ?_ (fun _ => ?_))
      | exact ih0 _ _ _
      | exact LeO.none _
      | refine LeO.ite ?_ ?_
      | refine LeO.bind ?_ (fun _ => ?_)
set_option maxHeartbeats 8000000 in
set_option maxRecDepth 100000 in
theorem pagemenderref01_Eol.calls (k : Nat) (a0 : ByteArray) (a1 : Int) (r : Int) (w : World) (h : pagemenderref01_Eol.f k a0 a1 = some r) :
    Calls Try.prog 24 #[.string a0, .int .i64 a1] w fun e w' => e = .returned (.int .i64 r) ∧ Below w.heap.size w w' := by
  have HB := Aside0.mk (Below.refl w.heap.size w)
  have H : ((pagemenderref01_place.f a0 a1).bind fun t111 => (if t111 = (a0.size : Int) then (pagemenderref01_Eol.j0 k a0 t111 true) else (if 0 ≤ t111 then (if t111 < (a0.size : Int) then (if (bt a0 t111) = 10 then (pagemenderref01_Eol.j0 k a0 t111 false) else (pagemenderref01_Eol.j0 k a0 t111 ((bt a0 t111) != 13))) else (none)) else (none)))) = some r := h
  clear h
  replace H := Option.bind_eq_some_iff.mp H
  obtain ⟨t111, A30, H⟩ := H
  replace H : (if t111 = (a0.size : Int) then (pagemenderref01_Eol.j0 k a0 t111 true) else (if 0 ≤ t111 then (if t111 < (a0.size : Int) then (if (bt a0 t111) = 10 then (pagemenderref01_Eol.j0 k a0 t111 false) else (pagemenderref01_Eol.j0 k a0 t111 ((bt a0 t111) != 13))) else (none)) else (none))) = some r := H
  have A3 := Aside0.mk A30
  clear A30
  have HC4 := Aside0.mk H
  clear H
  go_enter Try.func24, Try.ntmps24
  go_upto_region 2 with (first | ((with_reducible refine gate_callee (f := 31) rfl ?_); refine goesL_ (some 7) rfl rfl Try.func31 (by kernel_rfl) rfl #[.string a0, .int .i64 a1] rfl (by (try simp only [List.map_toArray, List.map_cons, List.map_nil]); first | done | rfl | (simp only [List.length_drop, List.length_take]; rfl)) ?_; (with_reducible refine (pagemenderref01_place.calls a0 a1 t111 _ A3.out).mono ?_); rintro e w5 ⟨rfl, hb⟩; refine ⟨_, rfl, ?_⟩; have n0_ := Aside0.mk (below_step (by repeat (first | (with_reducible first | exact HB.out | apply below_alloc | apply pw_below_drewN | apply below_drew1) | exact HB.out)) hb); clear HB; have HB := n0_; clear n0_; (try clear hb); (try clear hb2); (try clear hk); (try clear hi)))
  (try simp only [Act.put, List.setIfInBounds_toArray, List.set_cons_zero, List.set_cons_succ])
  go_cut [8] (fun v8 wc => ∃ (kq : Nat) (x8_3 : Bool), v8 = .bool x8_3 ∧ Aside0 (pagemenderref01_Eol.j0 kq a0 t111 x8_3 = some r) ∧ Aside0 (kq ≤ k) ∧ Aside0 (Below w.heap.size w wc))
  case first =>
    have H := HC4.out
    clear HC4
    by_cases c6 : t111 = (a0.size : Int)
    · rw [if_pos c6] at H
      have c6b0 : (t111 == (a0.size : Int)) = true := beq_iff_eq.mpr c6
      have c6b1 : (t111 != (a0.size : Int)) = false := bne_eq_false_iff_eq.mpr c6
      clear c6
      (first | rw [c6b0] | (simp only [i64_w, i32_w]; rw [c6b0]) | skip)
      have H' := Aside0.mk H
      clear H
      go_wp2
      go_meet
      case rel => exact ⟨_, (true), (by first | rfl | (simp; done) | (simp [*]; done)), H', ⟨by first | omega | exact Nat.le_refl _⟩, ⟨by repeat (first | (with_reducible first | exact HB.out | apply below_alloc | apply pw_below_drewN | apply below_drew1) | exact HB.out)⟩⟩
    · rw [if_neg c6] at H
      have c6b0 : (t111 == (a0.size : Int)) = false := beq_eq_false_iff_ne.mpr c6
      have c6b1 : (t111 != (a0.size : Int)) = true := bne_iff_ne.mpr c6
      (first | rw [c6b0] | (simp only [i64_w, i32_w]; rw [c6b0]) | skip)
      by_cases c7 : 0 ≤ t111
      · rw [if_pos c7] at H
        have c7b0 : decide (0 ≤ t111) = true := decide_eq_true c7
        clear c7
        by_cases c8 : t111 < (a0.size : Int)
        · rw [if_pos c8] at H
          have c8b0 : decide (t111 < (a0.size : Int)) = true := decide_eq_true c8
          clear c8
          by_cases c10 : (bt a0 t111) = 10
          · rw [if_pos c10] at H
            have c10b0 : ((bt a0 t111) == 10) = true := beq_iff_eq.mpr c10
            have c10b1 : ((bt a0 t111) != 10) = false := bne_eq_false_iff_eq.mpr c10
            clear c10
            have H' := Aside0.mk H
            clear H
            have p9 : 0 ≤ (t111 : Int) := of_decide_eq_true (by first | (with_reducible assumption) | assumption)
            have q9 : t111 < (a0.size : Int) := of_decide_eq_true (by first | (with_reducible assumption) | assumption)
            have hx9 := bt_at a0 t111
            replace p9 := eq_true p9
            replace q9 := eq_true q9
            go_wp2
            go_meet
            case rel => exact ⟨_, (false), (by first | rfl | (simp; done) | (simp [*]; done)), H', ⟨by first | omega | exact Nat.le_refl _⟩, ⟨by repeat (first | (with_reducible first | exact HB.out | apply below_alloc | apply pw_below_drewN | apply below_drew1) | exact HB.out)⟩⟩
          · rw [if_neg c10] at H
            have c10b0 : ((bt a0 t111) == 10) = false := beq_eq_false_iff_ne.mpr c10
            have c10b1 : ((bt a0 t111) != 10) = true := bne_iff_ne.mpr c10
            have H' := Aside0.mk H
            clear H
            have p9 : 0 ≤ (t111 : Int) := of_decide_eq_true (by first | (with_reducible assumption) | assumption)
            have q9 : t111 < (a0.size : Int) := of_decide_eq_true (by first | (with_reducible assumption) | assumption)
            have hx9 := bt_at a0 t111
            replace p9 := eq_true p9
            replace q9 := eq_true q9
            have p11 : 0 ≤ (t111 : Int) := of_decide_eq_true (by first | (with_reducible assumption) | assumption)
            have q11 : t111 < (a0.size : Int) := of_decide_eq_true (by first | (with_reducible assumption) | assumption)
            have hx11 := bt_at a0 t111
            replace p11 := eq_true p11
            replace q11 := eq_true q11
            go_wp2
            go_meet
            case rel => exact ⟨_, (((bt a0 t111) != 13)), (by first | rfl | (simp; done) | (simp [*]; done)), H', ⟨by first | omega | exact Nat.le_refl _⟩, ⟨by repeat (first | (with_reducible first | exact HB.out | apply below_alloc | apply pw_below_drewN | apply below_drew1) | exact HB.out)⟩⟩
        · rw [if_neg c8] at H
          exact absurd H (by simp)
      · rw [if_neg c7] at H
        exact absurd H (by simp)
  case rest =>
    clear HC4
    try clear c1
    try clear p1
    try clear q1
    try clear hx1
    try clear c2
    try clear p2
    try clear c3
    try clear c6
    try clear c6b0
    try clear c6b1
    try clear c7
    try clear c7b0
    try clear c8
    try clear c8b0
    try clear p9
    try clear q9
    try clear hx9
    try clear c10
    try clear c10b0
    try clear c10b1
    try clear p11
    try clear q11
    try clear hx11
    try clear p11
    try clear p9
    try clear q11
    try clear q9
    obtain ⟨kq, x8_3, rfl, HA, HJ3, HB⟩ := hcut
    cases kq with
    | zero => exact absurd HA.out (by simp [pagemenderref01_Eol.j0])
    | succ kj3 =>
      have H := HA.out
      clear HA
      simp only [pagemenderref01_Eol.j0] at H
      by_cases c12 : x8_3 = true
      · subst c12
        have H1 : (some 0) = some r := by rw [if_pos rfl] at H; exact H
        clear H
        have H := H1
        clear H1
        obtain rfl := Option.some.inj H
        go_wp2
        go_ret
        exact ⟨by first | rfl | (simp [errW_none, errW_some] <;> rfl) | (simp [*, errW_none, errW_some] <;> rfl) | (rw [IntWalk.wrap64_in _ ⟨by omega, by omega⟩]), by repeat (first | (with_reducible first | exact HB.out | apply below_alloc | apply pw_below_drewN | apply below_drew1) | exact HB.out)⟩
      · replace c12 := Bool.eq_false_iff.mpr c12
        subst c12
        have H1 : (if 0 ≤ t111 then (if t111 < (a0.size : Int) then (if (bt a0 t111) = 13 then (if (wrap64 (t111 + 1)) < (a0.size : Int) then (if 0 ≤ (wrap64 (t111 + 1)) then (if (bt a0 (wrap64 (t111 + 1))) = 10 then (some 2) else (some 1)) else (none)) else (some 1)) else (some 1)) else (none)) else (none)) = some r := by rw [if_neg (show ¬ (false = true) by decide)] at H; exact H
        clear H
        have H := H1
        clear H1
        by_cases c13 : 0 ≤ t111
        · rw [if_pos c13] at H
          have c13b0 : decide (0 ≤ t111) = true := decide_eq_true c13
          clear c13
          by_cases c14 : t111 < (a0.size : Int)
          · rw [if_pos c14] at H
            have c14b0 : decide (t111 < (a0.size : Int)) = true := decide_eq_true c14
            clear c14
            by_cases c16 : (bt a0 t111) = 13
            · rw [if_pos c16] at H
              have c16b0 : ((bt a0 t111) == 13) = true := beq_iff_eq.mpr c16
              have c16b1 : ((bt a0 t111) != 13) = false := bne_eq_false_iff_eq.mpr c16
              clear c16
              by_cases c17 : (wrap64 (t111 + 1)) < (a0.size : Int)
              · rw [if_pos c17] at H
                have c17b0 : decide ((wrap64 (t111 + 1)) < (a0.size : Int)) = true := decide_eq_true c17
                clear c17
                obtain ⟨ji18, hji18⟩ : ∃ j_ : Int, (wrap64 (t111 + 1)) = j_ := ⟨_, rfl⟩
                replace H : (if 0 ≤ (ji18) then (if (bt a0 (ji18)) = 10 then (some 2) else (some 1)) else (none)) = some r := by first | (rw [hji18] at H; exact H) | (simp only [hji18] at H ⊢; exact H)
                (try rw [hji18] at c17b0)
                have hji18w : (IntKind.i64.wrap (t111 + 1)) = ji18 := (i64_w _).trans hji18
                by_cases c19 : 0 ≤ (ji18)
                · rw [if_pos c19] at H
                  have c19b0 : decide (0 ≤ (ji18)) = true := decide_eq_true c19
                  clear c19
                  by_cases c21 : (bt a0 (ji18)) = 10
                  · rw [if_pos c21] at H
                    have c21b0 : ((bt a0 (ji18)) == 10) = true := beq_iff_eq.mpr c21
                    have c21b1 : ((bt a0 (ji18)) != 10) = false := bne_eq_false_iff_eq.mpr c21
                    clear c21
                    obtain rfl := Option.some.inj H
                    have p15 : 0 ≤ (t111 : Int) := of_decide_eq_true (by first | (with_reducible assumption) | assumption)
                    have q15 : t111 < (a0.size : Int) := of_decide_eq_true (by first | (with_reducible assumption) | assumption)
                    have hx15 := bt_at a0 t111
                    replace p15 := eq_true p15
                    replace q15 := eq_true q15
                    have p20 : 0 ≤ ((ji18) : Int) := of_decide_eq_true (by first | (with_reducible assumption) | assumption)
                    have q20 : (ji18) < (a0.size : Int) := of_decide_eq_true (by first | (with_reducible assumption) | assumption)
                    have hx20 := bt_at a0 (ji18)
                    replace p20 := eq_true p20
                    replace q20 := eq_true q20
                    go_wp2
                    go_ret
                    exact ⟨by first | rfl | (simp [errW_none, errW_some] <;> rfl) | (simp only [← hji18]; first | rfl | (simp [errW_none, errW_some] <;> rfl)) | (simp [*, errW_none, errW_some] <;> rfl) | (rw [IntWalk.wrap64_in _ ⟨by omega, by omega⟩]), by repeat (first | (with_reducible first | exact HB.out | apply below_alloc | apply pw_below_drewN | apply below_drew1) | exact HB.out)⟩
                  · rw [if_neg c21] at H
                    have c21b0 : ((bt a0 (ji18)) == 10) = false := beq_eq_false_iff_ne.mpr c21
                    have c21b1 : ((bt a0 (ji18)) != 10) = true := bne_iff_ne.mpr c21
                    obtain rfl := Option.some.inj H
                    have p15 : 0 ≤ (t111 : Int) := of_decide_eq_true (by first | (with_reducible assumption) | assumption)
                    have q15 : t111 < (a0.size : Int) := of_decide_eq_true (by first | (with_reducible assumption) | assumption)
                    have hx15 := bt_at a0 t111
                    replace p15 := eq_true p15
                    replace q15 := eq_true q15
                    have p20 : 0 ≤ ((ji18) : Int) := of_decide_eq_true (by first | (with_reducible assumption) | assumption)
                    have q20 : (ji18) < (a0.size : Int) := of_decide_eq_true (by first | (with_reducible assumption) | assumption)
                    have hx20 := bt_at a0 (ji18)
                    replace p20 := eq_true p20
                    replace q20 := eq_true q20
                    go_wp2
                    go_ret
                    exact ⟨by first | rfl | (simp [errW_none, errW_some] <;> rfl) | (simp only [← hji18]; first | rfl | (simp [errW_none, errW_some] <;> rfl)) | (simp [*, errW_none, errW_some] <;> rfl) | (rw [IntWalk.wrap64_in _ ⟨by omega, by omega⟩]), by repeat (first | (with_reducible first | exact HB.out | apply below_alloc | apply pw_below_drewN | apply below_drew1) | exact HB.out)⟩
                · rw [if_neg c19] at H
                  exact absurd H (by simp)
              · rw [if_neg c17] at H
                have c17b0 : decide ((wrap64 (t111 + 1)) < (a0.size : Int)) = false := decide_eq_false c17
                clear c17
                obtain rfl := Option.some.inj H
                have p15 : 0 ≤ (t111 : Int) := of_decide_eq_true (by first | (with_reducible assumption) | assumption)
                have q15 : t111 < (a0.size : Int) := of_decide_eq_true (by first | (with_reducible assumption) | assumption)
                have hx15 := bt_at a0 t111
                replace p15 := eq_true p15
                replace q15 := eq_true q15
                go_wp2
                go_ret
                exact ⟨by first | rfl | (simp [errW_none, errW_some] <;> rfl) | (simp [*, errW_none, errW_some] <;> rfl) | (rw [IntWalk.wrap64_in _ ⟨by omega, by omega⟩]), by repeat (first | (with_reducible first | exact HB.out | apply below_alloc | apply pw_below_drewN | apply below_drew1) | exact HB.out)⟩
            · rw [if_neg c16] at H
              have c16b0 : ((bt a0 t111) == 13) = false := beq_eq_false_iff_ne.mpr c16
              have c16b1 : ((bt a0 t111) != 13) = true := bne_iff_ne.mpr c16
              obtain rfl := Option.some.inj H
              have p15 : 0 ≤ (t111 : Int) := of_decide_eq_true (by first | (with_reducible assumption) | assumption)
              have q15 : t111 < (a0.size : Int) := of_decide_eq_true (by first | (with_reducible assumption) | assumption)
              have hx15 := bt_at a0 t111
              replace p15 := eq_true p15
              replace q15 := eq_true q15
              go_wp2
              go_ret
              exact ⟨by first | rfl | (simp [errW_none, errW_some] <;> rfl) | (simp [*, errW_none, errW_some] <;> rfl) | (rw [IntWalk.wrap64_in _ ⟨by omega, by omega⟩]), by repeat (first | (with_reducible first | exact HB.out | apply below_alloc | apply pw_below_drewN | apply below_drew1) | exact HB.out)⟩
          · rw [if_neg c14] at H
            exact absurd H (by simp)
        · rw [if_neg c13] at H
          exact absurd H (by simp)

end Go.Proofs.Ytmcdhldaffljnaa.HC
