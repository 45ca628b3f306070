/- Printed for this seat by a program of the prover's own (over the kit's print): each function of the translation as a plain Lean function, and the proof that the code comes to its answers. -/
import Derived.Test.YtmcdhldaffljnaaGx0
import Derived.Test.YtmcdhldaffljnaaGx1
namespace Go.Proofs.Ytmcdhldaffljnaa.G
open Go.RowKit Go.Proofs.YtmcdhldaffljnaaW.PrintWords Go.Proofs.YtmcdhldaffljnaaW.PrintLast Go.Proofs.YtmcdhldaffljnaaW.PrintMore
attribute [local go_sem] max2_int min2_int max_two min_two max_three min_three max_four min_four   -- for this text's walks alone
set_option linter.unusedVariables false
set_option linter.unusedSimpArgs false

/-! ### pagemenderlaw01_ClassSkips: function 5 -/
mutual
def pagemenderlaw01_ClassSkips.j0 : Nat → ByteArray → Int → Int → Int → Bool → Option (Bool)
  | 0, _, _, _, _, _ => none
  | k + 1, x0, x1, x5, x6, x57 => if x57 = true then (some false) else (pagemenderlaw01_ClassSkips.l0 k x0 x1 x5 x6 false x5)
def pagemenderlaw01_ClassSkips.l0 : Nat → ByteArray → Int → Int → Int → Bool → Int → Option (Bool)
  | 0, _, _, _, _, _, _ => none
  | k + 1, x0, x1, x5, x6, x7, x8 => if x8 < x6 then (if 0 ≤ x8 then (if x8 < (x0.size : Int) then (if (bt x0 x8) = 10 then ((class_White.f (bt x0 x8)).bind fun t116 => (if t116 = true then (pagemenderlaw01_ClassSkips.l0 k x0 x1 x5 x6 false (wrap64 (x8 + 1))) else (some false))) else (if (bt x0 x8) = 13 then ((class_White.f (bt x0 x8)).bind fun t117 => (if t117 = true then (pagemenderlaw01_ClassSkips.l0 k x0 x1 x5 x6 false (wrap64 (x8 + 1))) else (some false))) else (if x7 = true then (pagemenderlaw01_ClassSkips.l0 k x0 x1 x5 x6 true (wrap64 (x8 + 1))) else (if ((bt x0 x8) = 37) then (pagemenderlaw01_ClassSkips.l0 k x0 x1 x5 x6 ((bt x0 x8) == 37) (wrap64 (x8 + 1))) else ((class_White.f (bt x0 x8)).bind fun t118 => (if t118 = true then (pagemenderlaw01_ClassSkips.l0 k x0 x1 x5 x6 ((bt x0 x8) == 37) (wrap64 (x8 + 1))) else (some false))))))) else (none)) else (none)) else ((class_Run.f k x0 x1).bind fun t119 => (pagemenderlaw01_ClassSkips.l1 k x0 x5 t119 x5))
def pagemenderlaw01_ClassSkips.l1 : Nat → ByteArray → Int → Int → Int → Option (Bool)
  | 0, _, _, _, _ => none
  | k + 1, x0, x5, x9, x10 => if x10 < x9 then (if 0 ≤ x10 then (if x10 < (x0.size : Int) then ((class_Regular.f (bt x0 x10)).bind fun t120 => (if t120 = true then (pagemenderlaw01_ClassSkips.l1 k x0 x5 x9 (wrap64 (x10 + 1))) else (some false))) else (none)) else (none)) else (if x9 ≥ x5 then (if x9 ≤ (x0.size : Int) then (if x9 = (x0.size : Int) then (some true) else (if 0 ≤ x9 then (if x9 < (x0.size : Int) then ((class_Regular.f (bt x0 x9)).bind fun t121 => (some (!t121))) else (none)) else (none))) else (some false)) else (some false))
end
def pagemenderlaw01_ClassSkips.f (k : Nat) (a0 : ByteArray) (a1 : Int) : Option (Bool) := (pagemenderlaw01_lives.f).bind fun t112 => (if t112 = true then (if (a0.size : Int) > 2000 then (some true) else ((class_Skip.f a0 a1).bind fun t113 => (if t113 < (mn (mx a1 0) (a0.size : Int)) then (pagemenderlaw01_ClassSkips.j0 k a0 a1 (mn (mx a1 0) (a0.size : Int)) t113 true) else (if t113 > (a0.size : Int) then (pagemenderlaw01_ClassSkips.j0 k a0 a1 (mn (mx a1 0) (a0.size : Int)) t113 true) else ((class_Skip.f a0 t113).bind fun t114 => (if t114 = t113 then (if t113 < (a0.size : Int) then (if 0 ≤ t113 then ((class_White.f (bt a0 t113)).bind fun t115 => (if t115 = true then (pagemenderlaw01_ClassSkips.j0 k a0 a1 (mn (mx a1 0) (a0.size : Int)) t113 true) else (pagemenderlaw01_ClassSkips.j0 k a0 a1 (mn (mx a1 0) (a0.size : Int)) t113 ((bt a0 t113) == 37)))) else (none)) else (pagemenderlaw01_ClassSkips.j0 k a0 a1 (mn (mx a1 0) (a0.size : Int)) t113 false)) else (pagemenderlaw01_ClassSkips.j0 k a0 a1 (mn (mx a1 0) (a0.size : Int)) t113 true))))))) else (some false))
theorem pagemenderlaw01_ClassSkips.mono_l : ∀ k, (∀ y0 y1 y2 y3 y4, LeO (pagemenderlaw01_ClassSkips.j0 k y0 y1 y2 y3 y4) (pagemenderlaw01_ClassSkips.j0 (k + 1) y0 y1 y2 y3 y4)) ∧ (∀ y0 y1 y2 y3 y4 y5, LeO (pagemenderlaw01_ClassSkips.l0 k y0 y1 y2 y3 y4 y5) (pagemenderlaw01_ClassSkips.l0 (k + 1) y0 y1 y2 y3 y4 y5)) ∧ (∀ y0 y1 y2 y3, LeO (pagemenderlaw01_ClassSkips.l1 k y0 y1 y2 y3) (pagemenderlaw01_ClassSkips.l1 (k + 1) y0 y1 y2 y3))
  | 0 => ⟨fun _ _ _ _ _ r h => by simp [pagemenderlaw01_ClassSkips.j0] at h, fun _ _ _ _ _ _ r h => by simp [pagemenderlaw01_ClassSkips.l0] at h, fun _ _ _ _ r h => by simp [pagemenderlaw01_ClassSkips.l1] at h⟩
  | k + 1 => by
    obtain ⟨ih0, ih1, ih2⟩ := pagemenderlaw01_ClassSkips.mono_l k
    refine ⟨?_, ?_, ?_⟩
    · intro y0 y1 y2 y3 y4
      unfold pagemenderlaw01_ClassSkips.j0
      repeat' first
      | (with_reducible exact ih0 _ _ _ _ _)
      | (with_reducible exact ih1 _ _ _ _ _ _)
      | (with_reducible exact ih2 _ _ _ _)
      | (with_reducible exact class_Run.mono _ _ _)
      | (with_reducible exact LeO.refl _)
      | (with_reducible exact LeO.none _)
      | (with_reducible refine LeO.ite ?_ ?_)
      | (with_reducible refine LeO.bind ?_ (fun _ => ?_))
      | exact ih0 _ _ _ _ _
      | exact ih1 _ _ _ _ _ _
      | exact ih2 _ _ _ _
      | exact class_Run.mono _ _ _
      | exact LeO.none _
      | refine LeO.ite ?_ ?_
      | refine LeO.bind ?_ (fun _ => ?_)
    · intro y0 y1 y2 y3 y4 y5
      unfold pagemenderlaw01_ClassSkips.l0
      repeat' first
      | (with_reducible exact ih0 _ _ _ _ _)
      | (with_reducible exact ih1 _ _ _ _ _ _)
      | (with_reducible exact ih2 _ _ _ _)
      | (with_reducible exact class_Run.mono _ _ _)
      | (with_reducible exact LeO.refl _)
      | (with_reducible exact LeO.none _)
      | (with_reducible refine LeO.ite ?_ ?_)
      | (with_reducible refine LeO.bind ?_ (fun _ => ?_))
      | exact ih0 _ _ _ _ _
      | exact ih1 _ _ _ _ _ _
      | exact ih2 _ _ _ _
      | exact class_Run.mono _ _ _
      | exact LeO.none _
      | refine LeO.ite ?_ ?_
      | refine LeO.bind ?_ (fun _ => ?_)
    · intro y0 y1 y2 y3
      unfold pagemenderlaw01_ClassSkips.l1
      repeat' first
      | (with_reducible exact ih0 _ _ _ _ _)
      | (with_reducible exact ih1 _ _ _ _ _ _)
      | (with_reducible exact ih2 _ _ _ _)
      | (with_reducible exact class_Run.mono _ _ _)
      | (with_reducible exact LeO.refl _)
      | (with_reducible exact LeO.none _)
      | (with_reducible refine LeO.ite ?_ ?_)
      | (with_reducible refine LeO.bind ?_ (fun _ => ?_))
      | exact ih0 _ _ _ _ _
      | exact ih1 _ _ _ _ _ _
      | exact ih2 _ _ _ _
      | exact class_Run.mono _ _ _
      | exact LeO.none _
      | refine LeO.ite ?_ ?_
      | refine LeO.bind ?_ (fun _ => ?_)
theorem pagemenderlaw01_ClassSkips.mono : ∀ a0 a1 k, LeO (pagemenderlaw01_ClassSkips.f k a0 a1) (pagemenderlaw01_ClassSkips.f (k + 1) a0 a1) := by
  intro a0 a1 k
  obtain ⟨ih0, ih1, ih2⟩ := pagemenderlaw01_ClassSkips.mono_l k
  unfold pagemenderlaw01_ClassSkips.f
  repeat' first
      | (with_reducible exact ih0 _ _ _ _ _)
      | (with_reducible exact ih1 _ _ _ _ _ _)
      | (with_reducible exact ih2 _ _ _ _)
      | (with_reducible exact class_Run.mono _ _ _)
      | (with_reducible exact LeO.refl _)
      | (with_reducible exact LeO.none _)
      | (with_reducible refine LeO.ite ?_ ?_)
      | (with_reducible refine LeO.bind ?_ (fun _ => ?_))
      | exact ih0 _ _ _ _ _
      | exact ih1 _ _ _ _ _ _
      | exact ih2 _ _ _ _
      | exact class_Run.mono _ _ _
      | exact LeO.none _
      | refine LeO.ite ?_ ?_
      | refine LeO.bind ?_ (fun _ => ?_)
set_option maxHeartbeats 8000000 in
set_option maxRecDepth 100000 in
theorem pagemenderlaw01_ClassSkips.calls (k : Nat) (a0 : ByteArray) (a1 : Int) (r : Bool) (w : World) (h : pagemenderlaw01_ClassSkips.f k a0 a1 = some r) :
    Calls Try.prog 5 #[.string a0, .int .i64 a1] w fun e w' => e = .returned (.bool r) ∧ Below w.heap.size w w' := by
  have HB := Aside0.mk (Below.refl w.heap.size w)
  have H : ((pagemenderlaw01_lives.f).bind fun t112 => (if t112 = true then (if (a0.size : Int) > 2000 then (some true) else ((class_Skip.f a0 a1).bind fun t113 => (if t113 < (mn (mx a1 0) (a0.size : Int)) then (pagemenderlaw01_ClassSkips.j0 k a0 a1 (mn (mx a1 0) (a0.size : Int)) t113 true) else (if t113 > (a0.size : Int) then (pagemenderlaw01_ClassSkips.j0 k a0 a1 (mn (mx a1 0) (a0.size : Int)) t113 true) else ((class_Skip.f a0 t113).bind fun t114 => (if t114 = t113 then (if t113 < (a0.size : Int) then (if 0 ≤ t113 then ((class_White.f (bt a0 t113)).bind fun t115 => (if t115 = true then (pagemenderlaw01_ClassSkips.j0 k a0 a1 (mn (mx a1 0) (a0.size : Int)) t113 true) else (pagemenderlaw01_ClassSkips.j0 k a0 a1 (mn (mx a1 0) (a0.size : Int)) t113 ((bt a0 t113) == 37)))) else (none)) else (pagemenderlaw01_ClassSkips.j0 k a0 a1 (mn (mx a1 0) (a0.size : Int)) t113 false)) else (pagemenderlaw01_ClassSkips.j0 k a0 a1 (mn (mx a1 0) (a0.size : Int)) t113 true))))))) else (some false))) = some r := h
  clear h
  replace H := Option.bind_eq_some_iff.mp H
  obtain ⟨t112, A30, H⟩ := H
  replace H : (if t112 = true then (if (a0.size : Int) > 2000 then (some true) else ((class_Skip.f a0 a1).bind fun t113 => (if t113 < (mn (mx a1 0) (a0.size : Int)) then (pagemenderlaw01_ClassSkips.j0 k a0 a1 (mn (mx a1 0) (a0.size : Int)) t113 true) else (if t113 > (a0.size : Int) then (pagemenderlaw01_ClassSkips.j0 k a0 a1 (mn (mx a1 0) (a0.size : Int)) t113 true) else ((class_Skip.f a0 t113).bind fun t114 => (if t114 = t113 then (if t113 < (a0.size : Int) then (if 0 ≤ t113 then ((class_White.f (bt a0 t113)).bind fun t115 => (if t115 = true then (pagemenderlaw01_ClassSkips.j0 k a0 a1 (mn (mx a1 0) (a0.size : Int)) t113 true) else (pagemenderlaw01_ClassSkips.j0 k a0 a1 (mn (mx a1 0) (a0.size : Int)) t113 ((bt a0 t113) == 37)))) else (none)) else (pagemenderlaw01_ClassSkips.j0 k a0 a1 (mn (mx a1 0) (a0.size : Int)) t113 false)) else (pagemenderlaw01_ClassSkips.j0 k a0 a1 (mn (mx a1 0) (a0.size : Int)) t113 true))))))) else (some false)) = some r := H
  have A3 := Aside0.mk A30
  clear A30
  by_cases c4 : t112 = true
  · subst c4
    have H1 : (if (a0.size : Int) > 2000 then (some true) else ((class_Skip.f a0 a1).bind fun t113 => (if t113 < (mn (mx a1 0) (a0.size : Int)) then (pagemenderlaw01_ClassSkips.j0 k a0 a1 (mn (mx a1 0) (a0.size : Int)) t113 true) else (if t113 > (a0.size : Int) then (pagemenderlaw01_ClassSkips.j0 k a0 a1 (mn (mx a1 0) (a0.size : Int)) t113 true) else ((class_Skip.f a0 t113).bind fun t114 => (if t114 = t113 then (if t113 < (a0.size : Int) then (if 0 ≤ t113 then ((class_White.f (bt a0 t113)).bind fun t115 => (if t115 = true then (pagemenderlaw01_ClassSkips.j0 k a0 a1 (mn (mx a1 0) (a0.size : Int)) t113 true) else (pagemenderlaw01_ClassSkips.j0 k a0 a1 (mn (mx a1 0) (a0.size : Int)) t113 ((bt a0 t113) == 37)))) else (none)) else (pagemenderlaw01_ClassSkips.j0 k a0 a1 (mn (mx a1 0) (a0.size : Int)) t113 false)) else (pagemenderlaw01_ClassSkips.j0 k a0 a1 (mn (mx a1 0) (a0.size : Int)) t113 true))))))) = some r := by rw [if_pos rfl] at H; exact H
    clear H
    have H := H1
    clear H1
    by_cases c5 : (a0.size : Int) > 2000
    · rw [if_pos c5] at H
      have c5b0 : decide (2000 < (a0.size : Int)) = true := decide_eq_true c5
      have c5b1 : decide (2000 < a0.size) = true := decide_eq_true (by omega)
      clear c5
      obtain rfl := Option.some.inj H
      go_enter Try.func5, Try.ntmps5
      go_wp2_with (first | ((with_reducible refine gate_callee (f := 9) rfl ?_); refine goesL_ (some 11) rfl rfl Try.func9 (by kernel_rfl) rfl #[] rfl (by (try simp only [List.map_toArray, List.map_cons, List.map_nil]); first | done | rfl | (simp only [List.length_drop, List.length_take]; rfl)) ?_; (with_reducible refine (pagemenderlaw01_lives.calls  true _ A3.out).mono ?_); rintro e w6 ⟨rfl, hb⟩; refine ⟨_, rfl, ?_⟩; have n0_ := Aside0.mk (below_step (by repeat (first | (with_reducible first | exact HB.out | apply below_alloc | apply pw_below_drewN | apply below_drew1) | exact HB.out)) hb); clear HB; have HB := n0_; clear n0_; (try clear hb); (try clear hb2); (try clear hk); (try clear hi)))
      go_ret
      exact ⟨by first | rfl | (simp [errW_none, errW_some] <;> rfl) | (simp [*, errW_none, errW_some] <;> rfl) | (obtain rfl := Option.some.inj (A36.out.symm.trans A43.out); rfl) | (obtain rfl := Option.some.inj (A36.out.symm.trans A51.out); rfl) | (obtain rfl := Option.some.inj (A43.out.symm.trans A51.out); rfl) | (rw [IntWalk.wrap64_in _ ⟨by omega, by omega⟩]), by repeat (first | (with_reducible first | exact HB.out | apply below_alloc | apply pw_below_drewN | apply below_drew1) | exact HB.out)⟩
    · rw [if_neg c5] at H
      have c5b0 : decide (2000 < (a0.size : Int)) = false := decide_eq_false c5
      have c5b1 : decide (2000 < a0.size) = false := decide_eq_false (by omega)
      clear c5
      obtain ⟨ji7, hji7⟩ : ∃ j_ : Int, (mx a1 0) = j_ := ⟨_, rfl⟩
      replace H : ((class_Skip.f a0 a1).bind fun t113 => (if t113 < (mn (ji7) (a0.size : Int)) then (pagemenderlaw01_ClassSkips.j0 k a0 a1 (mn (ji7) (a0.size : Int)) t113 true) else (if t113 > (a0.size : Int) then (pagemenderlaw01_ClassSkips.j0 k a0 a1 (mn (ji7) (a0.size : Int)) t113 true) else ((class_Skip.f a0 t113).bind fun t114 => (if t114 = t113 then (if t113 < (a0.size : Int) then (if 0 ≤ t113 then ((class_White.f (bt a0 t113)).bind fun t115 => (if t115 = true then (pagemenderlaw01_ClassSkips.j0 k a0 a1 (mn (ji7) (a0.size : Int)) t113 true) else (pagemenderlaw01_ClassSkips.j0 k a0 a1 (mn (ji7) (a0.size : Int)) t113 ((bt a0 t113) == 37)))) else (none)) else (pagemenderlaw01_ClassSkips.j0 k a0 a1 (mn (ji7) (a0.size : Int)) t113 false)) else (pagemenderlaw01_ClassSkips.j0 k a0 a1 (mn (ji7) (a0.size : Int)) t113 true)))))) = some r := by first | (rw [hji7] at H; exact H) | (simp only [hji7] at H ⊢; exact H)
      (try rw [hji7] at A3)
      (try (have hji7l : 0 ≤ ji7 := by (rw [← hji7]; unfold mx; (repeat' split) <;> omega)))
      (try (have hji7m : 0 ≤ ji7 := by omega))
      have hji7_ : (if a1 < 0 then 0 else a1) = ji7 := hji7
      obtain ⟨ji8, hji8⟩ : ∃ j_ : Int, (mn (ji7) (a0.size : Int)) = j_ := ⟨_, rfl⟩
      replace H : ((class_Skip.f a0 a1).bind fun t113 => (if t113 < (ji8) then (pagemenderlaw01_ClassSkips.j0 k a0 a1 ji8 t113 true) else (if t113 > (a0.size : Int) then (pagemenderlaw01_ClassSkips.j0 k a0 a1 ji8 t113 true) else ((class_Skip.f a0 t113).bind fun t114 => (if t114 = t113 then (if t113 < (a0.size : Int) then (if 0 ≤ t113 then ((class_White.f (bt a0 t113)).bind fun t115 => (if t115 = true then (pagemenderlaw01_ClassSkips.j0 k a0 a1 ji8 t113 true) else (pagemenderlaw01_ClassSkips.j0 k a0 a1 ji8 t113 ((bt a0 t113) == 37)))) else (none)) else (pagemenderlaw01_ClassSkips.j0 k a0 a1 ji8 t113 false)) else (pagemenderlaw01_ClassSkips.j0 k a0 a1 ji8 t113 true)))))) = some r := by first | (rw [hji8] at H; exact H) | (simp only [hji8] at H ⊢; exact H)
      (try rw [hji8] at A3)
      have hji8_ : (if (a0.size : Int) < (ji7) then (a0.size : Int) else (ji7)) = ji8 := hji8
      replace H := Option.bind_eq_some_iff.mp H
      obtain ⟨t113, A90, H⟩ := H
      replace H : (if t113 < (ji8) then (pagemenderlaw01_ClassSkips.j0 k a0 a1 ji8 t113 true) else (if t113 > (a0.size : Int) then (pagemenderlaw01_ClassSkips.j0 k a0 a1 ji8 t113 true) else ((class_Skip.f a0 t113).bind fun t114 => (if t114 = t113 then (if t113 < (a0.size : Int) then (if 0 ≤ t113 then ((class_White.f (bt a0 t113)).bind fun t115 => (if t115 = true then (pagemenderlaw01_ClassSkips.j0 k a0 a1 ji8 t113 true) else (pagemenderlaw01_ClassSkips.j0 k a0 a1 ji8 t113 ((bt a0 t113) == 37)))) else (none)) else (pagemenderlaw01_ClassSkips.j0 k a0 a1 ji8 t113 false)) else (pagemenderlaw01_ClassSkips.j0 k a0 a1 ji8 t113 true))))) = some r := H
      have A9 := Aside0.mk A90
      clear A90
      have HC10 := Aside0.mk H
      clear H
      go_enter Try.func5, Try.ntmps5
      go_upto_region 7 with (first | ((with_reducible refine gate_callee (f := 9) rfl ?_); refine goesL_ (some 11) rfl rfl Try.func9 (by kernel_rfl) rfl #[] rfl (by (try simp only [List.map_toArray, List.map_cons, List.map_nil]); first | done | rfl | (simp only [List.length_drop, List.length_take]; rfl)) ?_; (with_reducible refine (pagemenderlaw01_lives.calls  true _ A3.out).mono ?_); rintro e w11 ⟨rfl, hb⟩; refine ⟨_, rfl, ?_⟩; have n0_ := Aside0.mk (below_step (by repeat (first | (with_reducible first | exact HB.out | apply below_alloc | apply pw_below_drewN | apply below_drew1) | exact HB.out)) hb); clear HB; have HB := n0_; clear n0_; (try clear hb); (try clear hb2); (try clear hk); (try clear hi)) | ((with_reducible refine gate_callee (f := 12) rfl ?_); refine goesL_ (some 23) rfl rfl Try.func12 (by kernel_rfl) rfl #[.string a0, .int .i64 a1] rfl (by (try simp only [List.map_toArray, List.map_cons, List.map_nil]); first | done | rfl | (simp only [List.length_drop, List.length_take]; rfl)) ?_; (with_reducible refine (class_Skip.calls a0 a1 t113 _ A9.out).mono ?_); rintro e w12 ⟨rfl, hb⟩; refine ⟨_, rfl, ?_⟩; have n0_ := Aside0.mk (below_step (by repeat (first | (with_reducible first | exact HB.out | apply below_alloc | apply pw_below_drewN | apply below_drew1) | exact HB.out)) hb); clear HB; have HB := n0_; clear n0_; (try clear hb); (try clear hb2); (try clear hk); (try clear hi)))
      (try simp only [Act.put, List.setIfInBounds_toArray, List.set_cons_zero, List.set_cons_succ])
      go_cut [57] (fun v57 wc => ∃ (kq : Nat) (x57_9 : Bool), v57 = .bool x57_9 ∧ Aside0 (pagemenderlaw01_ClassSkips.j0 kq a0 a1 ji8 t113 x57_9 = some r) ∧ Aside0 (kq ≤ k) ∧ Aside0 (Below w.heap.size w wc))
      case first =>
        have H := HC10.out
        clear HC10
        by_cases c13 : t113 < (ji8)
        · rw [if_pos c13] at H
          have c13b0 : decide (t113 < (ji8)) = true := decide_eq_true c13
          clear c13
          (first | rw [c13b0] | (simp only [i64_w, i32_w]; rw [c13b0]) | skip)
          have H' := Aside0.mk H
          clear H
          go_wp2
          go_meet
          case rel => exact ⟨_, (true), (by first | rfl | (simp; done) | (simp [*]; done)), H', ⟨by first | omega | exact Nat.le_refl _⟩, ⟨by repeat (first | (with_reducible first | exact HB.out | apply below_alloc | apply pw_below_drewN | apply below_drew1) | exact HB.out)⟩⟩
        · rw [if_neg c13] at H
          have c13b0 : decide (t113 < (ji8)) = false := decide_eq_false c13
          clear c13
          (first | rw [c13b0] | (simp only [i64_w, i32_w]; rw [c13b0]) | skip)
          by_cases c14 : t113 > (a0.size : Int)
          · rw [if_pos c14] at H
            have c14b0 : decide ((a0.size : Int) < t113) = true := decide_eq_true c14
            clear c14
            have H' := Aside0.mk H
            clear H
            go_wp2
            go_meet
            case rel => exact ⟨_, (true), (by first | rfl | (simp; done) | (simp [*]; done)), H', ⟨by first | omega | exact Nat.le_refl _⟩, ⟨by repeat (first | (with_reducible first | exact HB.out | apply below_alloc | apply pw_below_drewN | apply below_drew1) | exact HB.out)⟩⟩
          · rw [if_neg c14] at H
            have c14b0 : decide ((a0.size : Int) < t113) = false := decide_eq_false c14
            clear c14
            replace H := Option.bind_eq_some_iff.mp H
            obtain ⟨t114, A150, H⟩ := H
            replace H : (if t114 = t113 then (if t113 < (a0.size : Int) then (if 0 ≤ t113 then ((class_White.f (bt a0 t113)).bind fun t115 => (if t115 = true then (pagemenderlaw01_ClassSkips.j0 k a0 a1 ji8 t113 true) else (pagemenderlaw01_ClassSkips.j0 k a0 a1 ji8 t113 ((bt a0 t113) == 37)))) else (none)) else (pagemenderlaw01_ClassSkips.j0 k a0 a1 ji8 t113 false)) else (pagemenderlaw01_ClassSkips.j0 k a0 a1 ji8 t113 true)) = some r := H
            have A15 := Aside0.mk A150
            clear A150
            by_cases c16 : t114 = t113
            · rw [if_pos c16] at H
              have c16b0 : (t114 == t113) = true := beq_iff_eq.mpr c16
              have c16b1 : (t114 != t113) = false := bne_eq_false_iff_eq.mpr c16
              clear c16
              by_cases c17 : t113 < (a0.size : Int)
              · rw [if_pos c17] at H
                have c17b0 : decide (t113 < (a0.size : Int)) = true := decide_eq_true c17
                clear c17
                by_cases c18 : 0 ≤ t113
                · rw [if_pos c18] at H
                  have c18b0 : decide (0 ≤ t113) = true := decide_eq_true c18
                  clear c18
                  replace H := Option.bind_eq_some_iff.mp H
                  obtain ⟨t115, A200, H⟩ := H
                  replace H : (if t115 = true then (pagemenderlaw01_ClassSkips.j0 k a0 a1 ji8 t113 true) else (pagemenderlaw01_ClassSkips.j0 k a0 a1 ji8 t113 ((bt a0 t113) == 37))) = some r := H
                  have A20 := Aside0.mk A200
                  clear A200
                  by_cases c21 : t115 = true
                  · subst c21
                    have H1 : (pagemenderlaw01_ClassSkips.j0 k a0 a1 ji8 t113 true) = some r := by rw [if_pos rfl] at H; exact H
                    clear H
                    have H := H1
                    clear H1
                    have H' := Aside0.mk H
                    clear H
                    go_wp2_with (first | (go_at_call 12; (with_reducible refine (class_Skip.calls a0 t113 t114 _ A15.out).mono ?_); rintro e w22 ⟨rfl, hb⟩; have n0_ := Aside0.mk (below_step (by repeat (first | (with_reducible first | exact HB.out | apply below_alloc | apply pw_below_drewN | apply below_drew1) | exact HB.out)) hb); clear HB; have HB := n0_; clear n0_; (try clear hb); (try clear hb2); (try clear hk); (try clear hi); have p19 : 0 ≤ (t113 : Int) := of_decide_eq_true (by first | (with_reducible assumption) | assumption); have q19 : t113 < (a0.size : Int) := of_decide_eq_true (by first | (with_reducible assumption) | assumption); have hx19 := bt_at a0 t113; replace p19 := eq_true p19; replace q19 := eq_true q19) | (go_at_call 13; (with_reducible refine (class_White.calls (bt a0 t113) true _ A20.out).mono ?_); rintro e w23 ⟨rfl, hb⟩; have n0_ := Aside0.mk (below_step (by repeat (first | (with_reducible first | exact HB.out | apply below_alloc | apply pw_below_drewN | apply below_drew1) | exact HB.out)) hb); clear HB; have HB := n0_; clear n0_; (try clear hb); (try clear hb2); (try clear hk); (try clear hi)))
                    go_meet
                    case rel => exact ⟨_, (true), (by first | rfl | (simp; done) | (simp [*]; done)), H', ⟨by first | omega | exact Nat.le_refl _⟩, ⟨by repeat (first | (with_reducible first | exact HB.out | apply below_alloc | apply pw_below_drewN | apply below_drew1) | exact HB.out)⟩⟩
                  · replace c21 := Bool.eq_false_iff.mpr c21
                    subst c21
                    have H1 : (pagemenderlaw01_ClassSkips.j0 k a0 a1 ji8 t113 ((bt a0 t113) == 37)) = some r := by rw [if_neg (show ¬ (false = true) by decide)] at H; exact H
                    clear H
                    have H := H1
                    clear H1
                    have H' := Aside0.mk H
                    clear H
                    go_wp2_with (first | (go_at_call 12; (with_reducible refine (class_Skip.calls a0 t113 t114 _ A15.out).mono ?_); rintro e w25 ⟨rfl, hb⟩; have n0_ := Aside0.mk (below_step (by repeat (first | (with_reducible first | exact HB.out | apply below_alloc | apply pw_below_drewN | apply below_drew1) | exact HB.out)) hb); clear HB; have HB := n0_; clear n0_; (try clear hb); (try clear hb2); (try clear hk); (try clear hi); have p19 : 0 ≤ (t113 : Int) := of_decide_eq_true (by first | (with_reducible assumption) | assumption); have q19 : t113 < (a0.size : Int) := of_decide_eq_true (by first | (with_reducible assumption) | assumption); have hx19 := bt_at a0 t113; replace p19 := eq_true p19; replace q19 := eq_true q19) | (go_at_call 13; (with_reducible refine (class_White.calls (bt a0 t113) false _ A20.out).mono ?_); rintro e w26 ⟨rfl, hb⟩; have n0_ := Aside0.mk (below_step (by repeat (first | (with_reducible first | exact HB.out | apply below_alloc | apply pw_below_drewN | apply below_drew1) | exact HB.out)) hb); clear HB; have HB := n0_; clear n0_; (try clear hb); (try clear hb2); (try clear hk); (try clear hi); have p24 : 0 ≤ (t113 : Int) := of_decide_eq_true (by first | (with_reducible assumption) | assumption); have q24 : t113 < (a0.size : Int) := of_decide_eq_true (by first | (with_reducible assumption) | assumption); have hx24 := bt_at a0 t113; replace p24 := eq_true p24; replace q24 := eq_true q24))
                    go_meet
                    case rel => exact ⟨_, (((bt a0 t113) == 37)), (by first | rfl | (simp; done) | (simp [*]; done)), H', ⟨by first | omega | exact Nat.le_refl _⟩, ⟨by repeat (first | (with_reducible first | exact HB.out | apply below_alloc | apply pw_below_drewN | apply below_drew1) | exact HB.out)⟩⟩
                · rw [if_neg c18] at H
                  exact absurd H (by simp)
              · rw [if_neg c17] at H
                have c17b0 : decide (t113 < (a0.size : Int)) = false := decide_eq_false c17
                clear c17
                have H' := Aside0.mk H
                clear H
                go_wp2_with (first | (go_at_call 12; (with_reducible refine (class_Skip.calls a0 t113 t114 _ A15.out).mono ?_); rintro e w27 ⟨rfl, hb⟩; have n0_ := Aside0.mk (below_step (by repeat (first | (with_reducible first | exact HB.out | apply below_alloc | apply pw_below_drewN | apply below_drew1) | exact HB.out)) hb); clear HB; have HB := n0_; clear n0_; (try clear hb); (try clear hb2); (try clear hk); (try clear hi)))
                go_meet
                case rel => exact ⟨_, (false), (by first | rfl | (simp; done) | (simp [*]; done)), H', ⟨by first | omega | exact Nat.le_refl _⟩, ⟨by repeat (first | (with_reducible first | exact HB.out | apply below_alloc | apply pw_below_drewN | apply below_drew1) | exact HB.out)⟩⟩
            · rw [if_neg c16] at H
              have c16b0 : (t114 == t113) = false := beq_eq_false_iff_ne.mpr c16
              have c16b1 : (t114 != t113) = true := bne_iff_ne.mpr c16
              have H' := Aside0.mk H
              clear H
              go_wp2_with (first | (go_at_call 12; (with_reducible refine (class_Skip.calls a0 t113 t114 _ A15.out).mono ?_); rintro e w28 ⟨rfl, hb⟩; have n0_ := Aside0.mk (below_step (by repeat (first | (with_reducible first | exact HB.out | apply below_alloc | apply pw_below_drewN | apply below_drew1) | exact HB.out)) hb); clear HB; have HB := n0_; clear n0_; (try clear hb); (try clear hb2); (try clear hk); (try clear hi)))
              go_meet
              case rel => exact ⟨_, (true), (by first | rfl | (simp; done) | (simp [*]; done)), H', ⟨by first | omega | exact Nat.le_refl _⟩, ⟨by repeat (first | (with_reducible first | exact HB.out | apply below_alloc | apply pw_below_drewN | apply below_drew1) | exact HB.out)⟩⟩
      case rest =>
        clear HC10
        try clear c1
        try clear p1
        try clear q1
        try clear hx1
        try clear c2
        try clear p2
        try clear q2
        try clear hx2
        try clear c4
        try clear c5
        try clear c5b0
        try clear c5b1
        try clear c9
        try clear c12
        try clear c13
        try clear c13b0
        try clear c14
        try clear c14b0
        try clear c16
        try clear c16b0
        try clear c16b1
        try clear c17
        try clear c17b0
        try clear c18
        try clear c18b0
        try clear p19
        try clear q19
        try clear hx19
        try clear c21
        try clear p24
        try clear q24
        try clear hx24
        try clear p19
        try clear p24
        try clear q19
        try clear q24
        obtain ⟨kq, x57_9, rfl, HA, HJ9, HB⟩ := hcut
        cases kq with
        | zero => exact absurd HA.out (by simp [pagemenderlaw01_ClassSkips.j0])
        | succ kj9 =>
          have H := HA.out
          clear HA
          simp only [pagemenderlaw01_ClassSkips.j0] at H
          by_cases c29 : x57_9 = true
          · subst c29
            have H1 : (some false) = some r := by rw [if_pos rfl] at H; exact H
            clear H
            have H := H1
            clear H1
            obtain rfl := Option.some.inj H
            go_wp2
            go_ret
            exact ⟨by first | rfl | (simp [errW_none, errW_some] <;> rfl) | (simp only [← hji7, ← hji8]; first | rfl | (simp [errW_none, errW_some] <;> rfl)) | (simp [*, errW_none, errW_some] <;> rfl) | (obtain rfl := Option.some.inj (A36.out.symm.trans A43.out); rfl) | (obtain rfl := Option.some.inj (A36.out.symm.trans A51.out); rfl) | (obtain rfl := Option.some.inj (A43.out.symm.trans A51.out); rfl) | (rw [IntWalk.wrap64_in _ ⟨by omega, by omega⟩]), by repeat (first | (with_reducible first | exact HB.out | apply below_alloc | apply pw_below_drewN | apply below_drew1) | exact HB.out)⟩
          · replace c29 := Bool.eq_false_iff.mpr c29
            subst c29
            have H1 : (pagemenderlaw01_ClassSkips.l0 kj9 a0 a1 ji8 t113 false ji8) = some r := by rw [if_neg (show ¬ (false = true) by decide)] at H; exact H
            clear H
            have H := H1
            clear H1
            have H' := Aside0.mk H
            clear H
            go_wp2
            go_loopg [7, 8] kj9 (fun kq v7 v8 w' => ∃ (x7_2 : Bool) (x8_2 : Int), v7 = .bool x7_2 ∧ v8 = .int .i64 x8_2 ∧ Aside0 (pagemenderlaw01_ClassSkips.l0 kq a0 a1 ji8 t113 x7_2 x8_2 = some r) ∧ Aside0 (kq ≤ kj9) ∧ Aside0 (Below w.heap.size w w'))
            case atStart => exact ⟨(false), (ji8), (by first | rfl | (simp; done) | (simp [*]; done)), (by first | rfl | (simp; done) | (simp only [← hji8] <;> (first | rfl | simp)) | (simp [*]; done)), H', ⟨Nat.le_refl _⟩, ⟨by repeat (first | (with_reducible first | exact HB.out | apply below_alloc | apply pw_below_drewN | apply below_drew1) | exact HB.out)⟩⟩
            case round =>
              clear H'
              try clear c1
              try clear p1
              try clear q1
              try clear hx1
              try clear c2
              try clear p2
              try clear q2
              try clear hx2
              try clear c4
              try clear c5
              try clear c5b0
              try clear c5b1
              try clear c9
              try clear c12
              try clear c13
              try clear c13b0
              try clear c14
              try clear c14b0
              try clear c16
              try clear c16b0
              try clear c16b1
              try clear c17
              try clear c17b0
              try clear c18
              try clear c18b0
              try clear p19
              try clear q19
              try clear hx19
              try clear c21
              try clear p24
              try clear q24
              try clear hx24
              try clear c29
              try clear p1
              try clear p19
              try clear p2
              try clear p24
              try clear q1
              try clear q19
              try clear q2
              try clear q24
              obtain ⟨x7_2, x8_2, rfl, rfl, HA, HK2, HB⟩ := hrel
              cases gk with
              | zero => exact absurd HA.out (by simp [pagemenderlaw01_ClassSkips.l0])
              | succ k2 =>
                have H := HA.out
                clear HA
                simp only [pagemenderlaw01_ClassSkips.l0] at H
                by_cases c30 : x8_2 < t113
                · rw [if_pos c30] at H
                  have c30b0 : decide (x8_2 < t113) = true := decide_eq_true c30
                  clear c30
                  by_cases c31 : 0 ≤ x8_2
                  · rw [if_pos c31] at H
                    have c31b0 : decide (0 ≤ x8_2) = true := decide_eq_true c31
                    clear c31
                    by_cases c32 : x8_2 < (a0.size : Int)
                    · rw [if_pos c32] at H
                      have c32b0 : decide (x8_2 < (a0.size : Int)) = true := decide_eq_true c32
                      clear c32
                      by_cases c34 : (bt a0 x8_2) = 10
                      · rw [if_pos c34] at H
                        have c34b0 : ((bt a0 x8_2) == 10) = true := beq_iff_eq.mpr c34
                        have c34b1 : ((bt a0 x8_2) != 10) = false := bne_eq_false_iff_eq.mpr c34
                        clear c34
                        replace H := Option.bind_eq_some_iff.mp H
                        obtain ⟨t116, A360, H⟩ := H
                        replace H : (if t116 = true then (pagemenderlaw01_ClassSkips.l0 k2 a0 a1 ji8 t113 false (wrap64 (x8_2 + 1))) else (some false)) = some r := H
                        have A36 := Aside0.mk A360
                        clear A360
                        by_cases c37 : t116 = true
                        · subst c37
                          have H1 : (pagemenderlaw01_ClassSkips.l0 k2 a0 a1 ji8 t113 false (wrap64 (x8_2 + 1))) = some r := by rw [if_pos rfl] at H; exact H
                          clear H
                          have H := H1
                          clear H1
                          have H' := Aside0.mk H
                          clear H
                          have p33 : 0 ≤ (x8_2 : Int) := of_decide_eq_true (by first | (with_reducible assumption) | assumption)
                          have q33 : x8_2 < (a0.size : Int) := of_decide_eq_true (by first | (with_reducible assumption) | assumption)
                          have hx33 := bt_at a0 x8_2
                          replace p33 := eq_true p33
                          replace q33 := eq_true q33
                          have p35 : 0 ≤ (x8_2 : Int) := of_decide_eq_true (by first | (with_reducible assumption) | assumption)
                          have q35 : x8_2 < (a0.size : Int) := of_decide_eq_true (by first | (with_reducible assumption) | assumption)
                          have hx35 := bt_at a0 x8_2
                          replace p35 := eq_true p35
                          replace q35 := eq_true q35
                          go_wp2_with (first | (go_at_call 13; (with_reducible refine (class_White.calls (bt a0 x8_2) true _ A36.out).mono ?_); rintro e w38 ⟨rfl, hb⟩; have n0_ := Aside0.mk (below_step (by repeat (first | (with_reducible first | exact HB.out | apply below_alloc | apply pw_below_drewN | apply below_drew1) | exact HB.out)) hb); clear HB; have HB := n0_; clear n0_; (try clear hb); (try clear hb2); (try clear hk); (try clear hi)))
                          go_roundg k2
                          case measure => have := HJ9.out; have := HK2.out; omega
                          case rel => exact ⟨(false), (wrap64 (x8_2 + 1)), (by first | rfl | (simp; done) | (simp [*]; done)), (by first | rfl | (simp; done) | (simp [*]; done)), H', ⟨by have := HJ9.out; have := HK2.out; omega⟩, ⟨by repeat (first | (with_reducible first | exact HB.out | apply below_alloc | apply pw_below_drewN | apply below_drew1) | exact HB.out)⟩⟩
                        · replace c37 := Bool.eq_false_iff.mpr c37
                          subst c37
                          have H1 : (some false) = some r := by rw [if_neg (show ¬ (false = true) by decide)] at H; exact H
                          clear H
                          have H := H1
                          clear H1
                          obtain rfl := Option.some.inj H
                          have p33 : 0 ≤ (x8_2 : Int) := of_decide_eq_true (by first | (with_reducible assumption) | assumption)
                          have q33 : x8_2 < (a0.size : Int) := of_decide_eq_true (by first | (with_reducible assumption) | assumption)
                          have hx33 := bt_at a0 x8_2
                          replace p33 := eq_true p33
                          replace q33 := eq_true q33
                          have p35 : 0 ≤ (x8_2 : Int) := of_decide_eq_true (by first | (with_reducible assumption) | assumption)
                          have q35 : x8_2 < (a0.size : Int) := of_decide_eq_true (by first | (with_reducible assumption) | assumption)
                          have hx35 := bt_at a0 x8_2
                          replace p35 := eq_true p35
                          replace q35 := eq_true q35
                          go_wp2_with (first | (go_at_call 13; (with_reducible refine (class_White.calls (bt a0 x8_2) false _ A36.out).mono ?_); rintro e w39 ⟨rfl, hb⟩; have n0_ := Aside0.mk (below_step (by repeat (first | (with_reducible first | exact HB.out | apply below_alloc | apply pw_below_drewN | apply below_drew1) | exact HB.out)) hb); clear HB; have HB := n0_; clear n0_; (try clear hb); (try clear hb2); (try clear hk); (try clear hi)))
                          go_ret
                          exact ⟨by first | rfl | (simp [errW_none, errW_some] <;> rfl) | (simp only [← hji7, ← hji8]; first | rfl | (simp [errW_none, errW_some] <;> rfl)) | (simp [*, errW_none, errW_some] <;> rfl) | (obtain rfl := Option.some.inj (A36.out.symm.trans A43.out); rfl) | (obtain rfl := Option.some.inj (A36.out.symm.trans A51.out); rfl) | (obtain rfl := Option.some.inj (A43.out.symm.trans A51.out); rfl) | (rw [IntWalk.wrap64_in _ ⟨by omega, by omega⟩]), by repeat (first | (with_reducible first | exact HB.out | apply below_alloc | apply pw_below_drewN | apply below_drew1) | exact HB.out)⟩
                      · rw [if_neg c34] at H
                        have c34b0 : ((bt a0 x8_2) == 10) = false := beq_eq_false_iff_ne.mpr c34
                        have c34b1 : ((bt a0 x8_2) != 10) = true := bne_iff_ne.mpr c34
                        by_cases c41 : (bt a0 x8_2) = 13
                        · rw [if_pos c41] at H
                          have c41b0 : ((bt a0 x8_2) == 13) = true := beq_iff_eq.mpr c41
                          have c41b1 : ((bt a0 x8_2) != 13) = false := bne_eq_false_iff_eq.mpr c41
                          clear c41
                          replace H := Option.bind_eq_some_iff.mp H
                          obtain ⟨t117, A430, H⟩ := H
                          replace H : (if t117 = true then (pagemenderlaw01_ClassSkips.l0 k2 a0 a1 ji8 t113 false (wrap64 (x8_2 + 1))) else (some false)) = some r := H
                          have A43 := Aside0.mk A430
                          clear A430
                          by_cases c44 : t117 = true
                          · subst c44
                            have H1 : (pagemenderlaw01_ClassSkips.l0 k2 a0 a1 ji8 t113 false (wrap64 (x8_2 + 1))) = some r := by rw [if_pos rfl] at H; exact H
                            clear H
                            have H := H1
                            clear H1
                            have H' := Aside0.mk H
                            clear H
                            have p33 : 0 ≤ (x8_2 : Int) := of_decide_eq_true (by first | (with_reducible assumption) | assumption)
                            have q33 : x8_2 < (a0.size : Int) := of_decide_eq_true (by first | (with_reducible assumption) | assumption)
                            have hx33 := bt_at a0 x8_2
                            replace p33 := eq_true p33
                            replace q33 := eq_true q33
                            have p40 : 0 ≤ (x8_2 : Int) := of_decide_eq_true (by first | (with_reducible assumption) | assumption)
                            have q40 : x8_2 < (a0.size : Int) := of_decide_eq_true (by first | (with_reducible assumption) | assumption)
                            have hx40 := bt_at a0 x8_2
                            replace p40 := eq_true p40
                            replace q40 := eq_true q40
                            have p42 : 0 ≤ (x8_2 : Int) := of_decide_eq_true (by first | (with_reducible assumption) | assumption)
                            have q42 : x8_2 < (a0.size : Int) := of_decide_eq_true (by first | (with_reducible assumption) | assumption)
                            have hx42 := bt_at a0 x8_2
                            replace p42 := eq_true p42
                            replace q42 := eq_true q42
                            go_wp2_with (first | (go_at_call 13; (with_reducible refine (class_White.calls (bt a0 x8_2) true _ A43.out).mono ?_); rintro e w45 ⟨rfl, hb⟩; have n0_ := Aside0.mk (below_step (by repeat (first | (with_reducible first | exact HB.out | apply below_alloc | apply pw_below_drewN | apply below_drew1) | exact HB.out)) hb); clear HB; have HB := n0_; clear n0_; (try clear hb); (try clear hb2); (try clear hk); (try clear hi)))
                            go_roundg k2
                            case measure => have := HJ9.out; have := HK2.out; omega
                            case rel => exact ⟨(false), (wrap64 (x8_2 + 1)), (by first | rfl | (simp; done) | (simp [*]; done)), (by first | rfl | (simp; done) | (simp [*]; done)), H', ⟨by have := HJ9.out; have := HK2.out; omega⟩, ⟨by repeat (first | (with_reducible first | exact HB.out | apply below_alloc | apply pw_below_drewN | apply below_drew1) | exact HB.out)⟩⟩
                          · replace c44 := Bool.eq_false_iff.mpr c44
                            subst c44
                            have H1 : (some false) = some r := by rw [if_neg (show ¬ (false = true) by decide)] at H; exact H
                            clear H
                            have H := H1
                            clear H1
                            obtain rfl := Option.some.inj H
                            have p33 : 0 ≤ (x8_2 : Int) := of_decide_eq_true (by first | (with_reducible assumption) | assumption)
                            have q33 : x8_2 < (a0.size : Int) := of_decide_eq_true (by first | (with_reducible assumption) | assumption)
                            have hx33 := bt_at a0 x8_2
                            replace p33 := eq_true p33
                            replace q33 := eq_true q33
                            have p40 : 0 ≤ (x8_2 : Int) := of_decide_eq_true (by first | (with_reducible assumption) | assumption)
                            have q40 : x8_2 < (a0.size : Int) := of_decide_eq_true (by first | (with_reducible assumption) | assumption)
                            have hx40 := bt_at a0 x8_2
                            replace p40 := eq_true p40
                            replace q40 := eq_true q40
                            have p42 : 0 ≤ (x8_2 : Int) := of_decide_eq_true (by first | (with_reducible assumption) | assumption)
                            have q42 : x8_2 < (a0.size : Int) := of_decide_eq_true (by first | (with_reducible assumption) | assumption)
                            have hx42 := bt_at a0 x8_2
                            replace p42 := eq_true p42
                            replace q42 := eq_true q42
                            go_wp2_with (first | (go_at_call 13; (with_reducible refine (class_White.calls (bt a0 x8_2) false _ A43.out).mono ?_); rintro e w46 ⟨rfl, hb⟩; have n0_ := Aside0.mk (below_step (by repeat (first | (with_reducible first | exact HB.out | apply below_alloc | apply pw_below_drewN | apply below_drew1) | exact HB.out)) hb); clear HB; have HB := n0_; clear n0_; (try clear hb); (try clear hb2); (try clear hk); (try clear hi)))
                            go_ret
                            exact ⟨by first | rfl | (simp [errW_none, errW_some] <;> rfl) | (simp only [← hji7, ← hji8]; first | rfl | (simp [errW_none, errW_some] <;> rfl)) | (simp [*, errW_none, errW_some] <;> rfl) | (obtain rfl := Option.some.inj (A36.out.symm.trans A43.out); rfl) | (obtain rfl := Option.some.inj (A36.out.symm.trans A51.out); rfl) | (obtain rfl := Option.some.inj (A43.out.symm.trans A51.out); rfl) | (rw [IntWalk.wrap64_in _ ⟨by omega, by omega⟩]), by repeat (first | (with_reducible first | exact HB.out | apply below_alloc | apply pw_below_drewN | apply below_drew1) | exact HB.out)⟩
                        · rw [if_neg c41] at H
                          have c41b0 : ((bt a0 x8_2) == 13) = false := beq_eq_false_iff_ne.mpr c41
                          have c41b1 : ((bt a0 x8_2) != 13) = true := bne_iff_ne.mpr c41
                          by_cases c47 : x7_2 = true
                          · subst c47
                            have H1 : (pagemenderlaw01_ClassSkips.l0 k2 a0 a1 ji8 t113 true (wrap64 (x8_2 + 1))) = some r := by rw [if_pos rfl] at H; exact H
                            clear H
                            have H := H1
                            clear H1
                            have H' := Aside0.mk H
                            clear H
                            have p33 : 0 ≤ (x8_2 : Int) := of_decide_eq_true (by first | (with_reducible assumption) | assumption)
                            have q33 : x8_2 < (a0.size : Int) := of_decide_eq_true (by first | (with_reducible assumption) | assumption)
                            have hx33 := bt_at a0 x8_2
                            replace p33 := eq_true p33
                            replace q33 := eq_true q33
                            have p40 : 0 ≤ (x8_2 : Int) := of_decide_eq_true (by first | (with_reducible assumption) | assumption)
                            have q40 : x8_2 < (a0.size : Int) := of_decide_eq_true (by first | (with_reducible assumption) | assumption)
                            have hx40 := bt_at a0 x8_2
                            replace p40 := eq_true p40
                            replace q40 := eq_true q40
                            go_wp2
                            go_roundg k2
                            case measure => have := HJ9.out; have := HK2.out; omega
                            case rel => exact ⟨(true), (wrap64 (x8_2 + 1)), (by first | rfl | (simp; done) | (simp [*]; done)), (by first | rfl | (simp; done) | (simp [*]; done)), H', ⟨by have := HJ9.out; have := HK2.out; omega⟩, ⟨by repeat (first | (with_reducible first | exact HB.out | apply below_alloc | apply pw_below_drewN | apply below_drew1) | exact HB.out)⟩⟩
                          · replace c47 := Bool.eq_false_iff.mpr c47
                            subst c47
                            have H1 : (if ((bt a0 x8_2) = 37) then (pagemenderlaw01_ClassSkips.l0 k2 a0 a1 ji8 t113 ((bt a0 x8_2) == 37) (wrap64 (x8_2 + 1))) else ((class_White.f (bt a0 x8_2)).bind fun t118 => (if t118 = true then (pagemenderlaw01_ClassSkips.l0 k2 a0 a1 ji8 t113 ((bt a0 x8_2) == 37) (wrap64 (x8_2 + 1))) else (some false)))) = some r := by rw [if_neg (show ¬ (false = true) by decide)] at H; exact H
                            clear H
                            have H := H1
                            clear H1
                            by_cases c49 : ((bt a0 x8_2) = 37)
                            · rw [if_pos c49] at H
                              have c49b0 : ((bt a0 x8_2) == 37) = true := beq_iff_eq.mpr c49
                              have c49b1 : ((bt a0 x8_2) != 37) = false := bne_eq_false_iff_eq.mpr c49
                              clear c49
                              have H' := Aside0.mk H
                              clear H
                              have p33 : 0 ≤ (x8_2 : Int) := of_decide_eq_true (by first | (with_reducible assumption) | assumption)
                              have q33 : x8_2 < (a0.size : Int) := of_decide_eq_true (by first | (with_reducible assumption) | assumption)
                              have hx33 := bt_at a0 x8_2
                              replace p33 := eq_true p33
                              replace q33 := eq_true q33
                              have p40 : 0 ≤ (x8_2 : Int) := of_decide_eq_true (by first | (with_reducible assumption) | assumption)
                              have q40 : x8_2 < (a0.size : Int) := of_decide_eq_true (by first | (with_reducible assumption) | assumption)
                              have hx40 := bt_at a0 x8_2
                              replace p40 := eq_true p40
                              replace q40 := eq_true q40
                              have p48 : 0 ≤ (x8_2 : Int) := of_decide_eq_true (by first | (with_reducible assumption) | assumption)
                              have q48 : x8_2 < (a0.size : Int) := of_decide_eq_true (by first | (with_reducible assumption) | assumption)
                              have hx48 := bt_at a0 x8_2
                              replace p48 := eq_true p48
                              replace q48 := eq_true q48
                              go_wp2
                              go_roundg k2
                              case measure => have := HJ9.out; have := HK2.out; omega
                              case rel => exact ⟨(((bt a0 x8_2) == 37)), (wrap64 (x8_2 + 1)), (by first | rfl | (simp; done) | (simp [*]; done)), (by first | rfl | (simp; done) | (simp [*]; done)), H', ⟨by have := HJ9.out; have := HK2.out; omega⟩, ⟨by repeat (first | (with_reducible first | exact HB.out | apply below_alloc | apply pw_below_drewN | apply below_drew1) | exact HB.out)⟩⟩
                            · rw [if_neg c49] at H
                              have c49b0 : ((bt a0 x8_2) == 37) = false := beq_eq_false_iff_ne.mpr c49
                              have c49b1 : ((bt a0 x8_2) != 37) = true := bne_iff_ne.mpr c49
                              replace H := Option.bind_eq_some_iff.mp H
                              obtain ⟨t118, A510, H⟩ := H
                              replace H : (if t118 = true then (pagemenderlaw01_ClassSkips.l0 k2 a0 a1 ji8 t113 ((bt a0 x8_2) == 37) (wrap64 (x8_2 + 1))) else (some false)) = some r := H
                              have A51 := Aside0.mk A510
                              clear A510
                              by_cases c52 : t118 = true
                              · subst c52
                                have H1 : (pagemenderlaw01_ClassSkips.l0 k2 a0 a1 ji8 t113 ((bt a0 x8_2) == 37) (wrap64 (x8_2 + 1))) = some r := by rw [if_pos rfl] at H; exact H
                                clear H
                                have H := H1
                                clear H1
                                have H' := Aside0.mk H
                                clear H
                                have p33 : 0 ≤ (x8_2 : Int) := of_decide_eq_true (by first | (with_reducible assumption) | assumption)
                                have q33 : x8_2 < (a0.size : Int) := of_decide_eq_true (by first | (with_reducible assumption) | assumption)
                                have hx33 := bt_at a0 x8_2
                                replace p33 := eq_true p33
                                replace q33 := eq_true q33
                                have p40 : 0 ≤ (x8_2 : Int) := of_decide_eq_true (by first | (with_reducible assumption) | assumption)
                                have q40 : x8_2 < (a0.size : Int) := of_decide_eq_true (by first | (with_reducible assumption) | assumption)
                                have hx40 := bt_at a0 x8_2
                                replace p40 := eq_true p40
                                replace q40 := eq_true q40
                                have p48 : 0 ≤ (x8_2 : Int) := of_decide_eq_true (by first | (with_reducible assumption) | assumption)
                                have q48 : x8_2 < (a0.size : Int) := of_decide_eq_true (by first | (with_reducible assumption) | assumption)
                                have hx48 := bt_at a0 x8_2
                                replace p48 := eq_true p48
                                replace q48 := eq_true q48
                                have p50 : 0 ≤ (x8_2 : Int) := of_decide_eq_true (by first | (with_reducible assumption) | assumption)
                                have q50 : x8_2 < (a0.size : Int) := of_decide_eq_true (by first | (with_reducible assumption) | assumption)
                                have hx50 := bt_at a0 x8_2
                                replace p50 := eq_true p50
                                replace q50 := eq_true q50
                                go_wp2_with (first | (go_at_call 13; (with_reducible refine (class_White.calls (bt a0 x8_2) true _ A51.out).mono ?_); rintro e w53 ⟨rfl, hb⟩; have n0_ := Aside0.mk (below_step (by repeat (first | (with_reducible first | exact HB.out | apply below_alloc | apply pw_below_drewN | apply below_drew1) | exact HB.out)) hb); clear HB; have HB := n0_; clear n0_; (try clear hb); (try clear hb2); (try clear hk); (try clear hi)))
                                go_roundg k2
                                case measure => have := HJ9.out; have := HK2.out; omega
                                case rel => exact ⟨(((bt a0 x8_2) == 37)), (wrap64 (x8_2 + 1)), (by first | rfl | (simp; done) | (simp [*]; done)), (by first | rfl | (simp; done) | (simp [*]; done)), H', ⟨by have := HJ9.out; have := HK2.out; omega⟩, ⟨by repeat (first | (with_reducible first | exact HB.out | apply below_alloc | apply pw_below_drewN | apply below_drew1) | exact HB.out)⟩⟩
                              · replace c52 := Bool.eq_false_iff.mpr c52
                                subst c52
                                have H1 : (some false) = some r := by rw [if_neg (show ¬ (false = true) by decide)] at H; exact H
                                clear H
                                have H := H1
                                clear H1
                                obtain rfl := Option.some.inj H
                                have p33 : 0 ≤ (x8_2 : Int) := of_decide_eq_true (by first | (with_reducible assumption) | assumption)
                                have q33 : x8_2 < (a0.size : Int) := of_decide_eq_true (by first | (with_reducible assumption) | assumption)
                                have hx33 := bt_at a0 x8_2
                                replace p33 := eq_true p33
                                replace q33 := eq_true q33
                                have p40 : 0 ≤ (x8_2 : Int) := of_decide_eq_true (by first | (with_reducible assumption) | assumption)
                                have q40 : x8_2 < (a0.size : Int) := of_decide_eq_true (by first | (with_reducible assumption) | assumption)
                                have hx40 := bt_at a0 x8_2
                                replace p40 := eq_true p40
                                replace q40 := eq_true q40
                                have p48 : 0 ≤ (x8_2 : Int) := of_decide_eq_true (by first | (with_reducible assumption) | assumption)
                                have q48 : x8_2 < (a0.size : Int) := of_decide_eq_true (by first | (with_reducible assumption) | assumption)
                                have hx48 := bt_at a0 x8_2
                                replace p48 := eq_true p48
                                replace q48 := eq_true q48
                                have p50 : 0 ≤ (x8_2 : Int) := of_decide_eq_true (by first | (with_reducible assumption) | assumption)
                                have q50 : x8_2 < (a0.size : Int) := of_decide_eq_true (by first | (with_reducible assumption) | assumption)
                                have hx50 := bt_at a0 x8_2
                                replace p50 := eq_true p50
                                replace q50 := eq_true q50
                                go_wp2_with (first | (go_at_call 13; (with_reducible refine (class_White.calls (bt a0 x8_2) false _ A51.out).mono ?_); rintro e w54 ⟨rfl, hb⟩; have n0_ := Aside0.mk (below_step (by repeat (first | (with_reducible first | exact HB.out | apply below_alloc | apply pw_below_drewN | apply below_drew1) | exact HB.out)) hb); clear HB; have HB := n0_; clear n0_; (try clear hb); (try clear hb2); (try clear hk); (try clear hi)))
                                go_ret
                                exact ⟨by first | rfl | (simp [errW_none, errW_some] <;> rfl) | (simp only [← hji7, ← hji8]; first | rfl | (simp [errW_none, errW_some] <;> rfl)) | (simp [*, errW_none, errW_some] <;> rfl) | (obtain rfl := Option.some.inj (A36.out.symm.trans A43.out); rfl) | (obtain rfl := Option.some.inj (A36.out.symm.trans A51.out); rfl) | (obtain rfl := Option.some.inj (A43.out.symm.trans A51.out); rfl) | (rw [IntWalk.wrap64_in _ ⟨by omega, by omega⟩]), by repeat (first | (with_reducible first | exact HB.out | apply below_alloc | apply pw_below_drewN | apply below_drew1) | exact HB.out)⟩
                    · rw [if_neg c32] at H
                      exact absurd H (by simp)
                  · rw [if_neg c31] at H
                    exact absurd H (by simp)
                · rw [if_neg c30] at H
                  have c30b0 : decide (x8_2 < t113) = false := decide_eq_false c30
                  clear c30
                  replace H := Option.bind_eq_some_iff.mp H
                  obtain ⟨t119, A550, H⟩ := H
                  replace H : (pagemenderlaw01_ClassSkips.l1 k2 a0 ji8 t119 ji8) = some r := H
                  have A55 := Aside0.mk A550
                  clear A550
                  have H' := Aside0.mk H
                  clear H
                  go_wp2_with (first | ((with_reducible refine gate_callee (f := 14) rfl ?_); refine goesL_ (some 94) rfl rfl Try.func14 (by kernel_rfl) rfl #[.string a0, .int .i64 a1] rfl (by (try simp only [List.map_toArray, List.map_cons, List.map_nil]); first | done | rfl | (simp only [List.length_drop, List.length_take]; rfl)) ?_; (with_reducible refine (class_Run.calls k2 a0 a1 t119 _ A55.out).mono ?_); rintro e w56 ⟨rfl, hb⟩; refine ⟨_, rfl, ?_⟩; have n0_ := Aside0.mk (below_step (by repeat (first | (with_reducible first | exact HB.out | apply below_alloc | apply pw_below_drewN | apply below_drew1) | exact HB.out)) hb); clear HB; have HB := n0_; clear n0_; (try clear hb); (try clear hb2); (try clear hk); (try clear hi)))
                  go_loopg [10] k2 (fun kq v10 w' => ∃ (x10_3 : Int), v10 = .int .i64 x10_3 ∧ Aside0 (pagemenderlaw01_ClassSkips.l1 kq a0 ji8 t119 x10_3 = some r) ∧ Aside0 (kq ≤ k2) ∧ Aside0 (Below w.heap.size w w'))
                  case atStart => exact ⟨(ji8), (by first | rfl | (simp; done) | (simp only [← hji8] <;> (first | rfl | simp)) | (simp [*]; done)), H', ⟨Nat.le_refl _⟩, ⟨by repeat (first | (with_reducible first | exact HB.out | apply below_alloc | apply pw_below_drewN | apply below_drew1) | exact HB.out)⟩⟩
                  case round =>
                    clear H'
                    try clear c1
                    try clear p1
                    try clear q1
                    try clear hx1
                    try clear c2
                    try clear p2
                    try clear q2
                    try clear hx2
                    try clear c3
                    try clear p3
                    try clear q3
                    try clear hx3
                    try clear c4
                    try clear p4
                    try clear q4
                    try clear hx4
                    try clear c5
                    try clear c5b0
                    try clear c5b1
                    try clear p5
                    try clear q5
                    try clear hx5
                    try clear p6
                    try clear c9
                    try clear c12
                    try clear c13
                    try clear c13b0
                    try clear c14
                    try clear c14b0
                    try clear c16
                    try clear c16b0
                    try clear c16b1
                    try clear c17
                    try clear c17b0
                    try clear c18
                    try clear c18b0
                    try clear p19
                    try clear q19
                    try clear hx19
                    try clear c21
                    try clear p24
                    try clear q24
                    try clear hx24
                    try clear c29
                    try clear c30
                    try clear c30b0
                    try clear c31
                    try clear c31b0
                    try clear c32
                    try clear c32b0
                    try clear p33
                    try clear q33
                    try clear hx33
                    try clear c34
                    try clear c34b0
                    try clear c34b1
                    try clear p35
                    try clear q35
                    try clear hx35
                    try clear c37
                    try clear p40
                    try clear q40
                    try clear hx40
                    try clear c41
                    try clear c41b0
                    try clear c41b1
                    try clear p42
                    try clear q42
                    try clear hx42
                    try clear c44
                    try clear c47
                    try clear p48
                    try clear q48
                    try clear hx48
                    try clear c49
                    try clear c49b0
                    try clear c49b1
                    try clear p50
                    try clear q50
                    try clear hx50
                    try clear c52
                    try clear p1
                    try clear p19
                    try clear p2
                    try clear p24
                    try clear p33
                    try clear p35
                    try clear p40
                    try clear p42
                    try clear p48
                    try clear p50
                    try clear q1
                    try clear q19
                    try clear q2
                    try clear q24
                    try clear q33
                    try clear q35
                    try clear q40
                    try clear q42
                    try clear q48
                    try clear q50
                    obtain ⟨x10_3, rfl, HA, HK3, HB⟩ := hrel
                    cases gk with
                    | zero => exact absurd HA.out (by simp [pagemenderlaw01_ClassSkips.l1])
                    | succ k3 =>
                      have H := HA.out
                      clear HA
                      simp only [pagemenderlaw01_ClassSkips.l1] at H
                      by_cases c57 : x10_3 < t119
                      · rw [if_pos c57] at H
                        have c57b0 : decide (x10_3 < t119) = true := decide_eq_true c57
                        clear c57
                        by_cases c58 : 0 ≤ x10_3
                        · rw [if_pos c58] at H
                          have c58b0 : decide (0 ≤ x10_3) = true := decide_eq_true c58
                          clear c58
                          by_cases c59 : x10_3 < (a0.size : Int)
                          · rw [if_pos c59] at H
                            have c59b0 : decide (x10_3 < (a0.size : Int)) = true := decide_eq_true c59
                            clear c59
                            replace H := Option.bind_eq_some_iff.mp H
                            obtain ⟨t120, A610, H⟩ := H
                            replace H : (if t120 = true then (pagemenderlaw01_ClassSkips.l1 k3 a0 ji8 t119 (wrap64 (x10_3 + 1))) else (some false)) = some r := H
                            have A61 := Aside0.mk A610
                            clear A610
                            by_cases c62 : t120 = true
                            · subst c62
                              have H1 : (pagemenderlaw01_ClassSkips.l1 k3 a0 ji8 t119 (wrap64 (x10_3 + 1))) = some r := by rw [if_pos rfl] at H; exact H
                              clear H
                              have H := H1
                              clear H1
                              have H' := Aside0.mk H
                              clear H
                              have p60 : 0 ≤ (x10_3 : Int) := of_decide_eq_true (by first | (with_reducible assumption) | assumption)
                              have q60 : x10_3 < (a0.size : Int) := of_decide_eq_true (by first | (with_reducible assumption) | assumption)
                              have hx60 := bt_at a0 x10_3
                              replace p60 := eq_true p60
                              replace q60 := eq_true q60
                              go_wp2_with (first | ((with_reducible refine gate_callee (f := 15) rfl ?_); refine goesL_ (some 104) rfl rfl Try.func15 (by kernel_rfl) rfl #[.int .u8 (bt a0 x10_3)] rfl (by (try simp only [List.map_toArray, List.map_cons, List.map_nil]); first | done | rfl | (simp only [List.length_drop, List.length_take]; rfl)) ?_; (with_reducible refine (class_Regular.calls (bt a0 x10_3) true _ A61.out).mono ?_); rintro e w63 ⟨rfl, hb⟩; refine ⟨_, rfl, ?_⟩; have n0_ := Aside0.mk (below_step (by repeat (first | (with_reducible first | exact HB.out | apply below_alloc | apply pw_below_drewN | apply below_drew1) | exact HB.out)) hb); clear HB; have HB := n0_; clear n0_; (try clear hb); (try clear hb2); (try clear hk); (try clear hi)))
                              go_roundg k3
                              case measure => have := HJ9.out; have := HK2.out; have := HK3.out; omega
                              case rel => exact ⟨(wrap64 (x10_3 + 1)), (by first | rfl | (simp; done) | (simp [*]; done)), H', ⟨by have := HJ9.out; have := HK2.out; have := HK3.out; omega⟩, ⟨by repeat (first | (with_reducible first | exact HB.out | apply below_alloc | apply pw_below_drewN | apply below_drew1) | exact HB.out)⟩⟩
                            · replace c62 := Bool.eq_false_iff.mpr c62
                              subst c62
                              have H1 : (some false) = some r := by rw [if_neg (show ¬ (false = true) by decide)] at H; exact H
                              clear H
                              have H := H1
                              clear H1
                              obtain rfl := Option.some.inj H
                              have p60 : 0 ≤ (x10_3 : Int) := of_decide_eq_true (by first | (with_reducible assumption) | assumption)
                              have q60 : x10_3 < (a0.size : Int) := of_decide_eq_true (by first | (with_reducible assumption) | assumption)
                              have hx60 := bt_at a0 x10_3
                              replace p60 := eq_true p60
                              replace q60 := eq_true q60
                              go_wp2_with (first | ((with_reducible refine gate_callee (f := 15) rfl ?_); refine goesL_ (some 104) rfl rfl Try.func15 (by kernel_rfl) rfl #[.int .u8 (bt a0 x10_3)] rfl (by (try simp only [List.map_toArray, List.map_cons, List.map_nil]); first | done | rfl | (simp only [List.length_drop, List.length_take]; rfl)) ?_; (with_reducible refine (class_Regular.calls (bt a0 x10_3) false _ A61.out).mono ?_); rintro e w64 ⟨rfl, hb⟩; refine ⟨_, rfl, ?_⟩; have n0_ := Aside0.mk (below_step (by repeat (first | (with_reducible first | exact HB.out | apply below_alloc | apply pw_below_drewN | apply below_drew1) | exact HB.out)) hb); clear HB; have HB := n0_; clear n0_; (try clear hb); (try clear hb2); (try clear hk); (try clear hi)))
                              go_ret
                              exact ⟨by first | rfl | (simp [errW_none, errW_some] <;> rfl) | (simp only [← hji7, ← hji8]; first | rfl | (simp [errW_none, errW_some] <;> rfl)) | (simp [*, errW_none, errW_some] <;> rfl) | (obtain rfl := Option.some.inj (A36.out.symm.trans A43.out); rfl) | (obtain rfl := Option.some.inj (A36.out.symm.trans A51.out); rfl) | (obtain rfl := Option.some.inj (A43.out.symm.trans A51.out); rfl) | (rw [IntWalk.wrap64_in _ ⟨by omega, by omega⟩]), by repeat (first | (with_reducible first | exact HB.out | apply below_alloc | apply pw_below_drewN | apply below_drew1) | exact HB.out)⟩
                          · rw [if_neg c59] at H
                            exact absurd H (by simp)
                        · rw [if_neg c58] at H
                          exact absurd H (by simp)
                      · rw [if_neg c57] at H
                        have c57b0 : decide (x10_3 < t119) = false := decide_eq_false c57
                        clear c57
                        by_cases c65 : t119 ≥ ji8
                        · rw [if_pos c65] at H
                          have c65b0 : decide (ji8 ≤ t119) = true := decide_eq_true c65
                          clear c65
                          by_cases c66 : t119 ≤ (a0.size : Int)
                          · rw [if_pos c66] at H
                            have c66b0 : decide (t119 ≤ (a0.size : Int)) = true := decide_eq_true c66
                            clear c66
                            by_cases c67 : t119 = (a0.size : Int)
                            · rw [if_pos c67] at H
                              have c67b0 : (t119 == (a0.size : Int)) = true := beq_iff_eq.mpr c67
                              have c67b1 : (t119 != (a0.size : Int)) = false := bne_eq_false_iff_eq.mpr c67
                              clear c67
                              obtain rfl := Option.some.inj H
                              go_wp2
                              go_ret
                              exact ⟨by first | rfl | (simp [errW_none, errW_some] <;> rfl) | (simp only [← hji7, ← hji8]; first | rfl | (simp [errW_none, errW_some] <;> rfl)) | (simp [*, errW_none, errW_some] <;> rfl) | (obtain rfl := Option.some.inj (A36.out.symm.trans A43.out); rfl) | (obtain rfl := Option.some.inj (A36.out.symm.trans A51.out); rfl) | (obtain rfl := Option.some.inj (A43.out.symm.trans A51.out); rfl) | (rw [IntWalk.wrap64_in _ ⟨by omega, by omega⟩]), by repeat (first | (with_reducible first | exact HB.out | apply below_alloc | apply pw_below_drewN | apply below_drew1) | exact HB.out)⟩
                            · rw [if_neg c67] at H
                              have c67b0 : (t119 == (a0.size : Int)) = false := beq_eq_false_iff_ne.mpr c67
                              have c67b1 : (t119 != (a0.size : Int)) = true := bne_iff_ne.mpr c67
                              by_cases c68 : 0 ≤ t119
                              · rw [if_pos c68] at H
                                have c68b0 : decide (0 ≤ t119) = true := decide_eq_true c68
                                clear c68
                                by_cases c69 : t119 < (a0.size : Int)
                                · rw [if_pos c69] at H
                                  have c69b0 : decide (t119 < (a0.size : Int)) = true := decide_eq_true c69
                                  clear c69
                                  replace H := Option.bind_eq_some_iff.mp H
                                  obtain ⟨t121, A710, H⟩ := H
                                  replace H : (some (!t121)) = some r := H
                                  have A71 := Aside0.mk A710
                                  clear A710
                                  obtain rfl := Option.some.inj H
                                  have p70 : 0 ≤ (t119 : Int) := of_decide_eq_true (by first | (with_reducible assumption) | assumption)
                                  have q70 : t119 < (a0.size : Int) := of_decide_eq_true (by first | (with_reducible assumption) | assumption)
                                  have hx70 := bt_at a0 t119
                                  replace p70 := eq_true p70
                                  replace q70 := eq_true q70
                                  go_wp2_with (first | (go_at_call 15; (with_reducible refine (class_Regular.calls (bt a0 t119) t121 _ A71.out).mono ?_); rintro e w72 ⟨rfl, hb⟩; have n0_ := Aside0.mk (below_step (by repeat (first | (with_reducible first | exact HB.out | apply below_alloc | apply pw_below_drewN | apply below_drew1) | exact HB.out)) hb); clear HB; have HB := n0_; clear n0_; (try clear hb); (try clear hb2); (try clear hk); (try clear hi)))
                                  go_ret
                                  exact ⟨by first | rfl | (simp [errW_none, errW_some] <;> rfl) | (simp only [← hji7, ← hji8]; first | rfl | (simp [errW_none, errW_some] <;> rfl)) | (simp [*, errW_none, errW_some] <;> rfl) | (obtain rfl := Option.some.inj (A36.out.symm.trans A43.out); rfl) | (obtain rfl := Option.some.inj (A36.out.symm.trans A51.out); rfl) | (obtain rfl := Option.some.inj (A43.out.symm.trans A51.out); rfl) | (rw [IntWalk.wrap64_in _ ⟨by omega, by omega⟩]), by repeat (first | (with_reducible first | exact HB.out | apply below_alloc | apply pw_below_drewN | apply below_drew1) | exact HB.out)⟩
                                · rw [if_neg c69] at H
                                  exact absurd H (by simp)
                              · rw [if_neg c68] at H
                                exact absurd H (by simp)
                          · rw [if_neg c66] at H
                            have c66b0 : decide (t119 ≤ (a0.size : Int)) = false := decide_eq_false c66
                            clear c66
                            obtain rfl := Option.some.inj H
                            go_wp2
                            go_ret
                            exact ⟨by first | rfl | (simp [errW_none, errW_some] <;> rfl) | (simp only [← hji7, ← hji8]; first | rfl | (simp [errW_none, errW_some] <;> rfl)) | (simp [*, errW_none, errW_some] <;> rfl) | (obtain rfl := Option.some.inj (A36.out.symm.trans A43.out); rfl) | (obtain rfl := Option.some.inj (A36.out.symm.trans A51.out); rfl) | (obtain rfl := Option.some.inj (A43.out.symm.trans A51.out); rfl) | (rw [IntWalk.wrap64_in _ ⟨by omega, by omega⟩]), by repeat (first | (with_reducible first | exact HB.out | apply below_alloc | apply pw_below_drewN | apply below_drew1) | exact HB.out)⟩
                        · rw [if_neg c65] at H
                          have c65b0 : decide (ji8 ≤ t119) = false := decide_eq_false c65
                          clear c65
                          obtain rfl := Option.some.inj H
                          go_wp2
                          go_ret
                          exact ⟨by first | rfl | (simp [errW_none, errW_some] <;> rfl) | (simp only [← hji7, ← hji8]; first | rfl | (simp [errW_none, errW_some] <;> rfl)) | (simp [*, errW_none, errW_some] <;> rfl) | (obtain rfl := Option.some.inj (A36.out.symm.trans A43.out); rfl) | (obtain rfl := Option.some.inj (A36.out.symm.trans A51.out); rfl) | (obtain rfl := Option.some.inj (A43.out.symm.trans A51.out); rfl) | (rw [IntWalk.wrap64_in _ ⟨by omega, by omega⟩]), by repeat (first | (with_reducible first | exact HB.out | apply below_alloc | apply pw_below_drewN | apply below_drew1) | exact HB.out)⟩
  · replace c4 := Bool.eq_false_iff.mpr c4
    subst c4
    have H1 : (some false) = some r := by rw [if_neg (show ¬ (false = true) by decide)] at H; exact H
    clear H
    have H := H1
    clear H1
    obtain rfl := Option.some.inj H
    go_enter Try.func5, Try.ntmps5
    go_wp2_with (first | ((with_reducible refine gate_callee (f := 9) rfl ?_); refine goesL_ (some 11) rfl rfl Try.func9 (by kernel_rfl) rfl #[] rfl (by (try simp only [List.map_toArray, List.map_cons, List.map_nil]); first | done | rfl | (simp only [List.length_drop, List.length_take]; rfl)) ?_; (with_reducible refine (pagemenderlaw01_lives.calls  false _ A3.out).mono ?_); rintro e w73 ⟨rfl, hb⟩; refine ⟨_, rfl, ?_⟩; have n0_ := Aside0.mk (below_step (by repeat (first | (with_reducible first | exact HB.out | apply below_alloc | apply pw_below_drewN | apply below_drew1) | exact HB.out)) hb); clear HB; have HB := n0_; clear n0_; (try clear hb); (try clear hb2); (try clear hk); (try clear hi)))
    go_ret
    exact ⟨by first | rfl | (simp [errW_none, errW_some] <;> rfl) | (simp [*, errW_none, errW_some] <;> rfl) | (obtain rfl := Option.some.inj (A36.out.symm.trans A43.out); rfl) | (obtain rfl := Option.some.inj (A36.out.symm.trans A51.out); rfl) | (obtain rfl := Option.some.inj (A43.out.symm.trans A51.out); rfl) | (rw [IntWalk.wrap64_in _ ⟨by omega, by omega⟩]), by repeat (first | (with_reducible first | exact HB.out | apply below_alloc | apply pw_below_drewN | apply below_drew1) | exact HB.out)⟩

/-- THE ONE PURE STATEMENT of pagemenderlaw01_ClassSkips: yours. -/
def pagemenderlaw01_ClassSkips.Pure : Prop := ∀ (a0 : ByteArray) (a1 : Int), a0.size ≤ 140737488351232 → (Lit.int .i64 a1).wf = true → ∃ k, pagemenderlaw01_ClassSkips.f k a0 a1 = some true
theorem pagemenderlaw01_ClassSkips.walk (P : pagemenderlaw01_ClassSkips.Pure) (a0 : ByteArray) (a1 : Int) (w : World) (w0 : a0.size ≤ 140737488351232) (w1 : (Lit.int .i64 a1).wf = true) :
    Calls Try.prog 5 #[.string a0, .int .i64 a1] w fun e w' => e = .returned (.bool true) ∧ Below w.heap.size w w' := by
  obtain ⟨k, h⟩ := P a0 a1 w0 w1
  refine (pagemenderlaw01_ClassSkips.calls k a0 a1 true w h).mono ?_
  rintro e w' ⟨rfl, hd⟩
  exact ⟨rfl, hd⟩

-- GIVEN BY HAND: function 16 (class_Delim)

/-! ### class_Digit: function 18 -/
def class_Digit.f (a0 : Int) : Option (Bool) := if a0 ≥ 48 then (some (decide (a0 ≤ 57))) else (some false)
set_option maxHeartbeats 8000000 in
set_option maxRecDepth 100000 in
theorem class_Digit.calls (a0 : Int) (r : Bool) (w : World) (h : class_Digit.f a0 = some r) :
    Calls Try.prog 18 #[.int .u8 a0] w fun e w' => e = .returned (.bool r) ∧ Drawn0 w w' := by
  have H : (if a0 ≥ 48 then (some (decide (a0 ≤ 57))) else (some false)) = some r := h
  clear h
  by_cases c2 : a0 ≥ 48
  · rw [if_pos c2] at H
    have c2b0 : decide (48 ≤ a0) = true := decide_eq_true c2
    clear c2
    obtain rfl := Option.some.inj H
    go_enter Try.func18, Try.ntmps18
    go_wp2
    go_ret
    exact ⟨by first | rfl | (simp; done) | (simp [*]; done) | (rw [IntWalk.wrap64_in _ ⟨by omega, by omega⟩]), by repeat (first | exact Drawn0.refl _ | apply Drawn0.step)⟩
  · rw [if_neg c2] at H
    have c2b0 : decide (48 ≤ a0) = false := decide_eq_false c2
    clear c2
    obtain rfl := Option.some.inj H
    go_enter Try.func18, Try.ntmps18
    go_wp2
    go_ret
    exact ⟨by first | rfl | (simp; done) | (simp [*]; done) | (rw [IntWalk.wrap64_in _ ⟨by omega, by omega⟩]), by repeat (first | exact Drawn0.refl _ | apply Drawn0.step)⟩

end Go.Proofs.Ytmcdhldaffljnaa.G
