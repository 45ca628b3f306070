/- Printed for this seat by a program of the prover's own (over the kit's print): each function of the translation as a plain Lean function, and the proof that the code comes to its answers. -/
import Derived.Test.YtpmenahlbfefmaaGx0
import Derived.Test.YtpmenahlbfefmaaGx1
namespace Go.Proofs.Ytpmenahlbfefmaa.G
open Go.RowKit Go.Proofs.YtpmenahlbfefmaaW.PrintWords Go.Proofs.YtpmenahlbfefmaaW.PrintLast Go.Proofs.YtpmenahlbfefmaaW.PrintMore
attribute [local go_sem] max2_int min2_int max_two min_two max_three min_three max_four min_four   -- for this text's walks alone
set_option linter.unusedVariables false
set_option linter.unusedSimpArgs false

/-! ### pagemenderlaw03_NameLoose: function 6 -/
mutual
def pagemenderlaw03_NameLoose.j0 : Nat → ByteArray → ByteArray → Bool → Option (Bool)
  | 0, _, _, _ => none
  | k + 1, x0, x1, x20 => if x20 = true then (some true) else ((name_Strict.f x0).bind fun bt200 => (if bt200.2 = 0 then ((name_Loose.f x0).bind fun t202 => (pagemenderlaw03_NameLoose.j1 k x0 x1 (t202.toList != bt200.1.toList))) else (pagemenderlaw03_NameLoose.j1 k x0 x1 false)))
def pagemenderlaw03_NameLoose.j1 : Nat → ByteArray → ByteArray → Bool → Option (Bool)
  | 0, _, _, _ => none
  | k + 1, x0, x1, x33 => if x33 = true then (some false) else (pagemenderlaw03_NameLoose.l0 k x0 x1 false 0)
def pagemenderlaw03_NameLoose.l0 : Nat → ByteArray → ByteArray → Bool → Int → Option (Bool)
  | 0, _, _, _, _ => none
  | k + 1, x0, x1, x7, x8 => if x8 < (x0.size : Int) then (if x7 = true then (pagemenderlaw03_NameLoose.l0 k x0 x1 true (wrap64 (x8 + 1))) else (if 0 ≤ x8 then (pagemenderlaw03_NameLoose.l0 k x0 x1 ((bt x0 x8) == 35) (wrap64 (x8 + 1))) else (none))) else (if x7 = true then (pagemenderlaw03_NameLoose.j3 k x0 x1 false) else ((name_Loose.f x0).bind fun t203 => (pagemenderlaw03_NameLoose.j3 k x0 x1 (t203.toList != x0.toList))))
def pagemenderlaw03_NameLoose.j3 : Nat → ByteArray → ByteArray → Bool → Option (Bool)
  | 0, _, _, _ => none
  | k + 1, x0, x1, x54 => if x54 = true then (some false) else (if (x0.size : Int) > 0 then (if 0 ≤ (wrap64 ((x0.size : Int) - 1)) then (if (wrap64 ((x0.size : Int) - 1)) < (x0.size : Int) then (if (bt x0 (wrap64 ((x0.size : Int) - 1))) = 35 then (some true) else (if (x0.size : Int) > 1 then (if 0 ≤ (wrap64 ((x0.size : Int) - 2)) then (if (wrap64 ((x0.size : Int) - 2)) < (x0.size : Int) then (if (bt x0 (wrap64 ((x0.size : Int) - 2))) = 35 then (some true) else (if x0.size + x1.size ≤ 9223372036854775807 then ((name_Loose.f (x0 ++ x1)).bind fun t204 => ((name_Loose.f x0).bind fun t205 => ((name_Loose.f x1).bind fun t206 => (if t205.size + t206.size ≤ 9223372036854775807 then (some (t204.toList == (t205 ++ t206).toList)) else (none))))) else (none))) else (none)) else (none)) else (if x0.size + x1.size ≤ 9223372036854775807 then ((name_Loose.f (x0 ++ x1)).bind fun t207 => ((name_Loose.f x0).bind fun t208 => ((name_Loose.f x1).bind fun t209 => (if t208.size + t209.size ≤ 9223372036854775807 then (some (t207.toList == (t208 ++ t209).toList)) else (none))))) else (none)))) else (none)) else (none)) else (if (x0.size : Int) > 1 then (if 0 ≤ (wrap64 ((x0.size : Int) - 2)) then (if (wrap64 ((x0.size : Int) - 2)) < (x0.size : Int) then (if (bt x0 (wrap64 ((x0.size : Int) - 2))) = 35 then (some true) else (if x0.size + x1.size ≤ 9223372036854775807 then ((name_Loose.f (x0 ++ x1)).bind fun t210 => ((name_Loose.f x0).bind fun t211 => ((name_Loose.f x1).bind fun t212 => (if t211.size + t212.size ≤ 9223372036854775807 then (some (t210.toList == (t211 ++ t212).toList)) else (none))))) else (none))) else (none)) else (none)) else (if x0.size + x1.size ≤ 9223372036854775807 then ((name_Loose.f (x0 ++ x1)).bind fun t213 => ((name_Loose.f x0).bind fun t214 => ((name_Loose.f x1).bind fun t215 => (if t214.size + t215.size ≤ 9223372036854775807 then (some (t213.toList == (t214 ++ t215).toList)) else (none))))) else (none))))
end
def pagemenderlaw03_NameLoose.f (k : Nat) (a0 : ByteArray) (a1 : ByteArray) : Option (Bool) := (pagemenderlaw03_lives.f).bind fun t199 => (if t199 = true then (if (a0.size : Int) > 600 then (pagemenderlaw03_NameLoose.j0 k a0 a1 true) else (pagemenderlaw03_NameLoose.j0 k a0 a1 (decide ((a1.size : Int) > 600)))) else (some false))
theorem pagemenderlaw03_NameLoose.mono_l : ∀ k, (∀ y0 y1 y2, LeO (pagemenderlaw03_NameLoose.j0 k y0 y1 y2) (pagemenderlaw03_NameLoose.j0 (k + 1) y0 y1 y2)) ∧ (∀ y0 y1 y2, LeO (pagemenderlaw03_NameLoose.j1 k y0 y1 y2) (pagemenderlaw03_NameLoose.j1 (k + 1) y0 y1 y2)) ∧ (∀ y0 y1 y2 y3, LeO (pagemenderlaw03_NameLoose.l0 k y0 y1 y2 y3) (pagemenderlaw03_NameLoose.l0 (k + 1) y0 y1 y2 y3)) ∧ (∀ y0 y1 y2, LeO (pagemenderlaw03_NameLoose.j3 k y0 y1 y2) (pagemenderlaw03_NameLoose.j3 (k + 1) y0 y1 y2))
  | 0 => ⟨fun _ _ _ r h => by simp [pagemenderlaw03_NameLoose.j0] at h, fun _ _ _ r h => by simp [pagemenderlaw03_NameLoose.j1] at h, fun _ _ _ _ r h => by simp [pagemenderlaw03_NameLoose.l0] at h, fun _ _ _ r h => by simp [pagemenderlaw03_NameLoose.j3] at h⟩
  | k + 1 => by
    obtain ⟨ih0, ih1, ih2, ih3⟩ := pagemenderlaw03_NameLoose.mono_l k
    refine ⟨?_, ?_, ?_, ?_⟩
    · intro y0 y1 y2
      unfold pagemenderlaw03_NameLoose.j0
      repeat' first
      | (with_reducible exact ih0 _ _ _)
      | (with_reducible exact ih1 _ _ _)
      | (with_reducible exact ih2 _ _ _ _)
      | (with_reducible exact ih3 _ _ _)
      | (with_reducible exact LeO.refl _)
      | (with_reducible exact LeO.none _)
      | (with_reducible refine LeO.ite ?_ ?_)
      | (with_reducible refine LeO.bind ?_ (fun _ => ?_))
      | exact ih0 _ _ _
      | exact ih1 _ _ _
      | exact ih2 _ _ _ _
      | exact ih3 _ _ _
      | exact LeO.none _
      | refine LeO.ite ?_ ?_
      | refine LeO.bind ?_ (fun _ => ?_)
    · intro y0 y1 y2
      unfold pagemenderlaw03_NameLoose.j1
      repeat' first
      | (with_reducible exact ih0 _ _ _)
      | (with_reducible exact ih1 _ _ _)
      | (with_reducible exact ih2 _ _ _ _)
      | (with_reducible exact ih3 _ _ _)
      | (with_reducible exact LeO.refl _)
      | (with_reducible exact LeO.none _)
      | (with_reducible refine LeO.ite ?_ ?_)
      | (with_reducible refine LeO.bind ?_ (fun _ => ?_))
      | exact ih0 _ _ _
      | exact ih1 _ _ _
      | exact ih2 _ _ _ _
      | exact ih3 _ _ _
      | exact LeO.none _
      | refine LeO.ite ?_ ?_
      | refine LeO.bind ?_ (fun _ => ?_)
    · intro y0 y1 y2 y3
      unfold pagemenderlaw03_NameLoose.l0
      repeat' first
      | (with_reducible exact ih0 _ _ _)
      | (with_reducible exact ih1 _ _ _)
      | (with_reducible exact ih2 _ _ _ _)
      | (with_reducible exact ih3 _ _ _)
      | (with_reducible exact LeO.refl _)
      | (with_reducible exact LeO.none _)
      | (with_reducible refine LeO.ite ?_ ?_)
      | (with_reducible refine LeO.bind ?_ (fun _ => ?_))
      | exact ih0 _ _ _
      | exact ih1 _ _ _
      | exact ih2 _ _ _ _
      | exact ih3 _ _ _
      | exact LeO.none _
      | refine LeO.ite ?_ ?_
      | refine LeO.bind ?_ (fun _ => ?_)
    · intro y0 y1 y2
      unfold pagemenderlaw03_NameLoose.j3
      repeat' first
      | (with_reducible exact ih0 _ _ _)
      | (with_reducible exact ih1 _ _ _)
      | (with_reducible exact ih2 _ _ _ _)
      | (with_reducible exact ih3 _ _ _)
      | (with_reducible exact LeO.refl _)
      | (with_reducible exact LeO.none _)
      | (with_reducible refine LeO.ite ?_ ?_)
      | (with_reducible refine LeO.bind ?_ (fun _ => ?_))
      | exact ih0 _ _ _
      | exact ih1 _ _ _
      | exact ih2 _ _ _ _
      | exact ih3 _ _ _
      | exact LeO.none _
      | refine LeO.ite ?_ ?_
      | refine LeO.bind ?_ (fun _ => ?_)
theorem pagemenderlaw03_NameLoose.mono : ∀ a0 a1 k, LeO (pagemenderlaw03_NameLoose.f k a0 a1) (pagemenderlaw03_NameLoose.f (k + 1) a0 a1) := by
  intro a0 a1 k
  obtain ⟨ih0, ih1, ih2, ih3⟩ := pagemenderlaw03_NameLoose.mono_l k
  unfold pagemenderlaw03_NameLoose.f
  repeat' first
      | (with_reducible exact ih0 _ _ _)
      | (with_reducible exact ih1 _ _ _)
      | (with_reducible exact ih2 _ _ _ _)
      | (with_reducible exact ih3 _ _ _)
      | (with_reducible exact LeO.refl _)
      | (with_reducible exact LeO.none _)
      | (with_reducible refine LeO.ite ?_ ?_)
      | (with_reducible refine LeO.bind ?_ (fun _ => ?_))
      | exact ih0 _ _ _
      | exact ih1 _ _ _
      | exact ih2 _ _ _ _
      | exact ih3 _ _ _
      | exact LeO.none _
      | refine LeO.ite ?_ ?_
      | refine LeO.bind ?_ (fun _ => ?_)
set_option maxHeartbeats 8000000 in
set_option maxRecDepth 100000 in
theorem pagemenderlaw03_NameLoose.calls (k : Nat) (a0 : ByteArray) (a1 : ByteArray) (r : Bool) (w : World) (h : pagemenderlaw03_NameLoose.f k a0 a1 = some r) :
    Calls Try.prog 6 #[.string a0, .string a1] w fun e w' => e = .returned (.bool r) ∧ Below w.heap.size w w' := by
  have HB := Aside0.mk (Below.refl w.heap.size w)
  have H : ((pagemenderlaw03_lives.f).bind fun t199 => (if t199 = true then (if (a0.size : Int) > 600 then (pagemenderlaw03_NameLoose.j0 k a0 a1 true) else (pagemenderlaw03_NameLoose.j0 k a0 a1 (decide ((a1.size : Int) > 600)))) else (some false))) = some r := h
  clear h
  replace H := Option.bind_eq_some_iff.mp H
  obtain ⟨t199, A30, H⟩ := H
  replace H : (if t199 = true then (if (a0.size : Int) > 600 then (pagemenderlaw03_NameLoose.j0 k a0 a1 true) else (pagemenderlaw03_NameLoose.j0 k a0 a1 (decide ((a1.size : Int) > 600)))) else (some false)) = some r := H
  have A3 := Aside0.mk A30
  clear A30
  by_cases c4 : t199 = true
  · subst c4
    have H1 : (if (a0.size : Int) > 600 then (pagemenderlaw03_NameLoose.j0 k a0 a1 true) else (pagemenderlaw03_NameLoose.j0 k a0 a1 (decide ((a1.size : Int) > 600)))) = some r := by rw [if_pos rfl] at H; exact H
    clear H
    have H := H1
    clear H1
    have HC5 := Aside0.mk H
    clear H
    go_enter Try.func6, Try.ntmps6
    go_upto_region 3 with (first | ((with_reducible refine gate_callee (f := 12) rfl ?_); refine goesL_ (some 11) rfl rfl Try.func12 (by kernel_rfl) rfl #[] rfl (by (try simp only [List.map_toArray, List.map_cons, List.map_nil]); first | done | rfl | (simp only [List.length_drop, List.length_take]; rfl)) ?_; (with_reducible refine (pagemenderlaw03_lives.calls  true _ A3.out).mono ?_); rintro e w6 ⟨rfl, hb⟩; refine ⟨_, rfl, ?_⟩; have n0_ := Aside0.mk (below_step (by repeat (first | (with_reducible first | exact HB.out | apply below_alloc | apply pw_below_drewN | apply below_drew1) | exact HB.out)) hb); clear HB; have HB := n0_; clear n0_; (try clear hb); (try clear hb2); (try clear hk); (try clear hi)))
    (try simp only [Act.put, List.setIfInBounds_toArray, List.set_cons_zero, List.set_cons_succ])
    go_cut [20] (fun v20 wc => ∃ (kq : Nat) (x20_4 : Bool), v20 = .bool x20_4 ∧ Aside0 (pagemenderlaw03_NameLoose.j0 kq a0 a1 x20_4 = some r) ∧ Aside0 (kq ≤ k) ∧ Aside0 (Below w.heap.size w wc))
    case first =>
      have H := HC5.out
      clear HC5
      by_cases c7 : (a0.size : Int) > 600
      · rw [if_pos c7] at H
        have c7b0 : decide (600 < (a0.size : Int)) = true := decide_eq_true c7
        have c7b1 : decide (600 < a0.size) = true := decide_eq_true (by omega)
        clear c7
        (first | rw [c7b0] | (simp only [i64_w, i32_w]; rw [c7b0]) | skip)
        have H' := Aside0.mk H
        clear H
        go_wp2
        go_meet
        case rel => exact ⟨_, (true), (by first | rfl | (simp; done) | (simp [*]; done)), H', ⟨by first | omega | exact Nat.le_refl _⟩, ⟨by repeat (first | (with_reducible first | exact HB.out | apply below_alloc | apply pw_below_drewN | apply below_drew1) | exact HB.out)⟩⟩
      · rw [if_neg c7] at H
        have c7b0 : decide (600 < (a0.size : Int)) = false := decide_eq_false c7
        have c7b1 : decide (600 < a0.size) = false := decide_eq_false (by omega)
        clear c7
        (first | rw [c7b0] | (simp only [i64_w, i32_w]; rw [c7b0]) | skip)
        have H' := Aside0.mk H
        clear H
        go_wp2
        go_meet
        case rel => exact ⟨_, (decide ((a1.size : Int) > 600)), (by first | rfl | (simp; done) | (simp [*]; done)), H', ⟨by first | omega | exact Nat.le_refl _⟩, ⟨by repeat (first | (with_reducible first | exact HB.out | apply below_alloc | apply pw_below_drewN | apply below_drew1) | exact HB.out)⟩⟩
    case rest =>
      clear HC5
      try clear c1
      try clear p2
      try clear c4
      try clear c6
      try clear c7
      try clear c7b0
      try clear c7b1
      obtain ⟨kq, x20_4, rfl, HA, HJ4, HB⟩ := hcut
      cases kq with
      | zero => exact absurd HA.out (by simp [pagemenderlaw03_NameLoose.j0])
      | succ kj4 =>
        have H := HA.out
        clear HA
        simp only [pagemenderlaw03_NameLoose.j0] at H
        by_cases c8 : x20_4 = true
        · subst c8
          have H1 : (some true) = some r := by rw [if_pos rfl] at H; exact H
          clear H
          have H := H1
          clear H1
          obtain rfl := Option.some.inj H
          go_wp2
          go_ret
          exact ⟨by first | rfl | (simp [errW_none, errW_some] <;> rfl) | (simp [*, errW_none, errW_some] <;> rfl) | (obtain rfl := Option.some.inj (A13.out.symm.trans A22.out); rfl) | (obtain rfl := Option.some.inj (A13.out.symm.trans A39.out); rfl) | (obtain rfl := Option.some.inj (A13.out.symm.trans A47.out); rfl) | (obtain rfl := Option.some.inj (A13.out.symm.trans A61.out); rfl) | (obtain rfl := Option.some.inj (A13.out.symm.trans A69.out); rfl) | (obtain rfl := Option.some.inj (A22.out.symm.trans A39.out); rfl) | (obtain rfl := Option.some.inj (A22.out.symm.trans A47.out); rfl) | (obtain rfl := Option.some.inj (A22.out.symm.trans A61.out); rfl) | (obtain rfl := Option.some.inj (A22.out.symm.trans A69.out); rfl) | (obtain rfl := Option.some.inj (A39.out.symm.trans A47.out); rfl) | (obtain rfl := Option.some.inj (A39.out.symm.trans A61.out); rfl) | (obtain rfl := Option.some.inj (A39.out.symm.trans A69.out); rfl) | (rw [IntWalk.wrap64_in _ ⟨by omega, by omega⟩]), by repeat (first | (with_reducible first | exact HB.out | apply below_alloc | apply pw_below_drewN | apply below_drew1) | exact HB.out)⟩
        · replace c8 := Bool.eq_false_iff.mpr c8
          subst c8
          have H1 : ((name_Strict.f a0).bind fun bt200 => (if bt200.2 = 0 then ((name_Loose.f a0).bind fun t202 => (pagemenderlaw03_NameLoose.j1 kj4 a0 a1 (t202.toList != bt200.1.toList))) else (pagemenderlaw03_NameLoose.j1 kj4 a0 a1 false))) = some r := by rw [if_neg (show ¬ (false = true) by decide)] at H; exact H
          clear H
          have H := H1
          clear H1
          replace H := Option.bind_eq_some_iff.mp H
          obtain ⟨⟨t200, t201⟩, A90, H⟩ := H
          replace H : (if t201 = 0 then ((name_Loose.f a0).bind fun t202 => (pagemenderlaw03_NameLoose.j1 kj4 a0 a1 (t202.toList != t200.toList))) else (pagemenderlaw03_NameLoose.j1 kj4 a0 a1 false)) = some r := H
          have A9 := Aside0.mk A90
          clear A90
          have HC10 := Aside0.mk H
          clear H
          go_upto_region 6 with (first | ((with_reducible refine gate_callee (f := 9) rfl ?_); refine goesL_ (some 23) rfl rfl Try.func9 (by kernel_rfl) rfl #[.string a0] rfl (by (try simp only [List.map_toArray, List.map_cons, List.map_nil]); first | done | rfl | (simp only [List.length_drop, List.length_take]; rfl)) ?_; (with_reducible refine (name_Strict.calls a0 t200 t201 _ A9.out).mono ?_); rintro e w11 ⟨rfl, hb⟩; refine ⟨_, rfl, ?_⟩; have n0_ := Aside0.mk (below_step (by repeat (first | (with_reducible first | exact HB.out | apply below_alloc | apply pw_below_drewN | apply below_drew1) | exact HB.out)) hb); clear HB; have HB := n0_; clear n0_; (try clear hb); (try clear hb2); (try clear hk); (try clear hi)))
          (try simp only [Act.put, List.setIfInBounds_toArray, List.set_cons_zero, List.set_cons_succ])
          go_cut [33] (fun v33 wc => ∃ (kq : Nat) (x33_9 : Bool), v33 = .bool x33_9 ∧ Aside0 (pagemenderlaw03_NameLoose.j1 kq a0 a1 x33_9 = some r) ∧ Aside0 (kq ≤ kj4) ∧ Aside0 (Below w.heap.size w wc))
          case first =>
            have H := HC10.out
            clear HC10
            by_cases c12 : t201 = 0
            · rw [if_pos c12] at H
              have c12b0 : (t201 == 0) = true := beq_iff_eq.mpr c12
              have c12b1 : (t201 != 0) = false := bne_eq_false_iff_eq.mpr c12
              clear c12
              (first | rw [c12b0] | (simp only [i64_w, i32_w]; rw [c12b0]) | skip)
              replace H := Option.bind_eq_some_iff.mp H
              obtain ⟨t202, A130, H⟩ := H
              replace H : (pagemenderlaw03_NameLoose.j1 kj4 a0 a1 (t202.toList != t200.toList)) = some r := H
              have A13 := Aside0.mk A130
              clear A130
              have H' := Aside0.mk H
              clear H
              go_wp2_with (first | (go_at_call 14; (with_reducible refine (name_Loose.calls a0 t202 _ A13.out).mono ?_); rintro e w14 ⟨rfl, hb⟩; have n0_ := Aside0.mk (below_step (by repeat (first | (with_reducible first | exact HB.out | apply below_alloc | apply pw_below_drewN | apply below_drew1) | exact HB.out)) hb); clear HB; have HB := n0_; clear n0_; (try clear hb); (try clear hb2); (try clear hk); (try clear hi)))
              go_meet
              case rel => exact ⟨_, ((t202.toList != t200.toList)), (by first | rfl | (simp; done) | (simp [*]; done)), H', ⟨by have := HJ4.out; first | omega | exact Nat.le_refl _⟩, ⟨by repeat (first | (with_reducible first | exact HB.out | apply below_alloc | apply pw_below_drewN | apply below_drew1) | exact HB.out)⟩⟩
            · rw [if_neg c12] at H
              have c12b0 : (t201 == 0) = false := beq_eq_false_iff_ne.mpr c12
              have c12b1 : (t201 != 0) = true := bne_iff_ne.mpr c12
              (first | rw [c12b0] | (simp only [i64_w, i32_w]; rw [c12b0]) | skip)
              have H' := Aside0.mk H
              clear H
              go_wp2
              go_meet
              case rel => exact ⟨_, (false), (by first | rfl | (simp; done) | (simp [*]; done)), H', ⟨by have := HJ4.out; first | omega | exact Nat.le_refl _⟩, ⟨by repeat (first | (with_reducible first | exact HB.out | apply below_alloc | apply pw_below_drewN | apply below_drew1) | exact HB.out)⟩⟩
          case rest =>
            clear HC10
            try clear c1
            try clear p2
            try clear c4
            try clear c6
            try clear c7
            try clear c7b0
            try clear c7b1
            try clear c8
            try clear c9
            try clear c12
            try clear c12b0
            try clear c12b1
            try clear p2
            obtain ⟨kq, x33_9, rfl, HA, HJ9, HB⟩ := hcut
            cases kq with
            | zero => exact absurd HA.out (by simp [pagemenderlaw03_NameLoose.j1])
            | succ kj9 =>
              have H := HA.out
              clear HA
              simp only [pagemenderlaw03_NameLoose.j1] at H
              by_cases c15 : x33_9 = true
              · subst c15
                have H1 : (some false) = some r := by rw [if_pos rfl] at H; exact H
                clear H
                have H := H1
                clear H1
                obtain rfl := Option.some.inj H
                go_wp2
                go_ret
                exact ⟨by first | rfl | (simp [errW_none, errW_some] <;> rfl) | (simp [*, errW_none, errW_some] <;> rfl) | (obtain rfl := Option.some.inj (A13.out.symm.trans A22.out); rfl) | (obtain rfl := Option.some.inj (A13.out.symm.trans A39.out); rfl) | (obtain rfl := Option.some.inj (A13.out.symm.trans A47.out); rfl) | (obtain rfl := Option.some.inj (A13.out.symm.trans A61.out); rfl) | (obtain rfl := Option.some.inj (A13.out.symm.trans A69.out); rfl) | (obtain rfl := Option.some.inj (A22.out.symm.trans A39.out); rfl) | (obtain rfl := Option.some.inj (A22.out.symm.trans A47.out); rfl) | (obtain rfl := Option.some.inj (A22.out.symm.trans A61.out); rfl) | (obtain rfl := Option.some.inj (A22.out.symm.trans A69.out); rfl) | (obtain rfl := Option.some.inj (A39.out.symm.trans A47.out); rfl) | (obtain rfl := Option.some.inj (A39.out.symm.trans A61.out); rfl) | (obtain rfl := Option.some.inj (A39.out.symm.trans A69.out); rfl) | (rw [IntWalk.wrap64_in _ ⟨by omega, by omega⟩]), by repeat (first | (with_reducible first | exact HB.out | apply below_alloc | apply pw_below_drewN | apply below_drew1) | exact HB.out)⟩
              · replace c15 := Bool.eq_false_iff.mpr c15
                subst c15
                have H1 : (pagemenderlaw03_NameLoose.l0 kj9 a0 a1 false 0) = some r := by rw [if_neg (show ¬ (false = true) by decide)] at H; exact H
                clear H
                have H := H1
                clear H1
                have H' := Aside0.mk H
                clear H
                go_wp2
                go_loopg [7, 8] kj9 (fun kq v7 v8 w' => ∃ (x7_3 : Bool) (x8_3 : Int), v7 = .bool x7_3 ∧ v8 = .int .i64 x8_3 ∧ Aside0 (pagemenderlaw03_NameLoose.l0 kq a0 a1 x7_3 x8_3 = some r) ∧ Aside0 (kq ≤ kj9) ∧ Aside0 (Below w.heap.size w w'))
                case atStart => exact ⟨(false), (0), (by first | rfl | (simp; done) | (simp [*]; done)), (by first | rfl | (simp; done) | (simp [*]; done)), H', ⟨Nat.le_refl _⟩, ⟨by repeat (first | (with_reducible first | exact HB.out | apply below_alloc | apply pw_below_drewN | apply below_drew1) | exact HB.out)⟩⟩
                case round =>
                  clear H'
                  try clear c1
                  try clear p2
                  try clear c4
                  try clear c6
                  try clear c7
                  try clear c7b0
                  try clear c7b1
                  try clear c8
                  try clear c9
                  try clear c12
                  try clear c12b0
                  try clear c12b1
                  try clear c15
                  try clear p2
                  obtain ⟨x7_3, x8_3, rfl, rfl, HA, HK3, HB⟩ := hrel
                  cases gk with
                  | zero => exact absurd HA.out (by simp [pagemenderlaw03_NameLoose.l0])
                  | succ k3 =>
                    have H := HA.out
                    clear HA
                    simp only [pagemenderlaw03_NameLoose.l0] at H
                    by_cases c16 : x8_3 < (a0.size : Int)
                    · rw [if_pos c16] at H
                      have c16b0 : decide (x8_3 < (a0.size : Int)) = true := decide_eq_true c16
                      clear c16
                      by_cases c17 : x7_3 = true
                      · subst c17
                        have H1 : (pagemenderlaw03_NameLoose.l0 k3 a0 a1 true (wrap64 (x8_3 + 1))) = some r := by rw [if_pos rfl] at H; exact H
                        clear H
                        have H := H1
                        clear H1
                        have H' := Aside0.mk H
                        clear H
                        go_wp2
                        go_roundg k3
                        case measure => have := HJ4.out; have := HJ9.out; have := HK3.out; omega
                        case rel => exact ⟨(true), (wrap64 (x8_3 + 1)), (by first | rfl | (simp; done) | (simp [*]; done)), (by first | rfl | (simp; done) | (simp [*]; done)), H', ⟨by have := HJ4.out; have := HJ9.out; have := HK3.out; omega⟩, ⟨by repeat (first | (with_reducible first | exact HB.out | apply below_alloc | apply pw_below_drewN | apply below_drew1) | exact HB.out)⟩⟩
                      · replace c17 := Bool.eq_false_iff.mpr c17
                        subst c17
                        have H1 : (if 0 ≤ x8_3 then (pagemenderlaw03_NameLoose.l0 k3 a0 a1 ((bt a0 x8_3) == 35) (wrap64 (x8_3 + 1))) else (none)) = some r := by rw [if_neg (show ¬ (false = true) by decide)] at H; exact H
                        clear H
                        have H := H1
                        clear H1
                        by_cases c18 : 0 ≤ x8_3
                        · rw [if_pos c18] at H
                          have c18b0 : decide (0 ≤ x8_3) = true := decide_eq_true c18
                          clear c18
                          have H' := Aside0.mk H
                          clear H
                          have p19 : 0 ≤ (x8_3 : Int) := of_decide_eq_true (by first | (with_reducible assumption) | assumption)
                          have q19 : x8_3 < (a0.size : Int) := of_decide_eq_true (by first | (with_reducible assumption) | assumption)
                          have hx19 := bt_at a0 x8_3
                          replace p19 := eq_true p19
                          replace q19 := eq_true q19
                          go_wp2
                          go_roundg k3
                          case measure => have := HJ4.out; have := HJ9.out; have := HK3.out; omega
                          case rel => exact ⟨(((bt a0 x8_3) == 35)), (wrap64 (x8_3 + 1)), (by first | rfl | (simp; done) | (simp [*]; done)), (by first | rfl | (simp; done) | (simp [*]; done)), H', ⟨by have := HJ4.out; have := HJ9.out; have := HK3.out; omega⟩, ⟨by repeat (first | (with_reducible first | exact HB.out | apply below_alloc | apply pw_below_drewN | apply below_drew1) | exact HB.out)⟩⟩
                        · rw [if_neg c18] at H
                          exact absurd H (by simp)
                    · rw [if_neg c16] at H
                      have c16b0 : decide (x8_3 < (a0.size : Int)) = false := decide_eq_false c16
                      clear c16
                      have HC20 := Aside0.mk H
                      clear H
                      go_upto_region 13 with (fail)
                      go_cut [54] (fun v54 wc => ∃ (kq : Nat) (x54_19 : Bool), v54 = .bool x54_19 ∧ Aside0 (pagemenderlaw03_NameLoose.j3 kq a0 a1 x54_19 = some r) ∧ Aside0 (kq ≤ k3) ∧ Aside0 (Below w.heap.size w wc))
                      case first =>
                        have H := HC20.out
                        clear HC20
                        by_cases c21 : x7_3 = true
                        · subst c21
                          have H1 : (pagemenderlaw03_NameLoose.j3 k3 a0 a1 false) = some r := by rw [if_pos rfl] at H; exact H
                          clear H
                          have H := H1
                          clear H1
                          have H' := Aside0.mk H
                          clear H
                          go_wp2
                          go_meet
                          case rel => exact ⟨_, (false), (by first | rfl | (simp; done) | (simp [*]; done)), H', ⟨by have := HJ4.out; have := HJ9.out; have := HK3.out; first | omega | exact Nat.le_refl _⟩, ⟨by repeat (first | (with_reducible first | exact HB.out | apply below_alloc | apply pw_below_drewN | apply below_drew1) | exact HB.out)⟩⟩
                        · replace c21 := Bool.eq_false_iff.mpr c21
                          subst c21
                          have H1 : ((name_Loose.f a0).bind fun t203 => (pagemenderlaw03_NameLoose.j3 k3 a0 a1 (t203.toList != a0.toList))) = some r := by rw [if_neg (show ¬ (false = true) by decide)] at H; exact H
                          clear H
                          have H := H1
                          clear H1
                          replace H := Option.bind_eq_some_iff.mp H
                          obtain ⟨t203, A220, H⟩ := H
                          replace H : (pagemenderlaw03_NameLoose.j3 k3 a0 a1 (t203.toList != a0.toList)) = some r := H
                          have A22 := Aside0.mk A220
                          clear A220
                          have H' := Aside0.mk H
                          clear H
                          go_wp2_with (first | (go_at_call 14; (with_reducible refine (name_Loose.calls a0 t203 _ A22.out).mono ?_); rintro e w23 ⟨rfl, hb⟩; have n0_ := Aside0.mk (below_step (by repeat (first | (with_reducible first | exact HB.out | apply below_alloc | apply pw_below_drewN | apply below_drew1) | exact HB.out)) hb); clear HB; have HB := n0_; clear n0_; (try clear hb); (try clear hb2); (try clear hk); (try clear hi)))
                          go_meet
                          case rel => exact ⟨_, ((t203.toList != a0.toList)), (by first | rfl | (simp; done) | (simp [*]; done)), H', ⟨by have := HJ4.out; have := HJ9.out; have := HK3.out; first | omega | exact Nat.le_refl _⟩, ⟨by repeat (first | (with_reducible first | exact HB.out | apply below_alloc | apply pw_below_drewN | apply below_drew1) | exact HB.out)⟩⟩
                      case rest =>
                        clear HC20
                        try clear c1
                        try clear p1
                        try clear q1
                        try clear hx1
                        try clear c2
                        try clear p2
                        try clear c4
                        try clear c6
                        try clear p6
                        try clear c7
                        try clear c7b0
                        try clear c7b1
                        try clear c8
                        try clear c9
                        try clear c12
                        try clear c12b0
                        try clear c12b1
                        try clear c15
                        try clear c16
                        try clear c16b0
                        try clear c17
                        try clear c18
                        try clear c18b0
                        try clear p19
                        try clear q19
                        try clear hx19
                        try clear c21
                        try clear p19
                        try clear p2
                        try clear q19
                        obtain ⟨kq, x54_19, rfl, HA, HJ19, HB⟩ := hcut
                        cases kq with
                        | zero => exact absurd HA.out (by simp [pagemenderlaw03_NameLoose.j3])
                        | succ kj19 =>
                          have H := HA.out
                          clear HA
                          simp only [pagemenderlaw03_NameLoose.j3] at H
                          by_cases c24 : x54_19 = true
                          · subst c24
                            have H1 : (some false) = some r := by rw [if_pos rfl] at H; exact H
                            clear H
                            have H := H1
                            clear H1
                            obtain rfl := Option.some.inj H
                            go_wp2
                            go_ret
                            exact ⟨by first | rfl | (simp [errW_none, errW_some] <;> rfl) | (simp [*, errW_none, errW_some] <;> rfl) | (obtain rfl := Option.some.inj (A13.out.symm.trans A22.out); rfl) | (obtain rfl := Option.some.inj (A13.out.symm.trans A39.out); rfl) | (obtain rfl := Option.some.inj (A13.out.symm.trans A47.out); rfl) | (obtain rfl := Option.some.inj (A13.out.symm.trans A61.out); rfl) | (obtain rfl := Option.some.inj (A13.out.symm.trans A69.out); rfl) | (obtain rfl := Option.some.inj (A22.out.symm.trans A39.out); rfl) | (obtain rfl := Option.some.inj (A22.out.symm.trans A47.out); rfl) | (obtain rfl := Option.some.inj (A22.out.symm.trans A61.out); rfl) | (obtain rfl := Option.some.inj (A22.out.symm.trans A69.out); rfl) | (obtain rfl := Option.some.inj (A39.out.symm.trans A47.out); rfl) | (obtain rfl := Option.some.inj (A39.out.symm.trans A61.out); rfl) | (obtain rfl := Option.some.inj (A39.out.symm.trans A69.out); rfl) | (rw [IntWalk.wrap64_in _ ⟨by omega, by omega⟩]), by repeat (first | (with_reducible first | exact HB.out | apply below_alloc | apply pw_below_drewN | apply below_drew1) | exact HB.out)⟩
                          · replace c24 := Bool.eq_false_iff.mpr c24
                            subst c24
                            have H1 : (if (a0.size : Int) > 0 then (if 0 ≤ (wrap64 ((a0.size : Int) - 1)) then (if (wrap64 ((a0.size : Int) - 1)) < (a0.size : Int) then (if (bt a0 (wrap64 ((a0.size : Int) - 1))) = 35 then (some true) else (if (a0.size : Int) > 1 then (if 0 ≤ (wrap64 ((a0.size : Int) - 2)) then (if (wrap64 ((a0.size : Int) - 2)) < (a0.size : Int) then (if (bt a0 (wrap64 ((a0.size : Int) - 2))) = 35 then (some true) else (if a0.size + a1.size ≤ 9223372036854775807 then ((name_Loose.f (a0 ++ a1)).bind fun t204 => ((name_Loose.f a0).bind fun t205 => ((name_Loose.f a1).bind fun t206 => (if t205.size + t206.size ≤ 9223372036854775807 then (some (t204.toList == (t205 ++ t206).toList)) else (none))))) else (none))) else (none)) else (none)) else (if a0.size + a1.size ≤ 9223372036854775807 then ((name_Loose.f (a0 ++ a1)).bind fun t207 => ((name_Loose.f a0).bind fun t208 => ((name_Loose.f a1).bind fun t209 => (if t208.size + t209.size ≤ 9223372036854775807 then (some (t207.toList == (t208 ++ t209).toList)) else (none))))) else (none)))) else (none)) else (none)) else (if (a0.size : Int) > 1 then (if 0 ≤ (wrap64 ((a0.size : Int) - 2)) then (if (wrap64 ((a0.size : Int) - 2)) < (a0.size : Int) then (if (bt a0 (wrap64 ((a0.size : Int) - 2))) = 35 then (some true) else (if a0.size + a1.size ≤ 9223372036854775807 then ((name_Loose.f (a0 ++ a1)).bind fun t210 => ((name_Loose.f a0).bind fun t211 => ((name_Loose.f a1).bind fun t212 => (if t211.size + t212.size ≤ 9223372036854775807 then (some (t210.toList == (t211 ++ t212).toList)) else (none))))) else (none))) else (none)) else (none)) else (if a0.size + a1.size ≤ 9223372036854775807 then ((name_Loose.f (a0 ++ a1)).bind fun t213 => ((name_Loose.f a0).bind fun t214 => ((name_Loose.f a1).bind fun t215 => (if t214.size + t215.size ≤ 9223372036854775807 then (some (t213.toList == (t214 ++ t215).toList)) else (none))))) else (none)))) = some r := by rw [if_neg (show ¬ (false = true) by decide)] at H; exact H
                            clear H
                            have H := H1
                            clear H1
                            by_cases c25 : (a0.size : Int) > 0
                            · rw [if_pos c25] at H
                              have c25b0 : decide (0 < (a0.size : Int)) = true := decide_eq_true c25
                              have c25b1 : decide (0 < a0.size) = true := decide_eq_true (by omega)
                              clear c25
                              obtain ⟨ji26, hji26⟩ : ∃ j_ : Int, (wrap64 ((a0.size : Int) - 1)) = j_ := ⟨_, rfl⟩
                              replace H : (if 0 ≤ (ji26) then (if (ji26) < (a0.size : Int) then (if (bt a0 (ji26)) = 35 then (some true) else (if (a0.size : Int) > 1 then (if 0 ≤ (wrap64 ((a0.size : Int) - 2)) then (if (wrap64 ((a0.size : Int) - 2)) < (a0.size : Int) then (if (bt a0 (wrap64 ((a0.size : Int) - 2))) = 35 then (some true) else (if a0.size + a1.size ≤ 9223372036854775807 then ((name_Loose.f (a0 ++ a1)).bind fun t204 => ((name_Loose.f a0).bind fun t205 => ((name_Loose.f a1).bind fun t206 => (if t205.size + t206.size ≤ 9223372036854775807 then (some (t204.toList == (t205 ++ t206).toList)) else (none))))) else (none))) else (none)) else (none)) else (if a0.size + a1.size ≤ 9223372036854775807 then ((name_Loose.f (a0 ++ a1)).bind fun t207 => ((name_Loose.f a0).bind fun t208 => ((name_Loose.f a1).bind fun t209 => (if t208.size + t209.size ≤ 9223372036854775807 then (some (t207.toList == (t208 ++ t209).toList)) else (none))))) else (none)))) else (none)) else (none)) = some r := by first | (rw [hji26] at H; exact H) | (simp only [hji26] at H ⊢; exact H)
                              have hji26w : (IntKind.i64.wrap ((a0.size : Int) - 1)) = ji26 := (i64_w _).trans hji26
                              by_cases c27 : 0 ≤ (ji26)
                              · rw [if_pos c27] at H
                                have c27b0 : decide (0 ≤ (ji26)) = true := decide_eq_true c27
                                clear c27
                                by_cases c28 : (ji26) < (a0.size : Int)
                                · rw [if_pos c28] at H
                                  have c28b0 : decide ((ji26) < (a0.size : Int)) = true := decide_eq_true c28
                                  clear c28
                                  by_cases c30 : (bt a0 (ji26)) = 35
                                  · rw [if_pos c30] at H
                                    have c30b0 : ((bt a0 (ji26)) == 35) = true := beq_iff_eq.mpr c30
                                    have c30b1 : ((bt a0 (ji26)) != 35) = false := bne_eq_false_iff_eq.mpr c30
                                    clear c30
                                    obtain rfl := Option.some.inj H
                                    have p29 : 0 ≤ ((ji26) : Int) := of_decide_eq_true (by first | (with_reducible assumption) | assumption)
                                    have q29 : (ji26) < (a0.size : Int) := of_decide_eq_true (by first | (with_reducible assumption) | assumption)
                                    have hx29 := bt_at a0 (ji26)
                                    replace p29 := eq_true p29
                                    replace q29 := eq_true q29
                                    go_wp2
                                    go_ret
                                    exact ⟨by first | rfl | (simp [errW_none, errW_some] <;> rfl) | (simp only [← hji26]; first | rfl | (simp [errW_none, errW_some] <;> rfl)) | (simp [*, errW_none, errW_some] <;> rfl) | (obtain rfl := Option.some.inj (A13.out.symm.trans A22.out); rfl) | (obtain rfl := Option.some.inj (A13.out.symm.trans A39.out); rfl) | (obtain rfl := Option.some.inj (A13.out.symm.trans A47.out); rfl) | (obtain rfl := Option.some.inj (A13.out.symm.trans A61.out); rfl) | (obtain rfl := Option.some.inj (A13.out.symm.trans A69.out); rfl) | (obtain rfl := Option.some.inj (A22.out.symm.trans A39.out); rfl) | (obtain rfl := Option.some.inj (A22.out.symm.trans A47.out); rfl) | (obtain rfl := Option.some.inj (A22.out.symm.trans A61.out); rfl) | (obtain rfl := Option.some.inj (A22.out.symm.trans A69.out); rfl) | (obtain rfl := Option.some.inj (A39.out.symm.trans A47.out); rfl) | (obtain rfl := Option.some.inj (A39.out.symm.trans A61.out); rfl) | (obtain rfl := Option.some.inj (A39.out.symm.trans A69.out); rfl) | (rw [IntWalk.wrap64_in _ ⟨by omega, by omega⟩]), by repeat (first | (with_reducible first | exact HB.out | apply below_alloc | apply pw_below_drewN | apply below_drew1) | exact HB.out)⟩
                                  · rw [if_neg c30] at H
                                    have c30b0 : ((bt a0 (ji26)) == 35) = false := beq_eq_false_iff_ne.mpr c30
                                    have c30b1 : ((bt a0 (ji26)) != 35) = true := bne_iff_ne.mpr c30
                                    by_cases c31 : (a0.size : Int) > 1
                                    · rw [if_pos c31] at H
                                      have c31b0 : decide (1 < (a0.size : Int)) = true := decide_eq_true c31
                                      have c31b1 : decide (1 < a0.size) = true := decide_eq_true (by omega)
                                      clear c31
                                      obtain ⟨ji32, hji32⟩ : ∃ j_ : Int, (wrap64 ((a0.size : Int) - 2)) = j_ := ⟨_, rfl⟩
                                      replace H : (if 0 ≤ (ji32) then (if (ji32) < (a0.size : Int) then (if (bt a0 (ji32)) = 35 then (some true) else (if a0.size + a1.size ≤ 9223372036854775807 then ((name_Loose.f (a0 ++ a1)).bind fun t204 => ((name_Loose.f a0).bind fun t205 => ((name_Loose.f a1).bind fun t206 => (if t205.size + t206.size ≤ 9223372036854775807 then (some (t204.toList == (t205 ++ t206).toList)) else (none))))) else (none))) else (none)) else (none)) = some r := by first | (rw [hji32] at H; exact H) | (simp only [hji32] at H ⊢; exact H)
                                      have hji32w : (IntKind.i64.wrap ((a0.size : Int) - 2)) = ji32 := (i64_w _).trans hji32
                                      by_cases c33 : 0 ≤ (ji32)
                                      · rw [if_pos c33] at H
                                        have c33b0 : decide (0 ≤ (ji32)) = true := decide_eq_true c33
                                        clear c33
                                        by_cases c34 : (ji32) < (a0.size : Int)
                                        · rw [if_pos c34] at H
                                          have c34b0 : decide ((ji32) < (a0.size : Int)) = true := decide_eq_true c34
                                          clear c34
                                          by_cases c36 : (bt a0 (ji32)) = 35
                                          · rw [if_pos c36] at H
                                            have c36b0 : ((bt a0 (ji32)) == 35) = true := beq_iff_eq.mpr c36
                                            have c36b1 : ((bt a0 (ji32)) != 35) = false := bne_eq_false_iff_eq.mpr c36
                                            clear c36
                                            obtain rfl := Option.some.inj H
                                            have p29 : 0 ≤ ((ji26) : Int) := of_decide_eq_true (by first | (with_reducible assumption) | assumption)
                                            have q29 : (ji26) < (a0.size : Int) := of_decide_eq_true (by first | (with_reducible assumption) | assumption)
                                            have hx29 := bt_at a0 (ji26)
                                            replace p29 := eq_true p29
                                            replace q29 := eq_true q29
                                            have p35 : 0 ≤ ((ji32) : Int) := of_decide_eq_true (by first | (with_reducible assumption) | assumption)
                                            have q35 : (ji32) < (a0.size : Int) := of_decide_eq_true (by first | (with_reducible assumption) | assumption)
                                            have hx35 := bt_at a0 (ji32)
                                            replace p35 := eq_true p35
                                            replace q35 := eq_true q35
                                            go_wp2
                                            go_ret
                                            exact ⟨by first | rfl | (simp [errW_none, errW_some] <;> rfl) | (simp only [← hji26, ← hji32]; first | rfl | (simp [errW_none, errW_some] <;> rfl)) | (simp [*, errW_none, errW_some] <;> rfl) | (obtain rfl := Option.some.inj (A13.out.symm.trans A22.out); rfl) | (obtain rfl := Option.some.inj (A13.out.symm.trans A39.out); rfl) | (obtain rfl := Option.some.inj (A13.out.symm.trans A47.out); rfl) | (obtain rfl := Option.some.inj (A13.out.symm.trans A61.out); rfl) | (obtain rfl := Option.some.inj (A13.out.symm.trans A69.out); rfl) | (obtain rfl := Option.some.inj (A22.out.symm.trans A39.out); rfl) | (obtain rfl := Option.some.inj (A22.out.symm.trans A47.out); rfl) | (obtain rfl := Option.some.inj (A22.out.symm.trans A61.out); rfl) | (obtain rfl := Option.some.inj (A22.out.symm.trans A69.out); rfl) | (obtain rfl := Option.some.inj (A39.out.symm.trans A47.out); rfl) | (obtain rfl := Option.some.inj (A39.out.symm.trans A61.out); rfl) | (obtain rfl := Option.some.inj (A39.out.symm.trans A69.out); rfl) | (rw [IntWalk.wrap64_in _ ⟨by omega, by omega⟩]), by repeat (first | (with_reducible first | exact HB.out | apply below_alloc | apply pw_below_drewN | apply below_drew1) | exact HB.out)⟩
                                          · rw [if_neg c36] at H
                                            have c36b0 : ((bt a0 (ji32)) == 35) = false := beq_eq_false_iff_ne.mpr c36
                                            have c36b1 : ((bt a0 (ji32)) != 35) = true := bne_iff_ne.mpr c36
                                            by_cases c37 : a0.size + a1.size ≤ 9223372036854775807
                                            · rw [if_pos c37] at H
                                              have c37b0 := eq_true c37
                                              have c37b1 : decide (a0.size + a1.size ≤ 9223372036854775807) = true := decide_eq_true c37
                                              try have c37b2 : (9223372036854775807 < a0.size + a1.size) = False := eq_false (Nat.not_lt.2 c37)
                                              replace H := Option.bind_eq_some_iff.mp H
                                              obtain ⟨t204, A380, H⟩ := H
                                              replace H : ((name_Loose.f a0).bind fun t205 => ((name_Loose.f a1).bind fun t206 => (if t205.size + t206.size ≤ 9223372036854775807 then (some (t204.toList == (t205 ++ t206).toList)) else (none)))) = some r := H
                                              have A38 := Aside0.mk A380
                                              clear A380
                                              replace H := Option.bind_eq_some_iff.mp H
                                              obtain ⟨t205, A390, H⟩ := H
                                              replace H : ((name_Loose.f a1).bind fun t206 => (if t205.size + t206.size ≤ 9223372036854775807 then (some (t204.toList == (t205 ++ t206).toList)) else (none))) = some r := H
                                              have A39 := Aside0.mk A390
                                              clear A390
                                              replace H := Option.bind_eq_some_iff.mp H
                                              obtain ⟨t206, A400, H⟩ := H
                                              replace H : (if t205.size + t206.size ≤ 9223372036854775807 then (some (t204.toList == (t205 ++ t206).toList)) else (none)) = some r := H
                                              have A40 := Aside0.mk A400
                                              clear A400
                                              by_cases c41 : t205.size + t206.size ≤ 9223372036854775807
                                              · rw [if_pos c41] at H
                                                have c41b0 := eq_true c41
                                                have c41b1 : decide (t205.size + t206.size ≤ 9223372036854775807) = true := decide_eq_true c41
                                                try have c41b2 : (9223372036854775807 < t205.size + t206.size) = False := eq_false (Nat.not_lt.2 c41)
                                                obtain rfl := Option.some.inj H
                                                have p29 : 0 ≤ ((ji26) : Int) := of_decide_eq_true (by first | (with_reducible assumption) | assumption)
                                                have q29 : (ji26) < (a0.size : Int) := of_decide_eq_true (by first | (with_reducible assumption) | assumption)
                                                have hx29 := bt_at a0 (ji26)
                                                replace p29 := eq_true p29
                                                replace q29 := eq_true q29
                                                have p35 : 0 ≤ ((ji32) : Int) := of_decide_eq_true (by first | (with_reducible assumption) | assumption)
                                                have q35 : (ji32) < (a0.size : Int) := of_decide_eq_true (by first | (with_reducible assumption) | assumption)
                                                have hx35 := bt_at a0 (ji32)
                                                replace p35 := eq_true p35
                                                replace q35 := eq_true q35
                                                go_wp2_with (first | (go_at_call 14; (with_reducible refine (name_Loose.calls (a0 ++ a1) t204 _ A38.out).mono ?_); rintro e w42 ⟨rfl, hb⟩; have n0_ := Aside0.mk (below_step (by repeat (first | (with_reducible first | exact HB.out | apply below_alloc | apply pw_below_drewN | apply below_drew1) | exact HB.out)) hb); clear HB; have HB := n0_; clear n0_; (try clear hb); (try clear hb2); (try clear hk); (try clear hi)) | (go_at_call 14; (with_reducible refine (name_Loose.calls a0 t205 _ A39.out).mono ?_); rintro e w43 ⟨rfl, hb⟩; have n0_ := Aside0.mk (below_step (by repeat (first | (with_reducible first | exact HB.out | apply below_alloc | apply pw_below_drewN | apply below_drew1) | exact HB.out)) hb); clear HB; have HB := n0_; clear n0_; (try clear hb); (try clear hb2); (try clear hk); (try clear hi)) | (go_at_call 14; (with_reducible refine (name_Loose.calls a1 t206 _ A40.out).mono ?_); rintro e w44 ⟨rfl, hb⟩; have n0_ := Aside0.mk (below_step (by repeat (first | (with_reducible first | exact HB.out | apply below_alloc | apply pw_below_drewN | apply below_drew1) | exact HB.out)) hb); clear HB; have HB := n0_; clear n0_; (try clear hb); (try clear hb2); (try clear hk); (try clear hi)))
                                                go_ret
                                                exact ⟨by first | rfl | (simp [errW_none, errW_some] <;> rfl) | (simp only [← hji26, ← hji32]; first | rfl | (simp [errW_none, errW_some] <;> rfl)) | (simp [*, errW_none, errW_some] <;> rfl) | (obtain rfl := Option.some.inj (A13.out.symm.trans A22.out); rfl) | (obtain rfl := Option.some.inj (A13.out.symm.trans A39.out); rfl) | (obtain rfl := Option.some.inj (A13.out.symm.trans A47.out); rfl) | (obtain rfl := Option.some.inj (A13.out.symm.trans A61.out); rfl) | (obtain rfl := Option.some.inj (A13.out.symm.trans A69.out); rfl) | (obtain rfl := Option.some.inj (A22.out.symm.trans A39.out); rfl) | (obtain rfl := Option.some.inj (A22.out.symm.trans A47.out); rfl) | (obtain rfl := Option.some.inj (A22.out.symm.trans A61.out); rfl) | (obtain rfl := Option.some.inj (A22.out.symm.trans A69.out); rfl) | (obtain rfl := Option.some.inj (A39.out.symm.trans A47.out); rfl) | (obtain rfl := Option.some.inj (A39.out.symm.trans A61.out); rfl) | (obtain rfl := Option.some.inj (A39.out.symm.trans A69.out); rfl) | (rw [IntWalk.wrap64_in _ ⟨by omega, by omega⟩]), by repeat (first | (with_reducible first | exact HB.out | apply below_alloc | apply pw_below_drewN | apply below_drew1) | exact HB.out)⟩
                                              · rw [if_neg c41] at H
                                                exact absurd H (by simp)
                                            · rw [if_neg c37] at H
                                              exact absurd H (by simp)
                                        · rw [if_neg c34] at H
                                          exact absurd H (by simp)
                                      · rw [if_neg c33] at H
                                        exact absurd H (by simp)
                                    · rw [if_neg c31] at H
                                      have c31b0 : decide (1 < (a0.size : Int)) = false := decide_eq_false c31
                                      have c31b1 : decide (1 < a0.size) = false := decide_eq_false (by omega)
                                      clear c31
                                      by_cases c45 : a0.size + a1.size ≤ 9223372036854775807
                                      · rw [if_pos c45] at H
                                        have c45b0 := eq_true c45
                                        have c45b1 : decide (a0.size + a1.size ≤ 9223372036854775807) = true := decide_eq_true c45
                                        try have c45b2 : (9223372036854775807 < a0.size + a1.size) = False := eq_false (Nat.not_lt.2 c45)
                                        replace H := Option.bind_eq_some_iff.mp H
                                        obtain ⟨t207, A460, H⟩ := H
                                        replace H : ((name_Loose.f a0).bind fun t208 => ((name_Loose.f a1).bind fun t209 => (if t208.size + t209.size ≤ 9223372036854775807 then (some (t207.toList == (t208 ++ t209).toList)) else (none)))) = some r := H
                                        have A46 := Aside0.mk A460
                                        clear A460
                                        replace H := Option.bind_eq_some_iff.mp H
                                        obtain ⟨t208, A470, H⟩ := H
                                        replace H : ((name_Loose.f a1).bind fun t209 => (if t208.size + t209.size ≤ 9223372036854775807 then (some (t207.toList == (t208 ++ t209).toList)) else (none))) = some r := H
                                        have A47 := Aside0.mk A470
                                        clear A470
                                        replace H := Option.bind_eq_some_iff.mp H
                                        obtain ⟨t209, A480, H⟩ := H
                                        replace H : (if t208.size + t209.size ≤ 9223372036854775807 then (some (t207.toList == (t208 ++ t209).toList)) else (none)) = some r := H
                                        have A48 := Aside0.mk A480
                                        clear A480
                                        by_cases c49 : t208.size + t209.size ≤ 9223372036854775807
                                        · rw [if_pos c49] at H
                                          have c49b0 := eq_true c49
                                          have c49b1 : decide (t208.size + t209.size ≤ 9223372036854775807) = true := decide_eq_true c49
                                          try have c49b2 : (9223372036854775807 < t208.size + t209.size) = False := eq_false (Nat.not_lt.2 c49)
                                          obtain rfl := Option.some.inj H
                                          have p29 : 0 ≤ ((ji26) : Int) := of_decide_eq_true (by first | (with_reducible assumption) | assumption)
                                          have q29 : (ji26) < (a0.size : Int) := of_decide_eq_true (by first | (with_reducible assumption) | assumption)
                                          have hx29 := bt_at a0 (ji26)
                                          replace p29 := eq_true p29
                                          replace q29 := eq_true q29
                                          go_wp2_with (first | (go_at_call 14; (with_reducible refine (name_Loose.calls (a0 ++ a1) t207 _ A46.out).mono ?_); rintro e w50 ⟨rfl, hb⟩; have n0_ := Aside0.mk (below_step (by repeat (first | (with_reducible first | exact HB.out | apply below_alloc | apply pw_below_drewN | apply below_drew1) | exact HB.out)) hb); clear HB; have HB := n0_; clear n0_; (try clear hb); (try clear hb2); (try clear hk); (try clear hi)) | (go_at_call 14; (with_reducible refine (name_Loose.calls a0 t208 _ A47.out).mono ?_); rintro e w51 ⟨rfl, hb⟩; have n0_ := Aside0.mk (below_step (by repeat (first | (with_reducible first | exact HB.out | apply below_alloc | apply pw_below_drewN | apply below_drew1) | exact HB.out)) hb); clear HB; have HB := n0_; clear n0_; (try clear hb); (try clear hb2); (try clear hk); (try clear hi)) | (go_at_call 14; (with_reducible refine (name_Loose.calls a1 t209 _ A48.out).mono ?_); rintro e w52 ⟨rfl, hb⟩; have n0_ := Aside0.mk (below_step (by repeat (first | (with_reducible first | exact HB.out | apply below_alloc | apply pw_below_drewN | apply below_drew1) | exact HB.out)) hb); clear HB; have HB := n0_; clear n0_; (try clear hb); (try clear hb2); (try clear hk); (try clear hi)))
                                          go_ret
                                          exact ⟨by first | rfl | (simp [errW_none, errW_some] <;> rfl) | (simp only [← hji26]; first | rfl | (simp [errW_none, errW_some] <;> rfl)) | (simp [*, errW_none, errW_some] <;> rfl) | (obtain rfl := Option.some.inj (A13.out.symm.trans A22.out); rfl) | (obtain rfl := Option.some.inj (A13.out.symm.trans A39.out); rfl) | (obtain rfl := Option.some.inj (A13.out.symm.trans A47.out); rfl) | (obtain rfl := Option.some.inj (A13.out.symm.trans A61.out); rfl) | (obtain rfl := Option.some.inj (A13.out.symm.trans A69.out); rfl) | (obtain rfl := Option.some.inj (A22.out.symm.trans A39.out); rfl) | (obtain rfl := Option.some.inj (A22.out.symm.trans A47.out); rfl) | (obtain rfl := Option.some.inj (A22.out.symm.trans A61.out); rfl) | (obtain rfl := Option.some.inj (A22.out.symm.trans A69.out); rfl) | (obtain rfl := Option.some.inj (A39.out.symm.trans A47.out); rfl) | (obtain rfl := Option.some.inj (A39.out.symm.trans A61.out); rfl) | (obtain rfl := Option.some.inj (A39.out.symm.trans A69.out); rfl) | (rw [IntWalk.wrap64_in _ ⟨by omega, by omega⟩]), by repeat (first | (with_reducible first | exact HB.out | apply below_alloc | apply pw_below_drewN | apply below_drew1) | exact HB.out)⟩
                                        · rw [if_neg c49] at H
                                          exact absurd H (by simp)
                                      · rw [if_neg c45] at H
                                        exact absurd H (by simp)
                                · rw [if_neg c28] at H
                                  exact absurd H (by simp)
                              · rw [if_neg c27] at H
                                exact absurd H (by simp)
                            · rw [if_neg c25] at H
                              have c25b0 : decide (0 < (a0.size : Int)) = false := decide_eq_false c25
                              have c25b1 : decide (0 < a0.size) = false := decide_eq_false (by omega)
                              clear c25
                              by_cases c53 : (a0.size : Int) > 1
                              · rw [if_pos c53] at H
                                have c53b0 : decide (1 < (a0.size : Int)) = true := decide_eq_true c53
                                have c53b1 : decide (1 < a0.size) = true := decide_eq_true (by omega)
                                clear c53
                                obtain ⟨ji54, hji54⟩ : ∃ j_ : Int, (wrap64 ((a0.size : Int) - 2)) = j_ := ⟨_, rfl⟩
                                replace H : (if 0 ≤ (ji54) then (if (ji54) < (a0.size : Int) then (if (bt a0 (ji54)) = 35 then (some true) else (if a0.size + a1.size ≤ 9223372036854775807 then ((name_Loose.f (a0 ++ a1)).bind fun t210 => ((name_Loose.f a0).bind fun t211 => ((name_Loose.f a1).bind fun t212 => (if t211.size + t212.size ≤ 9223372036854775807 then (some (t210.toList == (t211 ++ t212).toList)) else (none))))) else (none))) else (none)) else (none)) = some r := by first | (rw [hji54] at H; exact H) | (simp only [hji54] at H ⊢; exact H)
                                have hji54w : (IntKind.i64.wrap ((a0.size : Int) - 2)) = ji54 := (i64_w _).trans hji54
                                by_cases c55 : 0 ≤ (ji54)
                                · rw [if_pos c55] at H
                                  have c55b0 : decide (0 ≤ (ji54)) = true := decide_eq_true c55
                                  clear c55
                                  by_cases c56 : (ji54) < (a0.size : Int)
                                  · rw [if_pos c56] at H
                                    have c56b0 : decide ((ji54) < (a0.size : Int)) = true := decide_eq_true c56
                                    clear c56
                                    by_cases c58 : (bt a0 (ji54)) = 35
                                    · rw [if_pos c58] at H
                                      have c58b0 : ((bt a0 (ji54)) == 35) = true := beq_iff_eq.mpr c58
                                      have c58b1 : ((bt a0 (ji54)) != 35) = false := bne_eq_false_iff_eq.mpr c58
                                      clear c58
                                      obtain rfl := Option.some.inj H
                                      have p57 : 0 ≤ ((ji54) : Int) := of_decide_eq_true (by first | (with_reducible assumption) | assumption)
                                      have q57 : (ji54) < (a0.size : Int) := of_decide_eq_true (by first | (with_reducible assumption) | assumption)
                                      have hx57 := bt_at a0 (ji54)
                                      replace p57 := eq_true p57
                                      replace q57 := eq_true q57
                                      go_wp2
                                      go_ret
                                      exact ⟨by first | rfl | (simp [errW_none, errW_some] <;> rfl) | (simp only [← hji54]; first | rfl | (simp [errW_none, errW_some] <;> rfl)) | (simp [*, errW_none, errW_some] <;> rfl) | (obtain rfl := Option.some.inj (A13.out.symm.trans A22.out); rfl) | (obtain rfl := Option.some.inj (A13.out.symm.trans A39.out); rfl) | (obtain rfl := Option.some.inj (A13.out.symm.trans A47.out); rfl) | (obtain rfl := Option.some.inj (A13.out.symm.trans A61.out); rfl) | (obtain rfl := Option.some.inj (A13.out.symm.trans A69.out); rfl) | (obtain rfl := Option.some.inj (A22.out.symm.trans A39.out); rfl) | (obtain rfl := Option.some.inj (A22.out.symm.trans A47.out); rfl) | (obtain rfl := Option.some.inj (A22.out.symm.trans A61.out); rfl) | (obtain rfl := Option.some.inj (A22.out.symm.trans A69.out); rfl) | (obtain rfl := Option.some.inj (A39.out.symm.trans A47.out); rfl) | (obtain rfl := Option.some.inj (A39.out.symm.trans A61.out); rfl) | (obtain rfl := Option.some.inj (A39.out.symm.trans A69.out); rfl) | (rw [IntWalk.wrap64_in _ ⟨by omega, by omega⟩]), by repeat (first | (with_reducible first | exact HB.out | apply below_alloc | apply pw_below_drewN | apply below_drew1) | exact HB.out)⟩
                                    · rw [if_neg c58] at H
                                      have c58b0 : ((bt a0 (ji54)) == 35) = false := beq_eq_false_iff_ne.mpr c58
                                      have c58b1 : ((bt a0 (ji54)) != 35) = true := bne_iff_ne.mpr c58
                                      by_cases c59 : a0.size + a1.size ≤ 9223372036854775807
                                      · rw [if_pos c59] at H
                                        have c59b0 := eq_true c59
                                        have c59b1 : decide (a0.size + a1.size ≤ 9223372036854775807) = true := decide_eq_true c59
                                        try have c59b2 : (9223372036854775807 < a0.size + a1.size) = False := eq_false (Nat.not_lt.2 c59)
                                        replace H := Option.bind_eq_some_iff.mp H
                                        obtain ⟨t210, A600, H⟩ := H
                                        replace H : ((name_Loose.f a0).bind fun t211 => ((name_Loose.f a1).bind fun t212 => (if t211.size + t212.size ≤ 9223372036854775807 then (some (t210.toList == (t211 ++ t212).toList)) else (none)))) = some r := H
                                        have A60 := Aside0.mk A600
                                        clear A600
                                        replace H := Option.bind_eq_some_iff.mp H
                                        obtain ⟨t211, A610, H⟩ := H
                                        replace H : ((name_Loose.f a1).bind fun t212 => (if t211.size + t212.size ≤ 9223372036854775807 then (some (t210.toList == (t211 ++ t212).toList)) else (none))) = some r := H
                                        have A61 := Aside0.mk A610
                                        clear A610
                                        replace H := Option.bind_eq_some_iff.mp H
                                        obtain ⟨t212, A620, H⟩ := H
                                        replace H : (if t211.size + t212.size ≤ 9223372036854775807 then (some (t210.toList == (t211 ++ t212).toList)) else (none)) = some r := H
                                        have A62 := Aside0.mk A620
                                        clear A620
                                        by_cases c63 : t211.size + t212.size ≤ 9223372036854775807
                                        · rw [if_pos c63] at H
                                          have c63b0 := eq_true c63
                                          have c63b1 : decide (t211.size + t212.size ≤ 9223372036854775807) = true := decide_eq_true c63
                                          try have c63b2 : (9223372036854775807 < t211.size + t212.size) = False := eq_false (Nat.not_lt.2 c63)
                                          obtain rfl := Option.some.inj H
                                          have p57 : 0 ≤ ((ji54) : Int) := of_decide_eq_true (by first | (with_reducible assumption) | assumption)
                                          have q57 : (ji54) < (a0.size : Int) := of_decide_eq_true (by first | (with_reducible assumption) | assumption)
                                          have hx57 := bt_at a0 (ji54)
                                          replace p57 := eq_true p57
                                          replace q57 := eq_true q57
                                          go_wp2_with (first | (go_at_call 14; (with_reducible refine (name_Loose.calls (a0 ++ a1) t210 _ A60.out).mono ?_); rintro e w64 ⟨rfl, hb⟩; have n0_ := Aside0.mk (below_step (by repeat (first | (with_reducible first | exact HB.out | apply below_alloc | apply pw_below_drewN | apply below_drew1) | exact HB.out)) hb); clear HB; have HB := n0_; clear n0_; (try clear hb); (try clear hb2); (try clear hk); (try clear hi)) | (go_at_call 14; (with_reducible refine (name_Loose.calls a0 t211 _ A61.out).mono ?_); rintro e w65 ⟨rfl, hb⟩; have n0_ := Aside0.mk (below_step (by repeat (first | (with_reducible first | exact HB.out | apply below_alloc | apply pw_below_drewN | apply below_drew1) | exact HB.out)) hb); clear HB; have HB := n0_; clear n0_; (try clear hb); (try clear hb2); (try clear hk); (try clear hi)) | (go_at_call 14; (with_reducible refine (name_Loose.calls a1 t212 _ A62.out).mono ?_); rintro e w66 ⟨rfl, hb⟩; have n0_ := Aside0.mk (below_step (by repeat (first | (with_reducible first | exact HB.out | apply below_alloc | apply pw_below_drewN | apply below_drew1) | exact HB.out)) hb); clear HB; have HB := n0_; clear n0_; (try clear hb); (try clear hb2); (try clear hk); (try clear hi)))
                                          go_ret
                                          exact ⟨by first | rfl | (simp [errW_none, errW_some] <;> rfl) | (simp only [← hji54]; first | rfl | (simp [errW_none, errW_some] <;> rfl)) | (simp [*, errW_none, errW_some] <;> rfl) | (obtain rfl := Option.some.inj (A13.out.symm.trans A22.out); rfl) | (obtain rfl := Option.some.inj (A13.out.symm.trans A39.out); rfl) | (obtain rfl := Option.some.inj (A13.out.symm.trans A47.out); rfl) | (obtain rfl := Option.some.inj (A13.out.symm.trans A61.out); rfl) | (obtain rfl := Option.some.inj (A13.out.symm.trans A69.out); rfl) | (obtain rfl := Option.some.inj (A22.out.symm.trans A39.out); rfl) | (obtain rfl := Option.some.inj (A22.out.symm.trans A47.out); rfl) | (obtain rfl := Option.some.inj (A22.out.symm.trans A61.out); rfl) | (obtain rfl := Option.some.inj (A22.out.symm.trans A69.out); rfl) | (obtain rfl := Option.some.inj (A39.out.symm.trans A47.out); rfl) | (obtain rfl := Option.some.inj (A39.out.symm.trans A61.out); rfl) | (obtain rfl := Option.some.inj (A39.out.symm.trans A69.out); rfl) | (rw [IntWalk.wrap64_in _ ⟨by omega, by omega⟩]), by repeat (first | (with_reducible first | exact HB.out | apply below_alloc | apply pw_below_drewN | apply below_drew1) | exact HB.out)⟩
                                        · rw [if_neg c63] at H
                                          exact absurd H (by simp)
                                      · rw [if_neg c59] at H
                                        exact absurd H (by simp)
                                  · rw [if_neg c56] at H
                                    exact absurd H (by simp)
                                · rw [if_neg c55] at H
                                  exact absurd H (by simp)
                              · rw [if_neg c53] at H
                                have c53b0 : decide (1 < (a0.size : Int)) = false := decide_eq_false c53
                                have c53b1 : decide (1 < a0.size) = false := decide_eq_false (by omega)
                                clear c53
                                by_cases c67 : a0.size + a1.size ≤ 9223372036854775807
                                · rw [if_pos c67] at H
                                  have c67b0 := eq_true c67
                                  have c67b1 : decide (a0.size + a1.size ≤ 9223372036854775807) = true := decide_eq_true c67
                                  try have c67b2 : (9223372036854775807 < a0.size + a1.size) = False := eq_false (Nat.not_lt.2 c67)
                                  replace H := Option.bind_eq_some_iff.mp H
                                  obtain ⟨t213, A680, H⟩ := H
                                  replace H : ((name_Loose.f a0).bind fun t214 => ((name_Loose.f a1).bind fun t215 => (if t214.size + t215.size ≤ 9223372036854775807 then (some (t213.toList == (t214 ++ t215).toList)) else (none)))) = some r := H
                                  have A68 := Aside0.mk A680
                                  clear A680
                                  replace H := Option.bind_eq_some_iff.mp H
                                  obtain ⟨t214, A690, H⟩ := H
                                  replace H : ((name_Loose.f a1).bind fun t215 => (if t214.size + t215.size ≤ 9223372036854775807 then (some (t213.toList == (t214 ++ t215).toList)) else (none))) = some r := H
                                  have A69 := Aside0.mk A690
                                  clear A690
                                  replace H := Option.bind_eq_some_iff.mp H
                                  obtain ⟨t215, A700, H⟩ := H
                                  replace H : (if t214.size + t215.size ≤ 9223372036854775807 then (some (t213.toList == (t214 ++ t215).toList)) else (none)) = some r := H
                                  have A70 := Aside0.mk A700
                                  clear A700
                                  by_cases c71 : t214.size + t215.size ≤ 9223372036854775807
                                  · rw [if_pos c71] at H
                                    have c71b0 := eq_true c71
                                    have c71b1 : decide (t214.size + t215.size ≤ 9223372036854775807) = true := decide_eq_true c71
                                    try have c71b2 : (9223372036854775807 < t214.size + t215.size) = False := eq_false (Nat.not_lt.2 c71)
                                    obtain rfl := Option.some.inj H
                                    go_wp2_with (first | (go_at_call 14; (with_reducible refine (name_Loose.calls (a0 ++ a1) t213 _ A68.out).mono ?_); rintro e w72 ⟨rfl, hb⟩; have n0_ := Aside0.mk (below_step (by repeat (first | (with_reducible first | exact HB.out | apply below_alloc | apply pw_below_drewN | apply below_drew1) | exact HB.out)) hb); clear HB; have HB := n0_; clear n0_; (try clear hb); (try clear hb2); (try clear hk); (try clear hi)) | (go_at_call 14; (with_reducible refine (name_Loose.calls a0 t214 _ A69.out).mono ?_); rintro e w73 ⟨rfl, hb⟩; have n0_ := Aside0.mk (below_step (by repeat (first | (with_reducible first | exact HB.out | apply below_alloc | apply pw_below_drewN | apply below_drew1) | exact HB.out)) hb); clear HB; have HB := n0_; clear n0_; (try clear hb); (try clear hb2); (try clear hk); (try clear hi)) | (go_at_call 14; (with_reducible refine (name_Loose.calls a1 t215 _ A70.out).mono ?_); rintro e w74 ⟨rfl, hb⟩; have n0_ := Aside0.mk (below_step (by repeat (first | (with_reducible first | exact HB.out | apply below_alloc | apply pw_below_drewN | apply below_drew1) | exact HB.out)) hb); clear HB; have HB := n0_; clear n0_; (try clear hb); (try clear hb2); (try clear hk); (try clear hi)))
                                    go_ret
                                    exact ⟨by first | rfl | (simp [errW_none, errW_some] <;> rfl) | (simp [*, errW_none, errW_some] <;> rfl) | (obtain rfl := Option.some.inj (A13.out.symm.trans A22.out); rfl) | (obtain rfl := Option.some.inj (A13.out.symm.trans A39.out); rfl) | (obtain rfl := Option.some.inj (A13.out.symm.trans A47.out); rfl) | (obtain rfl := Option.some.inj (A13.out.symm.trans A61.out); rfl) | (obtain rfl := Option.some.inj (A13.out.symm.trans A69.out); rfl) | (obtain rfl := Option.some.inj (A22.out.symm.trans A39.out); rfl) | (obtain rfl := Option.some.inj (A22.out.symm.trans A47.out); rfl) | (obtain rfl := Option.some.inj (A22.out.symm.trans A61.out); rfl) | (obtain rfl := Option.some.inj (A22.out.symm.trans A69.out); rfl) | (obtain rfl := Option.some.inj (A39.out.symm.trans A47.out); rfl) | (obtain rfl := Option.some.inj (A39.out.symm.trans A61.out); rfl) | (obtain rfl := Option.some.inj (A39.out.symm.trans A69.out); rfl) | (rw [IntWalk.wrap64_in _ ⟨by omega, by omega⟩]), by repeat (first | (with_reducible first | exact HB.out | apply below_alloc | apply pw_below_drewN | apply below_drew1) | exact HB.out)⟩
                                  · rw [if_neg c71] at H
                                    exact absurd H (by simp)
                                · rw [if_neg c67] at H
                                  exact absurd H (by simp)
  · replace c4 := Bool.eq_false_iff.mpr c4
    subst c4
    have H1 : (some false) = some r := by rw [if_neg (show ¬ (false = true) by decide)] at H; exact H
    clear H
    have H := H1
    clear H1
    obtain rfl := Option.some.inj H
    go_enter Try.func6, Try.ntmps6
    go_wp2_with (first | ((with_reducible refine gate_callee (f := 12) rfl ?_); refine goesL_ (some 11) rfl rfl Try.func12 (by kernel_rfl) rfl #[] rfl (by (try simp only [List.map_toArray, List.map_cons, List.map_nil]); first | done | rfl | (simp only [List.length_drop, List.length_take]; rfl)) ?_; (with_reducible refine (pagemenderlaw03_lives.calls  false _ A3.out).mono ?_); rintro e w75 ⟨rfl, hb⟩; refine ⟨_, rfl, ?_⟩; have n0_ := Aside0.mk (below_step (by repeat (first | (with_reducible first | exact HB.out | apply below_alloc | apply pw_below_drewN | apply below_drew1) | exact HB.out)) hb); clear HB; have HB := n0_; clear n0_; (try clear hb); (try clear hb2); (try clear hk); (try clear hi)))
    go_ret
    exact ⟨by first | rfl | (simp [errW_none, errW_some] <;> rfl) | (simp [*, errW_none, errW_some] <;> rfl) | (obtain rfl := Option.some.inj (A13.out.symm.trans A22.out); rfl) | (obtain rfl := Option.some.inj (A13.out.symm.trans A39.out); rfl) | (obtain rfl := Option.some.inj (A13.out.symm.trans A47.out); rfl) | (obtain rfl := Option.some.inj (A13.out.symm.trans A61.out); rfl) | (obtain rfl := Option.some.inj (A13.out.symm.trans A69.out); rfl) | (obtain rfl := Option.some.inj (A22.out.symm.trans A39.out); rfl) | (obtain rfl := Option.some.inj (A22.out.symm.trans A47.out); rfl) | (obtain rfl := Option.some.inj (A22.out.symm.trans A61.out); rfl) | (obtain rfl := Option.some.inj (A22.out.symm.trans A69.out); rfl) | (obtain rfl := Option.some.inj (A39.out.symm.trans A47.out); rfl) | (obtain rfl := Option.some.inj (A39.out.symm.trans A61.out); rfl) | (obtain rfl := Option.some.inj (A39.out.symm.trans A69.out); rfl) | (rw [IntWalk.wrap64_in _ ⟨by omega, by omega⟩]), by repeat (first | (with_reducible first | exact HB.out | apply below_alloc | apply pw_below_drewN | apply below_drew1) | exact HB.out)⟩

/-- THE ONE PURE STATEMENT of pagemenderlaw03_NameLoose: yours. -/
def pagemenderlaw03_NameLoose.Pure : Prop := ∀ (a0 : ByteArray) (a1 : ByteArray), a0.size ≤ 140737488351232 → a1.size ≤ 140737488351232 → ∃ k, pagemenderlaw03_NameLoose.f k a0 a1 = some true
theorem pagemenderlaw03_NameLoose.walk (P : pagemenderlaw03_NameLoose.Pure) (a0 : ByteArray) (a1 : ByteArray) (w : World) (w0 : a0.size ≤ 140737488351232) (w1 : a1.size ≤ 140737488351232) :
    Calls Try.prog 6 #[.string a0, .string a1] w fun e w' => e = .returned (.bool true) ∧ Below w.heap.size w w' := by
  obtain ⟨k, h⟩ := P a0 a1 w0 w1
  refine (pagemenderlaw03_NameLoose.calls k a0 a1 true w h).mono ?_
  rintro e w' ⟨rfl, hd⟩
  exact ⟨rfl, hd⟩

end Go.Proofs.Ytpmenahlbfefmaa.G
