/- Printed for this seat by a program of the prover's own (over the kit's print): each function of the translation as a plain Lean function, and the proof that the code comes to its answers. -/
import Derived.Test.YtjgbnaejeeinbaaAPx0
import Derived.Test.YtjgbnaejeeinbaaAPx1
namespace Go.Proofs.Ytjgbnaejeeinbaa.AP
open Go.RowKit Go.Proofs.YtjgbnaejeeinbaaW.PrintWords Go.Proofs.YtjgbnaejeeinbaaW.PrintLast Go.Proofs.YtjgbnaejeeinbaaW.PrintMore
attribute [local go_sem] max2_int min2_int max_two min_two max_three min_three max_four min_four   -- for this text's walks alone
set_option linter.unusedVariables false
set_option linter.unusedSimpArgs false

/-! ### pagemenderlaw12_AsciiPlain: function 3 -/
mutual
def pagemenderlaw12_AsciiPlain.j0 : Nat → ByteArray → ByteArray → ByteArray → Bool → Option (Bool)
  | 0, _, _, _, _ => none
  | k + 1, x0, x3, x4, x45 => if x45 = true then (some false) else (pagemenderlaw12_AsciiPlain.l0 k x0 x3 x4 0)
def pagemenderlaw12_AsciiPlain.l0 : Nat → ByteArray → ByteArray → ByteArray → Int → Option (Bool)
  | 0, _, _, _, _ => none
  | k + 1, x0, x3, x4, x5 => if x5 < (wrap64 ((x3.size : Int) - 1)) then (if 0 ≤ x5 then (if x5 < (x3.size : Int) then ((pagemenderref01_Hex.f k (bt x3 x5)).bind fun t110 => (if t110 < 0 then (some false) else (if (bt x3 x5) ≥ 97 then (some false) else (pagemenderlaw12_AsciiPlain.l0 k x0 x3 x4 (wrap64 (x5 + 1)))))) else (none)) else (none)) else (pagemenderlaw12_AsciiPlain.l1 k x0 x4 0 0)
def pagemenderlaw12_AsciiPlain.l1 : Nat → ByteArray → ByteArray → Int → Int → Option (Bool)
  | 0, _, _, _, _ => none
  | k + 1, x0, x4, x6, x7 => if x7 < (wrap64 ((x4.size : Int) - 2)) then (if 0 ≤ x7 then (if x7 < (x4.size : Int) then (if (bt x4 x7) = 122 then (if (Int.tmod x6 5) = 0 then (pagemenderlaw12_AsciiPlain.j3 k x0 x4 x6 x7 false) else (pagemenderlaw12_AsciiPlain.j3 k x0 x4 x6 x7 true)) else (if (bt x4 x7) < 33 then (pagemenderlaw12_AsciiPlain.j3 k x0 x4 x6 x7 true) else (pagemenderlaw12_AsciiPlain.j3 k x0 x4 x6 x7 (decide ((bt x4 x7) > 117))))) else (none)) else (none)) else (if x6 = (wrap64 ((wrap64 ((x0.size : Int) / 4)) * 5)) then (if ((x0.size : Int) % 4) = 0 then (some true) else (if x6 = (wrap64 ((wrap64 ((wrap64 ((wrap64 ((x0.size : Int) / 4)) * 5)) + ((x0.size : Int) % 4))) + 1)) then (some (decide (((x0.size : Int) % 4) > 0))) else (some false))) else (if x6 = (wrap64 ((wrap64 ((wrap64 ((wrap64 ((x0.size : Int) / 4)) * 5)) + ((x0.size : Int) % 4))) + 1)) then (some (decide (((x0.size : Int) % 4) > 0))) else (some false)))
def pagemenderlaw12_AsciiPlain.j3 : Nat → ByteArray → ByteArray → Int → Int → Bool → Option (Bool)
  | 0, _, _, _, _, _ => none
  | k + 1, x0, x4, x6, x7, x97 => if x97 = true then (some false) else (if 0 ≤ x7 then (if x7 < (x4.size : Int) then (if (bt x4 x7) = 122 then (pagemenderlaw12_AsciiPlain.l1 k x0 x4 (wrap64 (x6 + 5)) (wrap64 (x7 + 1))) else (pagemenderlaw12_AsciiPlain.l1 k x0 x4 (wrap64 (x6 + 1)) (wrap64 (x7 + 1)))) else (none)) else (none))
end
def pagemenderlaw12_AsciiPlain.f (k : Nat) (a0 : ByteArray) : Option (Bool) := (pagemenderlaw12_lives.f).bind fun t107 => (if t107 = true then (if (a0.size : Int) > 1000 then (some true) else ((ascii_HexPut.f a0).bind fun t108 => ((ascii_Put85.f a0).bind fun t109 => (if (t108.size : Int) = (wrap64 ((wrap64 (2 * (a0.size : Int))) + 1)) then (if (t109.size : Int) < 2 then (pagemenderlaw12_AsciiPlain.j0 k a0 t108 t109 true) else (if 0 ≤ (wrap64 ((t109.size : Int) - 2)) then (if (wrap64 ((t109.size : Int) - 2)) ≤ (t109.size : Int) then (if (t109.extract ((wrap64 ((t109.size : Int) - 2)) : Int).toNat t109.size).toList = ([126, 62] : List UInt8) then (if 0 ≤ (wrap64 ((t108.size : Int) - 1)) then (if (wrap64 ((t108.size : Int) - 1)) < (t108.size : Int) then (pagemenderlaw12_AsciiPlain.j0 k a0 t108 t109 ((bt t108 (wrap64 ((t108.size : Int) - 1))) != 62)) else (none)) else (none)) else (pagemenderlaw12_AsciiPlain.j0 k a0 t108 t109 true)) else (none)) else (none))) else (pagemenderlaw12_AsciiPlain.j0 k a0 t108 t109 true))))) else (some false))
theorem pagemenderlaw12_AsciiPlain.mono_l : ∀ k, (∀ y0 y1 y2 y3, LeO (pagemenderlaw12_AsciiPlain.j0 k y0 y1 y2 y3) (pagemenderlaw12_AsciiPlain.j0 (k + 1) y0 y1 y2 y3)) ∧ (∀ y0 y1 y2 y3, LeO (pagemenderlaw12_AsciiPlain.l0 k y0 y1 y2 y3) (pagemenderlaw12_AsciiPlain.l0 (k + 1) y0 y1 y2 y3)) ∧ (∀ y0 y1 y2 y3, LeO (pagemenderlaw12_AsciiPlain.l1 k y0 y1 y2 y3) (pagemenderlaw12_AsciiPlain.l1 (k + 1) y0 y1 y2 y3)) ∧ (∀ y0 y1 y2 y3 y4, LeO (pagemenderlaw12_AsciiPlain.j3 k y0 y1 y2 y3 y4) (pagemenderlaw12_AsciiPlain.j3 (k + 1) y0 y1 y2 y3 y4))
  | 0 => ⟨fun _ _ _ _ r h => by simp [pagemenderlaw12_AsciiPlain.j0] at h, fun _ _ _ _ r h => by simp [pagemenderlaw12_AsciiPlain.l0] at h, fun _ _ _ _ r h => by simp [pagemenderlaw12_AsciiPlain.l1] at h, fun _ _ _ _ _ r h => by simp [pagemenderlaw12_AsciiPlain.j3] at h⟩
  | k + 1 => by
    obtain ⟨ih0, ih1, ih2, ih3⟩ := pagemenderlaw12_AsciiPlain.mono_l k
    refine ⟨?_, ?_, ?_, ?_⟩
    · intro y0 y1 y2 y3
      unfold pagemenderlaw12_AsciiPlain.j0
      repeat' first
      | (with_reducible exact ih0 _ _ _ _)
      | (with_reducible exact ih1 _ _ _ _)
      | (with_reducible exact ih2 _ _ _ _)
      | (with_reducible exact ih3 _ _ _ _ _)
      | (with_reducible exact pagemenderref01_Hex.mono _ _)
      | (with_reducible exact LeO.refl _)
      | (with_reducible exact LeO.none _)
      | (with_reducible refine LeO.ite ?_ ?_)
      | (with_reducible refine LeO.bind ?_ (fun _ => ?_))
      | exact ih0 _ _ _ _
      | exact ih1 _ _ _ _
      | exact ih2 _ _ _ _
      | exact ih3 _ _ _ _ _
      | exact pagemenderref01_Hex.mono _ _
      | exact LeO.none _
      | refine LeO.ite ?_ ?_
      | refine LeO.bind ?_ (fun _ => ?_)
    · intro y0 y1 y2 y3
      unfold pagemenderlaw12_AsciiPlain.l0
      repeat' first
      | (with_reducible exact ih0 _ _ _ _)
      | (with_reducible exact ih1 _ _ _ _)
      | (with_reducible exact ih2 _ _ _ _)
      | (with_reducible exact ih3 _ _ _ _ _)
      | (with_reducible exact pagemenderref01_Hex.mono _ _)
      | (with_reducible exact LeO.refl _)
      | (with_reducible exact LeO.none _)
      | (with_reducible refine LeO.ite ?_ ?_)
      | (with_reducible refine LeO.bind ?_ (fun _ => ?_))
      | exact ih0 _ _ _ _
      | exact ih1 _ _ _ _
      | exact ih2 _ _ _ _
      | exact ih3 _ _ _ _ _
      | exact pagemenderref01_Hex.mono _ _
      | exact LeO.none _
      | refine LeO.ite ?_ ?_
      | refine LeO.bind ?_ (fun _ => ?_)
    · intro y0 y1 y2 y3
      unfold pagemenderlaw12_AsciiPlain.l1
      repeat' first
      | (with_reducible exact ih0 _ _ _ _)
      | (with_reducible exact ih1 _ _ _ _)
      | (with_reducible exact ih2 _ _ _ _)
      | (with_reducible exact ih3 _ _ _ _ _)
      | (with_reducible exact pagemenderref01_Hex.mono _ _)
      | (with_reducible exact LeO.refl _)
      | (with_reducible exact LeO.none _)
      | (with_reducible refine LeO.ite ?_ ?_)
      | (with_reducible refine LeO.bind ?_ (fun _ => ?_))
      | exact ih0 _ _ _ _
      | exact ih1 _ _ _ _
      | exact ih2 _ _ _ _
      | exact ih3 _ _ _ _ _
      | exact pagemenderref01_Hex.mono _ _
      | exact LeO.none _
      | refine LeO.ite ?_ ?_
      | refine LeO.bind ?_ (fun _ => ?_)
    · intro y0 y1 y2 y3 y4
      unfold pagemenderlaw12_AsciiPlain.j3
      repeat' first
      | (with_reducible exact ih0 _ _ _ _)
      | (with_reducible exact ih1 _ _ _ _)
      | (with_reducible exact ih2 _ _ _ _)
      | (with_reducible exact ih3 _ _ _ _ _)
      | (with_reducible exact pagemenderref01_Hex.mono _ _)
      | (with_reducible exact LeO.refl _)
      | (with_reducible exact LeO.none _)
      | (with_reducible refine LeO.ite ?_ ?_)
      | (with_reducible refine LeO.bind ?_ (fun _ => ?_))
      | exact ih0 _ _ _ _
      | exact ih1 _ _ _ _
      | exact ih2 _ _ _ _
      | exact ih3 _ _ _ _ _
      | exact pagemenderref01_Hex.mono _ _
      | exact LeO.none _
      | refine LeO.ite ?_ ?_
      | refine LeO.bind ?_ (fun _ => ?_)
theorem pagemenderlaw12_AsciiPlain.mono : ∀ a0 k, LeO (pagemenderlaw12_AsciiPlain.f k a0) (pagemenderlaw12_AsciiPlain.f (k + 1) a0) := by
  intro a0 k
  obtain ⟨ih0, ih1, ih2, ih3⟩ := pagemenderlaw12_AsciiPlain.mono_l k
  unfold pagemenderlaw12_AsciiPlain.f
  repeat' first
      | (with_reducible exact ih0 _ _ _ _)
      | (with_reducible exact ih1 _ _ _ _)
      | (with_reducible exact ih2 _ _ _ _)
      | (with_reducible exact ih3 _ _ _ _ _)
      | (with_reducible exact pagemenderref01_Hex.mono _ _)
      | (with_reducible exact LeO.refl _)
      | (with_reducible exact LeO.none _)
      | (with_reducible refine LeO.ite ?_ ?_)
      | (with_reducible refine LeO.bind ?_ (fun _ => ?_))
      | exact ih0 _ _ _ _
      | exact ih1 _ _ _ _
      | exact ih2 _ _ _ _
      | exact ih3 _ _ _ _ _
      | exact pagemenderref01_Hex.mono _ _
      | exact LeO.none _
      | refine LeO.ite ?_ ?_
      | refine LeO.bind ?_ (fun _ => ?_)
set_option maxHeartbeats 8000000 in
set_option maxRecDepth 100000 in
theorem pagemenderlaw12_AsciiPlain.calls (k : Nat) (a0 : ByteArray) (r : Bool) (w : World) (h : pagemenderlaw12_AsciiPlain.f k a0 = some r) :
    Calls Try.prog 3 #[.string a0] w fun e w' => e = .returned (.bool r) ∧ Below w.heap.size w w' := by
  have HB := Aside0.mk (Below.refl w.heap.size w)
  have H : ((pagemenderlaw12_lives.f).bind fun t107 => (if t107 = true then (if (a0.size : Int) > 1000 then (some true) else ((ascii_HexPut.f a0).bind fun t108 => ((ascii_Put85.f a0).bind fun t109 => (if (t108.size : Int) = (wrap64 ((wrap64 (2 * (a0.size : Int))) + 1)) then (if (t109.size : Int) < 2 then (pagemenderlaw12_AsciiPlain.j0 k a0 t108 t109 true) else (if 0 ≤ (wrap64 ((t109.size : Int) - 2)) then (if (wrap64 ((t109.size : Int) - 2)) ≤ (t109.size : Int) then (if (t109.extract ((wrap64 ((t109.size : Int) - 2)) : Int).toNat t109.size).toList = ([126, 62] : List UInt8) then (if 0 ≤ (wrap64 ((t108.size : Int) - 1)) then (if (wrap64 ((t108.size : Int) - 1)) < (t108.size : Int) then (pagemenderlaw12_AsciiPlain.j0 k a0 t108 t109 ((bt t108 (wrap64 ((t108.size : Int) - 1))) != 62)) else (none)) else (none)) else (pagemenderlaw12_AsciiPlain.j0 k a0 t108 t109 true)) else (none)) else (none))) else (pagemenderlaw12_AsciiPlain.j0 k a0 t108 t109 true))))) else (some false))) = some r := h
  clear h
  replace H := Option.bind_eq_some_iff.mp H
  obtain ⟨t107, A20, H⟩ := H
  replace H : (if t107 = true then (if (a0.size : Int) > 1000 then (some true) else ((ascii_HexPut.f a0).bind fun t108 => ((ascii_Put85.f a0).bind fun t109 => (if (t108.size : Int) = (wrap64 ((wrap64 (2 * (a0.size : Int))) + 1)) then (if (t109.size : Int) < 2 then (pagemenderlaw12_AsciiPlain.j0 k a0 t108 t109 true) else (if 0 ≤ (wrap64 ((t109.size : Int) - 2)) then (if (wrap64 ((t109.size : Int) - 2)) ≤ (t109.size : Int) then (if (t109.extract ((wrap64 ((t109.size : Int) - 2)) : Int).toNat t109.size).toList = ([126, 62] : List UInt8) then (if 0 ≤ (wrap64 ((t108.size : Int) - 1)) then (if (wrap64 ((t108.size : Int) - 1)) < (t108.size : Int) then (pagemenderlaw12_AsciiPlain.j0 k a0 t108 t109 ((bt t108 (wrap64 ((t108.size : Int) - 1))) != 62)) else (none)) else (none)) else (pagemenderlaw12_AsciiPlain.j0 k a0 t108 t109 true)) else (none)) else (none))) else (pagemenderlaw12_AsciiPlain.j0 k a0 t108 t109 true))))) else (some false)) = some r := H
  have A2 := Aside0.mk A20
  clear A20
  by_cases c3 : t107 = true
  · subst c3
    have H1 : (if (a0.size : Int) > 1000 then (some true) else ((ascii_HexPut.f a0).bind fun t108 => ((ascii_Put85.f a0).bind fun t109 => (if (t108.size : Int) = (wrap64 ((wrap64 (2 * (a0.size : Int))) + 1)) then (if (t109.size : Int) < 2 then (pagemenderlaw12_AsciiPlain.j0 k a0 t108 t109 true) else (if 0 ≤ (wrap64 ((t109.size : Int) - 2)) then (if (wrap64 ((t109.size : Int) - 2)) ≤ (t109.size : Int) then (if (t109.extract ((wrap64 ((t109.size : Int) - 2)) : Int).toNat t109.size).toList = ([126, 62] : List UInt8) then (if 0 ≤ (wrap64 ((t108.size : Int) - 1)) then (if (wrap64 ((t108.size : Int) - 1)) < (t108.size : Int) then (pagemenderlaw12_AsciiPlain.j0 k a0 t108 t109 ((bt t108 (wrap64 ((t108.size : Int) - 1))) != 62)) else (none)) else (none)) else (pagemenderlaw12_AsciiPlain.j0 k a0 t108 t109 true)) else (none)) else (none))) else (pagemenderlaw12_AsciiPlain.j0 k a0 t108 t109 true))))) = some r := by rw [if_pos rfl] at H; exact H
    clear H
    have H := H1
    clear H1
    by_cases c4 : (a0.size : Int) > 1000
    · rw [if_pos c4] at H
      have c4b0 : decide (1000 < (a0.size : Int)) = true := decide_eq_true c4
      have c4b1 : decide (1000 < a0.size) = true := decide_eq_true (by omega)
      clear c4
      obtain rfl := Option.some.inj H
      go_enter Try.func3, Try.ntmps3
      go_wp2_with (first | ((with_reducible refine gate_callee (f := 8) rfl ?_); refine goesL_ (some 9) rfl rfl Try.func8 (by kernel_rfl) rfl #[] rfl (by (try simp only [List.map_toArray, List.map_cons, List.map_nil]); first | done | rfl | (simp only [List.length_drop, List.length_take]; rfl)) ?_; (with_reducible refine (pagemenderlaw12_lives.calls  true _ A2.out).mono ?_); rintro e w5 ⟨rfl, hb⟩; refine ⟨_, rfl, ?_⟩; have n0_ := Aside0.mk (below_step (by repeat (first | (with_reducible first | exact HB.out | apply below_alloc | apply pw_below_drewN | apply below_drew1) | exact HB.out)) hb); clear HB; have HB := n0_; clear n0_; (try clear hb); (try clear hb2); (try clear hk); (try clear hi)))
      go_ret
      exact ⟨by first | rfl | (simp [errW_none, errW_some] <;> rfl) | (simp [*, errW_none, errW_some] <;> rfl) | (rw [IntWalk.wrap64_in _ ⟨by omega, by omega⟩]), by repeat (first | (with_reducible first | exact HB.out | apply below_alloc | apply pw_below_drewN | apply below_drew1) | exact HB.out)⟩
    · rw [if_neg c4] at H
      have c4b0 : decide (1000 < (a0.size : Int)) = false := decide_eq_false c4
      have c4b1 : decide (1000 < a0.size) = false := decide_eq_false (by omega)
      clear c4
      replace H := Option.bind_eq_some_iff.mp H
      obtain ⟨t108, A60, H⟩ := H
      replace H : ((ascii_Put85.f a0).bind fun t109 => (if (t108.size : Int) = (wrap64 ((wrap64 (2 * (a0.size : Int))) + 1)) then (if (t109.size : Int) < 2 then (pagemenderlaw12_AsciiPlain.j0 k a0 t108 t109 true) else (if 0 ≤ (wrap64 ((t109.size : Int) - 2)) then (if (wrap64 ((t109.size : Int) - 2)) ≤ (t109.size : Int) then (if (t109.extract ((wrap64 ((t109.size : Int) - 2)) : Int).toNat t109.size).toList = ([126, 62] : List UInt8) then (if 0 ≤ (wrap64 ((t108.size : Int) - 1)) then (if (wrap64 ((t108.size : Int) - 1)) < (t108.size : Int) then (pagemenderlaw12_AsciiPlain.j0 k a0 t108 t109 ((bt t108 (wrap64 ((t108.size : Int) - 1))) != 62)) else (none)) else (none)) else (pagemenderlaw12_AsciiPlain.j0 k a0 t108 t109 true)) else (none)) else (none))) else (pagemenderlaw12_AsciiPlain.j0 k a0 t108 t109 true))) = some r := H
      have A6 := Aside0.mk A60
      clear A60
      replace H := Option.bind_eq_some_iff.mp H
      obtain ⟨t109, A70, H⟩ := H
      replace H : (if (t108.size : Int) = (wrap64 ((wrap64 (2 * (a0.size : Int))) + 1)) then (if (t109.size : Int) < 2 then (pagemenderlaw12_AsciiPlain.j0 k a0 t108 t109 true) else (if 0 ≤ (wrap64 ((t109.size : Int) - 2)) then (if (wrap64 ((t109.size : Int) - 2)) ≤ (t109.size : Int) then (if (t109.extract ((wrap64 ((t109.size : Int) - 2)) : Int).toNat t109.size).toList = ([126, 62] : List UInt8) then (if 0 ≤ (wrap64 ((t108.size : Int) - 1)) then (if (wrap64 ((t108.size : Int) - 1)) < (t108.size : Int) then (pagemenderlaw12_AsciiPlain.j0 k a0 t108 t109 ((bt t108 (wrap64 ((t108.size : Int) - 1))) != 62)) else (none)) else (none)) else (pagemenderlaw12_AsciiPlain.j0 k a0 t108 t109 true)) else (none)) else (none))) else (pagemenderlaw12_AsciiPlain.j0 k a0 t108 t109 true)) = some r := H
      have A7 := Aside0.mk A70
      clear A70
      have HC8 := Aside0.mk H
      clear H
      go_enter Try.func3, Try.ntmps3
      go_upto_region 6 with (first | ((with_reducible refine gate_callee (f := 8) rfl ?_); refine goesL_ (some 9) rfl rfl Try.func8 (by kernel_rfl) rfl #[] rfl (by (try simp only [List.map_toArray, List.map_cons, List.map_nil]); first | done | rfl | (simp only [List.length_drop, List.length_take]; rfl)) ?_; (with_reducible refine (pagemenderlaw12_lives.calls  true _ A2.out).mono ?_); rintro e w9 ⟨rfl, hb⟩; refine ⟨_, rfl, ?_⟩; have n0_ := Aside0.mk (below_step (by repeat (first | (with_reducible first | exact HB.out | apply below_alloc | apply pw_below_drewN | apply below_drew1) | exact HB.out)) hb); clear HB; have HB := n0_; clear n0_; (try clear hb); (try clear hb2); (try clear hk); (try clear hi)) | ((with_reducible refine gate_callee (f := 9) rfl ?_); refine goesL_ (some 15) rfl rfl Try.func9 (by kernel_rfl) rfl #[.string a0] rfl (by (try simp only [List.map_toArray, List.map_cons, List.map_nil]); first | done | rfl | (simp only [List.length_drop, List.length_take]; rfl)) ?_; (with_reducible refine (ascii_HexPut.calls a0 t108 _ A6.out).mono ?_); rintro e w10 ⟨rfl, hb⟩; refine ⟨_, rfl, ?_⟩; have n0_ := Aside0.mk (below_step (by repeat (first | (with_reducible first | exact HB.out | apply below_alloc | apply pw_below_drewN | apply below_drew1) | exact HB.out)) hb); clear HB; have HB := n0_; clear n0_; (try clear hb); (try clear hb2); (try clear hk); (try clear hi)) | ((with_reducible refine gate_callee (f := 10) rfl ?_); refine goesL_ (some 17) rfl rfl Try.func10 (by kernel_rfl) rfl #[.string a0] rfl (by (try simp only [List.map_toArray, List.map_cons, List.map_nil]); first | done | rfl | (simp only [List.length_drop, List.length_take]; rfl)) ?_; (with_reducible refine (ascii_Put85.calls a0 t109 _ A7.out).mono ?_); rintro e w11 ⟨rfl, hb⟩; refine ⟨_, rfl, ?_⟩; have n0_ := Aside0.mk (below_step (by repeat (first | (with_reducible first | exact HB.out | apply below_alloc | apply pw_below_drewN | apply below_drew1) | exact HB.out)) hb); clear HB; have HB := n0_; clear n0_; (try clear hb); (try clear hb2); (try clear hk); (try clear hi)))
      (try simp only [Act.put, List.setIfInBounds_toArray, List.set_cons_zero, List.set_cons_succ])
      go_cut [45] (fun v45 wc => ∃ (kq : Nat) (x45_7 : Bool), v45 = .bool x45_7 ∧ Aside0 (pagemenderlaw12_AsciiPlain.j0 kq a0 t108 t109 x45_7 = some r) ∧ Aside0 (kq ≤ k) ∧ Aside0 (Below w.heap.size w wc))
      case first =>
        have H := HC8.out
        clear HC8
        by_cases c12 : (t108.size : Int) = (wrap64 ((wrap64 (2 * (a0.size : Int))) + 1))
        · rw [if_pos c12] at H
          have c12b0 : ((t108.size : Int) == (wrap64 ((wrap64 (2 * (a0.size : Int))) + 1))) = true := beq_iff_eq.mpr c12
          have c12b1 : ((t108.size : Int) != (wrap64 ((wrap64 (2 * (a0.size : Int))) + 1))) = false := bne_eq_false_iff_eq.mpr c12
          clear c12
          (first | rw [c12b0] | (simp only [i64_w, i32_w]; rw [c12b0]) | skip)
          by_cases c13 : (t109.size : Int) < 2
          · rw [if_pos c13] at H
            have c13b0 : decide ((t109.size : Int) < 2) = true := decide_eq_true c13
            have c13b1 : decide (t109.size < 2) = true := decide_eq_true (by omega)
            clear c13
            have H' := Aside0.mk H
            clear H
            go_wp2
            go_meet
            case rel => exact ⟨_, (true), (by first | rfl | (simp; done) | (simp [*]; done)), H', ⟨by first | omega | exact Nat.le_refl _⟩, ⟨by repeat (first | (with_reducible first | exact HB.out | apply below_alloc | apply pw_below_drewN | apply below_drew1) | exact HB.out)⟩⟩
          · rw [if_neg c13] at H
            have c13b0 : decide ((t109.size : Int) < 2) = false := decide_eq_false c13
            have c13b1 : decide (t109.size < 2) = false := decide_eq_false (by omega)
            clear c13
            obtain ⟨ji14, hji14⟩ : ∃ j_ : Int, (wrap64 ((t109.size : Int) - 2)) = j_ := ⟨_, rfl⟩
            replace H : (if 0 ≤ (ji14) then (if (ji14) ≤ (t109.size : Int) then (if (t109.extract ((ji14) : Int).toNat t109.size).toList = ([126, 62] : List UInt8) then (if 0 ≤ (wrap64 ((t108.size : Int) - 1)) then (if (wrap64 ((t108.size : Int) - 1)) < (t108.size : Int) then (pagemenderlaw12_AsciiPlain.j0 k a0 t108 t109 ((bt t108 (wrap64 ((t108.size : Int) - 1))) != 62)) else (none)) else (none)) else (pagemenderlaw12_AsciiPlain.j0 k a0 t108 t109 true)) else (none)) else (none)) = some r := by first | (rw [hji14] at H; exact H) | (simp only [hji14] at H ⊢; exact H)
            have hji14w : (IntKind.i64.wrap ((t109.size : Int) - 2)) = ji14 := (i64_w _).trans hji14
            by_cases c15 : 0 ≤ (ji14)
            · rw [if_pos c15] at H
              have c15b0 := eq_true c15
              have c15b1 : decide (0 ≤ (ji14)) = true := decide_eq_true c15
              clear c15
              by_cases c16 : (ji14) ≤ (t109.size : Int)
              · rw [if_pos c16] at H
                have c16b0 := eq_true c16
                have c16b1 : decide ((ji14) ≤ (t109.size : Int)) = true := decide_eq_true c16
                clear c16
                by_cases c17 : (t109.extract ((ji14) : Int).toNat t109.size).toList = ([126, 62] : List UInt8)
                · rw [if_pos c17] at H
                  have c17b0 : ((t109.extract ((ji14) : Int).toNat t109.size).toList == ([126, 62] : List UInt8)) = true := beq_iff_eq.mpr c17
                  have c17b1 : ((t109.extract ((ji14) : Int).toNat t109.size).toList != ([126, 62] : List UInt8)) = false := bne_eq_false_iff_eq.mpr c17
                  clear c17
                  obtain ⟨ji18, hji18⟩ : ∃ j_ : Int, (wrap64 ((t108.size : Int) - 1)) = j_ := ⟨_, rfl⟩
                  replace H : (if 0 ≤ (ji18) then (if (ji18) < (t108.size : Int) then (pagemenderlaw12_AsciiPlain.j0 k a0 t108 t109 ((bt t108 (ji18)) != 62)) else (none)) else (none)) = some r := by first | (rw [hji18] at H; exact H) | (simp only [hji18] at H ⊢; exact H)
                  have hji18w : (IntKind.i64.wrap ((t108.size : Int) - 1)) = ji18 := (i64_w _).trans hji18
                  by_cases c19 : 0 ≤ (ji18)
                  · rw [if_pos c19] at H
                    have c19b0 : decide (0 ≤ (ji18)) = true := decide_eq_true c19
                    clear c19
                    by_cases c20 : (ji18) < (t108.size : Int)
                    · rw [if_pos c20] at H
                      have c20b0 : decide ((ji18) < (t108.size : Int)) = true := decide_eq_true c20
                      clear c20
                      have H' := Aside0.mk H
                      clear H
                      have p21 : 0 ≤ ((ji18) : Int) := of_decide_eq_true (by first | (with_reducible assumption) | assumption)
                      have q21 : (ji18) < (t108.size : Int) := of_decide_eq_true (by first | (with_reducible assumption) | assumption)
                      have hx21 := bt_at t108 (ji18)
                      replace p21 := eq_true p21
                      replace q21 := eq_true q21
                      go_wp2
                      go_meet
                      case rel => exact ⟨_, (((bt t108 (ji18)) != 62)), (by first | rfl | (simp; done) | (simp only [← hji18] <;> (first | rfl | simp)) | (simp [*]; done)), H', ⟨by first | omega | exact Nat.le_refl _⟩, ⟨by repeat (first | (with_reducible first | exact HB.out | apply below_alloc | apply pw_below_drewN | apply below_drew1) | exact HB.out)⟩⟩
                    · rw [if_neg c20] at H
                      exact absurd H (by simp)
                  · rw [if_neg c19] at H
                    exact absurd H (by simp)
                · rw [if_neg c17] at H
                  have c17b0 : ((t109.extract ((ji14) : Int).toNat t109.size).toList == ([126, 62] : List UInt8)) = false := beq_eq_false_iff_ne.mpr c17
                  have c17b1 : ((t109.extract ((ji14) : Int).toNat t109.size).toList != ([126, 62] : List UInt8)) = true := bne_iff_ne.mpr c17
                  have H' := Aside0.mk H
                  clear H
                  go_wp2
                  go_meet
                  case rel => exact ⟨_, (true), (by first | rfl | (simp; done) | (simp [*]; done)), H', ⟨by first | omega | exact Nat.le_refl _⟩, ⟨by repeat (first | (with_reducible first | exact HB.out | apply below_alloc | apply pw_below_drewN | apply below_drew1) | exact HB.out)⟩⟩
              · rw [if_neg c16] at H
                exact absurd H (by simp)
            · rw [if_neg c15] at H
              exact absurd H (by simp)
        · rw [if_neg c12] at H
          have c12b0 : ((t108.size : Int) == (wrap64 ((wrap64 (2 * (a0.size : Int))) + 1))) = false := beq_eq_false_iff_ne.mpr c12
          have c12b1 : ((t108.size : Int) != (wrap64 ((wrap64 (2 * (a0.size : Int))) + 1))) = true := bne_iff_ne.mpr c12
          (first | rw [c12b0] | (simp only [i64_w, i32_w]; rw [c12b0]) | skip)
          have H' := Aside0.mk H
          clear H
          go_wp2
          go_meet
          case rel => exact ⟨_, (true), (by first | rfl | (simp; done) | (simp [*]; done)), H', ⟨by first | omega | exact Nat.le_refl _⟩, ⟨by repeat (first | (with_reducible first | exact HB.out | apply below_alloc | apply pw_below_drewN | apply below_drew1) | exact HB.out)⟩⟩
      case rest =>
        clear HC8
        try clear c1
        try clear c2
        try clear p2
        try clear q2
        try clear hx2
        try clear c3
        try clear c4
        try clear c4b0
        try clear c4b1
        try clear p6
        try clear c8
        try clear c9
        try clear c10
        try clear c12
        try clear c12b0
        try clear c12b1
        try clear c13
        try clear c13b0
        try clear c13b1
        try clear c15
        try clear c15b0
        try clear c15b1
        try clear c16
        try clear c16b0
        try clear c16b1
        try clear c17
        try clear c17b0
        try clear c17b1
        try clear c19
        try clear c19b0
        try clear c20
        try clear c20b0
        try clear p21
        try clear q21
        try clear hx21
        try clear p21
        try clear q21
        obtain ⟨kq, x45_7, rfl, HA, HJ7, HB⟩ := hcut
        cases kq with
        | zero => exact absurd HA.out (by simp [pagemenderlaw12_AsciiPlain.j0])
        | succ kj7 =>
          have H := HA.out
          clear HA
          simp only [pagemenderlaw12_AsciiPlain.j0] at H
          by_cases c22 : x45_7 = true
          · subst c22
            have H1 : (some false) = some r := by rw [if_pos rfl] at H; exact H
            clear H
            have H := H1
            clear H1
            obtain rfl := Option.some.inj H
            go_wp2
            go_ret
            exact ⟨by first | rfl | (simp [errW_none, errW_some] <;> rfl) | (simp [*, errW_none, errW_some] <;> rfl) | (rw [IntWalk.wrap64_in _ ⟨by omega, by omega⟩]), by repeat (first | (with_reducible first | exact HB.out | apply below_alloc | apply pw_below_drewN | apply below_drew1) | exact HB.out)⟩
          · replace c22 := Bool.eq_false_iff.mpr c22
            subst c22
            have H1 : (pagemenderlaw12_AsciiPlain.l0 kj7 a0 t108 t109 0) = some r := by rw [if_neg (show ¬ (false = true) by decide)] at H; exact H
            clear H
            have H := H1
            clear H1
            have H' := Aside0.mk H
            clear H
            go_wp2
            go_loopg [5] kj7 (fun kq v5 w' => ∃ (x5_2 : Int), v5 = .int .i64 x5_2 ∧ Aside0 (pagemenderlaw12_AsciiPlain.l0 kq a0 t108 t109 x5_2 = some r) ∧ Aside0 (kq ≤ kj7) ∧ Aside0 (Below w.heap.size w w'))
            case atStart => exact ⟨(0), (by first | rfl | (simp; done) | (simp [*]; done)), H', ⟨Nat.le_refl _⟩, ⟨by repeat (first | (with_reducible first | exact HB.out | apply below_alloc | apply pw_below_drewN | apply below_drew1) | exact HB.out)⟩⟩
            case round =>
              clear H'
              try clear c1
              try clear c2
              try clear p2
              try clear q2
              try clear hx2
              try clear c3
              try clear c4
              try clear c4b0
              try clear c4b1
              try clear p6
              try clear c8
              try clear c9
              try clear c10
              try clear c12
              try clear c12b0
              try clear c12b1
              try clear c13
              try clear c13b0
              try clear c13b1
              try clear c15
              try clear c15b0
              try clear c15b1
              try clear c16
              try clear c16b0
              try clear c16b1
              try clear c17
              try clear c17b0
              try clear c17b1
              try clear c19
              try clear c19b0
              try clear c20
              try clear c20b0
              try clear p21
              try clear q21
              try clear hx21
              try clear c22
              try clear p2
              try clear p21
              try clear p6
              try clear q2
              try clear q21
              obtain ⟨x5_2, rfl, HA, HK2, HB⟩ := hrel
              cases gk with
              | zero => exact absurd HA.out (by simp [pagemenderlaw12_AsciiPlain.l0])
              | succ k2 =>
                have H := HA.out
                clear HA
                simp only [pagemenderlaw12_AsciiPlain.l0] at H
                by_cases c23 : x5_2 < (wrap64 ((t108.size : Int) - 1))
                · rw [if_pos c23] at H
                  have c23b0 : decide (x5_2 < (wrap64 ((t108.size : Int) - 1))) = true := decide_eq_true c23
                  clear c23
                  by_cases c24 : 0 ≤ x5_2
                  · rw [if_pos c24] at H
                    have c24b0 : decide (0 ≤ x5_2) = true := decide_eq_true c24
                    clear c24
                    by_cases c25 : x5_2 < (t108.size : Int)
                    · rw [if_pos c25] at H
                      have c25b0 : decide (x5_2 < (t108.size : Int)) = true := decide_eq_true c25
                      clear c25
                      replace H := Option.bind_eq_some_iff.mp H
                      obtain ⟨t110, A270, H⟩ := H
                      replace H : (if t110 < 0 then (some false) else (if (bt t108 x5_2) ≥ 97 then (some false) else (pagemenderlaw12_AsciiPlain.l0 k2 a0 t108 t109 (wrap64 (x5_2 + 1))))) = some r := H
                      have A27 := Aside0.mk A270
                      clear A270
                      by_cases c28 : t110 < 0
                      · rw [if_pos c28] at H
                        have c28b0 : decide (t110 < 0) = true := decide_eq_true c28
                        clear c28
                        obtain rfl := Option.some.inj H
                        have p26 : 0 ≤ (x5_2 : Int) := of_decide_eq_true (by first | (with_reducible assumption) | assumption)
                        have q26 : x5_2 < (t108.size : Int) := of_decide_eq_true (by first | (with_reducible assumption) | assumption)
                        have hx26 := bt_at t108 x5_2
                        replace p26 := eq_true p26
                        replace q26 := eq_true q26
                        go_wp2_with (first | ((with_reducible refine gate_callee (f := 11) rfl ?_); refine goesL_ (some 56) rfl rfl Try.func11 (by kernel_rfl) rfl #[.int .u8 (bt t108 x5_2)] rfl (by (try simp only [List.map_toArray, List.map_cons, List.map_nil]); first | done | rfl | (simp only [List.length_drop, List.length_take]; rfl)) ?_; (with_reducible refine (pagemenderref01_Hex.calls k2 (bt t108 x5_2) t110 _ A27.out).mono ?_); rintro e w' ⟨rfl, ⟨nd, rfl⟩⟩; refine ⟨_, rfl, ?_⟩))
                        go_ret
                        exact ⟨by first | rfl | (simp [errW_none, errW_some] <;> rfl) | (simp [*, errW_none, errW_some] <;> rfl) | (rw [IntWalk.wrap64_in _ ⟨by omega, by omega⟩]), by repeat (first | (with_reducible first | exact HB.out | apply below_alloc | apply pw_below_drewN | apply below_drew1) | exact HB.out)⟩
                      · rw [if_neg c28] at H
                        have c28b0 : decide (t110 < 0) = false := decide_eq_false c28
                        clear c28
                        by_cases c30 : (bt t108 x5_2) ≥ 97
                        · rw [if_pos c30] at H
                          have c30b0 : decide (97 ≤ (bt t108 x5_2)) = true := decide_eq_true c30
                          clear c30
                          obtain rfl := Option.some.inj H
                          have p26 : 0 ≤ (x5_2 : Int) := of_decide_eq_true (by first | (with_reducible assumption) | assumption)
                          have q26 : x5_2 < (t108.size : Int) := of_decide_eq_true (by first | (with_reducible assumption) | assumption)
                          have hx26 := bt_at t108 x5_2
                          replace p26 := eq_true p26
                          replace q26 := eq_true q26
                          go_wp2_with (first | ((with_reducible refine gate_callee (f := 11) rfl ?_); refine goesL_ (some 56) rfl rfl Try.func11 (by kernel_rfl) rfl #[.int .u8 (bt t108 x5_2)] rfl (by (try simp only [List.map_toArray, List.map_cons, List.map_nil]); first | done | rfl | (simp only [List.length_drop, List.length_take]; rfl)) ?_; (with_reducible refine (pagemenderref01_Hex.calls k2 (bt t108 x5_2) t110 _ A27.out).mono ?_); rintro e w' ⟨rfl, ⟨nd, rfl⟩⟩; refine ⟨_, rfl, ?_⟩; have p29 : 0 ≤ (x5_2 : Int) := of_decide_eq_true (by first | (with_reducible assumption) | assumption); have q29 : x5_2 < (t108.size : Int) := of_decide_eq_true (by first | (with_reducible assumption) | assumption); have hx29 := bt_at t108 x5_2; replace p29 := eq_true p29; replace q29 := eq_true q29))
                          go_ret
                          exact ⟨by first | rfl | (simp [errW_none, errW_some] <;> rfl) | (simp [*, errW_none, errW_some] <;> rfl) | (rw [IntWalk.wrap64_in _ ⟨by omega, by omega⟩]), by repeat (first | (with_reducible first | exact HB.out | apply below_alloc | apply pw_below_drewN | apply below_drew1) | exact HB.out)⟩
                        · rw [if_neg c30] at H
                          have c30b0 : decide (97 ≤ (bt t108 x5_2)) = false := decide_eq_false c30
                          clear c30
                          have H' := Aside0.mk H
                          clear H
                          have p26 : 0 ≤ (x5_2 : Int) := of_decide_eq_true (by first | (with_reducible assumption) | assumption)
                          have q26 : x5_2 < (t108.size : Int) := of_decide_eq_true (by first | (with_reducible assumption) | assumption)
                          have hx26 := bt_at t108 x5_2
                          replace p26 := eq_true p26
                          replace q26 := eq_true q26
                          go_wp2_with (first | ((with_reducible refine gate_callee (f := 11) rfl ?_); refine goesL_ (some 56) rfl rfl Try.func11 (by kernel_rfl) rfl #[.int .u8 (bt t108 x5_2)] rfl (by (try simp only [List.map_toArray, List.map_cons, List.map_nil]); first | done | rfl | (simp only [List.length_drop, List.length_take]; rfl)) ?_; (with_reducible refine (pagemenderref01_Hex.calls k2 (bt t108 x5_2) t110 _ A27.out).mono ?_); rintro e w' ⟨rfl, ⟨nd, rfl⟩⟩; refine ⟨_, rfl, ?_⟩; have p29 : 0 ≤ (x5_2 : Int) := of_decide_eq_true (by first | (with_reducible assumption) | assumption); have q29 : x5_2 < (t108.size : Int) := of_decide_eq_true (by first | (with_reducible assumption) | assumption); have hx29 := bt_at t108 x5_2; replace p29 := eq_true p29; replace q29 := eq_true q29))
                          go_roundg k2
                          case measure => have := HJ7.out; have := HK2.out; omega
                          case rel => exact ⟨(wrap64 (x5_2 + 1)), (by first | rfl | (simp; done) | (simp [*]; done)), H', ⟨by have := HJ7.out; have := HK2.out; omega⟩, ⟨by repeat (first | (with_reducible first | exact HB.out | apply below_alloc | apply pw_below_drewN | apply below_drew1) | exact HB.out)⟩⟩
                    · rw [if_neg c25] at H
                      exact absurd H (by simp)
                  · rw [if_neg c24] at H
                    exact absurd H (by simp)
                · rw [if_neg c23] at H
                  have c23b0 : decide (x5_2 < (wrap64 ((t108.size : Int) - 1))) = false := decide_eq_false c23
                  clear c23
                  have H' := Aside0.mk H
                  clear H
                  go_wp2
                  go_loopg [6, 7] k2 (fun kq v6 v7 w' => ∃ (x6_3 : Int) (x7_3 : Int), v6 = .int .i64 x6_3 ∧ v7 = .int .i64 x7_3 ∧ Aside0 (pagemenderlaw12_AsciiPlain.l1 kq a0 t109 x6_3 x7_3 = some r) ∧ Aside0 (kq ≤ k2) ∧ Aside0 (Below w.heap.size w w'))
                  case atStart => exact ⟨(0), (0), (by first | rfl | (simp; done) | (simp [*]; done)), (by first | rfl | (simp; done) | (simp [*]; done)), H', ⟨Nat.le_refl _⟩, ⟨by repeat (first | (with_reducible first | exact HB.out | apply below_alloc | apply pw_below_drewN | apply below_drew1) | exact HB.out)⟩⟩
                  case round =>
                    clear H'
                    try clear c1
                    try clear c2
                    try clear p2
                    try clear q2
                    try clear hx2
                    try clear c3
                    try clear c4
                    try clear c4b0
                    try clear c4b1
                    try clear p6
                    try clear c8
                    try clear c9
                    try clear c10
                    try clear c11
                    try clear c12
                    try clear c12b0
                    try clear c12b1
                    try clear c13
                    try clear c13b0
                    try clear c13b1
                    try clear c15
                    try clear c15b0
                    try clear c15b1
                    try clear c16
                    try clear c16b0
                    try clear c16b1
                    try clear c17
                    try clear c17b0
                    try clear c17b1
                    try clear c19
                    try clear c19b0
                    try clear c20
                    try clear c20b0
                    try clear p21
                    try clear q21
                    try clear hx21
                    try clear c22
                    try clear c23
                    try clear c23b0
                    try clear c24
                    try clear c24b0
                    try clear c25
                    try clear c25b0
                    try clear p26
                    try clear q26
                    try clear hx26
                    try clear c28
                    try clear c28b0
                    try clear p29
                    try clear q29
                    try clear hx29
                    try clear c30
                    try clear c30b0
                    try clear p2
                    try clear p21
                    try clear p26
                    try clear p29
                    try clear p6
                    try clear q2
                    try clear q21
                    try clear q26
                    try clear q29
                    obtain ⟨x6_3, x7_3, rfl, rfl, HA, HK3, HB⟩ := hrel
                    cases gk with
                    | zero => exact absurd HA.out (by simp [pagemenderlaw12_AsciiPlain.l1])
                    | succ k3 =>
                      have H := HA.out
                      clear HA
                      simp only [pagemenderlaw12_AsciiPlain.l1] at H
                      by_cases c31 : x7_3 < (wrap64 ((t109.size : Int) - 2))
                      · rw [if_pos c31] at H
                        have c31b0 : decide (x7_3 < (wrap64 ((t109.size : Int) - 2))) = true := decide_eq_true c31
                        clear c31
                        have HC32 := Aside0.mk H
                        clear H
                        go_upto_region 17 with (fail)
                        go_cut [97] (fun v97 wc => ∃ (kq : Nat) (x97_31 : Bool), v97 = .bool x97_31 ∧ Aside0 (pagemenderlaw12_AsciiPlain.j3 kq a0 t109 x6_3 x7_3 x97_31 = some r) ∧ Aside0 (kq ≤ k3) ∧ Aside0 (Below w.heap.size w wc))
                        case first =>
                          have H := HC32.out
                          clear HC32
                          by_cases c33 : 0 ≤ x7_3
                          · rw [if_pos c33] at H
                            have c33b0 : decide (0 ≤ x7_3) = true := decide_eq_true c33
                            clear c33
                            (first | rw [c33b0] | (simp only [i64_w, i32_w]; rw [c33b0]) | skip)
                            by_cases c34 : x7_3 < (t109.size : Int)
                            · rw [if_pos c34] at H
                              have c34b0 : decide (x7_3 < (t109.size : Int)) = true := decide_eq_true c34
                              clear c34
                              by_cases c36 : (bt t109 x7_3) = 122
                              · rw [if_pos c36] at H
                                have c36b0 : ((bt t109 x7_3) == 122) = true := beq_iff_eq.mpr c36
                                have c36b1 : ((bt t109 x7_3) != 122) = false := bne_eq_false_iff_eq.mpr c36
                                clear c36
                                by_cases c37 : (Int.tmod x6_3 5) = 0
                                · rw [if_pos c37] at H
                                  have c37b0 : ((Int.tmod x6_3 5) == 0) = true := beq_iff_eq.mpr c37
                                  have c37b1 : ((Int.tmod x6_3 5) != 0) = false := bne_eq_false_iff_eq.mpr c37
                                  clear c37
                                  have H' := Aside0.mk H
                                  clear H
                                  have p35 : 0 ≤ (x7_3 : Int) := of_decide_eq_true (by first | (with_reducible assumption) | assumption)
                                  have q35 : x7_3 < (t109.size : Int) := of_decide_eq_true (by first | (with_reducible assumption) | assumption)
                                  have hx35 := bt_at t109 x7_3
                                  replace p35 := eq_true p35
                                  replace q35 := eq_true q35
                                  have p38 : 0 ≤ (x7_3 : Int) := of_decide_eq_true (by first | (with_reducible assumption) | assumption)
                                  have q38 : x7_3 < (t109.size : Int) := of_decide_eq_true (by first | (with_reducible assumption) | assumption)
                                  have hx38 := bt_at t109 x7_3
                                  replace p38 := eq_true p38
                                  replace q38 := eq_true q38
                                  go_wp2
                                  go_meet
                                  case rel => exact ⟨_, (false), (by first | rfl | (simp; done) | (simp [*]; done)), H', ⟨by have := HJ7.out; have := HK2.out; have := HK3.out; first | omega | exact Nat.le_refl _⟩, ⟨by repeat (first | (with_reducible first | exact HB.out | apply below_alloc | apply pw_below_drewN | apply below_drew1) | exact HB.out)⟩⟩
                                · rw [if_neg c37] at H
                                  have c37b0 : ((Int.tmod x6_3 5) == 0) = false := beq_eq_false_iff_ne.mpr c37
                                  have c37b1 : ((Int.tmod x6_3 5) != 0) = true := bne_iff_ne.mpr c37
                                  have H' := Aside0.mk H
                                  clear H
                                  have p35 : 0 ≤ (x7_3 : Int) := of_decide_eq_true (by first | (with_reducible assumption) | assumption)
                                  have q35 : x7_3 < (t109.size : Int) := of_decide_eq_true (by first | (with_reducible assumption) | assumption)
                                  have hx35 := bt_at t109 x7_3
                                  replace p35 := eq_true p35
                                  replace q35 := eq_true q35
                                  go_wp2
                                  go_meet
                                  case rel => exact ⟨_, (true), (by first | rfl | (simp; done) | (simp [*]; done)), H', ⟨by have := HJ7.out; have := HK2.out; have := HK3.out; first | omega | exact Nat.le_refl _⟩, ⟨by repeat (first | (with_reducible first | exact HB.out | apply below_alloc | apply pw_below_drewN | apply below_drew1) | exact HB.out)⟩⟩
                              · rw [if_neg c36] at H
                                have c36b0 : ((bt t109 x7_3) == 122) = false := beq_eq_false_iff_ne.mpr c36
                                have c36b1 : ((bt t109 x7_3) != 122) = true := bne_iff_ne.mpr c36
                                by_cases c41 : (bt t109 x7_3) < 33
                                · rw [if_pos c41] at H
                                  have c41b0 : decide ((bt t109 x7_3) < 33) = true := decide_eq_true c41
                                  clear c41
                                  have H' := Aside0.mk H
                                  clear H
                                  have p35 : 0 ≤ (x7_3 : Int) := of_decide_eq_true (by first | (with_reducible assumption) | assumption)
                                  have q35 : x7_3 < (t109.size : Int) := of_decide_eq_true (by first | (with_reducible assumption) | assumption)
                                  have hx35 := bt_at t109 x7_3
                                  replace p35 := eq_true p35
                                  replace q35 := eq_true q35
                                  have p39 : 0 ≤ (x7_3 : Int) := of_decide_eq_true (by first | (with_reducible assumption) | assumption)
                                  have q39 : x7_3 < (t109.size : Int) := of_decide_eq_true (by first | (with_reducible assumption) | assumption)
                                  have hx39 := bt_at t109 x7_3
                                  replace p39 := eq_true p39
                                  replace q39 := eq_true q39
                                  have p40 : 0 ≤ (x7_3 : Int) := of_decide_eq_true (by first | (with_reducible assumption) | assumption)
                                  have q40 : x7_3 < (t109.size : Int) := of_decide_eq_true (by first | (with_reducible assumption) | assumption)
                                  have hx40 := bt_at t109 x7_3
                                  replace p40 := eq_true p40
                                  replace q40 := eq_true q40
                                  go_wp2
                                  go_meet
                                  case rel => exact ⟨_, (true), (by first | rfl | (simp; done) | (simp [*]; done)), H', ⟨by have := HJ7.out; have := HK2.out; have := HK3.out; first | omega | exact Nat.le_refl _⟩, ⟨by repeat (first | (with_reducible first | exact HB.out | apply below_alloc | apply pw_below_drewN | apply below_drew1) | exact HB.out)⟩⟩
                                · rw [if_neg c41] at H
                                  have c41b0 : decide ((bt t109 x7_3) < 33) = false := decide_eq_false c41
                                  clear c41
                                  have H' := Aside0.mk H
                                  clear H
                                  have p35 : 0 ≤ (x7_3 : Int) := of_decide_eq_true (by first | (with_reducible assumption) | assumption)
                                  have q35 : x7_3 < (t109.size : Int) := of_decide_eq_true (by first | (with_reducible assumption) | assumption)
                                  have hx35 := bt_at t109 x7_3
                                  replace p35 := eq_true p35
                                  replace q35 := eq_true q35
                                  have p39 : 0 ≤ (x7_3 : Int) := of_decide_eq_true (by first | (with_reducible assumption) | assumption)
                                  have q39 : x7_3 < (t109.size : Int) := of_decide_eq_true (by first | (with_reducible assumption) | assumption)
                                  have hx39 := bt_at t109 x7_3
                                  replace p39 := eq_true p39
                                  replace q39 := eq_true q39
                                  have p40 : 0 ≤ (x7_3 : Int) := of_decide_eq_true (by first | (with_reducible assumption) | assumption)
                                  have q40 : x7_3 < (t109.size : Int) := of_decide_eq_true (by first | (with_reducible assumption) | assumption)
                                  have hx40 := bt_at t109 x7_3
                                  replace p40 := eq_true p40
                                  replace q40 := eq_true q40
                                  have p42 : 0 ≤ (x7_3 : Int) := of_decide_eq_true (by first | (with_reducible assumption) | assumption)
                                  have q42 : x7_3 < (t109.size : Int) := of_decide_eq_true (by first | (with_reducible assumption) | assumption)
                                  have hx42 := bt_at t109 x7_3
                                  replace p42 := eq_true p42
                                  replace q42 := eq_true q42
                                  go_wp2
                                  go_meet
                                  case rel => exact ⟨_, (decide ((bt t109 x7_3) > 117)), (by first | rfl | (simp; done) | (simp [*]; done)), H', ⟨by have := HJ7.out; have := HK2.out; have := HK3.out; first | omega | exact Nat.le_refl _⟩, ⟨by repeat (first | (with_reducible first | exact HB.out | apply below_alloc | apply pw_below_drewN | apply below_drew1) | exact HB.out)⟩⟩
                            · rw [if_neg c34] at H
                              exact absurd H (by simp)
                          · rw [if_neg c33] at H
                            exact absurd H (by simp)
                        case rest =>
                          clear HC32
                          try clear c1
                          try clear c2
                          try clear p2
                          try clear q2
                          try clear hx2
                          try clear c3
                          try clear p3
                          try clear q3
                          try clear hx3
                          try clear c4
                          try clear c4b0
                          try clear c4b1
                          try clear p4
                          try clear q4
                          try clear hx4
                          try clear p6
                          try clear c8
                          try clear c9
                          try clear c10
                          try clear c11
                          try clear c12
                          try clear c12b0
                          try clear c12b1
                          try clear c13
                          try clear c13b0
                          try clear c13b1
                          try clear c15
                          try clear c15b0
                          try clear c15b1
                          try clear c16
                          try clear c16b0
                          try clear c16b1
                          try clear c17
                          try clear c17b0
                          try clear c17b1
                          try clear c19
                          try clear c19b0
                          try clear c20
                          try clear c20b0
                          try clear p21
                          try clear q21
                          try clear hx21
                          try clear c22
                          try clear c23
                          try clear c23b0
                          try clear c24
                          try clear c24b0
                          try clear c25
                          try clear c25b0
                          try clear p26
                          try clear q26
                          try clear hx26
                          try clear c28
                          try clear c28b0
                          try clear p29
                          try clear q29
                          try clear hx29
                          try clear c30
                          try clear c30b0
                          try clear c31
                          try clear c31b0
                          try clear c33
                          try clear c33b0
                          try clear c34
                          try clear c34b0
                          try clear p35
                          try clear q35
                          try clear hx35
                          try clear c36
                          try clear c36b0
                          try clear c36b1
                          try clear c37
                          try clear c37b0
                          try clear c37b1
                          try clear p38
                          try clear q38
                          try clear hx38
                          try clear p39
                          try clear q39
                          try clear hx39
                          try clear p40
                          try clear q40
                          try clear hx40
                          try clear c41
                          try clear c41b0
                          try clear p42
                          try clear q42
                          try clear hx42
                          try clear p2
                          try clear p21
                          try clear p26
                          try clear p29
                          try clear p35
                          try clear p38
                          try clear p39
                          try clear p40
                          try clear p42
                          try clear p6
                          try clear q2
                          try clear q21
                          try clear q26
                          try clear q29
                          try clear q35
                          try clear q38
                          try clear q39
                          try clear q40
                          try clear q42
                          obtain ⟨kq, x97_31, rfl, HA, HJ31, HB⟩ := hcut
                          cases kq with
                          | zero => exact absurd HA.out (by simp [pagemenderlaw12_AsciiPlain.j3])
                          | succ kj31 =>
                            have H := HA.out
                            clear HA
                            simp only [pagemenderlaw12_AsciiPlain.j3] at H
                            by_cases c43 : x97_31 = true
                            · subst c43
                              have H1 : (some false) = some r := by rw [if_pos rfl] at H; exact H
                              clear H
                              have H := H1
                              clear H1
                              obtain rfl := Option.some.inj H
                              go_wp2
                              go_ret
                              exact ⟨by first | rfl | (simp [errW_none, errW_some] <;> rfl) | (simp [*, errW_none, errW_some] <;> rfl) | (rw [IntWalk.wrap64_in _ ⟨by omega, by omega⟩]), by repeat (first | (with_reducible first | exact HB.out | apply below_alloc | apply pw_below_drewN | apply below_drew1) | exact HB.out)⟩
                            · replace c43 := Bool.eq_false_iff.mpr c43
                              subst c43
                              have H1 : (if 0 ≤ x7_3 then (if x7_3 < (t109.size : Int) then (if (bt t109 x7_3) = 122 then (pagemenderlaw12_AsciiPlain.l1 kj31 a0 t109 (wrap64 (x6_3 + 5)) (wrap64 (x7_3 + 1))) else (pagemenderlaw12_AsciiPlain.l1 kj31 a0 t109 (wrap64 (x6_3 + 1)) (wrap64 (x7_3 + 1)))) else (none)) else (none)) = some r := by rw [if_neg (show ¬ (false = true) by decide)] at H; exact H
                              clear H
                              have H := H1
                              clear H1
                              by_cases c44 : 0 ≤ x7_3
                              · rw [if_pos c44] at H
                                have c44b0 : decide (0 ≤ x7_3) = true := decide_eq_true c44
                                clear c44
                                by_cases c45 : x7_3 < (t109.size : Int)
                                · rw [if_pos c45] at H
                                  have c45b0 : decide (x7_3 < (t109.size : Int)) = true := decide_eq_true c45
                                  clear c45
                                  by_cases c47 : (bt t109 x7_3) = 122
                                  · rw [if_pos c47] at H
                                    have c47b0 : ((bt t109 x7_3) == 122) = true := beq_iff_eq.mpr c47
                                    have c47b1 : ((bt t109 x7_3) != 122) = false := bne_eq_false_iff_eq.mpr c47
                                    clear c47
                                    have H' := Aside0.mk H
                                    clear H
                                    have p46 : 0 ≤ (x7_3 : Int) := of_decide_eq_true (by first | (with_reducible assumption) | assumption)
                                    have q46 : x7_3 < (t109.size : Int) := of_decide_eq_true (by first | (with_reducible assumption) | assumption)
                                    have hx46 := bt_at t109 x7_3
                                    replace p46 := eq_true p46
                                    replace q46 := eq_true q46
                                    go_wp2
                                    go_roundg kj31
                                    case measure => have := HJ7.out; have := HK2.out; have := HK3.out; have := HJ31.out; omega
                                    case rel => exact ⟨(wrap64 (x6_3 + 5)), (wrap64 (x7_3 + 1)), (by first | rfl | (simp; done) | (simp [*]; done)), (by first | rfl | (simp; done) | (simp [*]; done)), H', ⟨by have := HJ7.out; have := HK2.out; have := HK3.out; have := HJ31.out; omega⟩, ⟨by repeat (first | (with_reducible first | exact HB.out | apply below_alloc | apply pw_below_drewN | apply below_drew1) | exact HB.out)⟩⟩
                                  · rw [if_neg c47] at H
                                    have c47b0 : ((bt t109 x7_3) == 122) = false := beq_eq_false_iff_ne.mpr c47
                                    have c47b1 : ((bt t109 x7_3) != 122) = true := bne_iff_ne.mpr c47
                                    have H' := Aside0.mk H
                                    clear H
                                    have p46 : 0 ≤ (x7_3 : Int) := of_decide_eq_true (by first | (with_reducible assumption) | assumption)
                                    have q46 : x7_3 < (t109.size : Int) := of_decide_eq_true (by first | (with_reducible assumption) | assumption)
                                    have hx46 := bt_at t109 x7_3
                                    replace p46 := eq_true p46
                                    replace q46 := eq_true q46
                                    go_wp2
                                    go_roundg kj31
                                    case measure => have := HJ7.out; have := HK2.out; have := HK3.out; have := HJ31.out; omega
                                    case rel => exact ⟨(wrap64 (x6_3 + 1)), (wrap64 (x7_3 + 1)), (by first | rfl | (simp; done) | (simp [*]; done)), (by first | rfl | (simp; done) | (simp [*]; done)), H', ⟨by have := HJ7.out; have := HK2.out; have := HK3.out; have := HJ31.out; omega⟩, ⟨by repeat (first | (with_reducible first | exact HB.out | apply below_alloc | apply pw_below_drewN | apply below_drew1) | exact HB.out)⟩⟩
                                · rw [if_neg c45] at H
                                  exact absurd H (by simp)
                              · rw [if_neg c44] at H
                                exact absurd H (by simp)
                      · rw [if_neg c31] at H
                        have c31b0 : decide (x7_3 < (wrap64 ((t109.size : Int) - 2))) = false := decide_eq_false c31
                        clear c31
                        by_cases c48 : x6_3 = (wrap64 ((wrap64 ((a0.size : Int) / 4)) * 5))
                        · rw [if_pos c48] at H
                          have c48b0 : (x6_3 == (wrap64 ((wrap64 ((a0.size : Int) / 4)) * 5))) = true := beq_iff_eq.mpr c48
                          (try have c48b05_ : (x6_3 == ((wrap64 ((a0.size : Int) / 4)) * 5)) = true := by have h_ := c48b0; rw [IntWalk.wrap64_in ((wrap64 ((a0.size : Int) / 4)) * 5) ⟨by omega, by omega⟩] at h_; exact h_)
                          have c48b1 : (x6_3 != (wrap64 ((wrap64 ((a0.size : Int) / 4)) * 5))) = false := bne_eq_false_iff_eq.mpr c48
                          (try have c48b15_ : (x6_3 != ((wrap64 ((a0.size : Int) / 4)) * 5)) = false := by have h_ := c48b1; rw [IntWalk.wrap64_in ((wrap64 ((a0.size : Int) / 4)) * 5) ⟨by omega, by omega⟩] at h_; exact h_)
                          clear c48
                          by_cases c49 : ((a0.size : Int) % 4) = 0
                          · rw [if_pos c49] at H
                            have c49b0 : (((a0.size : Int) % 4) == 0) = true := beq_iff_eq.mpr c49
                            have c49b1 : (((a0.size : Int) % 4) != 0) = false := bne_eq_false_iff_eq.mpr c49
                            clear c49
                            obtain rfl := Option.some.inj H
                            go_wp2
                            go_ret
                            exact ⟨by first | rfl | (simp [errW_none, errW_some] <;> rfl) | (simp [*, errW_none, errW_some] <;> rfl) | (rw [IntWalk.wrap64_in _ ⟨by omega, by omega⟩]), by repeat (first | (with_reducible first | exact HB.out | apply below_alloc | apply pw_below_drewN | apply below_drew1) | exact HB.out)⟩
                          · rw [if_neg c49] at H
                            have c49b0 : (((a0.size : Int) % 4) == 0) = false := beq_eq_false_iff_ne.mpr c49
                            have c49b1 : (((a0.size : Int) % 4) != 0) = true := bne_iff_ne.mpr c49
                            by_cases c50 : x6_3 = (wrap64 ((wrap64 ((wrap64 ((wrap64 ((a0.size : Int) / 4)) * 5)) + ((a0.size : Int) % 4))) + 1))
                            · rw [if_pos c50] at H
                              have c50b0 : (x6_3 == (wrap64 ((wrap64 ((wrap64 ((wrap64 ((a0.size : Int) / 4)) * 5)) + ((a0.size : Int) % 4))) + 1))) = true := beq_iff_eq.mpr c50
                              (try have c50b05_ : (x6_3 == ((wrap64 ((wrap64 ((wrap64 ((a0.size : Int) / 4)) * 5)) + ((a0.size : Int) % 4))) + 1)) = true := by have h_ := c50b0; rw [IntWalk.wrap64_in ((wrap64 ((wrap64 ((wrap64 ((a0.size : Int) / 4)) * 5)) + ((a0.size : Int) % 4))) + 1) ⟨by omega, by omega⟩] at h_; exact h_)
                              have c50b1 : (x6_3 != (wrap64 ((wrap64 ((wrap64 ((wrap64 ((a0.size : Int) / 4)) * 5)) + ((a0.size : Int) % 4))) + 1))) = false := bne_eq_false_iff_eq.mpr c50
                              (try have c50b15_ : (x6_3 != ((wrap64 ((wrap64 ((wrap64 ((a0.size : Int) / 4)) * 5)) + ((a0.size : Int) % 4))) + 1)) = false := by have h_ := c50b1; rw [IntWalk.wrap64_in ((wrap64 ((wrap64 ((wrap64 ((a0.size : Int) / 4)) * 5)) + ((a0.size : Int) % 4))) + 1) ⟨by omega, by omega⟩] at h_; exact h_)
                              clear c50
                              obtain rfl := Option.some.inj H
                              go_wp2
                              go_ret
                              exact ⟨by first | rfl | (simp [errW_none, errW_some] <;> rfl) | (simp [*, errW_none, errW_some] <;> rfl) | (rw [IntWalk.wrap64_in _ ⟨by omega, by omega⟩]), by repeat (first | (with_reducible first | exact HB.out | apply below_alloc | apply pw_below_drewN | apply below_drew1) | exact HB.out)⟩
                            · rw [if_neg c50] at H
                              have c50b0 : (x6_3 == (wrap64 ((wrap64 ((wrap64 ((wrap64 ((a0.size : Int) / 4)) * 5)) + ((a0.size : Int) % 4))) + 1))) = false := beq_eq_false_iff_ne.mpr c50
                              (try have c50b05_ : (x6_3 == ((wrap64 ((wrap64 ((wrap64 ((a0.size : Int) / 4)) * 5)) + ((a0.size : Int) % 4))) + 1)) = false := by have h_ := c50b0; rw [IntWalk.wrap64_in ((wrap64 ((wrap64 ((wrap64 ((a0.size : Int) / 4)) * 5)) + ((a0.size : Int) % 4))) + 1) ⟨by omega, by omega⟩] at h_; exact h_)
                              have c50b1 : (x6_3 != (wrap64 ((wrap64 ((wrap64 ((wrap64 ((a0.size : Int) / 4)) * 5)) + ((a0.size : Int) % 4))) + 1))) = true := bne_iff_ne.mpr c50
                              (try have c50b15_ : (x6_3 != ((wrap64 ((wrap64 ((wrap64 ((a0.size : Int) / 4)) * 5)) + ((a0.size : Int) % 4))) + 1)) = true := by have h_ := c50b1; rw [IntWalk.wrap64_in ((wrap64 ((wrap64 ((wrap64 ((a0.size : Int) / 4)) * 5)) + ((a0.size : Int) % 4))) + 1) ⟨by omega, by omega⟩] at h_; exact h_)
                              obtain rfl := Option.some.inj H
                              go_wp2
                              go_ret
                              exact ⟨by first | rfl | (simp [errW_none, errW_some] <;> rfl) | (simp [*, errW_none, errW_some] <;> rfl) | (rw [IntWalk.wrap64_in _ ⟨by omega, by omega⟩]), by repeat (first | (with_reducible first | exact HB.out | apply below_alloc | apply pw_below_drewN | apply below_drew1) | exact HB.out)⟩
                        · rw [if_neg c48] at H
                          have c48b0 : (x6_3 == (wrap64 ((wrap64 ((a0.size : Int) / 4)) * 5))) = false := beq_eq_false_iff_ne.mpr c48
                          (try have c48b05_ : (x6_3 == ((wrap64 ((a0.size : Int) / 4)) * 5)) = false := by have h_ := c48b0; rw [IntWalk.wrap64_in ((wrap64 ((a0.size : Int) / 4)) * 5) ⟨by omega, by omega⟩] at h_; exact h_)
                          have c48b1 : (x6_3 != (wrap64 ((wrap64 ((a0.size : Int) / 4)) * 5))) = true := bne_iff_ne.mpr c48
                          (try have c48b15_ : (x6_3 != ((wrap64 ((a0.size : Int) / 4)) * 5)) = true := by have h_ := c48b1; rw [IntWalk.wrap64_in ((wrap64 ((a0.size : Int) / 4)) * 5) ⟨by omega, by omega⟩] at h_; exact h_)
                          by_cases c51 : x6_3 = (wrap64 ((wrap64 ((wrap64 ((wrap64 ((a0.size : Int) / 4)) * 5)) + ((a0.size : Int) % 4))) + 1))
                          · rw [if_pos c51] at H
                            have c51b0 : (x6_3 == (wrap64 ((wrap64 ((wrap64 ((wrap64 ((a0.size : Int) / 4)) * 5)) + ((a0.size : Int) % 4))) + 1))) = true := beq_iff_eq.mpr c51
                            (try have c51b05_ : (x6_3 == ((wrap64 ((wrap64 ((wrap64 ((a0.size : Int) / 4)) * 5)) + ((a0.size : Int) % 4))) + 1)) = true := by have h_ := c51b0; rw [IntWalk.wrap64_in ((wrap64 ((wrap64 ((wrap64 ((a0.size : Int) / 4)) * 5)) + ((a0.size : Int) % 4))) + 1) ⟨by omega, by omega⟩] at h_; exact h_)
                            have c51b1 : (x6_3 != (wrap64 ((wrap64 ((wrap64 ((wrap64 ((a0.size : Int) / 4)) * 5)) + ((a0.size : Int) % 4))) + 1))) = false := bne_eq_false_iff_eq.mpr c51
                            (try have c51b15_ : (x6_3 != ((wrap64 ((wrap64 ((wrap64 ((a0.size : Int) / 4)) * 5)) + ((a0.size : Int) % 4))) + 1)) = false := by have h_ := c51b1; rw [IntWalk.wrap64_in ((wrap64 ((wrap64 ((wrap64 ((a0.size : Int) / 4)) * 5)) + ((a0.size : Int) % 4))) + 1) ⟨by omega, by omega⟩] at h_; exact h_)
                            clear c51
                            obtain rfl := Option.some.inj H
                            go_wp2
                            go_ret
                            exact ⟨by first | rfl | (simp [errW_none, errW_some] <;> rfl) | (simp [*, errW_none, errW_some] <;> rfl) | (rw [IntWalk.wrap64_in _ ⟨by omega, by omega⟩]), by repeat (first | (with_reducible first | exact HB.out | apply below_alloc | apply pw_below_drewN | apply below_drew1) | exact HB.out)⟩
                          · rw [if_neg c51] at H
                            have c51b0 : (x6_3 == (wrap64 ((wrap64 ((wrap64 ((wrap64 ((a0.size : Int) / 4)) * 5)) + ((a0.size : Int) % 4))) + 1))) = false := beq_eq_false_iff_ne.mpr c51
                            (try have c51b05_ : (x6_3 == ((wrap64 ((wrap64 ((wrap64 ((a0.size : Int) / 4)) * 5)) + ((a0.size : Int) % 4))) + 1)) = false := by have h_ := c51b0; rw [IntWalk.wrap64_in ((wrap64 ((wrap64 ((wrap64 ((a0.size : Int) / 4)) * 5)) + ((a0.size : Int) % 4))) + 1) ⟨by omega, by omega⟩] at h_; exact h_)
                            have c51b1 : (x6_3 != (wrap64 ((wrap64 ((wrap64 ((wrap64 ((a0.size : Int) / 4)) * 5)) + ((a0.size : Int) % 4))) + 1))) = true := bne_iff_ne.mpr c51
                            (try have c51b15_ : (x6_3 != ((wrap64 ((wrap64 ((wrap64 ((a0.size : Int) / 4)) * 5)) + ((a0.size : Int) % 4))) + 1)) = true := by have h_ := c51b1; rw [IntWalk.wrap64_in ((wrap64 ((wrap64 ((wrap64 ((a0.size : Int) / 4)) * 5)) + ((a0.size : Int) % 4))) + 1) ⟨by omega, by omega⟩] at h_; exact h_)
                            obtain rfl := Option.some.inj H
                            go_wp2
                            go_ret
                            exact ⟨by first | rfl | (simp [errW_none, errW_some] <;> rfl) | (simp [*, errW_none, errW_some] <;> rfl) | (rw [IntWalk.wrap64_in _ ⟨by omega, by omega⟩]), by repeat (first | (with_reducible first | exact HB.out | apply below_alloc | apply pw_below_drewN | apply below_drew1) | exact HB.out)⟩
  · replace c3 := Bool.eq_false_iff.mpr c3
    subst c3
    have H1 : (some false) = some r := by rw [if_neg (show ¬ (false = true) by decide)] at H; exact H
    clear H
    have H := H1
    clear H1
    obtain rfl := Option.some.inj H
    go_enter Try.func3, Try.ntmps3
    go_wp2_with (first | ((with_reducible refine gate_callee (f := 8) rfl ?_); refine goesL_ (some 9) rfl rfl Try.func8 (by kernel_rfl) rfl #[] rfl (by (try simp only [List.map_toArray, List.map_cons, List.map_nil]); first | done | rfl | (simp only [List.length_drop, List.length_take]; rfl)) ?_; (with_reducible refine (pagemenderlaw12_lives.calls  false _ A2.out).mono ?_); rintro e w52 ⟨rfl, hb⟩; refine ⟨_, rfl, ?_⟩; have n0_ := Aside0.mk (below_step (by repeat (first | (with_reducible first | exact HB.out | apply below_alloc | apply pw_below_drewN | apply below_drew1) | exact HB.out)) hb); clear HB; have HB := n0_; clear n0_; (try clear hb); (try clear hb2); (try clear hk); (try clear hi)))
    go_ret
    exact ⟨by first | rfl | (simp [errW_none, errW_some] <;> rfl) | (simp [*, errW_none, errW_some] <;> rfl) | (rw [IntWalk.wrap64_in _ ⟨by omega, by omega⟩]), by repeat (first | (with_reducible first | exact HB.out | apply below_alloc | apply pw_below_drewN | apply below_drew1) | exact HB.out)⟩

/-- THE ONE PURE STATEMENT of pagemenderlaw12_AsciiPlain: yours. -/
def pagemenderlaw12_AsciiPlain.Pure : Prop := ∀ (a0 : ByteArray), a0.size ≤ 140737488351232 → ∃ k, pagemenderlaw12_AsciiPlain.f k a0 = some true
theorem pagemenderlaw12_AsciiPlain.walk (P : pagemenderlaw12_AsciiPlain.Pure) (a0 : ByteArray) (w : World) (w0 : a0.size ≤ 140737488351232) :
    Calls Try.prog 3 #[.string a0] w fun e w' => e = .returned (.bool true) ∧ Below w.heap.size w w' := by
  obtain ⟨k, h⟩ := P a0 w0
  refine (pagemenderlaw12_AsciiPlain.calls k a0 true w h).mono ?_
  rintro e w' ⟨rfl, hd⟩
  exact ⟨rfl, hd⟩

end Go.Proofs.Ytjgbnaejeeinbaa.AP
