/- Printed for this seat by a program of the prover's own (over the kit's print): each function of the translation as a plain Lean function, and the proof that the code comes to its answers. -/
import Derived.Test.YtioildfnbcdekaaGx0
import Derived.Test.YtioildfnbcdekaaGx1
namespace Go.Proofs.Ytioildfnbcdekaa.G
open Go.RowKit Go.Proofs.YtioildfnbcdekaaW.PrintWords Go.Proofs.YtioildfnbcdekaaW.PrintLast Go.Proofs.YtioildfnbcdekaaW.PrintMore
attribute [local go_sem] max2_int min2_int max_two min_two max_three min_three max_four min_four   -- for this text's walks alone
set_option linter.unusedVariables false
set_option linter.unusedSimpArgs false

/-! ### pagemenderlaw04_TextNumbers: function 3 -/
def pagemenderlaw04_TextNumbers.l0 : Nat → ByteArray → ByteArray → ByteArray → ByteArray → ByteArray → Int → Option (Bool)
  | 0, _, _, _, _, _, _ => none
  | k + 1, x0, x3, x4, x5, x6, x7 => if x7 < (x0.size : Int) then (if 0 ≤ x7 then (if x4.size + 1 ≤ 9223372036854775807 then (if 0 ≤ ((Int.tdiv (bt x0 x7) 64) % 256) then (if ((Int.tdiv (bt x0 x7) 64) % 256) ≤ ((((Int.tdiv (bt x0 x7) 64) % 256) + 1) % 256) then (if ((((Int.tdiv (bt x0 x7) 64) % 256) + 1) % 256) ≤ (x3.size : Int) then (if (x4 ++ (⟨#[92]⟩ : ByteArray)).size + (x3.extract (((Int.tdiv (bt x0 x7) 64) % 256) : Int).toNat (((((Int.tdiv (bt x0 x7) 64) % 256) + 1) % 256) : Int).toNat).size ≤ 9223372036854775807 then (if 0 ≤ (((Int.tdiv (bt x0 x7) 8) % 256) % 8) then (if (((Int.tdiv (bt x0 x7) 8) % 256) % 8) ≤ ((((Int.tdiv (bt x0 x7) 8) % 256) % 8) + 1) then (if ((((Int.tdiv (bt x0 x7) 8) % 256) % 8) + 1) ≤ (x3.size : Int) then (if ((x4 ++ (⟨#[92]⟩ : ByteArray)) ++ (x3.extract (((Int.tdiv (bt x0 x7) 64) % 256) : Int).toNat (((((Int.tdiv (bt x0 x7) 64) % 256) + 1) % 256) : Int).toNat)).size + (x3.extract ((((Int.tdiv (bt x0 x7) 8) % 256) % 8) : Int).toNat (((((Int.tdiv (bt x0 x7) 8) % 256) % 8) + 1) : Int).toNat).size ≤ 9223372036854775807 then (if 0 ≤ (Int.tmod (bt x0 x7) 8) then (if (Int.tmod (bt x0 x7) 8) ≤ (((Int.tmod (bt x0 x7) 8) + 1) % 256) then (if (((Int.tmod (bt x0 x7) 8) + 1) % 256) ≤ (x3.size : Int) then (if (((x4 ++ (⟨#[92]⟩ : ByteArray)) ++ (x3.extract (((Int.tdiv (bt x0 x7) 64) % 256) : Int).toNat (((((Int.tdiv (bt x0 x7) 64) % 256) + 1) % 256) : Int).toNat)) ++ (x3.extract ((((Int.tdiv (bt x0 x7) 8) % 256) % 8) : Int).toNat (((((Int.tdiv (bt x0 x7) 8) % 256) % 8) + 1) : Int).toNat)).size + (x3.extract ((Int.tmod (bt x0 x7) 8) : Int).toNat ((((Int.tmod (bt x0 x7) 8) + 1) % 256) : Int).toNat).size ≤ 9223372036854775807 then (if (bt x0 x7) ≥ 117 then (if (bt x0 x7) ≤ 122 then (if x5.size + 1 ≤ 9223372036854775807 then (if x7 ≤ (wrap64 (x7 + 1)) then (if (wrap64 (x7 + 1)) ≤ (x0.size : Int) then (if (x5 ++ (⟨#[92]⟩ : ByteArray)).size + (x0.extract (x7 : Int).toNat ((wrap64 (x7 + 1)) : Int).toNat).size ≤ 9223372036854775807 then (if x6.size + (x0.extract (x7 : Int).toNat ((wrap64 (x7 + 1)) : Int).toNat).size ≤ 9223372036854775807 then (pagemenderlaw04_TextNumbers.l0 k x0 x3 ((((x4 ++ (⟨#[92]⟩ : ByteArray)) ++ (x3.extract (((Int.tdiv (bt x0 x7) 64) % 256) : Int).toNat (((((Int.tdiv (bt x0 x7) 64) % 256) + 1) % 256) : Int).toNat)) ++ (x3.extract ((((Int.tdiv (bt x0 x7) 8) % 256) % 8) : Int).toNat (((((Int.tdiv (bt x0 x7) 8) % 256) % 8) + 1) : Int).toNat)) ++ (x3.extract ((Int.tmod (bt x0 x7) 8) : Int).toNat ((((Int.tmod (bt x0 x7) 8) + 1) % 256) : Int).toNat)) ((x5 ++ (⟨#[92]⟩ : ByteArray)) ++ (x0.extract (x7 : Int).toNat ((wrap64 (x7 + 1)) : Int).toNat)) (x6 ++ (x0.extract (x7 : Int).toNat ((wrap64 (x7 + 1)) : Int).toNat)) (wrap64 (x7 + 1))) else (none)) else (none)) else (none)) else (none)) else (none)) else (if (bt x0 x7) ≥ 65 then (if (bt x0 x7) ≤ 90 then (if x5.size + 1 ≤ 9223372036854775807 then (if x7 ≤ (wrap64 (x7 + 1)) then (if (wrap64 (x7 + 1)) ≤ (x0.size : Int) then (if (x5 ++ (⟨#[92]⟩ : ByteArray)).size + (x0.extract (x7 : Int).toNat ((wrap64 (x7 + 1)) : Int).toNat).size ≤ 9223372036854775807 then (if x6.size + (x0.extract (x7 : Int).toNat ((wrap64 (x7 + 1)) : Int).toNat).size ≤ 9223372036854775807 then (pagemenderlaw04_TextNumbers.l0 k x0 x3 ((((x4 ++ (⟨#[92]⟩ : ByteArray)) ++ (x3.extract (((Int.tdiv (bt x0 x7) 64) % 256) : Int).toNat (((((Int.tdiv (bt x0 x7) 64) % 256) + 1) % 256) : Int).toNat)) ++ (x3.extract ((((Int.tdiv (bt x0 x7) 8) % 256) % 8) : Int).toNat (((((Int.tdiv (bt x0 x7) 8) % 256) % 8) + 1) : Int).toNat)) ++ (x3.extract ((Int.tmod (bt x0 x7) 8) : Int).toNat ((((Int.tmod (bt x0 x7) 8) + 1) % 256) : Int).toNat)) ((x5 ++ (⟨#[92]⟩ : ByteArray)) ++ (x0.extract (x7 : Int).toNat ((wrap64 (x7 + 1)) : Int).toNat)) (x6 ++ (x0.extract (x7 : Int).toNat ((wrap64 (x7 + 1)) : Int).toNat)) (wrap64 (x7 + 1))) else (none)) else (none)) else (none)) else (none)) else (none)) else (pagemenderlaw04_TextNumbers.l0 k x0 x3 ((((x4 ++ (⟨#[92]⟩ : ByteArray)) ++ (x3.extract (((Int.tdiv (bt x0 x7) 64) % 256) : Int).toNat (((((Int.tdiv (bt x0 x7) 64) % 256) + 1) % 256) : Int).toNat)) ++ (x3.extract ((((Int.tdiv (bt x0 x7) 8) % 256) % 8) : Int).toNat (((((Int.tdiv (bt x0 x7) 8) % 256) % 8) + 1) : Int).toNat)) ++ (x3.extract ((Int.tmod (bt x0 x7) 8) : Int).toNat ((((Int.tmod (bt x0 x7) 8) + 1) % 256) : Int).toNat)) x5 x6 (wrap64 (x7 + 1)))) else (pagemenderlaw04_TextNumbers.l0 k x0 x3 ((((x4 ++ (⟨#[92]⟩ : ByteArray)) ++ (x3.extract (((Int.tdiv (bt x0 x7) 64) % 256) : Int).toNat (((((Int.tdiv (bt x0 x7) 64) % 256) + 1) % 256) : Int).toNat)) ++ (x3.extract ((((Int.tdiv (bt x0 x7) 8) % 256) % 8) : Int).toNat (((((Int.tdiv (bt x0 x7) 8) % 256) % 8) + 1) : Int).toNat)) ++ (x3.extract ((Int.tmod (bt x0 x7) 8) : Int).toNat ((((Int.tmod (bt x0 x7) 8) + 1) % 256) : Int).toNat)) x5 x6 (wrap64 (x7 + 1))))) else (if (bt x0 x7) ≥ 65 then (if (bt x0 x7) ≤ 90 then (if x5.size + 1 ≤ 9223372036854775807 then (if x7 ≤ (wrap64 (x7 + 1)) then (if (wrap64 (x7 + 1)) ≤ (x0.size : Int) then (if (x5 ++ (⟨#[92]⟩ : ByteArray)).size + (x0.extract (x7 : Int).toNat ((wrap64 (x7 + 1)) : Int).toNat).size ≤ 9223372036854775807 then (if x6.size + (x0.extract (x7 : Int).toNat ((wrap64 (x7 + 1)) : Int).toNat).size ≤ 9223372036854775807 then (pagemenderlaw04_TextNumbers.l0 k x0 x3 ((((x4 ++ (⟨#[92]⟩ : ByteArray)) ++ (x3.extract (((Int.tdiv (bt x0 x7) 64) % 256) : Int).toNat (((((Int.tdiv (bt x0 x7) 64) % 256) + 1) % 256) : Int).toNat)) ++ (x3.extract ((((Int.tdiv (bt x0 x7) 8) % 256) % 8) : Int).toNat (((((Int.tdiv (bt x0 x7) 8) % 256) % 8) + 1) : Int).toNat)) ++ (x3.extract ((Int.tmod (bt x0 x7) 8) : Int).toNat ((((Int.tmod (bt x0 x7) 8) + 1) % 256) : Int).toNat)) ((x5 ++ (⟨#[92]⟩ : ByteArray)) ++ (x0.extract (x7 : Int).toNat ((wrap64 (x7 + 1)) : Int).toNat)) (x6 ++ (x0.extract (x7 : Int).toNat ((wrap64 (x7 + 1)) : Int).toNat)) (wrap64 (x7 + 1))) else (none)) else (none)) else (none)) else (none)) else (none)) else (pagemenderlaw04_TextNumbers.l0 k x0 x3 ((((x4 ++ (⟨#[92]⟩ : ByteArray)) ++ (x3.extract (((Int.tdiv (bt x0 x7) 64) % 256) : Int).toNat (((((Int.tdiv (bt x0 x7) 64) % 256) + 1) % 256) : Int).toNat)) ++ (x3.extract ((((Int.tdiv (bt x0 x7) 8) % 256) % 8) : Int).toNat (((((Int.tdiv (bt x0 x7) 8) % 256) % 8) + 1) : Int).toNat)) ++ (x3.extract ((Int.tmod (bt x0 x7) 8) : Int).toNat ((((Int.tmod (bt x0 x7) 8) + 1) % 256) : Int).toNat)) x5 x6 (wrap64 (x7 + 1)))) else (pagemenderlaw04_TextNumbers.l0 k x0 x3 ((((x4 ++ (⟨#[92]⟩ : ByteArray)) ++ (x3.extract (((Int.tdiv (bt x0 x7) 64) % 256) : Int).toNat (((((Int.tdiv (bt x0 x7) 64) % 256) + 1) % 256) : Int).toNat)) ++ (x3.extract ((((Int.tdiv (bt x0 x7) 8) % 256) % 8) : Int).toNat (((((Int.tdiv (bt x0 x7) 8) % 256) % 8) + 1) : Int).toNat)) ++ (x3.extract ((Int.tmod (bt x0 x7) 8) : Int).toNat ((((Int.tmod (bt x0 x7) 8) + 1) % 256) : Int).toNat)) x5 x6 (wrap64 (x7 + 1))))) else (none)) else (none)) else (none)) else (none)) else (none)) else (none)) else (none)) else (none)) else (none)) else (none)) else (none)) else (none)) else (none)) else (none)) else (if 1 + x4.size ≤ 9223372036854775807 then (if ((⟨#[40]⟩ : ByteArray) ++ x4).size + 1 ≤ 9223372036854775807 then ((text_Literal.f (((⟨#[40]⟩ : ByteArray) ++ x4) ++ (⟨#[41]⟩ : ByteArray)) 0).bind fun bt108 => (if 1 + x5.size ≤ 9223372036854775807 then (if ((⟨#[40]⟩ : ByteArray) ++ x5).size + 1 ≤ 9223372036854775807 then ((text_Literal.f (((⟨#[40]⟩ : ByteArray) ++ x5) ++ (⟨#[41]⟩ : ByteArray)) 0).bind fun bt111 => (if bt108.2.2 = 0 then (if bt108.1.toList = x0.toList then (if bt108.2.1 = (wrap64 ((x4.size : Int) + 2)) then (if bt111.2.2 = 0 then (if bt111.1.toList = x6.toList then (some (bt111.2.1 == (wrap64 ((x5.size : Int) + 2)))) else (some false)) else (some false)) else (some false)) else (some false)) else (some false))) else (none)) else (none))) else (none)) else (none))
def pagemenderlaw04_TextNumbers.f (k : Nat) (a0 : ByteArray) : Option (Bool) := (pagemenderlaw04_lives.f).bind fun t107 => (if t107 = true then (if (a0.size : Int) > 600 then (some true) else (pagemenderlaw04_TextNumbers.l0 k a0 (⟨#[48, 49, 50, 51, 52, 53, 54, 55]⟩ : ByteArray) (⟨#[]⟩ : ByteArray) (⟨#[]⟩ : ByteArray) (⟨#[]⟩ : ByteArray) 0)) else (some false))
theorem pagemenderlaw04_TextNumbers.mono_l : ∀ k, (∀ y0 y1 y2 y3 y4 y5, LeO (pagemenderlaw04_TextNumbers.l0 k y0 y1 y2 y3 y4 y5) (pagemenderlaw04_TextNumbers.l0 (k + 1) y0 y1 y2 y3 y4 y5))
  | 0 => fun _ _ _ _ _ _ r h => by simp [pagemenderlaw04_TextNumbers.l0] at h
  | k + 1 => by
    have ih0 := pagemenderlaw04_TextNumbers.mono_l k
    · intro y0 y1 y2 y3 y4 y5
      unfold pagemenderlaw04_TextNumbers.l0
      repeat' first
      | (with_reducible exact ih0 _ _ _ _ _ _)
      | (with_reducible exact LeO.refl _)
      | (with_reducible exact LeO.none _)
      | (with_reducible refine LeO.ite ?_ ?_)
      | (with_reducible refine LeO.bind ?_ (fun _ => ?_))
      | exact ih0 _ _ _ _ _ _
      | exact LeO.none _
      | refine LeO.ite ?_ ?_
      | refine LeO.bind ?_ (fun _ => ?_)
theorem pagemenderlaw04_TextNumbers.mono : ∀ a0 k, LeO (pagemenderlaw04_TextNumbers.f k a0) (pagemenderlaw04_TextNumbers.f (k + 1) a0) := by
  intro a0 k
  have ih0 := pagemenderlaw04_TextNumbers.mono_l k
  unfold pagemenderlaw04_TextNumbers.f
  repeat' first
      | (with_reducible exact ih0 _ _ _ _ _ _)
      | (with_reducible exact LeO.refl _)
      | (with_reducible exact LeO.none _)
      | (with_reducible refine LeO.ite ?_ ?_)
      | (with_reducible refine LeO.bind ?_ (fun _ => ?_))
      | exact ih0 _ _ _ _ _ _
      | exact LeO.none _
      | refine LeO.ite ?_ ?_
      | refine LeO.bind ?_ (fun _ => ?_)
set_option maxHeartbeats 8000000 in
set_option maxRecDepth 100000 in
theorem pagemenderlaw04_TextNumbers.calls (k : Nat) (a0 : ByteArray) (r : Bool) (w : World) (h : pagemenderlaw04_TextNumbers.f k a0 = some r) :
    Calls Try.prog 3 #[.string a0] w fun e w' => e = .returned (.bool r) ∧ Below w.heap.size w w' := by
  have HB := Aside0.mk (Below.refl w.heap.size w)
  have H : ((pagemenderlaw04_lives.f).bind fun t107 => (if t107 = true then (if (a0.size : Int) > 600 then (some true) else (pagemenderlaw04_TextNumbers.l0 k a0 (⟨#[48, 49, 50, 51, 52, 53, 54, 55]⟩ : ByteArray) (⟨#[]⟩ : ByteArray) (⟨#[]⟩ : ByteArray) (⟨#[]⟩ : ByteArray) 0)) else (some false))) = some r := h
  clear h
  replace H := Option.bind_eq_some_iff.mp H
  obtain ⟨t107, A20, H⟩ := H
  replace H : (if t107 = true then (if (a0.size : Int) > 600 then (some true) else (pagemenderlaw04_TextNumbers.l0 k a0 (⟨#[48, 49, 50, 51, 52, 53, 54, 55]⟩ : ByteArray) (⟨#[]⟩ : ByteArray) (⟨#[]⟩ : ByteArray) (⟨#[]⟩ : ByteArray) 0)) else (some false)) = some r := H
  have A2 := Aside0.mk A20
  clear A20
  by_cases c3 : t107 = true
  · subst c3
    have H1 : (if (a0.size : Int) > 600 then (some true) else (pagemenderlaw04_TextNumbers.l0 k a0 (⟨#[48, 49, 50, 51, 52, 53, 54, 55]⟩ : ByteArray) (⟨#[]⟩ : ByteArray) (⟨#[]⟩ : ByteArray) (⟨#[]⟩ : ByteArray) 0)) = some r := by rw [if_pos rfl] at H; exact H
    clear H
    have H := H1
    clear H1
    by_cases c4 : (a0.size : Int) > 600
    · rw [if_pos c4] at H
      have c4b0 : decide (600 < (a0.size : Int)) = true := decide_eq_true c4
      have c4b1 : decide (600 < a0.size) = true := decide_eq_true (by omega)
      clear c4
      obtain rfl := Option.some.inj H
      have hw8_ : ∀ n_ : Int, IntKind.u8.wrap n_ = n_ % 256 := IntKind.wrap_u8
      go_enter Try.func3, Try.ntmps3
      go_wp2_with (first | (go_at_call 8; (with_reducible refine (pagemenderlaw04_lives.calls  true _ A2.out).mono ?_); rintro e w5 ⟨rfl, hb⟩; have n0_ := Aside0.mk (below_step (by repeat (first | (with_reducible first | exact HB.out | apply below_alloc | apply pw_below_drewN | apply below_drew1) | exact HB.out)) hb); clear HB; have HB := n0_; clear n0_; (try clear hb); (try clear hb2); (try clear hk); (try clear hi)))
      repeat (go_quiet (first | (go_at_call 8; (with_reducible refine (pagemenderlaw04_lives.calls  true _ A2.out).mono ?_); rintro e w5 ⟨rfl, hb⟩; have n0_ := Aside0.mk (below_step (by repeat (first | (with_reducible first | exact HB.out | apply below_alloc | apply pw_below_drewN | apply below_drew1) | exact HB.out)) hb); clear HB; have HB := n0_; clear n0_; (try clear hb); (try clear hb2); (try clear hk); (try clear hi))); try go_wp2_with (first | (go_at_call 8; (with_reducible refine (pagemenderlaw04_lives.calls  true _ A2.out).mono ?_); rintro e w5 ⟨rfl, hb⟩; have n0_ := Aside0.mk (below_step (by repeat (first | (with_reducible first | exact HB.out | apply below_alloc | apply pw_below_drewN | apply below_drew1) | exact HB.out)) hb); clear HB; have HB := n0_; clear n0_; (try clear hb); (try clear hb2); (try clear hk); (try clear hi))))
      go_ret
      exact ⟨by first | rfl | (simp [errW_none, errW_some] <;> rfl) | (simp [*, errW_none, errW_some] <;> rfl) | (rw [IntWalk.wrap64_in _ ⟨by omega, by omega⟩]), by repeat (first | (with_reducible first | exact HB.out | apply below_alloc | apply pw_below_drewN | apply below_drew1) | exact HB.out)⟩
    · rw [if_neg c4] at H
      have c4b0 : decide (600 < (a0.size : Int)) = false := decide_eq_false c4
      have c4b1 : decide (600 < a0.size) = false := decide_eq_false (by omega)
      clear c4
      have H' := Aside0.mk H
      clear H
      have hw8_ : ∀ n_ : Int, IntKind.u8.wrap n_ = n_ % 256 := IntKind.wrap_u8
      go_enter Try.func3, Try.ntmps3
      go_wp2_with (first | (go_at_call 8; (with_reducible refine (pagemenderlaw04_lives.calls  true _ A2.out).mono ?_); rintro e w6 ⟨rfl, hb⟩; have n0_ := Aside0.mk (below_step (by repeat (first | (with_reducible first | exact HB.out | apply below_alloc | apply pw_below_drewN | apply below_drew1) | exact HB.out)) hb); clear HB; have HB := n0_; clear n0_; (try clear hb); (try clear hb2); (try clear hk); (try clear hi)))
      repeat (go_quiet (first | (go_at_call 8; (with_reducible refine (pagemenderlaw04_lives.calls  true _ A2.out).mono ?_); rintro e w6 ⟨rfl, hb⟩; have n0_ := Aside0.mk (below_step (by repeat (first | (with_reducible first | exact HB.out | apply below_alloc | apply pw_below_drewN | apply below_drew1) | exact HB.out)) hb); clear HB; have HB := n0_; clear n0_; (try clear hb); (try clear hb2); (try clear hk); (try clear hi))); try go_wp2_with (first | (go_at_call 8; (with_reducible refine (pagemenderlaw04_lives.calls  true _ A2.out).mono ?_); rintro e w6 ⟨rfl, hb⟩; have n0_ := Aside0.mk (below_step (by repeat (first | (with_reducible first | exact HB.out | apply below_alloc | apply pw_below_drewN | apply below_drew1) | exact HB.out)) hb); clear HB; have HB := n0_; clear n0_; (try clear hb); (try clear hb2); (try clear hk); (try clear hi))))
      go_loopg [4, 5, 6, 7] k (fun kq v4 v5 v6 v7 w' => ∃ (x4_1 : ByteArray) (x5_1 : ByteArray) (x6_1 : ByteArray) (x7_1 : Int), v4 = .string x4_1 ∧ v5 = .string x5_1 ∧ v6 = .string x6_1 ∧ v7 = .int .i64 x7_1 ∧ Aside0 (pagemenderlaw04_TextNumbers.l0 kq a0 (⟨#[48, 49, 50, 51, 52, 53, 54, 55]⟩ : ByteArray) x4_1 x5_1 x6_1 x7_1 = some r) ∧ Aside0 (kq ≤ k) ∧ Aside0 (Below w.heap.size w w'))
      case atStart => exact ⟨((⟨#[]⟩ : ByteArray)), ((⟨#[]⟩ : ByteArray)), ((⟨#[]⟩ : ByteArray)), (0), (by first | rfl | (simp; done) | (simp [*]; done)), (by first | rfl | (simp; done) | (simp [*]; done)), (by first | rfl | (simp; done) | (simp [*]; done)), (by first | rfl | (simp; done) | (simp [*]; done)), H', ⟨Nat.le_refl _⟩, ⟨by repeat (first | (with_reducible first | exact HB.out | apply below_alloc | apply pw_below_drewN | apply below_drew1) | exact HB.out)⟩⟩
      case round =>
        clear H'
        try clear p2
        try clear c3
        try clear c4
        try clear c4b0
        try clear c4b1
        obtain ⟨x4_1, x5_1, x6_1, x7_1, rfl, rfl, rfl, rfl, HA, HK1, HB⟩ := hrel
        cases gk with
        | zero => exact absurd HA.out (by simp [pagemenderlaw04_TextNumbers.l0])
        | succ k1 =>
          have H := HA.out
          clear HA
          simp only [pagemenderlaw04_TextNumbers.l0] at H
          by_cases c7 : x7_1 < (a0.size : Int)
          · rw [if_pos c7] at H
            have c7b0 : decide (x7_1 < (a0.size : Int)) = true := decide_eq_true c7
            clear c7
            by_cases c8 : 0 ≤ x7_1
            · rw [if_pos c8] at H
              have c8b0 : decide (0 ≤ x7_1) = true := decide_eq_true c8
              clear c8
              by_cases c10 : x4_1.size + 1 ≤ 9223372036854775807
              · rw [if_pos c10] at H
                have c10b0 := eq_true c10
                have c10b1 : decide (x4_1.size + 1 ≤ 9223372036854775807) = true := decide_eq_true c10
                try have c10b2 : (9223372036854775807 < x4_1.size + 1) = False := eq_false (Nat.not_lt.2 c10)
                obtain ⟨ji11, hji11⟩ : ∃ j_ : Int, ((Int.tdiv (bt a0 x7_1) 64) % 256) = j_ := ⟨_, rfl⟩
                replace H : (if 0 ≤ (ji11) then (if (ji11) ≤ (((ji11) + 1) % 256) then (if (((ji11) + 1) % 256) ≤ ((⟨#[48, 49, 50, 51, 52, 53, 54, 55]⟩ : ByteArray).size : Int) then (if (x4_1 ++ (⟨#[92]⟩ : ByteArray)).size + ((⟨#[48, 49, 50, 51, 52, 53, 54, 55]⟩ : ByteArray).extract ((ji11) : Int).toNat ((((ji11) + 1) % 256) : Int).toNat).size ≤ 9223372036854775807 then (if 0 ≤ (((Int.tdiv (bt a0 x7_1) 8) % 256) % 8) then (if (((Int.tdiv (bt a0 x7_1) 8) % 256) % 8) ≤ ((((Int.tdiv (bt a0 x7_1) 8) % 256) % 8) + 1) then (if ((((Int.tdiv (bt a0 x7_1) 8) % 256) % 8) + 1) ≤ ((⟨#[48, 49, 50, 51, 52, 53, 54, 55]⟩ : ByteArray).size : Int) then (if ((x4_1 ++ (⟨#[92]⟩ : ByteArray)) ++ ((⟨#[48, 49, 50, 51, 52, 53, 54, 55]⟩ : ByteArray).extract ((ji11) : Int).toNat ((((ji11) + 1) % 256) : Int).toNat)).size + ((⟨#[48, 49, 50, 51, 52, 53, 54, 55]⟩ : ByteArray).extract ((((Int.tdiv (bt a0 x7_1) 8) % 256) % 8) : Int).toNat (((((Int.tdiv (bt a0 x7_1) 8) % 256) % 8) + 1) : Int).toNat).size ≤ 9223372036854775807 then (if 0 ≤ (Int.tmod (bt a0 x7_1) 8) then (if (Int.tmod (bt a0 x7_1) 8) ≤ (((Int.tmod (bt a0 x7_1) 8) + 1) % 256) then (if (((Int.tmod (bt a0 x7_1) 8) + 1) % 256) ≤ ((⟨#[48, 49, 50, 51, 52, 53, 54, 55]⟩ : ByteArray).size : Int) then (if (((x4_1 ++ (⟨#[92]⟩ : ByteArray)) ++ ((⟨#[48, 49, 50, 51, 52, 53, 54, 55]⟩ : ByteArray).extract ((ji11) : Int).toNat ((((ji11) + 1) % 256) : Int).toNat)) ++ ((⟨#[48, 49, 50, 51, 52, 53, 54, 55]⟩ : ByteArray).extract ((((Int.tdiv (bt a0 x7_1) 8) % 256) % 8) : Int).toNat (((((Int.tdiv (bt a0 x7_1) 8) % 256) % 8) + 1) : Int).toNat)).size + ((⟨#[48, 49, 50, 51, 52, 53, 54, 55]⟩ : ByteArray).extract ((Int.tmod (bt a0 x7_1) 8) : Int).toNat ((((Int.tmod (bt a0 x7_1) 8) + 1) % 256) : Int).toNat).size ≤ 9223372036854775807 then (if (bt a0 x7_1) ≥ 117 then (if (bt a0 x7_1) ≤ 122 then (if x5_1.size + 1 ≤ 9223372036854775807 then (if x7_1 ≤ (wrap64 (x7_1 + 1)) then (if (wrap64 (x7_1 + 1)) ≤ (a0.size : Int) then (if (x5_1 ++ (⟨#[92]⟩ : ByteArray)).size + (a0.extract (x7_1 : Int).toNat ((wrap64 (x7_1 + 1)) : Int).toNat).size ≤ 9223372036854775807 then (if x6_1.size + (a0.extract (x7_1 : Int).toNat ((wrap64 (x7_1 + 1)) : Int).toNat).size ≤ 9223372036854775807 then (pagemenderlaw04_TextNumbers.l0 k1 a0 (⟨#[48, 49, 50, 51, 52, 53, 54, 55]⟩ : ByteArray) ((((x4_1 ++ (⟨#[92]⟩ : ByteArray)) ++ ((⟨#[48, 49, 50, 51, 52, 53, 54, 55]⟩ : ByteArray).extract ((ji11) : Int).toNat ((((ji11) + 1) % 256) : Int).toNat)) ++ ((⟨#[48, 49, 50, 51, 52, 53, 54, 55]⟩ : ByteArray).extract ((((Int.tdiv (bt a0 x7_1) 8) % 256) % 8) : Int).toNat (((((Int.tdiv (bt a0 x7_1) 8) % 256) % 8) + 1) : Int).toNat)) ++ ((⟨#[48, 49, 50, 51, 52, 53, 54, 55]⟩ : ByteArray).extract ((Int.tmod (bt a0 x7_1) 8) : Int).toNat ((((Int.tmod (bt a0 x7_1) 8) + 1) % 256) : Int).toNat)) ((x5_1 ++ (⟨#[92]⟩ : ByteArray)) ++ (a0.extract (x7_1 : Int).toNat ((wrap64 (x7_1 + 1)) : Int).toNat)) (x6_1 ++ (a0.extract (x7_1 : Int).toNat ((wrap64 (x7_1 + 1)) : Int).toNat)) (wrap64 (x7_1 + 1))) else (none)) else (none)) else (none)) else (none)) else (none)) else (if (bt a0 x7_1) ≥ 65 then (if (bt a0 x7_1) ≤ 90 then (if x5_1.size + 1 ≤ 9223372036854775807 then (if x7_1 ≤ (wrap64 (x7_1 + 1)) then (if (wrap64 (x7_1 + 1)) ≤ (a0.size : Int) then (if (x5_1 ++ (⟨#[92]⟩ : ByteArray)).size + (a0.extract (x7_1 : Int).toNat ((wrap64 (x7_1 + 1)) : Int).toNat).size ≤ 9223372036854775807 then (if x6_1.size + (a0.extract (x7_1 : Int).toNat ((wrap64 (x7_1 + 1)) : Int).toNat).size ≤ 9223372036854775807 then (pagemenderlaw04_TextNumbers.l0 k1 a0 (⟨#[48, 49, 50, 51, 52, 53, 54, 55]⟩ : ByteArray) ((((x4_1 ++ (⟨#[92]⟩ : ByteArray)) ++ ((⟨#[48, 49, 50, 51, 52, 53, 54, 55]⟩ : ByteArray).extract ((ji11) : Int).toNat ((((ji11) + 1) % 256) : Int).toNat)) ++ ((⟨#[48, 49, 50, 51, 52, 53, 54, 55]⟩ : ByteArray).extract ((((Int.tdiv (bt a0 x7_1) 8) % 256) % 8) : Int).toNat (((((Int.tdiv (bt a0 x7_1) 8) % 256) % 8) + 1) : Int).toNat)) ++ ((⟨#[48, 49, 50, 51, 52, 53, 54, 55]⟩ : ByteArray).extract ((Int.tmod (bt a0 x7_1) 8) : Int).toNat ((((Int.tmod (bt a0 x7_1) 8) + 1) % 256) : Int).toNat)) ((x5_1 ++ (⟨#[92]⟩ : ByteArray)) ++ (a0.extract (x7_1 : Int).toNat ((wrap64 (x7_1 + 1)) : Int).toNat)) (x6_1 ++ (a0.extract (x7_1 : Int).toNat ((wrap64 (x7_1 + 1)) : Int).toNat)) (wrap64 (x7_1 + 1))) else (none)) else (none)) else (none)) else (none)) else (none)) else (pagemenderlaw04_TextNumbers.l0 k1 a0 (⟨#[48, 49, 50, 51, 52, 53, 54, 55]⟩ : ByteArray) ((((x4_1 ++ (⟨#[92]⟩ : ByteArray)) ++ ((⟨#[48, 49, 50, 51, 52, 53, 54, 55]⟩ : ByteArray).extract ((ji11) : Int).toNat ((((ji11) + 1) % 256) : Int).toNat)) ++ ((⟨#[48, 49, 50, 51, 52, 53, 54, 55]⟩ : ByteArray).extract ((((Int.tdiv (bt a0 x7_1) 8) % 256) % 8) : Int).toNat (((((Int.tdiv (bt a0 x7_1) 8) % 256) % 8) + 1) : Int).toNat)) ++ ((⟨#[48, 49, 50, 51, 52, 53, 54, 55]⟩ : ByteArray).extract ((Int.tmod (bt a0 x7_1) 8) : Int).toNat ((((Int.tmod (bt a0 x7_1) 8) + 1) % 256) : Int).toNat)) x5_1 x6_1 (wrap64 (x7_1 + 1)))) else (pagemenderlaw04_TextNumbers.l0 k1 a0 (⟨#[48, 49, 50, 51, 52, 53, 54, 55]⟩ : ByteArray) ((((x4_1 ++ (⟨#[92]⟩ : ByteArray)) ++ ((⟨#[48, 49, 50, 51, 52, 53, 54, 55]⟩ : ByteArray).extract ((ji11) : Int).toNat ((((ji11) + 1) % 256) : Int).toNat)) ++ ((⟨#[48, 49, 50, 51, 52, 53, 54, 55]⟩ : ByteArray).extract ((((Int.tdiv (bt a0 x7_1) 8) % 256) % 8) : Int).toNat (((((Int.tdiv (bt a0 x7_1) 8) % 256) % 8) + 1) : Int).toNat)) ++ ((⟨#[48, 49, 50, 51, 52, 53, 54, 55]⟩ : ByteArray).extract ((Int.tmod (bt a0 x7_1) 8) : Int).toNat ((((Int.tmod (bt a0 x7_1) 8) + 1) % 256) : Int).toNat)) x5_1 x6_1 (wrap64 (x7_1 + 1))))) else (if (bt a0 x7_1) ≥ 65 then (if (bt a0 x7_1) ≤ 90 then (if x5_1.size + 1 ≤ 9223372036854775807 then (if x7_1 ≤ (wrap64 (x7_1 + 1)) then (if (wrap64 (x7_1 + 1)) ≤ (a0.size : Int) then (if (x5_1 ++ (⟨#[92]⟩ : ByteArray)).size + (a0.extract (x7_1 : Int).toNat ((wrap64 (x7_1 + 1)) : Int).toNat).size ≤ 9223372036854775807 then (if x6_1.size + (a0.extract (x7_1 : Int).toNat ((wrap64 (x7_1 + 1)) : Int).toNat).size ≤ 9223372036854775807 then (pagemenderlaw04_TextNumbers.l0 k1 a0 (⟨#[48, 49, 50, 51, 52, 53, 54, 55]⟩ : ByteArray) ((((x4_1 ++ (⟨#[92]⟩ : ByteArray)) ++ ((⟨#[48, 49, 50, 51, 52, 53, 54, 55]⟩ : ByteArray).extract ((ji11) : Int).toNat ((((ji11) + 1) % 256) : Int).toNat)) ++ ((⟨#[48, 49, 50, 51, 52, 53, 54, 55]⟩ : ByteArray).extract ((((Int.tdiv (bt a0 x7_1) 8) % 256) % 8) : Int).toNat (((((Int.tdiv (bt a0 x7_1) 8) % 256) % 8) + 1) : Int).toNat)) ++ ((⟨#[48, 49, 50, 51, 52, 53, 54, 55]⟩ : ByteArray).extract ((Int.tmod (bt a0 x7_1) 8) : Int).toNat ((((Int.tmod (bt a0 x7_1) 8) + 1) % 256) : Int).toNat)) ((x5_1 ++ (⟨#[92]⟩ : ByteArray)) ++ (a0.extract (x7_1 : Int).toNat ((wrap64 (x7_1 + 1)) : Int).toNat)) (x6_1 ++ (a0.extract (x7_1 : Int).toNat ((wrap64 (x7_1 + 1)) : Int).toNat)) (wrap64 (x7_1 + 1))) else (none)) else (none)) else (none)) else (none)) else (none)) else (pagemenderlaw04_TextNumbers.l0 k1 a0 (⟨#[48, 49, 50, 51, 52, 53, 54, 55]⟩ : ByteArray) ((((x4_1 ++ (⟨#[92]⟩ : ByteArray)) ++ ((⟨#[48, 49, 50, 51, 52, 53, 54, 55]⟩ : ByteArray).extract ((ji11) : Int).toNat ((((ji11) + 1) % 256) : Int).toNat)) ++ ((⟨#[48, 49, 50, 51, 52, 53, 54, 55]⟩ : ByteArray).extract ((((Int.tdiv (bt a0 x7_1) 8) % 256) % 8) : Int).toNat (((((Int.tdiv (bt a0 x7_1) 8) % 256) % 8) + 1) : Int).toNat)) ++ ((⟨#[48, 49, 50, 51, 52, 53, 54, 55]⟩ : ByteArray).extract ((Int.tmod (bt a0 x7_1) 8) : Int).toNat ((((Int.tmod (bt a0 x7_1) 8) + 1) % 256) : Int).toNat)) x5_1 x6_1 (wrap64 (x7_1 + 1)))) else (pagemenderlaw04_TextNumbers.l0 k1 a0 (⟨#[48, 49, 50, 51, 52, 53, 54, 55]⟩ : ByteArray) ((((x4_1 ++ (⟨#[92]⟩ : ByteArray)) ++ ((⟨#[48, 49, 50, 51, 52, 53, 54, 55]⟩ : ByteArray).extract ((ji11) : Int).toNat ((((ji11) + 1) % 256) : Int).toNat)) ++ ((⟨#[48, 49, 50, 51, 52, 53, 54, 55]⟩ : ByteArray).extract ((((Int.tdiv (bt a0 x7_1) 8) % 256) % 8) : Int).toNat (((((Int.tdiv (bt a0 x7_1) 8) % 256) % 8) + 1) : Int).toNat)) ++ ((⟨#[48, 49, 50, 51, 52, 53, 54, 55]⟩ : ByteArray).extract ((Int.tmod (bt a0 x7_1) 8) : Int).toNat ((((Int.tmod (bt a0 x7_1) 8) + 1) % 256) : Int).toNat)) x5_1 x6_1 (wrap64 (x7_1 + 1))))) else (none)) else (none)) else (none)) else (none)) else (none)) else (none)) else (none)) else (none)) else (none)) else (none)) else (none)) else (none)) = some r := by first | (rw [hji11] at H; exact H) | (simp only [hji11] at H ⊢; exact H)
                by_cases c12 : 0 ≤ (ji11)
                · rw [if_pos c12] at H
                  have c12b0 := eq_true c12
                  have c12b1 : decide (0 ≤ (ji11)) = true := decide_eq_true c12
                  clear c12
                  by_cases c13 : (ji11) ≤ (((ji11) + 1) % 256)
                  · rw [if_pos c13] at H
                    have c13b0 := eq_true c13
                    have c13b1 : decide ((ji11) ≤ (((ji11) + 1) % 256)) = true := decide_eq_true c13
                    by_cases c14 : (((ji11) + 1) % 256) ≤ ((⟨#[48, 49, 50, 51, 52, 53, 54, 55]⟩ : ByteArray).size : Int)
                    · rw [if_pos c14] at H
                      have c14b0 := eq_true c14
                      have c14b1 : decide ((((ji11) + 1) % 256) ≤ ((⟨#[48, 49, 50, 51, 52, 53, 54, 55]⟩ : ByteArray).size : Int)) = true := decide_eq_true c14
                      by_cases c15 : (x4_1 ++ (⟨#[92]⟩ : ByteArray)).size + ((⟨#[48, 49, 50, 51, 52, 53, 54, 55]⟩ : ByteArray).extract ((ji11) : Int).toNat ((((ji11) + 1) % 256) : Int).toNat).size ≤ 9223372036854775807
                      · rw [if_pos c15] at H
                        have c15b0 := eq_true c15
                        have c15b1 : decide ((x4_1 ++ (⟨#[92]⟩ : ByteArray)).size + ((⟨#[48, 49, 50, 51, 52, 53, 54, 55]⟩ : ByteArray).extract ((ji11) : Int).toNat ((((ji11) + 1) % 256) : Int).toNat).size ≤ 9223372036854775807) = true := decide_eq_true c15
                        try have c15b2 : (9223372036854775807 < (x4_1 ++ (⟨#[92]⟩ : ByteArray)).size + ((⟨#[48, 49, 50, 51, 52, 53, 54, 55]⟩ : ByteArray).extract ((ji11) : Int).toNat ((((ji11) + 1) % 256) : Int).toNat).size) = False := eq_false (Nat.not_lt.2 c15)
                        obtain ⟨ji16, hji16⟩ : ∃ j_ : Int, (((Int.tdiv (bt a0 x7_1) 8) % 256) % 8) = j_ := ⟨_, rfl⟩
                        replace H : (if 0 ≤ (ji16) then (if (ji16) ≤ ((ji16) + 1) then (if ((ji16) + 1) ≤ ((⟨#[48, 49, 50, 51, 52, 53, 54, 55]⟩ : ByteArray).size : Int) then (if ((x4_1 ++ (⟨#[92]⟩ : ByteArray)) ++ ((⟨#[48, 49, 50, 51, 52, 53, 54, 55]⟩ : ByteArray).extract ((ji11) : Int).toNat ((((ji11) + 1) % 256) : Int).toNat)).size + ((⟨#[48, 49, 50, 51, 52, 53, 54, 55]⟩ : ByteArray).extract ((ji16) : Int).toNat (((ji16) + 1) : Int).toNat).size ≤ 9223372036854775807 then (if 0 ≤ (Int.tmod (bt a0 x7_1) 8) then (if (Int.tmod (bt a0 x7_1) 8) ≤ (((Int.tmod (bt a0 x7_1) 8) + 1) % 256) then (if (((Int.tmod (bt a0 x7_1) 8) + 1) % 256) ≤ ((⟨#[48, 49, 50, 51, 52, 53, 54, 55]⟩ : ByteArray).size : Int) then (if (((x4_1 ++ (⟨#[92]⟩ : ByteArray)) ++ ((⟨#[48, 49, 50, 51, 52, 53, 54, 55]⟩ : ByteArray).extract ((ji11) : Int).toNat ((((ji11) + 1) % 256) : Int).toNat)) ++ ((⟨#[48, 49, 50, 51, 52, 53, 54, 55]⟩ : ByteArray).extract ((ji16) : Int).toNat (((ji16) + 1) : Int).toNat)).size + ((⟨#[48, 49, 50, 51, 52, 53, 54, 55]⟩ : ByteArray).extract ((Int.tmod (bt a0 x7_1) 8) : Int).toNat ((((Int.tmod (bt a0 x7_1) 8) + 1) % 256) : Int).toNat).size ≤ 9223372036854775807 then (if (bt a0 x7_1) ≥ 117 then (if (bt a0 x7_1) ≤ 122 then (if x5_1.size + 1 ≤ 9223372036854775807 then (if x7_1 ≤ (wrap64 (x7_1 + 1)) then (if (wrap64 (x7_1 + 1)) ≤ (a0.size : Int) then (if (x5_1 ++ (⟨#[92]⟩ : ByteArray)).size + (a0.extract (x7_1 : Int).toNat ((wrap64 (x7_1 + 1)) : Int).toNat).size ≤ 9223372036854775807 then (if x6_1.size + (a0.extract (x7_1 : Int).toNat ((wrap64 (x7_1 + 1)) : Int).toNat).size ≤ 9223372036854775807 then (pagemenderlaw04_TextNumbers.l0 k1 a0 (⟨#[48, 49, 50, 51, 52, 53, 54, 55]⟩ : ByteArray) ((((x4_1 ++ (⟨#[92]⟩ : ByteArray)) ++ ((⟨#[48, 49, 50, 51, 52, 53, 54, 55]⟩ : ByteArray).extract ((ji11) : Int).toNat ((((ji11) + 1) % 256) : Int).toNat)) ++ ((⟨#[48, 49, 50, 51, 52, 53, 54, 55]⟩ : ByteArray).extract ((ji16) : Int).toNat (((ji16) + 1) : Int).toNat)) ++ ((⟨#[48, 49, 50, 51, 52, 53, 54, 55]⟩ : ByteArray).extract ((Int.tmod (bt a0 x7_1) 8) : Int).toNat ((((Int.tmod (bt a0 x7_1) 8) + 1) % 256) : Int).toNat)) ((x5_1 ++ (⟨#[92]⟩ : ByteArray)) ++ (a0.extract (x7_1 : Int).toNat ((wrap64 (x7_1 + 1)) : Int).toNat)) (x6_1 ++ (a0.extract (x7_1 : Int).toNat ((wrap64 (x7_1 + 1)) : Int).toNat)) (wrap64 (x7_1 + 1))) else (none)) else (none)) else (none)) else (none)) else (none)) else (if (bt a0 x7_1) ≥ 65 then (if (bt a0 x7_1) ≤ 90 then (if x5_1.size + 1 ≤ 9223372036854775807 then (if x7_1 ≤ (wrap64 (x7_1 + 1)) then (if (wrap64 (x7_1 + 1)) ≤ (a0.size : Int) then (if (x5_1 ++ (⟨#[92]⟩ : ByteArray)).size + (a0.extract (x7_1 : Int).toNat ((wrap64 (x7_1 + 1)) : Int).toNat).size ≤ 9223372036854775807 then (if x6_1.size + (a0.extract (x7_1 : Int).toNat ((wrap64 (x7_1 + 1)) : Int).toNat).size ≤ 9223372036854775807 then (pagemenderlaw04_TextNumbers.l0 k1 a0 (⟨#[48, 49, 50, 51, 52, 53, 54, 55]⟩ : ByteArray) ((((x4_1 ++ (⟨#[92]⟩ : ByteArray)) ++ ((⟨#[48, 49, 50, 51, 52, 53, 54, 55]⟩ : ByteArray).extract ((ji11) : Int).toNat ((((ji11) + 1) % 256) : Int).toNat)) ++ ((⟨#[48, 49, 50, 51, 52, 53, 54, 55]⟩ : ByteArray).extract ((ji16) : Int).toNat (((ji16) + 1) : Int).toNat)) ++ ((⟨#[48, 49, 50, 51, 52, 53, 54, 55]⟩ : ByteArray).extract ((Int.tmod (bt a0 x7_1) 8) : Int).toNat ((((Int.tmod (bt a0 x7_1) 8) + 1) % 256) : Int).toNat)) ((x5_1 ++ (⟨#[92]⟩ : ByteArray)) ++ (a0.extract (x7_1 : Int).toNat ((wrap64 (x7_1 + 1)) : Int).toNat)) (x6_1 ++ (a0.extract (x7_1 : Int).toNat ((wrap64 (x7_1 + 1)) : Int).toNat)) (wrap64 (x7_1 + 1))) else (none)) else (none)) else (none)) else (none)) else (none)) else (pagemenderlaw04_TextNumbers.l0 k1 a0 (⟨#[48, 49, 50, 51, 52, 53, 54, 55]⟩ : ByteArray) ((((x4_1 ++ (⟨#[92]⟩ : ByteArray)) ++ ((⟨#[48, 49, 50, 51, 52, 53, 54, 55]⟩ : ByteArray).extract ((ji11) : Int).toNat ((((ji11) + 1) % 256) : Int).toNat)) ++ ((⟨#[48, 49, 50, 51, 52, 53, 54, 55]⟩ : ByteArray).extract ((ji16) : Int).toNat (((ji16) + 1) : Int).toNat)) ++ ((⟨#[48, 49, 50, 51, 52, 53, 54, 55]⟩ : ByteArray).extract ((Int.tmod (bt a0 x7_1) 8) : Int).toNat ((((Int.tmod (bt a0 x7_1) 8) + 1) % 256) : Int).toNat)) x5_1 x6_1 (wrap64 (x7_1 + 1)))) else (pagemenderlaw04_TextNumbers.l0 k1 a0 (⟨#[48, 49, 50, 51, 52, 53, 54, 55]⟩ : ByteArray) ((((x4_1 ++ (⟨#[92]⟩ : ByteArray)) ++ ((⟨#[48, 49, 50, 51, 52, 53, 54, 55]⟩ : ByteArray).extract ((ji11) : Int).toNat ((((ji11) + 1) % 256) : Int).toNat)) ++ ((⟨#[48, 49, 50, 51, 52, 53, 54, 55]⟩ : ByteArray).extract ((ji16) : Int).toNat (((ji16) + 1) : Int).toNat)) ++ ((⟨#[48, 49, 50, 51, 52, 53, 54, 55]⟩ : ByteArray).extract ((Int.tmod (bt a0 x7_1) 8) : Int).toNat ((((Int.tmod (bt a0 x7_1) 8) + 1) % 256) : Int).toNat)) x5_1 x6_1 (wrap64 (x7_1 + 1))))) else (if (bt a0 x7_1) ≥ 65 then (if (bt a0 x7_1) ≤ 90 then (if x5_1.size + 1 ≤ 9223372036854775807 then (if x7_1 ≤ (wrap64 (x7_1 + 1)) then (if (wrap64 (x7_1 + 1)) ≤ (a0.size : Int) then (if (x5_1 ++ (⟨#[92]⟩ : ByteArray)).size + (a0.extract (x7_1 : Int).toNat ((wrap64 (x7_1 + 1)) : Int).toNat).size ≤ 9223372036854775807 then (if x6_1.size + (a0.extract (x7_1 : Int).toNat ((wrap64 (x7_1 + 1)) : Int).toNat).size ≤ 9223372036854775807 then (pagemenderlaw04_TextNumbers.l0 k1 a0 (⟨#[48, 49, 50, 51, 52, 53, 54, 55]⟩ : ByteArray) ((((x4_1 ++ (⟨#[92]⟩ : ByteArray)) ++ ((⟨#[48, 49, 50, 51, 52, 53, 54, 55]⟩ : ByteArray).extract ((ji11) : Int).toNat ((((ji11) + 1) % 256) : Int).toNat)) ++ ((⟨#[48, 49, 50, 51, 52, 53, 54, 55]⟩ : ByteArray).extract ((ji16) : Int).toNat (((ji16) + 1) : Int).toNat)) ++ ((⟨#[48, 49, 50, 51, 52, 53, 54, 55]⟩ : ByteArray).extract ((Int.tmod (bt a0 x7_1) 8) : Int).toNat ((((Int.tmod (bt a0 x7_1) 8) + 1) % 256) : Int).toNat)) ((x5_1 ++ (⟨#[92]⟩ : ByteArray)) ++ (a0.extract (x7_1 : Int).toNat ((wrap64 (x7_1 + 1)) : Int).toNat)) (x6_1 ++ (a0.extract (x7_1 : Int).toNat ((wrap64 (x7_1 + 1)) : Int).toNat)) (wrap64 (x7_1 + 1))) else (none)) else (none)) else (none)) else (none)) else (none)) else (pagemenderlaw04_TextNumbers.l0 k1 a0 (⟨#[48, 49, 50, 51, 52, 53, 54, 55]⟩ : ByteArray) ((((x4_1 ++ (⟨#[92]⟩ : ByteArray)) ++ ((⟨#[48, 49, 50, 51, 52, 53, 54, 55]⟩ : ByteArray).extract ((ji11) : Int).toNat ((((ji11) + 1) % 256) : Int).toNat)) ++ ((⟨#[48, 49, 50, 51, 52, 53, 54, 55]⟩ : ByteArray).extract ((ji16) : Int).toNat (((ji16) + 1) : Int).toNat)) ++ ((⟨#[48, 49, 50, 51, 52, 53, 54, 55]⟩ : ByteArray).extract ((Int.tmod (bt a0 x7_1) 8) : Int).toNat ((((Int.tmod (bt a0 x7_1) 8) + 1) % 256) : Int).toNat)) x5_1 x6_1 (wrap64 (x7_1 + 1)))) else (pagemenderlaw04_TextNumbers.l0 k1 a0 (⟨#[48, 49, 50, 51, 52, 53, 54, 55]⟩ : ByteArray) ((((x4_1 ++ (⟨#[92]⟩ : ByteArray)) ++ ((⟨#[48, 49, 50, 51, 52, 53, 54, 55]⟩ : ByteArray).extract ((ji11) : Int).toNat ((((ji11) + 1) % 256) : Int).toNat)) ++ ((⟨#[48, 49, 50, 51, 52, 53, 54, 55]⟩ : ByteArray).extract ((ji16) : Int).toNat (((ji16) + 1) : Int).toNat)) ++ ((⟨#[48, 49, 50, 51, 52, 53, 54, 55]⟩ : ByteArray).extract ((Int.tmod (bt a0 x7_1) 8) : Int).toNat ((((Int.tmod (bt a0 x7_1) 8) + 1) % 256) : Int).toNat)) x5_1 x6_1 (wrap64 (x7_1 + 1))))) else (none)) else (none)) else (none)) else (none)) else (none)) else (none)) else (none)) else (none)) = some r := by first | (rw [hji16] at H; exact H) | (simp only [hji16] at H ⊢; exact H)
                        by_cases c17 : 0 ≤ (ji16)
                        · rw [if_pos c17] at H
                          have c17b0 := eq_true c17
                          have c17b1 : decide (0 ≤ (ji16)) = true := decide_eq_true c17
                          clear c17
                          by_cases c18 : (ji16) ≤ ((ji16) + 1)
                          · rw [if_pos c18] at H
                            have c18b0 := eq_true c18
                            have c18b1 : decide ((ji16) ≤ ((ji16) + 1)) = true := decide_eq_true c18
                            by_cases c19 : ((ji16) + 1) ≤ ((⟨#[48, 49, 50, 51, 52, 53, 54, 55]⟩ : ByteArray).size : Int)
                            · rw [if_pos c19] at H
                              have c19b0 := eq_true c19
                              have c19b1 : decide (((ji16) + 1) ≤ ((⟨#[48, 49, 50, 51, 52, 53, 54, 55]⟩ : ByteArray).size : Int)) = true := decide_eq_true c19
                              by_cases c20 : ((x4_1 ++ (⟨#[92]⟩ : ByteArray)) ++ ((⟨#[48, 49, 50, 51, 52, 53, 54, 55]⟩ : ByteArray).extract ((ji11) : Int).toNat ((((ji11) + 1) % 256) : Int).toNat)).size + ((⟨#[48, 49, 50, 51, 52, 53, 54, 55]⟩ : ByteArray).extract ((ji16) : Int).toNat (((ji16) + 1) : Int).toNat).size ≤ 9223372036854775807
                              · rw [if_pos c20] at H
                                have c20b0 := eq_true c20
                                have c20b1 : decide (((x4_1 ++ (⟨#[92]⟩ : ByteArray)) ++ ((⟨#[48, 49, 50, 51, 52, 53, 54, 55]⟩ : ByteArray).extract ((ji11) : Int).toNat ((((ji11) + 1) % 256) : Int).toNat)).size + ((⟨#[48, 49, 50, 51, 52, 53, 54, 55]⟩ : ByteArray).extract ((ji16) : Int).toNat (((ji16) + 1) : Int).toNat).size ≤ 9223372036854775807) = true := decide_eq_true c20
                                try have c20b2 : (9223372036854775807 < ((x4_1 ++ (⟨#[92]⟩ : ByteArray)) ++ ((⟨#[48, 49, 50, 51, 52, 53, 54, 55]⟩ : ByteArray).extract ((ji11) : Int).toNat ((((ji11) + 1) % 256) : Int).toNat)).size + ((⟨#[48, 49, 50, 51, 52, 53, 54, 55]⟩ : ByteArray).extract ((ji16) : Int).toNat (((ji16) + 1) : Int).toNat).size) = False := eq_false (Nat.not_lt.2 c20)
                                obtain ⟨ji21, hji21⟩ : ∃ j_ : Int, (Int.tmod (bt a0 x7_1) 8) = j_ := ⟨_, rfl⟩
                                replace H : (if 0 ≤ (ji21) then (if (ji21) ≤ (((ji21) + 1) % 256) then (if (((ji21) + 1) % 256) ≤ ((⟨#[48, 49, 50, 51, 52, 53, 54, 55]⟩ : ByteArray).size : Int) then (if (((x4_1 ++ (⟨#[92]⟩ : ByteArray)) ++ ((⟨#[48, 49, 50, 51, 52, 53, 54, 55]⟩ : ByteArray).extract ((ji11) : Int).toNat ((((ji11) + 1) % 256) : Int).toNat)) ++ ((⟨#[48, 49, 50, 51, 52, 53, 54, 55]⟩ : ByteArray).extract ((ji16) : Int).toNat (((ji16) + 1) : Int).toNat)).size + ((⟨#[48, 49, 50, 51, 52, 53, 54, 55]⟩ : ByteArray).extract ((ji21) : Int).toNat ((((ji21) + 1) % 256) : Int).toNat).size ≤ 9223372036854775807 then (if (bt a0 x7_1) ≥ 117 then (if (bt a0 x7_1) ≤ 122 then (if x5_1.size + 1 ≤ 9223372036854775807 then (if x7_1 ≤ (wrap64 (x7_1 + 1)) then (if (wrap64 (x7_1 + 1)) ≤ (a0.size : Int) then (if (x5_1 ++ (⟨#[92]⟩ : ByteArray)).size + (a0.extract (x7_1 : Int).toNat ((wrap64 (x7_1 + 1)) : Int).toNat).size ≤ 9223372036854775807 then (if x6_1.size + (a0.extract (x7_1 : Int).toNat ((wrap64 (x7_1 + 1)) : Int).toNat).size ≤ 9223372036854775807 then (pagemenderlaw04_TextNumbers.l0 k1 a0 (⟨#[48, 49, 50, 51, 52, 53, 54, 55]⟩ : ByteArray) ((((x4_1 ++ (⟨#[92]⟩ : ByteArray)) ++ ((⟨#[48, 49, 50, 51, 52, 53, 54, 55]⟩ : ByteArray).extract ((ji11) : Int).toNat ((((ji11) + 1) % 256) : Int).toNat)) ++ ((⟨#[48, 49, 50, 51, 52, 53, 54, 55]⟩ : ByteArray).extract ((ji16) : Int).toNat (((ji16) + 1) : Int).toNat)) ++ ((⟨#[48, 49, 50, 51, 52, 53, 54, 55]⟩ : ByteArray).extract ((ji21) : Int).toNat ((((ji21) + 1) % 256) : Int).toNat)) ((x5_1 ++ (⟨#[92]⟩ : ByteArray)) ++ (a0.extract (x7_1 : Int).toNat ((wrap64 (x7_1 + 1)) : Int).toNat)) (x6_1 ++ (a0.extract (x7_1 : Int).toNat ((wrap64 (x7_1 + 1)) : Int).toNat)) (wrap64 (x7_1 + 1))) else (none)) else (none)) else (none)) else (none)) else (none)) else (if (bt a0 x7_1) ≥ 65 then (if (bt a0 x7_1) ≤ 90 then (if x5_1.size + 1 ≤ 9223372036854775807 then (if x7_1 ≤ (wrap64 (x7_1 + 1)) then (if (wrap64 (x7_1 + 1)) ≤ (a0.size : Int) then (if (x5_1 ++ (⟨#[92]⟩ : ByteArray)).size + (a0.extract (x7_1 : Int).toNat ((wrap64 (x7_1 + 1)) : Int).toNat).size ≤ 9223372036854775807 then (if x6_1.size + (a0.extract (x7_1 : Int).toNat ((wrap64 (x7_1 + 1)) : Int).toNat).size ≤ 9223372036854775807 then (pagemenderlaw04_TextNumbers.l0 k1 a0 (⟨#[48, 49, 50, 51, 52, 53, 54, 55]⟩ : ByteArray) ((((x4_1 ++ (⟨#[92]⟩ : ByteArray)) ++ ((⟨#[48, 49, 50, 51, 52, 53, 54, 55]⟩ : ByteArray).extract ((ji11) : Int).toNat ((((ji11) + 1) % 256) : Int).toNat)) ++ ((⟨#[48, 49, 50, 51, 52, 53, 54, 55]⟩ : ByteArray).extract ((ji16) : Int).toNat (((ji16) + 1) : Int).toNat)) ++ ((⟨#[48, 49, 50, 51, 52, 53, 54, 55]⟩ : ByteArray).extract ((ji21) : Int).toNat ((((ji21) + 1) % 256) : Int).toNat)) ((x5_1 ++ (⟨#[92]⟩ : ByteArray)) ++ (a0.extract (x7_1 : Int).toNat ((wrap64 (x7_1 + 1)) : Int).toNat)) (x6_1 ++ (a0.extract (x7_1 : Int).toNat ((wrap64 (x7_1 + 1)) : Int).toNat)) (wrap64 (x7_1 + 1))) else (none)) else (none)) else (none)) else (none)) else (none)) else (pagemenderlaw04_TextNumbers.l0 k1 a0 (⟨#[48, 49, 50, 51, 52, 53, 54, 55]⟩ : ByteArray) ((((x4_1 ++ (⟨#[92]⟩ : ByteArray)) ++ ((⟨#[48, 49, 50, 51, 52, 53, 54, 55]⟩ : ByteArray).extract ((ji11) : Int).toNat ((((ji11) + 1) % 256) : Int).toNat)) ++ ((⟨#[48, 49, 50, 51, 52, 53, 54, 55]⟩ : ByteArray).extract ((ji16) : Int).toNat (((ji16) + 1) : Int).toNat)) ++ ((⟨#[48, 49, 50, 51, 52, 53, 54, 55]⟩ : ByteArray).extract ((ji21) : Int).toNat ((((ji21) + 1) % 256) : Int).toNat)) x5_1 x6_1 (wrap64 (x7_1 + 1)))) else (pagemenderlaw04_TextNumbers.l0 k1 a0 (⟨#[48, 49, 50, 51, 52, 53, 54, 55]⟩ : ByteArray) ((((x4_1 ++ (⟨#[92]⟩ : ByteArray)) ++ ((⟨#[48, 49, 50, 51, 52, 53, 54, 55]⟩ : ByteArray).extract ((ji11) : Int).toNat ((((ji11) + 1) % 256) : Int).toNat)) ++ ((⟨#[48, 49, 50, 51, 52, 53, 54, 55]⟩ : ByteArray).extract ((ji16) : Int).toNat (((ji16) + 1) : Int).toNat)) ++ ((⟨#[48, 49, 50, 51, 52, 53, 54, 55]⟩ : ByteArray).extract ((ji21) : Int).toNat ((((ji21) + 1) % 256) : Int).toNat)) x5_1 x6_1 (wrap64 (x7_1 + 1))))) else (if (bt a0 x7_1) ≥ 65 then (if (bt a0 x7_1) ≤ 90 then (if x5_1.size + 1 ≤ 9223372036854775807 then (if x7_1 ≤ (wrap64 (x7_1 + 1)) then (if (wrap64 (x7_1 + 1)) ≤ (a0.size : Int) then (if (x5_1 ++ (⟨#[92]⟩ : ByteArray)).size + (a0.extract (x7_1 : Int).toNat ((wrap64 (x7_1 + 1)) : Int).toNat).size ≤ 9223372036854775807 then (if x6_1.size + (a0.extract (x7_1 : Int).toNat ((wrap64 (x7_1 + 1)) : Int).toNat).size ≤ 9223372036854775807 then (pagemenderlaw04_TextNumbers.l0 k1 a0 (⟨#[48, 49, 50, 51, 52, 53, 54, 55]⟩ : ByteArray) ((((x4_1 ++ (⟨#[92]⟩ : ByteArray)) ++ ((⟨#[48, 49, 50, 51, 52, 53, 54, 55]⟩ : ByteArray).extract ((ji11) : Int).toNat ((((ji11) + 1) % 256) : Int).toNat)) ++ ((⟨#[48, 49, 50, 51, 52, 53, 54, 55]⟩ : ByteArray).extract ((ji16) : Int).toNat (((ji16) + 1) : Int).toNat)) ++ ((⟨#[48, 49, 50, 51, 52, 53, 54, 55]⟩ : ByteArray).extract ((ji21) : Int).toNat ((((ji21) + 1) % 256) : Int).toNat)) ((x5_1 ++ (⟨#[92]⟩ : ByteArray)) ++ (a0.extract (x7_1 : Int).toNat ((wrap64 (x7_1 + 1)) : Int).toNat)) (x6_1 ++ (a0.extract (x7_1 : Int).toNat ((wrap64 (x7_1 + 1)) : Int).toNat)) (wrap64 (x7_1 + 1))) else (none)) else (none)) else (none)) else (none)) else (none)) else (pagemenderlaw04_TextNumbers.l0 k1 a0 (⟨#[48, 49, 50, 51, 52, 53, 54, 55]⟩ : ByteArray) ((((x4_1 ++ (⟨#[92]⟩ : ByteArray)) ++ ((⟨#[48, 49, 50, 51, 52, 53, 54, 55]⟩ : ByteArray).extract ((ji11) : Int).toNat ((((ji11) + 1) % 256) : Int).toNat)) ++ ((⟨#[48, 49, 50, 51, 52, 53, 54, 55]⟩ : ByteArray).extract ((ji16) : Int).toNat (((ji16) + 1) : Int).toNat)) ++ ((⟨#[48, 49, 50, 51, 52, 53, 54, 55]⟩ : ByteArray).extract ((ji21) : Int).toNat ((((ji21) + 1) % 256) : Int).toNat)) x5_1 x6_1 (wrap64 (x7_1 + 1)))) else (pagemenderlaw04_TextNumbers.l0 k1 a0 (⟨#[48, 49, 50, 51, 52, 53, 54, 55]⟩ : ByteArray) ((((x4_1 ++ (⟨#[92]⟩ : ByteArray)) ++ ((⟨#[48, 49, 50, 51, 52, 53, 54, 55]⟩ : ByteArray).extract ((ji11) : Int).toNat ((((ji11) + 1) % 256) : Int).toNat)) ++ ((⟨#[48, 49, 50, 51, 52, 53, 54, 55]⟩ : ByteArray).extract ((ji16) : Int).toNat (((ji16) + 1) : Int).toNat)) ++ ((⟨#[48, 49, 50, 51, 52, 53, 54, 55]⟩ : ByteArray).extract ((ji21) : Int).toNat ((((ji21) + 1) % 256) : Int).toNat)) x5_1 x6_1 (wrap64 (x7_1 + 1))))) else (none)) else (none)) else (none)) else (none)) = some r := by first | (rw [hji21] at H; exact H) | (simp only [hji21] at H ⊢; exact H)
                                by_cases c22 : 0 ≤ (ji21)
                                · rw [if_pos c22] at H
                                  have c22b0 := eq_true c22
                                  have c22b1 : decide (0 ≤ (ji21)) = true := decide_eq_true c22
                                  clear c22
                                  by_cases c23 : (ji21) ≤ (((ji21) + 1) % 256)
                                  · rw [if_pos c23] at H
                                    have c23b0 := eq_true c23
                                    have c23b1 : decide ((ji21) ≤ (((ji21) + 1) % 256)) = true := decide_eq_true c23
                                    by_cases c24 : (((ji21) + 1) % 256) ≤ ((⟨#[48, 49, 50, 51, 52, 53, 54, 55]⟩ : ByteArray).size : Int)
                                    · rw [if_pos c24] at H
                                      have c24b0 := eq_true c24
                                      have c24b1 : decide ((((ji21) + 1) % 256) ≤ ((⟨#[48, 49, 50, 51, 52, 53, 54, 55]⟩ : ByteArray).size : Int)) = true := decide_eq_true c24
                                      by_cases c25 : (((x4_1 ++ (⟨#[92]⟩ : ByteArray)) ++ ((⟨#[48, 49, 50, 51, 52, 53, 54, 55]⟩ : ByteArray).extract ((ji11) : Int).toNat ((((ji11) + 1) % 256) : Int).toNat)) ++ ((⟨#[48, 49, 50, 51, 52, 53, 54, 55]⟩ : ByteArray).extract ((ji16) : Int).toNat (((ji16) + 1) : Int).toNat)).size + ((⟨#[48, 49, 50, 51, 52, 53, 54, 55]⟩ : ByteArray).extract ((ji21) : Int).toNat ((((ji21) + 1) % 256) : Int).toNat).size ≤ 9223372036854775807
                                      · rw [if_pos c25] at H
                                        have c25b0 := eq_true c25
                                        have c25b1 : decide ((((x4_1 ++ (⟨#[92]⟩ : ByteArray)) ++ ((⟨#[48, 49, 50, 51, 52, 53, 54, 55]⟩ : ByteArray).extract ((ji11) : Int).toNat ((((ji11) + 1) % 256) : Int).toNat)) ++ ((⟨#[48, 49, 50, 51, 52, 53, 54, 55]⟩ : ByteArray).extract ((ji16) : Int).toNat (((ji16) + 1) : Int).toNat)).size + ((⟨#[48, 49, 50, 51, 52, 53, 54, 55]⟩ : ByteArray).extract ((ji21) : Int).toNat ((((ji21) + 1) % 256) : Int).toNat).size ≤ 9223372036854775807) = true := decide_eq_true c25
                                        try have c25b2 : (9223372036854775807 < (((x4_1 ++ (⟨#[92]⟩ : ByteArray)) ++ ((⟨#[48, 49, 50, 51, 52, 53, 54, 55]⟩ : ByteArray).extract ((ji11) : Int).toNat ((((ji11) + 1) % 256) : Int).toNat)) ++ ((⟨#[48, 49, 50, 51, 52, 53, 54, 55]⟩ : ByteArray).extract ((ji16) : Int).toNat (((ji16) + 1) : Int).toNat)).size + ((⟨#[48, 49, 50, 51, 52, 53, 54, 55]⟩ : ByteArray).extract ((ji21) : Int).toNat ((((ji21) + 1) % 256) : Int).toNat).size) = False := eq_false (Nat.not_lt.2 c25)
                                        by_cases c26 : (bt a0 x7_1) ≥ 117
                                        · rw [if_pos c26] at H
                                          have c26b0 : decide (117 ≤ (bt a0 x7_1)) = true := decide_eq_true c26
                                          clear c26
                                          by_cases c27 : (bt a0 x7_1) ≤ 122
                                          · rw [if_pos c27] at H
                                            have c27b0 : decide ((bt a0 x7_1) ≤ 122) = true := decide_eq_true c27
                                            clear c27
                                            by_cases c28 : x5_1.size + 1 ≤ 9223372036854775807
                                            · rw [if_pos c28] at H
                                              have c28b0 := eq_true c28
                                              have c28b1 : decide (x5_1.size + 1 ≤ 9223372036854775807) = true := decide_eq_true c28
                                              try have c28b2 : (9223372036854775807 < x5_1.size + 1) = False := eq_false (Nat.not_lt.2 c28)
                                              have c29b0 := eq_true (of_decide_eq_true (by first | (with_reducible assumption) | assumption) : 0 ≤ x7_1)
                                              by_cases c30 : x7_1 ≤ (wrap64 (x7_1 + 1))
                                              · rw [if_pos c30] at H
                                                have c30b0 := eq_true c30
                                                have c30b1 : decide (x7_1 ≤ (wrap64 (x7_1 + 1))) = true := decide_eq_true c30
                                                by_cases c31 : (wrap64 (x7_1 + 1)) ≤ (a0.size : Int)
                                                · rw [if_pos c31] at H
                                                  have c31b0 := eq_true c31
                                                  have c31b1 : decide ((wrap64 (x7_1 + 1)) ≤ (a0.size : Int)) = true := decide_eq_true c31
                                                  by_cases c32 : (x5_1 ++ (⟨#[92]⟩ : ByteArray)).size + (a0.extract (x7_1 : Int).toNat ((wrap64 (x7_1 + 1)) : Int).toNat).size ≤ 9223372036854775807
                                                  · rw [if_pos c32] at H
                                                    have c32b0 := eq_true c32
                                                    have c32b1 : decide ((x5_1 ++ (⟨#[92]⟩ : ByteArray)).size + (a0.extract (x7_1 : Int).toNat ((wrap64 (x7_1 + 1)) : Int).toNat).size ≤ 9223372036854775807) = true := decide_eq_true c32
                                                    try have c32b2 : (9223372036854775807 < (x5_1 ++ (⟨#[92]⟩ : ByteArray)).size + (a0.extract (x7_1 : Int).toNat ((wrap64 (x7_1 + 1)) : Int).toNat).size) = False := eq_false (Nat.not_lt.2 c32)
                                                    have c33b0 := eq_true (of_decide_eq_true (by first | (with_reducible assumption) | assumption) : 0 ≤ x7_1)
                                                    have c34b0 := eq_true (of_decide_eq_true (by first | (with_reducible assumption) | assumption) : x7_1 ≤ (wrap64 (x7_1 + 1)))
                                                    have c35b0 := eq_true (of_decide_eq_true (by first | (with_reducible assumption) | assumption) : (wrap64 (x7_1 + 1)) ≤ (a0.size : Int))
                                                    by_cases c36 : x6_1.size + (a0.extract (x7_1 : Int).toNat ((wrap64 (x7_1 + 1)) : Int).toNat).size ≤ 9223372036854775807
                                                    · rw [if_pos c36] at H
                                                      have c36b0 := eq_true c36
                                                      have c36b1 : decide (x6_1.size + (a0.extract (x7_1 : Int).toNat ((wrap64 (x7_1 + 1)) : Int).toNat).size ≤ 9223372036854775807) = true := decide_eq_true c36
                                                      try have c36b2 : (9223372036854775807 < x6_1.size + (a0.extract (x7_1 : Int).toNat ((wrap64 (x7_1 + 1)) : Int).toNat).size) = False := eq_false (Nat.not_lt.2 c36)
                                                      have H' := Aside0.mk H
                                                      clear H
                                                      have p9 : 0 ≤ (x7_1 : Int) := of_decide_eq_true (by first | (with_reducible assumption) | assumption)
                                                      have q9 : x7_1 < (a0.size : Int) := of_decide_eq_true (by first | (with_reducible assumption) | assumption)
                                                      have hx9 := bt_at a0 x7_1
                                                      replace p9 := eq_true p9
                                                      replace q9 := eq_true q9
                                                      have hw8c_ : ∀ n_ : Int, (n_ % 256).tmod 8 = n_ % 256 % 8 := fun n_ => Int.tmod_eq_emod_of_nonneg (by omega)
                                                      have hw8d_ : (ji16 + 1) % 256 = ji16 + 1 := by omega
                                                      go_wp2
                                                      repeat (go_quiet (fail); try go_wp2)
                                                      go_roundg k1
                                                      case measure => have := HK1.out; omega
                                                      case rel => exact ⟨((((x4_1 ++ (⟨#[92]⟩ : ByteArray)) ++ ((⟨#[48, 49, 50, 51, 52, 53, 54, 55]⟩ : ByteArray).extract ((ji11) : Int).toNat ((((ji11) + 1) % 256) : Int).toNat)) ++ ((⟨#[48, 49, 50, 51, 52, 53, 54, 55]⟩ : ByteArray).extract ((ji16) : Int).toNat (((ji16) + 1) : Int).toNat)) ++ ((⟨#[48, 49, 50, 51, 52, 53, 54, 55]⟩ : ByteArray).extract ((ji21) : Int).toNat ((((ji21) + 1) % 256) : Int).toNat)), ((x5_1 ++ (⟨#[92]⟩ : ByteArray)) ++ (a0.extract (x7_1 : Int).toNat ((wrap64 (x7_1 + 1)) : Int).toNat)), (x6_1 ++ (a0.extract (x7_1 : Int).toNat ((wrap64 (x7_1 + 1)) : Int).toNat)), (wrap64 (x7_1 + 1)), (by first | rfl | (simp; done) | (simp only [← hji11, ← hji16, ← hji21] <;> (first | rfl | simp)) | (simp [*]; done)), (by first | rfl | (simp; done) | (simp [*]; done)), (by first | rfl | (simp; done) | (simp [*]; done)), (by first | rfl | (simp; done) | (simp [*]; done)), H', ⟨by have := HK1.out; omega⟩, ⟨by repeat (first | (with_reducible first | exact HB.out | apply below_alloc | apply pw_below_drewN | apply below_drew1) | exact HB.out)⟩⟩
                                                    · rw [if_neg c36] at H
                                                      exact absurd H (by simp)
                                                  · rw [if_neg c32] at H
                                                    exact absurd H (by simp)
                                                · rw [if_neg c31] at H
                                                  exact absurd H (by simp)
                                              · rw [if_neg c30] at H
                                                exact absurd H (by simp)
                                            · rw [if_neg c28] at H
                                              exact absurd H (by simp)
                                          · rw [if_neg c27] at H
                                            have c27b0 : decide ((bt a0 x7_1) ≤ 122) = false := decide_eq_false c27
                                            clear c27
                                            by_cases c37 : (bt a0 x7_1) ≥ 65
                                            · rw [if_pos c37] at H
                                              have c37b0 : decide (65 ≤ (bt a0 x7_1)) = true := decide_eq_true c37
                                              clear c37
                                              by_cases c38 : (bt a0 x7_1) ≤ 90
                                              · rw [if_pos c38] at H
                                                have c38b0 : decide ((bt a0 x7_1) ≤ 90) = true := decide_eq_true c38
                                                clear c38
                                                by_cases c39 : x5_1.size + 1 ≤ 9223372036854775807
                                                · rw [if_pos c39] at H
                                                  have c39b0 := eq_true c39
                                                  have c39b1 : decide (x5_1.size + 1 ≤ 9223372036854775807) = true := decide_eq_true c39
                                                  try have c39b2 : (9223372036854775807 < x5_1.size + 1) = False := eq_false (Nat.not_lt.2 c39)
                                                  have c40b0 := eq_true (of_decide_eq_true (by first | (with_reducible assumption) | assumption) : 0 ≤ x7_1)
                                                  by_cases c41 : x7_1 ≤ (wrap64 (x7_1 + 1))
                                                  · rw [if_pos c41] at H
                                                    have c41b0 := eq_true c41
                                                    have c41b1 : decide (x7_1 ≤ (wrap64 (x7_1 + 1))) = true := decide_eq_true c41
                                                    by_cases c42 : (wrap64 (x7_1 + 1)) ≤ (a0.size : Int)
                                                    · rw [if_pos c42] at H
                                                      have c42b0 := eq_true c42
                                                      have c42b1 : decide ((wrap64 (x7_1 + 1)) ≤ (a0.size : Int)) = true := decide_eq_true c42
                                                      by_cases c43 : (x5_1 ++ (⟨#[92]⟩ : ByteArray)).size + (a0.extract (x7_1 : Int).toNat ((wrap64 (x7_1 + 1)) : Int).toNat).size ≤ 9223372036854775807
                                                      · rw [if_pos c43] at H
                                                        have c43b0 := eq_true c43
                                                        have c43b1 : decide ((x5_1 ++ (⟨#[92]⟩ : ByteArray)).size + (a0.extract (x7_1 : Int).toNat ((wrap64 (x7_1 + 1)) : Int).toNat).size ≤ 9223372036854775807) = true := decide_eq_true c43
                                                        try have c43b2 : (9223372036854775807 < (x5_1 ++ (⟨#[92]⟩ : ByteArray)).size + (a0.extract (x7_1 : Int).toNat ((wrap64 (x7_1 + 1)) : Int).toNat).size) = False := eq_false (Nat.not_lt.2 c43)
                                                        have c44b0 := eq_true (of_decide_eq_true (by first | (with_reducible assumption) | assumption) : 0 ≤ x7_1)
                                                        have c45b0 := eq_true (of_decide_eq_true (by first | (with_reducible assumption) | assumption) : x7_1 ≤ (wrap64 (x7_1 + 1)))
                                                        have c46b0 := eq_true (of_decide_eq_true (by first | (with_reducible assumption) | assumption) : (wrap64 (x7_1 + 1)) ≤ (a0.size : Int))
                                                        by_cases c47 : x6_1.size + (a0.extract (x7_1 : Int).toNat ((wrap64 (x7_1 + 1)) : Int).toNat).size ≤ 9223372036854775807
                                                        · rw [if_pos c47] at H
                                                          have c47b0 := eq_true c47
                                                          have c47b1 : decide (x6_1.size + (a0.extract (x7_1 : Int).toNat ((wrap64 (x7_1 + 1)) : Int).toNat).size ≤ 9223372036854775807) = true := decide_eq_true c47
                                                          try have c47b2 : (9223372036854775807 < x6_1.size + (a0.extract (x7_1 : Int).toNat ((wrap64 (x7_1 + 1)) : Int).toNat).size) = False := eq_false (Nat.not_lt.2 c47)
                                                          have H' := Aside0.mk H
                                                          clear H
                                                          have p9 : 0 ≤ (x7_1 : Int) := of_decide_eq_true (by first | (with_reducible assumption) | assumption)
                                                          have q9 : x7_1 < (a0.size : Int) := of_decide_eq_true (by first | (with_reducible assumption) | assumption)
                                                          have hx9 := bt_at a0 x7_1
                                                          replace p9 := eq_true p9
                                                          replace q9 := eq_true q9
                                                          have hw8c_ : ∀ n_ : Int, (n_ % 256).tmod 8 = n_ % 256 % 8 := fun n_ => Int.tmod_eq_emod_of_nonneg (by omega)
                                                          have hw8d_ : (ji16 + 1) % 256 = ji16 + 1 := by omega
                                                          go_wp2
                                                          repeat (go_quiet (fail); try go_wp2)
                                                          go_roundg k1
                                                          case measure => have := HK1.out; omega
                                                          case rel => exact ⟨((((x4_1 ++ (⟨#[92]⟩ : ByteArray)) ++ ((⟨#[48, 49, 50, 51, 52, 53, 54, 55]⟩ : ByteArray).extract ((ji11) : Int).toNat ((((ji11) + 1) % 256) : Int).toNat)) ++ ((⟨#[48, 49, 50, 51, 52, 53, 54, 55]⟩ : ByteArray).extract ((ji16) : Int).toNat (((ji16) + 1) : Int).toNat)) ++ ((⟨#[48, 49, 50, 51, 52, 53, 54, 55]⟩ : ByteArray).extract ((ji21) : Int).toNat ((((ji21) + 1) % 256) : Int).toNat)), ((x5_1 ++ (⟨#[92]⟩ : ByteArray)) ++ (a0.extract (x7_1 : Int).toNat ((wrap64 (x7_1 + 1)) : Int).toNat)), (x6_1 ++ (a0.extract (x7_1 : Int).toNat ((wrap64 (x7_1 + 1)) : Int).toNat)), (wrap64 (x7_1 + 1)), (by first | rfl | (simp; done) | (simp only [← hji11, ← hji16, ← hji21] <;> (first | rfl | simp)) | (simp [*]; done)), (by first | rfl | (simp; done) | (simp [*]; done)), (by first | rfl | (simp; done) | (simp [*]; done)), (by first | rfl | (simp; done) | (simp [*]; done)), H', ⟨by have := HK1.out; omega⟩, ⟨by repeat (first | (with_reducible first | exact HB.out | apply below_alloc | apply pw_below_drewN | apply below_drew1) | exact HB.out)⟩⟩
                                                        · rw [if_neg c47] at H
                                                          exact absurd H (by simp)
                                                      · rw [if_neg c43] at H
                                                        exact absurd H (by simp)
                                                    · rw [if_neg c42] at H
                                                      exact absurd H (by simp)
                                                  · rw [if_neg c41] at H
                                                    exact absurd H (by simp)
                                                · rw [if_neg c39] at H
                                                  exact absurd H (by simp)
                                              · rw [if_neg c38] at H
                                                have c38b0 : decide ((bt a0 x7_1) ≤ 90) = false := decide_eq_false c38
                                                clear c38
                                                have H' := Aside0.mk H
                                                clear H
                                                have p9 : 0 ≤ (x7_1 : Int) := of_decide_eq_true (by first | (with_reducible assumption) | assumption)
                                                have q9 : x7_1 < (a0.size : Int) := of_decide_eq_true (by first | (with_reducible assumption) | assumption)
                                                have hx9 := bt_at a0 x7_1
                                                replace p9 := eq_true p9
                                                replace q9 := eq_true q9
                                                have hw8c_ : ∀ n_ : Int, (n_ % 256).tmod 8 = n_ % 256 % 8 := fun n_ => Int.tmod_eq_emod_of_nonneg (by omega)
                                                have hw8d_ : (ji16 + 1) % 256 = ji16 + 1 := by omega
                                                go_wp2
                                                repeat (go_quiet (fail); try go_wp2)
                                                go_roundg k1
                                                case measure => have := HK1.out; omega
                                                case rel => exact ⟨((((x4_1 ++ (⟨#[92]⟩ : ByteArray)) ++ ((⟨#[48, 49, 50, 51, 52, 53, 54, 55]⟩ : ByteArray).extract ((ji11) : Int).toNat ((((ji11) + 1) % 256) : Int).toNat)) ++ ((⟨#[48, 49, 50, 51, 52, 53, 54, 55]⟩ : ByteArray).extract ((ji16) : Int).toNat (((ji16) + 1) : Int).toNat)) ++ ((⟨#[48, 49, 50, 51, 52, 53, 54, 55]⟩ : ByteArray).extract ((ji21) : Int).toNat ((((ji21) + 1) % 256) : Int).toNat)), (x5_1), (x6_1), (wrap64 (x7_1 + 1)), (by first | rfl | (simp; done) | (simp only [← hji11, ← hji16, ← hji21] <;> (first | rfl | simp)) | (simp [*]; done)), (by first | rfl | (simp; done) | (simp [*]; done)), (by first | rfl | (simp; done) | (simp [*]; done)), (by first | rfl | (simp; done) | (simp [*]; done)), H', ⟨by have := HK1.out; omega⟩, ⟨by repeat (first | (with_reducible first | exact HB.out | apply below_alloc | apply pw_below_drewN | apply below_drew1) | exact HB.out)⟩⟩
                                            · rw [if_neg c37] at H
                                              have c37b0 : decide (65 ≤ (bt a0 x7_1)) = false := decide_eq_false c37
                                              clear c37
                                              have H' := Aside0.mk H
                                              clear H
                                              have p9 : 0 ≤ (x7_1 : Int) := of_decide_eq_true (by first | (with_reducible assumption) | assumption)
                                              have q9 : x7_1 < (a0.size : Int) := of_decide_eq_true (by first | (with_reducible assumption) | assumption)
                                              have hx9 := bt_at a0 x7_1
                                              replace p9 := eq_true p9
                                              replace q9 := eq_true q9
                                              have hw8c_ : ∀ n_ : Int, (n_ % 256).tmod 8 = n_ % 256 % 8 := fun n_ => Int.tmod_eq_emod_of_nonneg (by omega)
                                              have hw8d_ : (ji16 + 1) % 256 = ji16 + 1 := by omega
                                              go_wp2
                                              repeat (go_quiet (fail); try go_wp2)
                                              go_roundg k1
                                              case measure => have := HK1.out; omega
                                              case rel => exact ⟨((((x4_1 ++ (⟨#[92]⟩ : ByteArray)) ++ ((⟨#[48, 49, 50, 51, 52, 53, 54, 55]⟩ : ByteArray).extract ((ji11) : Int).toNat ((((ji11) + 1) % 256) : Int).toNat)) ++ ((⟨#[48, 49, 50, 51, 52, 53, 54, 55]⟩ : ByteArray).extract ((ji16) : Int).toNat (((ji16) + 1) : Int).toNat)) ++ ((⟨#[48, 49, 50, 51, 52, 53, 54, 55]⟩ : ByteArray).extract ((ji21) : Int).toNat ((((ji21) + 1) % 256) : Int).toNat)), (x5_1), (x6_1), (wrap64 (x7_1 + 1)), (by first | rfl | (simp; done) | (simp only [← hji11, ← hji16, ← hji21] <;> (first | rfl | simp)) | (simp [*]; done)), (by first | rfl | (simp; done) | (simp [*]; done)), (by first | rfl | (simp; done) | (simp [*]; done)), (by first | rfl | (simp; done) | (simp [*]; done)), H', ⟨by have := HK1.out; omega⟩, ⟨by repeat (first | (with_reducible first | exact HB.out | apply below_alloc | apply pw_below_drewN | apply below_drew1) | exact HB.out)⟩⟩
                                        · rw [if_neg c26] at H
                                          have c26b0 : decide (117 ≤ (bt a0 x7_1)) = false := decide_eq_false c26
                                          clear c26
                                          by_cases c48 : (bt a0 x7_1) ≥ 65
                                          · rw [if_pos c48] at H
                                            have c48b0 : decide (65 ≤ (bt a0 x7_1)) = true := decide_eq_true c48
                                            clear c48
                                            by_cases c49 : (bt a0 x7_1) ≤ 90
                                            · rw [if_pos c49] at H
                                              have c49b0 : decide ((bt a0 x7_1) ≤ 90) = true := decide_eq_true c49
                                              clear c49
                                              by_cases c50 : x5_1.size + 1 ≤ 9223372036854775807
                                              · rw [if_pos c50] at H
                                                have c50b0 := eq_true c50
                                                have c50b1 : decide (x5_1.size + 1 ≤ 9223372036854775807) = true := decide_eq_true c50
                                                try have c50b2 : (9223372036854775807 < x5_1.size + 1) = False := eq_false (Nat.not_lt.2 c50)
                                                have c51b0 := eq_true (of_decide_eq_true (by first | (with_reducible assumption) | assumption) : 0 ≤ x7_1)
                                                by_cases c52 : x7_1 ≤ (wrap64 (x7_1 + 1))
                                                · rw [if_pos c52] at H
                                                  have c52b0 := eq_true c52
                                                  have c52b1 : decide (x7_1 ≤ (wrap64 (x7_1 + 1))) = true := decide_eq_true c52
                                                  by_cases c53 : (wrap64 (x7_1 + 1)) ≤ (a0.size : Int)
                                                  · rw [if_pos c53] at H
                                                    have c53b0 := eq_true c53
                                                    have c53b1 : decide ((wrap64 (x7_1 + 1)) ≤ (a0.size : Int)) = true := decide_eq_true c53
                                                    by_cases c54 : (x5_1 ++ (⟨#[92]⟩ : ByteArray)).size + (a0.extract (x7_1 : Int).toNat ((wrap64 (x7_1 + 1)) : Int).toNat).size ≤ 9223372036854775807
                                                    · rw [if_pos c54] at H
                                                      have c54b0 := eq_true c54
                                                      have c54b1 : decide ((x5_1 ++ (⟨#[92]⟩ : ByteArray)).size + (a0.extract (x7_1 : Int).toNat ((wrap64 (x7_1 + 1)) : Int).toNat).size ≤ 9223372036854775807) = true := decide_eq_true c54
                                                      try have c54b2 : (9223372036854775807 < (x5_1 ++ (⟨#[92]⟩ : ByteArray)).size + (a0.extract (x7_1 : Int).toNat ((wrap64 (x7_1 + 1)) : Int).toNat).size) = False := eq_false (Nat.not_lt.2 c54)
                                                      have c55b0 := eq_true (of_decide_eq_true (by first | (with_reducible assumption) | assumption) : 0 ≤ x7_1)
                                                      have c56b0 := eq_true (of_decide_eq_true (by first | (with_reducible assumption) | assumption) : x7_1 ≤ (wrap64 (x7_1 + 1)))
                                                      have c57b0 := eq_true (of_decide_eq_true (by first | (with_reducible assumption) | assumption) : (wrap64 (x7_1 + 1)) ≤ (a0.size : Int))
                                                      by_cases c58 : x6_1.size + (a0.extract (x7_1 : Int).toNat ((wrap64 (x7_1 + 1)) : Int).toNat).size ≤ 9223372036854775807
                                                      · rw [if_pos c58] at H
                                                        have c58b0 := eq_true c58
                                                        have c58b1 : decide (x6_1.size + (a0.extract (x7_1 : Int).toNat ((wrap64 (x7_1 + 1)) : Int).toNat).size ≤ 9223372036854775807) = true := decide_eq_true c58
                                                        try have c58b2 : (9223372036854775807 < x6_1.size + (a0.extract (x7_1 : Int).toNat ((wrap64 (x7_1 + 1)) : Int).toNat).size) = False := eq_false (Nat.not_lt.2 c58)
                                                        have H' := Aside0.mk H
                                                        clear H
                                                        have p9 : 0 ≤ (x7_1 : Int) := of_decide_eq_true (by first | (with_reducible assumption) | assumption)
                                                        have q9 : x7_1 < (a0.size : Int) := of_decide_eq_true (by first | (with_reducible assumption) | assumption)
                                                        have hx9 := bt_at a0 x7_1
                                                        replace p9 := eq_true p9
                                                        replace q9 := eq_true q9
                                                        have hw8c_ : ∀ n_ : Int, (n_ % 256).tmod 8 = n_ % 256 % 8 := fun n_ => Int.tmod_eq_emod_of_nonneg (by omega)
                                                        have hw8d_ : (ji16 + 1) % 256 = ji16 + 1 := by omega
                                                        go_wp2
                                                        repeat (go_quiet (fail); try go_wp2)
                                                        go_roundg k1
                                                        case measure => have := HK1.out; omega
                                                        case rel => exact ⟨((((x4_1 ++ (⟨#[92]⟩ : ByteArray)) ++ ((⟨#[48, 49, 50, 51, 52, 53, 54, 55]⟩ : ByteArray).extract ((ji11) : Int).toNat ((((ji11) + 1) % 256) : Int).toNat)) ++ ((⟨#[48, 49, 50, 51, 52, 53, 54, 55]⟩ : ByteArray).extract ((ji16) : Int).toNat (((ji16) + 1) : Int).toNat)) ++ ((⟨#[48, 49, 50, 51, 52, 53, 54, 55]⟩ : ByteArray).extract ((ji21) : Int).toNat ((((ji21) + 1) % 256) : Int).toNat)), ((x5_1 ++ (⟨#[92]⟩ : ByteArray)) ++ (a0.extract (x7_1 : Int).toNat ((wrap64 (x7_1 + 1)) : Int).toNat)), (x6_1 ++ (a0.extract (x7_1 : Int).toNat ((wrap64 (x7_1 + 1)) : Int).toNat)), (wrap64 (x7_1 + 1)), (by first | rfl | (simp; done) | (simp only [← hji11, ← hji16, ← hji21] <;> (first | rfl | simp)) | (simp [*]; done)), (by first | rfl | (simp; done) | (simp [*]; done)), (by first | rfl | (simp; done) | (simp [*]; done)), (by first | rfl | (simp; done) | (simp [*]; done)), H', ⟨by have := HK1.out; omega⟩, ⟨by repeat (first | (with_reducible first | exact HB.out | apply below_alloc | apply pw_below_drewN | apply below_drew1) | exact HB.out)⟩⟩
                                                      · rw [if_neg c58] at H
                                                        exact absurd H (by simp)
                                                    · rw [if_neg c54] at H
                                                      exact absurd H (by simp)
                                                  · rw [if_neg c53] at H
                                                    exact absurd H (by simp)
                                                · rw [if_neg c52] at H
                                                  exact absurd H (by simp)
                                              · rw [if_neg c50] at H
                                                exact absurd H (by simp)
                                            · rw [if_neg c49] at H
                                              have c49b0 : decide ((bt a0 x7_1) ≤ 90) = false := decide_eq_false c49
                                              clear c49
                                              have H' := Aside0.mk H
                                              clear H
                                              have p9 : 0 ≤ (x7_1 : Int) := of_decide_eq_true (by first | (with_reducible assumption) | assumption)
                                              have q9 : x7_1 < (a0.size : Int) := of_decide_eq_true (by first | (with_reducible assumption) | assumption)
                                              have hx9 := bt_at a0 x7_1
                                              replace p9 := eq_true p9
                                              replace q9 := eq_true q9
                                              have hw8c_ : ∀ n_ : Int, (n_ % 256).tmod 8 = n_ % 256 % 8 := fun n_ => Int.tmod_eq_emod_of_nonneg (by omega)
                                              have hw8d_ : (ji16 + 1) % 256 = ji16 + 1 := by omega
                                              go_wp2
                                              repeat (go_quiet (fail); try go_wp2)
                                              go_roundg k1
                                              case measure => have := HK1.out; omega
                                              case rel => exact ⟨((((x4_1 ++ (⟨#[92]⟩ : ByteArray)) ++ ((⟨#[48, 49, 50, 51, 52, 53, 54, 55]⟩ : ByteArray).extract ((ji11) : Int).toNat ((((ji11) + 1) % 256) : Int).toNat)) ++ ((⟨#[48, 49, 50, 51, 52, 53, 54, 55]⟩ : ByteArray).extract ((ji16) : Int).toNat (((ji16) + 1) : Int).toNat)) ++ ((⟨#[48, 49, 50, 51, 52, 53, 54, 55]⟩ : ByteArray).extract ((ji21) : Int).toNat ((((ji21) + 1) % 256) : Int).toNat)), (x5_1), (x6_1), (wrap64 (x7_1 + 1)), (by first | rfl | (simp; done) | (simp only [← hji11, ← hji16, ← hji21] <;> (first | rfl | simp)) | (simp [*]; done)), (by first | rfl | (simp; done) | (simp [*]; done)), (by first | rfl | (simp; done) | (simp [*]; done)), (by first | rfl | (simp; done) | (simp [*]; done)), H', ⟨by have := HK1.out; omega⟩, ⟨by repeat (first | (with_reducible first | exact HB.out | apply below_alloc | apply pw_below_drewN | apply below_drew1) | exact HB.out)⟩⟩
                                          · rw [if_neg c48] at H
                                            have c48b0 : decide (65 ≤ (bt a0 x7_1)) = false := decide_eq_false c48
                                            clear c48
                                            have H' := Aside0.mk H
                                            clear H
                                            have p9 : 0 ≤ (x7_1 : Int) := of_decide_eq_true (by first | (with_reducible assumption) | assumption)
                                            have q9 : x7_1 < (a0.size : Int) := of_decide_eq_true (by first | (with_reducible assumption) | assumption)
                                            have hx9 := bt_at a0 x7_1
                                            replace p9 := eq_true p9
                                            replace q9 := eq_true q9
                                            have hw8c_ : ∀ n_ : Int, (n_ % 256).tmod 8 = n_ % 256 % 8 := fun n_ => Int.tmod_eq_emod_of_nonneg (by omega)
                                            have hw8d_ : (ji16 + 1) % 256 = ji16 + 1 := by omega
                                            go_wp2
                                            repeat (go_quiet (fail); try go_wp2)
                                            go_roundg k1
                                            case measure => have := HK1.out; omega
                                            case rel => exact ⟨((((x4_1 ++ (⟨#[92]⟩ : ByteArray)) ++ ((⟨#[48, 49, 50, 51, 52, 53, 54, 55]⟩ : ByteArray).extract ((ji11) : Int).toNat ((((ji11) + 1) % 256) : Int).toNat)) ++ ((⟨#[48, 49, 50, 51, 52, 53, 54, 55]⟩ : ByteArray).extract ((ji16) : Int).toNat (((ji16) + 1) : Int).toNat)) ++ ((⟨#[48, 49, 50, 51, 52, 53, 54, 55]⟩ : ByteArray).extract ((ji21) : Int).toNat ((((ji21) + 1) % 256) : Int).toNat)), (x5_1), (x6_1), (wrap64 (x7_1 + 1)), (by first | rfl | (simp; done) | (simp only [← hji11, ← hji16, ← hji21] <;> (first | rfl | simp)) | (simp [*]; done)), (by first | rfl | (simp; done) | (simp [*]; done)), (by first | rfl | (simp; done) | (simp [*]; done)), (by first | rfl | (simp; done) | (simp [*]; done)), H', ⟨by have := HK1.out; omega⟩, ⟨by repeat (first | (with_reducible first | exact HB.out | apply below_alloc | apply pw_below_drewN | apply below_drew1) | exact HB.out)⟩⟩
                                      · rw [if_neg c25] at H
                                        exact absurd H (by simp)
                                    · rw [if_neg c24] at H
                                      exact absurd H (by simp)
                                  · rw [if_neg c23] at H
                                    exact absurd H (by simp)
                                · rw [if_neg c22] at H
                                  exact absurd H (by simp)
                              · rw [if_neg c20] at H
                                exact absurd H (by simp)
                            · rw [if_neg c19] at H
                              exact absurd H (by simp)
                          · rw [if_neg c18] at H
                            exact absurd H (by simp)
                        · rw [if_neg c17] at H
                          exact absurd H (by simp)
                      · rw [if_neg c15] at H
                        exact absurd H (by simp)
                    · rw [if_neg c14] at H
                      exact absurd H (by simp)
                  · rw [if_neg c13] at H
                    exact absurd H (by simp)
                · rw [if_neg c12] at H
                  exact absurd H (by simp)
              · rw [if_neg c10] at H
                exact absurd H (by simp)
            · rw [if_neg c8] at H
              exact absurd H (by simp)
          · rw [if_neg c7] at H
            have c7b0 : decide (x7_1 < (a0.size : Int)) = false := decide_eq_false c7
            clear c7
            by_cases c59 : 1 + x4_1.size ≤ 9223372036854775807
            · rw [if_pos c59] at H
              have c59b0 := eq_true c59
              have c59b1 : decide (1 + x4_1.size ≤ 9223372036854775807) = true := decide_eq_true c59
              try have c59b2 : (9223372036854775807 < 1 + x4_1.size) = False := eq_false (Nat.not_lt.2 c59)
              by_cases c60 : ((⟨#[40]⟩ : ByteArray) ++ x4_1).size + 1 ≤ 9223372036854775807
              · rw [if_pos c60] at H
                have c60b0 := eq_true c60
                have c60b1 : decide (((⟨#[40]⟩ : ByteArray) ++ x4_1).size + 1 ≤ 9223372036854775807) = true := decide_eq_true c60
                have hsum60_ : (9223372036854775807 < 1 + x4_1.size + 1) = False := eq_false (Nat.not_lt.2 (by have h_ := c60; rw [ByteArray.size_append] at h_; exact h_))
                try have c60b2 : (9223372036854775807 < ((⟨#[40]⟩ : ByteArray) ++ x4_1).size + 1) = False := eq_false (Nat.not_lt.2 c60)
                replace H := Option.bind_eq_some_iff.mp H
                obtain ⟨⟨t108, t109, t110⟩, A610, H⟩ := H
                replace H : (if 1 + x5_1.size ≤ 9223372036854775807 then (if ((⟨#[40]⟩ : ByteArray) ++ x5_1).size + 1 ≤ 9223372036854775807 then ((text_Literal.f (((⟨#[40]⟩ : ByteArray) ++ x5_1) ++ (⟨#[41]⟩ : ByteArray)) 0).bind fun bt111 => (if t110 = 0 then (if t108.toList = a0.toList then (if t109 = (wrap64 ((x4_1.size : Int) + 2)) then (if bt111.2.2 = 0 then (if bt111.1.toList = x6_1.toList then (some (bt111.2.1 == (wrap64 ((x5_1.size : Int) + 2)))) else (some false)) else (some false)) else (some false)) else (some false)) else (some false))) else (none)) else (none)) = some r := H
                have A61 := Aside0.mk A610
                clear A610
                by_cases c62 : 1 + x5_1.size ≤ 9223372036854775807
                · rw [if_pos c62] at H
                  have c62b0 := eq_true c62
                  have c62b1 : decide (1 + x5_1.size ≤ 9223372036854775807) = true := decide_eq_true c62
                  try have c62b2 : (9223372036854775807 < 1 + x5_1.size) = False := eq_false (Nat.not_lt.2 c62)
                  by_cases c63 : ((⟨#[40]⟩ : ByteArray) ++ x5_1).size + 1 ≤ 9223372036854775807
                  · rw [if_pos c63] at H
                    have c63b0 := eq_true c63
                    have c63b1 : decide (((⟨#[40]⟩ : ByteArray) ++ x5_1).size + 1 ≤ 9223372036854775807) = true := decide_eq_true c63
                    have hsum63_ : (9223372036854775807 < 1 + x5_1.size + 1) = False := eq_false (Nat.not_lt.2 (by have h_ := c63; rw [ByteArray.size_append] at h_; exact h_))
                    try have c63b2 : (9223372036854775807 < ((⟨#[40]⟩ : ByteArray) ++ x5_1).size + 1) = False := eq_false (Nat.not_lt.2 c63)
                    replace H := Option.bind_eq_some_iff.mp H
                    obtain ⟨⟨t111, t112, t113⟩, A640, H⟩ := H
                    replace H : (if t110 = 0 then (if t108.toList = a0.toList then (if t109 = (wrap64 ((x4_1.size : Int) + 2)) then (if t113 = 0 then (if t111.toList = x6_1.toList then (some (t112 == (wrap64 ((x5_1.size : Int) + 2)))) else (some false)) else (some false)) else (some false)) else (some false)) else (some false)) = some r := H
                    have A64 := Aside0.mk A640
                    clear A640
                    by_cases c65 : t110 = 0
                    · rw [if_pos c65] at H
                      have c65b0 : (t110 == 0) = true := beq_iff_eq.mpr c65
                      have c65b1 : (t110 != 0) = false := bne_eq_false_iff_eq.mpr c65
                      clear c65
                      by_cases c66 : t108.toList = a0.toList
                      · rw [if_pos c66] at H
                        have c66b0 : (t108.toList == a0.toList) = true := beq_iff_eq.mpr c66
                        have c66b1 : (t108.toList != a0.toList) = false := bne_eq_false_iff_eq.mpr c66
                        clear c66
                        by_cases c67 : t109 = (wrap64 ((x4_1.size : Int) + 2))
                        · rw [if_pos c67] at H
                          have c67b0 : (t109 == (wrap64 ((x4_1.size : Int) + 2))) = true := beq_iff_eq.mpr c67
                          have c67b1 : (t109 != (wrap64 ((x4_1.size : Int) + 2))) = false := bne_eq_false_iff_eq.mpr c67
                          clear c67
                          by_cases c68 : t113 = 0
                          · rw [if_pos c68] at H
                            have c68b0 : (t113 == 0) = true := beq_iff_eq.mpr c68
                            have c68b1 : (t113 != 0) = false := bne_eq_false_iff_eq.mpr c68
                            clear c68
                            by_cases c69 : t111.toList = x6_1.toList
                            · rw [if_pos c69] at H
                              have c69b0 : (t111.toList == x6_1.toList) = true := beq_iff_eq.mpr c69
                              have c69b1 : (t111.toList != x6_1.toList) = false := bne_eq_false_iff_eq.mpr c69
                              clear c69
                              obtain rfl := Option.some.inj H
                              go_wp2_with (first | (go_at_call 9; (with_reducible refine (text_Literal.calls (((⟨#[40]⟩ : ByteArray) ++ x4_1) ++ (⟨#[41]⟩ : ByteArray)) 0 t108 t109 t110 _ A61.out).mono ?_); rintro e w70 ⟨rfl, hb⟩; have n0_ := Aside0.mk (below_step (by repeat (first | (with_reducible first | exact HB.out | apply below_alloc | apply pw_below_drewN | apply below_drew1) | exact HB.out)) hb); clear HB; have HB := n0_; clear n0_; (try clear hb); (try clear hb2); (try clear hk); (try clear hi)) | (go_at_call 9; (with_reducible refine (text_Literal.calls (((⟨#[40]⟩ : ByteArray) ++ x5_1) ++ (⟨#[41]⟩ : ByteArray)) 0 t111 t112 t113 _ A64.out).mono ?_); rintro e w71 ⟨rfl, hb⟩; have n0_ := Aside0.mk (below_step (by repeat (first | (with_reducible first | exact HB.out | apply below_alloc | apply pw_below_drewN | apply below_drew1) | exact HB.out)) hb); clear HB; have HB := n0_; clear n0_; (try clear hb); (try clear hb2); (try clear hk); (try clear hi)))
                              repeat (go_quiet (first | (go_at_call 9; (with_reducible refine (text_Literal.calls (((⟨#[40]⟩ : ByteArray) ++ x4_1) ++ (⟨#[41]⟩ : ByteArray)) 0 t108 t109 t110 _ A61.out).mono ?_); rintro e w70 ⟨rfl, hb⟩; have n0_ := Aside0.mk (below_step (by repeat (first | (with_reducible first | exact HB.out | apply below_alloc | apply pw_below_drewN | apply below_drew1) | exact HB.out)) hb); clear HB; have HB := n0_; clear n0_; (try clear hb); (try clear hb2); (try clear hk); (try clear hi)) | (go_at_call 9; (with_reducible refine (text_Literal.calls (((⟨#[40]⟩ : ByteArray) ++ x5_1) ++ (⟨#[41]⟩ : ByteArray)) 0 t111 t112 t113 _ A64.out).mono ?_); rintro e w71 ⟨rfl, hb⟩; have n0_ := Aside0.mk (below_step (by repeat (first | (with_reducible first | exact HB.out | apply below_alloc | apply pw_below_drewN | apply below_drew1) | exact HB.out)) hb); clear HB; have HB := n0_; clear n0_; (try clear hb); (try clear hb2); (try clear hk); (try clear hi))); try go_wp2_with (first | (go_at_call 9; (with_reducible refine (text_Literal.calls (((⟨#[40]⟩ : ByteArray) ++ x4_1) ++ (⟨#[41]⟩ : ByteArray)) 0 t108 t109 t110 _ A61.out).mono ?_); rintro e w70 ⟨rfl, hb⟩; have n0_ := Aside0.mk (below_step (by repeat (first | (with_reducible first | exact HB.out | apply below_alloc | apply pw_below_drewN | apply below_drew1) | exact HB.out)) hb); clear HB; have HB := n0_; clear n0_; (try clear hb); (try clear hb2); (try clear hk); (try clear hi)) | (go_at_call 9; (with_reducible refine (text_Literal.calls (((⟨#[40]⟩ : ByteArray) ++ x5_1) ++ (⟨#[41]⟩ : ByteArray)) 0 t111 t112 t113 _ A64.out).mono ?_); rintro e w71 ⟨rfl, hb⟩; have n0_ := Aside0.mk (below_step (by repeat (first | (with_reducible first | exact HB.out | apply below_alloc | apply pw_below_drewN | apply below_drew1) | exact HB.out)) hb); clear HB; have HB := n0_; clear n0_; (try clear hb); (try clear hb2); (try clear hk); (try clear hi))))
                              go_ret
                              exact ⟨by first | rfl | (simp [errW_none, errW_some] <;> rfl) | (simp [*, errW_none, errW_some] <;> rfl) | (rw [IntWalk.wrap64_in _ ⟨by omega, by omega⟩]), by repeat (first | (with_reducible first | exact HB.out | apply below_alloc | apply pw_below_drewN | apply below_drew1) | exact HB.out)⟩
                            · rw [if_neg c69] at H
                              have c69b0 : (t111.toList == x6_1.toList) = false := beq_eq_false_iff_ne.mpr c69
                              have c69b1 : (t111.toList != x6_1.toList) = true := bne_iff_ne.mpr c69
                              obtain rfl := Option.some.inj H
                              go_wp2_with (first | (go_at_call 9; (with_reducible refine (text_Literal.calls (((⟨#[40]⟩ : ByteArray) ++ x4_1) ++ (⟨#[41]⟩ : ByteArray)) 0 t108 t109 t110 _ A61.out).mono ?_); rintro e w72 ⟨rfl, hb⟩; have n0_ := Aside0.mk (below_step (by repeat (first | (with_reducible first | exact HB.out | apply below_alloc | apply pw_below_drewN | apply below_drew1) | exact HB.out)) hb); clear HB; have HB := n0_; clear n0_; (try clear hb); (try clear hb2); (try clear hk); (try clear hi)) | (go_at_call 9; (with_reducible refine (text_Literal.calls (((⟨#[40]⟩ : ByteArray) ++ x5_1) ++ (⟨#[41]⟩ : ByteArray)) 0 t111 t112 t113 _ A64.out).mono ?_); rintro e w73 ⟨rfl, hb⟩; have n0_ := Aside0.mk (below_step (by repeat (first | (with_reducible first | exact HB.out | apply below_alloc | apply pw_below_drewN | apply below_drew1) | exact HB.out)) hb); clear HB; have HB := n0_; clear n0_; (try clear hb); (try clear hb2); (try clear hk); (try clear hi)))
                              repeat (go_quiet (first | (go_at_call 9; (with_reducible refine (text_Literal.calls (((⟨#[40]⟩ : ByteArray) ++ x4_1) ++ (⟨#[41]⟩ : ByteArray)) 0 t108 t109 t110 _ A61.out).mono ?_); rintro e w72 ⟨rfl, hb⟩; have n0_ := Aside0.mk (below_step (by repeat (first | (with_reducible first | exact HB.out | apply below_alloc | apply pw_below_drewN | apply below_drew1) | exact HB.out)) hb); clear HB; have HB := n0_; clear n0_; (try clear hb); (try clear hb2); (try clear hk); (try clear hi)) | (go_at_call 9; (with_reducible refine (text_Literal.calls (((⟨#[40]⟩ : ByteArray) ++ x5_1) ++ (⟨#[41]⟩ : ByteArray)) 0 t111 t112 t113 _ A64.out).mono ?_); rintro e w73 ⟨rfl, hb⟩; have n0_ := Aside0.mk (below_step (by repeat (first | (with_reducible first | exact HB.out | apply below_alloc | apply pw_below_drewN | apply below_drew1) | exact HB.out)) hb); clear HB; have HB := n0_; clear n0_; (try clear hb); (try clear hb2); (try clear hk); (try clear hi))); try go_wp2_with (first | (go_at_call 9; (with_reducible refine (text_Literal.calls (((⟨#[40]⟩ : ByteArray) ++ x4_1) ++ (⟨#[41]⟩ : ByteArray)) 0 t108 t109 t110 _ A61.out).mono ?_); rintro e w72 ⟨rfl, hb⟩; have n0_ := Aside0.mk (below_step (by repeat (first | (with_reducible first | exact HB.out | apply below_alloc | apply pw_below_drewN | apply below_drew1) | exact HB.out)) hb); clear HB; have HB := n0_; clear n0_; (try clear hb); (try clear hb2); (try clear hk); (try clear hi)) | (go_at_call 9; (with_reducible refine (text_Literal.calls (((⟨#[40]⟩ : ByteArray) ++ x5_1) ++ (⟨#[41]⟩ : ByteArray)) 0 t111 t112 t113 _ A64.out).mono ?_); rintro e w73 ⟨rfl, hb⟩; have n0_ := Aside0.mk (below_step (by repeat (first | (with_reducible first | exact HB.out | apply below_alloc | apply pw_below_drewN | apply below_drew1) | exact HB.out)) hb); clear HB; have HB := n0_; clear n0_; (try clear hb); (try clear hb2); (try clear hk); (try clear hi))))
                              go_ret
                              exact ⟨by first | rfl | (simp [errW_none, errW_some] <;> rfl) | (simp [*, errW_none, errW_some] <;> rfl) | (rw [IntWalk.wrap64_in _ ⟨by omega, by omega⟩]), by repeat (first | (with_reducible first | exact HB.out | apply below_alloc | apply pw_below_drewN | apply below_drew1) | exact HB.out)⟩
                          · rw [if_neg c68] at H
                            have c68b0 : (t113 == 0) = false := beq_eq_false_iff_ne.mpr c68
                            have c68b1 : (t113 != 0) = true := bne_iff_ne.mpr c68
                            obtain rfl := Option.some.inj H
                            go_wp2_with (first | (go_at_call 9; (with_reducible refine (text_Literal.calls (((⟨#[40]⟩ : ByteArray) ++ x4_1) ++ (⟨#[41]⟩ : ByteArray)) 0 t108 t109 t110 _ A61.out).mono ?_); rintro e w74 ⟨rfl, hb⟩; have n0_ := Aside0.mk (below_step (by repeat (first | (with_reducible first | exact HB.out | apply below_alloc | apply pw_below_drewN | apply below_drew1) | exact HB.out)) hb); clear HB; have HB := n0_; clear n0_; (try clear hb); (try clear hb2); (try clear hk); (try clear hi)) | (go_at_call 9; (with_reducible refine (text_Literal.calls (((⟨#[40]⟩ : ByteArray) ++ x5_1) ++ (⟨#[41]⟩ : ByteArray)) 0 t111 t112 t113 _ A64.out).mono ?_); rintro e w75 ⟨rfl, hb⟩; have n0_ := Aside0.mk (below_step (by repeat (first | (with_reducible first | exact HB.out | apply below_alloc | apply pw_below_drewN | apply below_drew1) | exact HB.out)) hb); clear HB; have HB := n0_; clear n0_; (try clear hb); (try clear hb2); (try clear hk); (try clear hi)))
                            repeat (go_quiet (first | (go_at_call 9; (with_reducible refine (text_Literal.calls (((⟨#[40]⟩ : ByteArray) ++ x4_1) ++ (⟨#[41]⟩ : ByteArray)) 0 t108 t109 t110 _ A61.out).mono ?_); rintro e w74 ⟨rfl, hb⟩; have n0_ := Aside0.mk (below_step (by repeat (first | (with_reducible first | exact HB.out | apply below_alloc | apply pw_below_drewN | apply below_drew1) | exact HB.out)) hb); clear HB; have HB := n0_; clear n0_; (try clear hb); (try clear hb2); (try clear hk); (try clear hi)) | (go_at_call 9; (with_reducible refine (text_Literal.calls (((⟨#[40]⟩ : ByteArray) ++ x5_1) ++ (⟨#[41]⟩ : ByteArray)) 0 t111 t112 t113 _ A64.out).mono ?_); rintro e w75 ⟨rfl, hb⟩; have n0_ := Aside0.mk (below_step (by repeat (first | (with_reducible first | exact HB.out | apply below_alloc | apply pw_below_drewN | apply below_drew1) | exact HB.out)) hb); clear HB; have HB := n0_; clear n0_; (try clear hb); (try clear hb2); (try clear hk); (try clear hi))); try go_wp2_with (first | (go_at_call 9; (with_reducible refine (text_Literal.calls (((⟨#[40]⟩ : ByteArray) ++ x4_1) ++ (⟨#[41]⟩ : ByteArray)) 0 t108 t109 t110 _ A61.out).mono ?_); rintro e w74 ⟨rfl, hb⟩; have n0_ := Aside0.mk (below_step (by repeat (first | (with_reducible first | exact HB.out | apply below_alloc | apply pw_below_drewN | apply below_drew1) | exact HB.out)) hb); clear HB; have HB := n0_; clear n0_; (try clear hb); (try clear hb2); (try clear hk); (try clear hi)) | (go_at_call 9; (with_reducible refine (text_Literal.calls (((⟨#[40]⟩ : ByteArray) ++ x5_1) ++ (⟨#[41]⟩ : ByteArray)) 0 t111 t112 t113 _ A64.out).mono ?_); rintro e w75 ⟨rfl, hb⟩; have n0_ := Aside0.mk (below_step (by repeat (first | (with_reducible first | exact HB.out | apply below_alloc | apply pw_below_drewN | apply below_drew1) | exact HB.out)) hb); clear HB; have HB := n0_; clear n0_; (try clear hb); (try clear hb2); (try clear hk); (try clear hi))))
                            go_ret
                            exact ⟨by first | rfl | (simp [errW_none, errW_some] <;> rfl) | (simp [*, errW_none, errW_some] <;> rfl) | (rw [IntWalk.wrap64_in _ ⟨by omega, by omega⟩]), by repeat (first | (with_reducible first | exact HB.out | apply below_alloc | apply pw_below_drewN | apply below_drew1) | exact HB.out)⟩
                        · rw [if_neg c67] at H
                          have c67b0 : (t109 == (wrap64 ((x4_1.size : Int) + 2))) = false := beq_eq_false_iff_ne.mpr c67
                          have c67b1 : (t109 != (wrap64 ((x4_1.size : Int) + 2))) = true := bne_iff_ne.mpr c67
                          obtain rfl := Option.some.inj H
                          go_wp2_with (first | (go_at_call 9; (with_reducible refine (text_Literal.calls (((⟨#[40]⟩ : ByteArray) ++ x4_1) ++ (⟨#[41]⟩ : ByteArray)) 0 t108 t109 t110 _ A61.out).mono ?_); rintro e w76 ⟨rfl, hb⟩; have n0_ := Aside0.mk (below_step (by repeat (first | (with_reducible first | exact HB.out | apply below_alloc | apply pw_below_drewN | apply below_drew1) | exact HB.out)) hb); clear HB; have HB := n0_; clear n0_; (try clear hb); (try clear hb2); (try clear hk); (try clear hi)) | (go_at_call 9; (with_reducible refine (text_Literal.calls (((⟨#[40]⟩ : ByteArray) ++ x5_1) ++ (⟨#[41]⟩ : ByteArray)) 0 t111 t112 t113 _ A64.out).mono ?_); rintro e w77 ⟨rfl, hb⟩; have n0_ := Aside0.mk (below_step (by repeat (first | (with_reducible first | exact HB.out | apply below_alloc | apply pw_below_drewN | apply below_drew1) | exact HB.out)) hb); clear HB; have HB := n0_; clear n0_; (try clear hb); (try clear hb2); (try clear hk); (try clear hi)))
                          repeat (go_quiet (first | (go_at_call 9; (with_reducible refine (text_Literal.calls (((⟨#[40]⟩ : ByteArray) ++ x4_1) ++ (⟨#[41]⟩ : ByteArray)) 0 t108 t109 t110 _ A61.out).mono ?_); rintro e w76 ⟨rfl, hb⟩; have n0_ := Aside0.mk (below_step (by repeat (first | (with_reducible first | exact HB.out | apply below_alloc | apply pw_below_drewN | apply below_drew1) | exact HB.out)) hb); clear HB; have HB := n0_; clear n0_; (try clear hb); (try clear hb2); (try clear hk); (try clear hi)) | (go_at_call 9; (with_reducible refine (text_Literal.calls (((⟨#[40]⟩ : ByteArray) ++ x5_1) ++ (⟨#[41]⟩ : ByteArray)) 0 t111 t112 t113 _ A64.out).mono ?_); rintro e w77 ⟨rfl, hb⟩; have n0_ := Aside0.mk (below_step (by repeat (first | (with_reducible first | exact HB.out | apply below_alloc | apply pw_below_drewN | apply below_drew1) | exact HB.out)) hb); clear HB; have HB := n0_; clear n0_; (try clear hb); (try clear hb2); (try clear hk); (try clear hi))); try go_wp2_with (first | (go_at_call 9; (with_reducible refine (text_Literal.calls (((⟨#[40]⟩ : ByteArray) ++ x4_1) ++ (⟨#[41]⟩ : ByteArray)) 0 t108 t109 t110 _ A61.out).mono ?_); rintro e w76 ⟨rfl, hb⟩; have n0_ := Aside0.mk (below_step (by repeat (first | (with_reducible first | exact HB.out | apply below_alloc | apply pw_below_drewN | apply below_drew1) | exact HB.out)) hb); clear HB; have HB := n0_; clear n0_; (try clear hb); (try clear hb2); (try clear hk); (try clear hi)) | (go_at_call 9; (with_reducible refine (text_Literal.calls (((⟨#[40]⟩ : ByteArray) ++ x5_1) ++ (⟨#[41]⟩ : ByteArray)) 0 t111 t112 t113 _ A64.out).mono ?_); rintro e w77 ⟨rfl, hb⟩; have n0_ := Aside0.mk (below_step (by repeat (first | (with_reducible first | exact HB.out | apply below_alloc | apply pw_below_drewN | apply below_drew1) | exact HB.out)) hb); clear HB; have HB := n0_; clear n0_; (try clear hb); (try clear hb2); (try clear hk); (try clear hi))))
                          go_ret
                          exact ⟨by first | rfl | (simp [errW_none, errW_some] <;> rfl) | (simp [*, errW_none, errW_some] <;> rfl) | (rw [IntWalk.wrap64_in _ ⟨by omega, by omega⟩]), by repeat (first | (with_reducible first | exact HB.out | apply below_alloc | apply pw_below_drewN | apply below_drew1) | exact HB.out)⟩
                      · rw [if_neg c66] at H
                        have c66b0 : (t108.toList == a0.toList) = false := beq_eq_false_iff_ne.mpr c66
                        have c66b1 : (t108.toList != a0.toList) = true := bne_iff_ne.mpr c66
                        obtain rfl := Option.some.inj H
                        go_wp2_with (first | (go_at_call 9; (with_reducible refine (text_Literal.calls (((⟨#[40]⟩ : ByteArray) ++ x4_1) ++ (⟨#[41]⟩ : ByteArray)) 0 t108 t109 t110 _ A61.out).mono ?_); rintro e w78 ⟨rfl, hb⟩; have n0_ := Aside0.mk (below_step (by repeat (first | (with_reducible first | exact HB.out | apply below_alloc | apply pw_below_drewN | apply below_drew1) | exact HB.out)) hb); clear HB; have HB := n0_; clear n0_; (try clear hb); (try clear hb2); (try clear hk); (try clear hi)) | (go_at_call 9; (with_reducible refine (text_Literal.calls (((⟨#[40]⟩ : ByteArray) ++ x5_1) ++ (⟨#[41]⟩ : ByteArray)) 0 t111 t112 t113 _ A64.out).mono ?_); rintro e w79 ⟨rfl, hb⟩; have n0_ := Aside0.mk (below_step (by repeat (first | (with_reducible first | exact HB.out | apply below_alloc | apply pw_below_drewN | apply below_drew1) | exact HB.out)) hb); clear HB; have HB := n0_; clear n0_; (try clear hb); (try clear hb2); (try clear hk); (try clear hi)))
                        repeat (go_quiet (first | (go_at_call 9; (with_reducible refine (text_Literal.calls (((⟨#[40]⟩ : ByteArray) ++ x4_1) ++ (⟨#[41]⟩ : ByteArray)) 0 t108 t109 t110 _ A61.out).mono ?_); rintro e w78 ⟨rfl, hb⟩; have n0_ := Aside0.mk (below_step (by repeat (first | (with_reducible first | exact HB.out | apply below_alloc | apply pw_below_drewN | apply below_drew1) | exact HB.out)) hb); clear HB; have HB := n0_; clear n0_; (try clear hb); (try clear hb2); (try clear hk); (try clear hi)) | (go_at_call 9; (with_reducible refine (text_Literal.calls (((⟨#[40]⟩ : ByteArray) ++ x5_1) ++ (⟨#[41]⟩ : ByteArray)) 0 t111 t112 t113 _ A64.out).mono ?_); rintro e w79 ⟨rfl, hb⟩; have n0_ := Aside0.mk (below_step (by repeat (first | (with_reducible first | exact HB.out | apply below_alloc | apply pw_below_drewN | apply below_drew1) | exact HB.out)) hb); clear HB; have HB := n0_; clear n0_; (try clear hb); (try clear hb2); (try clear hk); (try clear hi))); try go_wp2_with (first | (go_at_call 9; (with_reducible refine (text_Literal.calls (((⟨#[40]⟩ : ByteArray) ++ x4_1) ++ (⟨#[41]⟩ : ByteArray)) 0 t108 t109 t110 _ A61.out).mono ?_); rintro e w78 ⟨rfl, hb⟩; have n0_ := Aside0.mk (below_step (by repeat (first | (with_reducible first | exact HB.out | apply below_alloc | apply pw_below_drewN | apply below_drew1) | exact HB.out)) hb); clear HB; have HB := n0_; clear n0_; (try clear hb); (try clear hb2); (try clear hk); (try clear hi)) | (go_at_call 9; (with_reducible refine (text_Literal.calls (((⟨#[40]⟩ : ByteArray) ++ x5_1) ++ (⟨#[41]⟩ : ByteArray)) 0 t111 t112 t113 _ A64.out).mono ?_); rintro e w79 ⟨rfl, hb⟩; have n0_ := Aside0.mk (below_step (by repeat (first | (with_reducible first | exact HB.out | apply below_alloc | apply pw_below_drewN | apply below_drew1) | exact HB.out)) hb); clear HB; have HB := n0_; clear n0_; (try clear hb); (try clear hb2); (try clear hk); (try clear hi))))
                        go_ret
                        exact ⟨by first | rfl | (simp [errW_none, errW_some] <;> rfl) | (simp [*, errW_none, errW_some] <;> rfl) | (rw [IntWalk.wrap64_in _ ⟨by omega, by omega⟩]), by repeat (first | (with_reducible first | exact HB.out | apply below_alloc | apply pw_below_drewN | apply below_drew1) | exact HB.out)⟩
                    · rw [if_neg c65] at H
                      have c65b0 : (t110 == 0) = false := beq_eq_false_iff_ne.mpr c65
                      have c65b1 : (t110 != 0) = true := bne_iff_ne.mpr c65
                      obtain rfl := Option.some.inj H
                      go_wp2_with (first | (go_at_call 9; (with_reducible refine (text_Literal.calls (((⟨#[40]⟩ : ByteArray) ++ x4_1) ++ (⟨#[41]⟩ : ByteArray)) 0 t108 t109 t110 _ A61.out).mono ?_); rintro e w80 ⟨rfl, hb⟩; have n0_ := Aside0.mk (below_step (by repeat (first | (with_reducible first | exact HB.out | apply below_alloc | apply pw_below_drewN | apply below_drew1) | exact HB.out)) hb); clear HB; have HB := n0_; clear n0_; (try clear hb); (try clear hb2); (try clear hk); (try clear hi)) | (go_at_call 9; (with_reducible refine (text_Literal.calls (((⟨#[40]⟩ : ByteArray) ++ x5_1) ++ (⟨#[41]⟩ : ByteArray)) 0 t111 t112 t113 _ A64.out).mono ?_); rintro e w81 ⟨rfl, hb⟩; have n0_ := Aside0.mk (below_step (by repeat (first | (with_reducible first | exact HB.out | apply below_alloc | apply pw_below_drewN | apply below_drew1) | exact HB.out)) hb); clear HB; have HB := n0_; clear n0_; (try clear hb); (try clear hb2); (try clear hk); (try clear hi)))
                      repeat (go_quiet (first | (go_at_call 9; (with_reducible refine (text_Literal.calls (((⟨#[40]⟩ : ByteArray) ++ x4_1) ++ (⟨#[41]⟩ : ByteArray)) 0 t108 t109 t110 _ A61.out).mono ?_); rintro e w80 ⟨rfl, hb⟩; have n0_ := Aside0.mk (below_step (by repeat (first | (with_reducible first | exact HB.out | apply below_alloc | apply pw_below_drewN | apply below_drew1) | exact HB.out)) hb); clear HB; have HB := n0_; clear n0_; (try clear hb); (try clear hb2); (try clear hk); (try clear hi)) | (go_at_call 9; (with_reducible refine (text_Literal.calls (((⟨#[40]⟩ : ByteArray) ++ x5_1) ++ (⟨#[41]⟩ : ByteArray)) 0 t111 t112 t113 _ A64.out).mono ?_); rintro e w81 ⟨rfl, hb⟩; have n0_ := Aside0.mk (below_step (by repeat (first | (with_reducible first | exact HB.out | apply below_alloc | apply pw_below_drewN | apply below_drew1) | exact HB.out)) hb); clear HB; have HB := n0_; clear n0_; (try clear hb); (try clear hb2); (try clear hk); (try clear hi))); try go_wp2_with (first | (go_at_call 9; (with_reducible refine (text_Literal.calls (((⟨#[40]⟩ : ByteArray) ++ x4_1) ++ (⟨#[41]⟩ : ByteArray)) 0 t108 t109 t110 _ A61.out).mono ?_); rintro e w80 ⟨rfl, hb⟩; have n0_ := Aside0.mk (below_step (by repeat (first | (with_reducible first | exact HB.out | apply below_alloc | apply pw_below_drewN | apply below_drew1) | exact HB.out)) hb); clear HB; have HB := n0_; clear n0_; (try clear hb); (try clear hb2); (try clear hk); (try clear hi)) | (go_at_call 9; (with_reducible refine (text_Literal.calls (((⟨#[40]⟩ : ByteArray) ++ x5_1) ++ (⟨#[41]⟩ : ByteArray)) 0 t111 t112 t113 _ A64.out).mono ?_); rintro e w81 ⟨rfl, hb⟩; have n0_ := Aside0.mk (below_step (by repeat (first | (with_reducible first | exact HB.out | apply below_alloc | apply pw_below_drewN | apply below_drew1) | exact HB.out)) hb); clear HB; have HB := n0_; clear n0_; (try clear hb); (try clear hb2); (try clear hk); (try clear hi))))
                      go_ret
                      exact ⟨by first | rfl | (simp [errW_none, errW_some] <;> rfl) | (simp [*, errW_none, errW_some] <;> rfl) | (rw [IntWalk.wrap64_in _ ⟨by omega, by omega⟩]), by repeat (first | (with_reducible first | exact HB.out | apply below_alloc | apply pw_below_drewN | apply below_drew1) | exact HB.out)⟩
                  · rw [if_neg c63] at H
                    exact absurd H (by simp)
                · rw [if_neg c62] at H
                  exact absurd H (by simp)
              · rw [if_neg c60] at H
                exact absurd H (by simp)
            · rw [if_neg c59] at H
              exact absurd H (by simp)
  · replace c3 := Bool.eq_false_iff.mpr c3
    subst c3
    have H1 : (some false) = some r := by rw [if_neg (show ¬ (false = true) by decide)] at H; exact H
    clear H
    have H := H1
    clear H1
    obtain rfl := Option.some.inj H
    have hw8_ : ∀ n_ : Int, IntKind.u8.wrap n_ = n_ % 256 := IntKind.wrap_u8
    go_enter Try.func3, Try.ntmps3
    go_wp2_with (first | (go_at_call 8; (with_reducible refine (pagemenderlaw04_lives.calls  false _ A2.out).mono ?_); rintro e w82 ⟨rfl, hb⟩; have n0_ := Aside0.mk (below_step (by repeat (first | (with_reducible first | exact HB.out | apply below_alloc | apply pw_below_drewN | apply below_drew1) | exact HB.out)) hb); clear HB; have HB := n0_; clear n0_; (try clear hb); (try clear hb2); (try clear hk); (try clear hi)))
    repeat (go_quiet (first | (go_at_call 8; (with_reducible refine (pagemenderlaw04_lives.calls  false _ A2.out).mono ?_); rintro e w82 ⟨rfl, hb⟩; have n0_ := Aside0.mk (below_step (by repeat (first | (with_reducible first | exact HB.out | apply below_alloc | apply pw_below_drewN | apply below_drew1) | exact HB.out)) hb); clear HB; have HB := n0_; clear n0_; (try clear hb); (try clear hb2); (try clear hk); (try clear hi))); try go_wp2_with (first | (go_at_call 8; (with_reducible refine (pagemenderlaw04_lives.calls  false _ A2.out).mono ?_); rintro e w82 ⟨rfl, hb⟩; have n0_ := Aside0.mk (below_step (by repeat (first | (with_reducible first | exact HB.out | apply below_alloc | apply pw_below_drewN | apply below_drew1) | exact HB.out)) hb); clear HB; have HB := n0_; clear n0_; (try clear hb); (try clear hb2); (try clear hk); (try clear hi))))
    go_ret
    exact ⟨by first | rfl | (simp [errW_none, errW_some] <;> rfl) | (simp [*, errW_none, errW_some] <;> rfl) | (rw [IntWalk.wrap64_in _ ⟨by omega, by omega⟩]), by repeat (first | (with_reducible first | exact HB.out | apply below_alloc | apply pw_below_drewN | apply below_drew1) | exact HB.out)⟩

/-- THE ONE PURE STATEMENT of pagemenderlaw04_TextNumbers: yours. -/
def pagemenderlaw04_TextNumbers.Pure : Prop := ∀ (a0 : ByteArray), a0.size ≤ 140737488351232 → ∃ k, pagemenderlaw04_TextNumbers.f k a0 = some true
theorem pagemenderlaw04_TextNumbers.walk (P : pagemenderlaw04_TextNumbers.Pure) (a0 : ByteArray) (w : World) (w0 : a0.size ≤ 140737488351232) :
    Calls Try.prog 3 #[.string a0] w fun e w' => e = .returned (.bool true) ∧ Below w.heap.size w w' := by
  obtain ⟨k, h⟩ := P a0 w0
  refine (pagemenderlaw04_TextNumbers.calls k a0 true w h).mono ?_
  rintro e w' ⟨rfl, hd⟩
  exact ⟨rfl, hd⟩

end Go.Proofs.Ytioildfnbcdekaa.G
