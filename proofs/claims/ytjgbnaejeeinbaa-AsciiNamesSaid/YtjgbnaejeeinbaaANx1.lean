/- Printed for this seat by a program of the prover's own (over the kit's print): each function of the translation as a plain Lean function, and the proof that the code comes to its answers. -/
import Derived.Test.YtjgbnaejeeinbaaANx0
namespace Go.Proofs.Ytjgbnaejeeinbaa.AN
open Go.RowKit Go.Proofs.YtjgbnaejeeinbaaW.PrintWords Go.Proofs.YtjgbnaejeeinbaaW.PrintLast Go.Proofs.YtjgbnaejeeinbaaW.PrintMore
attribute [local go_sem] max2_int min2_int max_two min_two max_three min_three max_four min_four   -- for this text's walks alone
set_option linter.unusedVariables false
set_option linter.unusedSimpArgs false

-- GIVEN BY HAND: function 10 (ascii_Put85)

-- GIVEN BY HAND: function 12 (ascii_HexGet)

/-! ### pagemenderlaw12_lives: function 8 -/
def pagemenderlaw12_lives.f  : Option (Bool) := (ascii_HexGet.f (⟨#[52, 32, 49, 32, 53, 62]⟩ : ByteArray) 9).bind fun bt101 => ((ascii_Put85.f (⟨#[97, 98, 99, 100]⟩ : ByteArray)).bind fun t103 => (if t103.toList = ([64, 58, 69, 95, 87, 126, 62] : List UInt8) then ((ascii_Put85.f (⟨#[97]⟩ : ByteArray)).bind fun t104 => (if t104.toList = ([64, 47, 126, 62] : List UInt8) then ((ascii_Put85.f (⟨#[0, 0, 0, 0]⟩ : ByteArray)).bind fun t105 => (if t105.toList = ([122, 126, 62] : List UInt8) then (if bt101.2 = 0 then (some (bt101.1.toList == ([65, 80] : List UInt8))) else (some false)) else (some false))) else (some false))) else (some false)))
set_option maxHeartbeats 8000000 in
set_option maxRecDepth 100000 in
theorem pagemenderlaw12_lives.calls  (r : Bool) (hr : r = true) (w : World) (h : pagemenderlaw12_lives.f  = some r) :
    Calls Try.prog 8 #[] w fun e w' => e = .returned (.bool r) ∧ Below w.heap.size w w' := by
  have HB := Aside0.mk (Below.refl w.heap.size w)
  have H : ((ascii_HexGet.f (⟨#[52, 32, 49, 32, 53, 62]⟩ : ByteArray) 9).bind fun bt101 => ((ascii_Put85.f (⟨#[97, 98, 99, 100]⟩ : ByteArray)).bind fun t103 => (if t103.toList = ([64, 58, 69, 95, 87, 126, 62] : List UInt8) then ((ascii_Put85.f (⟨#[97]⟩ : ByteArray)).bind fun t104 => (if t104.toList = ([64, 47, 126, 62] : List UInt8) then ((ascii_Put85.f (⟨#[0, 0, 0, 0]⟩ : ByteArray)).bind fun t105 => (if t105.toList = ([122, 126, 62] : List UInt8) then (if bt101.2 = 0 then (some (bt101.1.toList == ([65, 80] : List UInt8))) else (some false)) else (some false))) else (some false))) else (some false)))) = some r := h
  clear h
  replace H := Option.bind_eq_some_iff.mp H
  obtain ⟨⟨t101, t102⟩, A10, H⟩ := H
  replace H : ((ascii_Put85.f (⟨#[97, 98, 99, 100]⟩ : ByteArray)).bind fun t103 => (if t103.toList = ([64, 58, 69, 95, 87, 126, 62] : List UInt8) then ((ascii_Put85.f (⟨#[97]⟩ : ByteArray)).bind fun t104 => (if t104.toList = ([64, 47, 126, 62] : List UInt8) then ((ascii_Put85.f (⟨#[0, 0, 0, 0]⟩ : ByteArray)).bind fun t105 => (if t105.toList = ([122, 126, 62] : List UInt8) then (if t102 = 0 then (some (t101.toList == ([65, 80] : List UInt8))) else (some false)) else (some false))) else (some false))) else (some false))) = some r := H
  have A1 := Aside0.mk A10
  clear A10
  replace H := Option.bind_eq_some_iff.mp H
  obtain ⟨t103, A20, H⟩ := H
  replace H : (if t103.toList = ([64, 58, 69, 95, 87, 126, 62] : List UInt8) then ((ascii_Put85.f (⟨#[97]⟩ : ByteArray)).bind fun t104 => (if t104.toList = ([64, 47, 126, 62] : List UInt8) then ((ascii_Put85.f (⟨#[0, 0, 0, 0]⟩ : ByteArray)).bind fun t105 => (if t105.toList = ([122, 126, 62] : List UInt8) then (if t102 = 0 then (some (t101.toList == ([65, 80] : List UInt8))) else (some false)) else (some false))) else (some false))) else (some false)) = some r := H
  have A2 := Aside0.mk A20
  clear A20
  by_cases c3 : t103.toList = ([64, 58, 69, 95, 87, 126, 62] : List UInt8)
  · rw [if_pos c3] at H
    have c3b0 : (t103.toList == ([64, 58, 69, 95, 87, 126, 62] : List UInt8)) = true := beq_iff_eq.mpr c3
    have c3b1 : (t103.toList != ([64, 58, 69, 95, 87, 126, 62] : List UInt8)) = false := bne_eq_false_iff_eq.mpr c3
    clear c3
    replace H := Option.bind_eq_some_iff.mp H
    obtain ⟨t104, A40, H⟩ := H
    replace H : (if t104.toList = ([64, 47, 126, 62] : List UInt8) then ((ascii_Put85.f (⟨#[0, 0, 0, 0]⟩ : ByteArray)).bind fun t105 => (if t105.toList = ([122, 126, 62] : List UInt8) then (if t102 = 0 then (some (t101.toList == ([65, 80] : List UInt8))) else (some false)) else (some false))) else (some false)) = some r := H
    have A4 := Aside0.mk A40
    clear A40
    by_cases c5 : t104.toList = ([64, 47, 126, 62] : List UInt8)
    · rw [if_pos c5] at H
      have c5b0 : (t104.toList == ([64, 47, 126, 62] : List UInt8)) = true := beq_iff_eq.mpr c5
      have c5b1 : (t104.toList != ([64, 47, 126, 62] : List UInt8)) = false := bne_eq_false_iff_eq.mpr c5
      clear c5
      replace H := Option.bind_eq_some_iff.mp H
      obtain ⟨t105, A60, H⟩ := H
      replace H : (if t105.toList = ([122, 126, 62] : List UInt8) then (if t102 = 0 then (some (t101.toList == ([65, 80] : List UInt8))) else (some false)) else (some false)) = some r := H
      have A6 := Aside0.mk A60
      clear A60
      by_cases c7 : t105.toList = ([122, 126, 62] : List UInt8)
      · rw [if_pos c7] at H
        have c7b0 : (t105.toList == ([122, 126, 62] : List UInt8)) = true := beq_iff_eq.mpr c7
        have c7b1 : (t105.toList != ([122, 126, 62] : List UInt8)) = false := bne_eq_false_iff_eq.mpr c7
        clear c7
        by_cases c8 : t102 = 0
        · rw [if_pos c8] at H
          have c8b0 : (t102 == 0) = true := beq_iff_eq.mpr c8
          have c8b1 : (t102 != 0) = false := bne_eq_false_iff_eq.mpr c8
          clear c8
          obtain rfl := Option.some.inj H
          go_enter Try.func8, Try.ntmps8
          go_wp2_with (first | ((with_reducible refine gate_callee (f := 12) rfl ?_); refine goesL_ (some 4) rfl rfl Try.func12 (by kernel_rfl) rfl #[.string (⟨#[52, 32, 49, 32, 53, 62]⟩ : ByteArray), .int .i64 9] rfl (by (try simp only [List.map_toArray, List.map_cons, List.map_nil]); first | done | rfl | (simp only [List.length_drop, List.length_take]; rfl)) ?_; (with_reducible refine (ascii_HexGet.calls (⟨#[52, 32, 49, 32, 53, 62]⟩ : ByteArray) 9 t101 t102 _ A1.out).mono ?_); rintro e w9 ⟨rfl, hb⟩; refine ⟨_, rfl, ?_⟩; have n0_ := Aside0.mk (below_step (by repeat (first | (with_reducible first | exact HB.out | apply below_alloc | apply pw_below_drewN | apply below_drew1) | exact HB.out)) hb); clear HB; have HB := n0_; clear n0_; (try clear hb); (try clear hb2); (try clear hk); (try clear hi)) | ((with_reducible refine gate_callee (f := 10) rfl ?_); refine goesL_ (some 7) rfl rfl Try.func10 (by kernel_rfl) rfl #[.string (⟨#[97, 98, 99, 100]⟩ : ByteArray)] rfl (by (try simp only [List.map_toArray, List.map_cons, List.map_nil]); first | done | rfl | (simp only [List.length_drop, List.length_take]; rfl)) ?_; (with_reducible refine (ascii_Put85.calls (⟨#[97, 98, 99, 100]⟩ : ByteArray) t103 _ A2.out).mono ?_); rintro e w10 ⟨rfl, hb⟩; refine ⟨_, rfl, ?_⟩; have n0_ := Aside0.mk (below_step (by repeat (first | (with_reducible first | exact HB.out | apply below_alloc | apply pw_below_drewN | apply below_drew1) | exact HB.out)) hb); clear HB; have HB := n0_; clear n0_; (try clear hb); (try clear hb2); (try clear hk); (try clear hi)) | (go_at_call 10; (with_reducible refine (ascii_Put85.calls (⟨#[97]⟩ : ByteArray) t104 _ A4.out).mono ?_); rintro e w11 ⟨rfl, hb⟩; have n0_ := Aside0.mk (below_step (by repeat (first | (with_reducible first | exact HB.out | apply below_alloc | apply pw_below_drewN | apply below_drew1) | exact HB.out)) hb); clear HB; have HB := n0_; clear n0_; (try clear hb); (try clear hb2); (try clear hk); (try clear hi)) | (go_at_call 10; (with_reducible refine (ascii_Put85.calls (⟨#[0, 0, 0, 0]⟩ : ByteArray) t105 _ A6.out).mono ?_); rintro e w12 ⟨rfl, hb⟩; have n0_ := Aside0.mk (below_step (by repeat (first | (with_reducible first | exact HB.out | apply below_alloc | apply pw_below_drewN | apply below_drew1) | exact HB.out)) hb); clear HB; have HB := n0_; clear n0_; (try clear hb); (try clear hb2); (try clear hk); (try clear hi)) | (go_at_call 12; (with_reducible refine (ascii_HexGet.calls (⟨#[52, 32, 49, 32, 53, 62]⟩ : ByteArray) 9 t101 t102 _ A1.out).mono ?_); rintro e w9 ⟨rfl, hb⟩; have n0_ := Aside0.mk (below_step (by repeat (first | (with_reducible first | exact HB.out | apply below_alloc | apply pw_below_drewN | apply below_drew1) | exact HB.out)) hb); clear HB; have HB := n0_; clear n0_; (try clear hb); (try clear hb2); (try clear hk); (try clear hi)) | (go_at_call 10; (with_reducible refine (ascii_Put85.calls (⟨#[97, 98, 99, 100]⟩ : ByteArray) t103 _ A2.out).mono ?_); rintro e w10 ⟨rfl, hb⟩; have n0_ := Aside0.mk (below_step (by repeat (first | (with_reducible first | exact HB.out | apply below_alloc | apply pw_below_drewN | apply below_drew1) | exact HB.out)) hb); clear HB; have HB := n0_; clear n0_; (try clear hb); (try clear hb2); (try clear hk); (try clear hi)))
          go_ret
          exact ⟨by first | rfl | (simp [errW_none, errW_some] <;> rfl) | (simp [*, errW_none, errW_some] <;> rfl) | (rw [IntWalk.wrap64_in _ ⟨by omega, by omega⟩]), by repeat (first | (with_reducible first | exact HB.out | apply below_alloc | apply pw_below_drewN | apply below_drew1) | exact HB.out)⟩
        · rw [if_neg c8] at H
          have c8b0 : (t102 == 0) = false := beq_eq_false_iff_ne.mpr c8
          have c8b1 : (t102 != 0) = true := bne_iff_ne.mpr c8
          exact absurd ((Option.some.inj H).trans hr) (by decide)
      · rw [if_neg c7] at H
        have c7b0 : (t105.toList == ([122, 126, 62] : List UInt8)) = false := beq_eq_false_iff_ne.mpr c7
        have c7b1 : (t105.toList != ([122, 126, 62] : List UInt8)) = true := bne_iff_ne.mpr c7
        exact absurd ((Option.some.inj H).trans hr) (by decide)
    · rw [if_neg c5] at H
      have c5b0 : (t104.toList == ([64, 47, 126, 62] : List UInt8)) = false := beq_eq_false_iff_ne.mpr c5
      have c5b1 : (t104.toList != ([64, 47, 126, 62] : List UInt8)) = true := bne_iff_ne.mpr c5
      exact absurd ((Option.some.inj H).trans hr) (by decide)
  · rw [if_neg c3] at H
    have c3b0 : (t103.toList == ([64, 58, 69, 95, 87, 126, 62] : List UInt8)) = false := beq_eq_false_iff_ne.mpr c3
    have c3b1 : (t103.toList != ([64, 58, 69, 95, 87, 126, 62] : List UInt8)) = true := bne_iff_ne.mpr c3
    exact absurd ((Option.some.inj H).trans hr) (by decide)

-- GIVEN BY HAND: function 9 (ascii_HexPut)

-- GIVEN BY HAND: function 13 (ascii_Get85)

/-! ### pagemenderlaw12_AsciiNames: function 5 -/
def pagemenderlaw12_AsciiNames.f  : Option (Bool) := (ascii_HexGet.f (⟨#[52, 49]⟩ : ByteArray) 9).bind fun bt106 => ((ascii_HexGet.f (⟨#[52, 103, 62]⟩ : ByteArray) 9).bind fun bt108 => ((ascii_HexGet.f (⟨#[52, 49, 52, 50, 62]⟩ : ByteArray) 1).bind fun bt110 => ((ascii_HexGet.f (⟨#[62]⟩ : ByteArray) (-1)).bind fun bt112 => ((ascii_Get85.f (⟨#[64, 58, 69, 95, 87, 32, 64, 47, 126, 62, 120]⟩ : ByteArray) 9).bind fun bt114 => ((ascii_Get85.f (⟨#[64, 126, 62]⟩ : ByteArray) 9).bind fun bt116 => ((ascii_Get85.f (⟨#[115, 56, 87, 45, 34, 126, 62]⟩ : ByteArray) 9).bind fun bt118 => ((ascii_Get85.f (⟨#[64, 122, 126, 62]⟩ : ByteArray) 9).bind fun bt120 => ((ascii_Get85.f (⟨#[122, 126]⟩ : ByteArray) 9).bind fun bt122 => ((ascii_Get85.f (⟨#[122, 126, 120]⟩ : ByteArray) 9).bind fun bt124 => ((ascii_Get85.f (⟨#[115, 56, 87, 45, 33, 126, 62]⟩ : ByteArray) 4).bind fun bt126 => ((pagemenderlaw12_lives.f).bind fun t128 => (if t128 = true then ((ascii_HexPut.f (⟨#[65, 107]⟩ : ByteArray)).bind fun t129 => (if t129.toList = ([52, 49, 54, 66, 62] : List UInt8) then (if bt106.2 = 8 then (if bt108.2 = 4 then (if bt110.2 = 3 then (if bt112.2 = 2 then (if bt114.2 = 0 then (if bt114.1.toList = ([97, 98, 99, 100, 97] : List UInt8) then (if bt116.2 = 4 then (if bt118.2 = 4 then (if bt120.2 = 4 then (if bt122.2 = 8 then (if bt124.2 = 4 then (if bt126.2 = 0 then (if bt126.1.toList = ([255, 255, 255, 255] : List UInt8) then ((ascii_Put85.f (⟨#[]⟩ : ByteArray)).bind fun t130 => (if t130.toList = ([126, 62] : List UInt8) then ((ascii_Put85.f (⟨#[0]⟩ : ByteArray)).bind fun t131 => (some (t131.toList == ([33, 33, 126, 62] : List UInt8)))) else (some false))) else (some false)) else (some false)) else (some false)) else (some false)) else (some false)) else (some false)) else (some false)) else (some false)) else (some false)) else (some false)) else (some false)) else (some false)) else (some false)) else (some false))) else (some false)))))))))))))
set_option maxHeartbeats 8000000 in
set_option maxRecDepth 100000 in
theorem pagemenderlaw12_AsciiNames.calls  (r : Bool) (hr : r = true) (w : World) (h : pagemenderlaw12_AsciiNames.f  = some r) :
    Calls Try.prog 5 #[] w fun e w' => e = .returned (.bool r) ∧ Below w.heap.size w w' := by
  have HB := Aside0.mk (Below.refl w.heap.size w)
  have H : ((ascii_HexGet.f (⟨#[52, 49]⟩ : ByteArray) 9).bind fun bt106 => ((ascii_HexGet.f (⟨#[52, 103, 62]⟩ : ByteArray) 9).bind fun bt108 => ((ascii_HexGet.f (⟨#[52, 49, 52, 50, 62]⟩ : ByteArray) 1).bind fun bt110 => ((ascii_HexGet.f (⟨#[62]⟩ : ByteArray) (-1)).bind fun bt112 => ((ascii_Get85.f (⟨#[64, 58, 69, 95, 87, 32, 64, 47, 126, 62, 120]⟩ : ByteArray) 9).bind fun bt114 => ((ascii_Get85.f (⟨#[64, 126, 62]⟩ : ByteArray) 9).bind fun bt116 => ((ascii_Get85.f (⟨#[115, 56, 87, 45, 34, 126, 62]⟩ : ByteArray) 9).bind fun bt118 => ((ascii_Get85.f (⟨#[64, 122, 126, 62]⟩ : ByteArray) 9).bind fun bt120 => ((ascii_Get85.f (⟨#[122, 126]⟩ : ByteArray) 9).bind fun bt122 => ((ascii_Get85.f (⟨#[122, 126, 120]⟩ : ByteArray) 9).bind fun bt124 => ((ascii_Get85.f (⟨#[115, 56, 87, 45, 33, 126, 62]⟩ : ByteArray) 4).bind fun bt126 => ((pagemenderlaw12_lives.f).bind fun t128 => (if t128 = true then ((ascii_HexPut.f (⟨#[65, 107]⟩ : ByteArray)).bind fun t129 => (if t129.toList = ([52, 49, 54, 66, 62] : List UInt8) then (if bt106.2 = 8 then (if bt108.2 = 4 then (if bt110.2 = 3 then (if bt112.2 = 2 then (if bt114.2 = 0 then (if bt114.1.toList = ([97, 98, 99, 100, 97] : List UInt8) then (if bt116.2 = 4 then (if bt118.2 = 4 then (if bt120.2 = 4 then (if bt122.2 = 8 then (if bt124.2 = 4 then (if bt126.2 = 0 then (if bt126.1.toList = ([255, 255, 255, 255] : List UInt8) then ((ascii_Put85.f (⟨#[]⟩ : ByteArray)).bind fun t130 => (if t130.toList = ([126, 62] : List UInt8) then ((ascii_Put85.f (⟨#[0]⟩ : ByteArray)).bind fun t131 => (some (t131.toList == ([33, 33, 126, 62] : List UInt8)))) else (some false))) else (some false)) else (some false)) else (some false)) else (some false)) else (some false)) else (some false)) else (some false)) else (some false)) else (some false)) else (some false)) else (some false)) else (some false)) else (some false)) else (some false))) else (some false)))))))))))))) = some r := h
  clear h
  replace H := Option.bind_eq_some_iff.mp H
  obtain ⟨⟨t106, t107⟩, A10, H⟩ := H
  replace H : ((ascii_HexGet.f (⟨#[52, 103, 62]⟩ : ByteArray) 9).bind fun bt108 => ((ascii_HexGet.f (⟨#[52, 49, 52, 50, 62]⟩ : ByteArray) 1).bind fun bt110 => ((ascii_HexGet.f (⟨#[62]⟩ : ByteArray) (-1)).bind fun bt112 => ((ascii_Get85.f (⟨#[64, 58, 69, 95, 87, 32, 64, 47, 126, 62, 120]⟩ : ByteArray) 9).bind fun bt114 => ((ascii_Get85.f (⟨#[64, 126, 62]⟩ : ByteArray) 9).bind fun bt116 => ((ascii_Get85.f (⟨#[115, 56, 87, 45, 34, 126, 62]⟩ : ByteArray) 9).bind fun bt118 => ((ascii_Get85.f (⟨#[64, 122, 126, 62]⟩ : ByteArray) 9).bind fun bt120 => ((ascii_Get85.f (⟨#[122, 126]⟩ : ByteArray) 9).bind fun bt122 => ((ascii_Get85.f (⟨#[122, 126, 120]⟩ : ByteArray) 9).bind fun bt124 => ((ascii_Get85.f (⟨#[115, 56, 87, 45, 33, 126, 62]⟩ : ByteArray) 4).bind fun bt126 => ((pagemenderlaw12_lives.f).bind fun t128 => (if t128 = true then ((ascii_HexPut.f (⟨#[65, 107]⟩ : ByteArray)).bind fun t129 => (if t129.toList = ([52, 49, 54, 66, 62] : List UInt8) then (if t107 = 8 then (if bt108.2 = 4 then (if bt110.2 = 3 then (if bt112.2 = 2 then (if bt114.2 = 0 then (if bt114.1.toList = ([97, 98, 99, 100, 97] : List UInt8) then (if bt116.2 = 4 then (if bt118.2 = 4 then (if bt120.2 = 4 then (if bt122.2 = 8 then (if bt124.2 = 4 then (if bt126.2 = 0 then (if bt126.1.toList = ([255, 255, 255, 255] : List UInt8) then ((ascii_Put85.f (⟨#[]⟩ : ByteArray)).bind fun t130 => (if t130.toList = ([126, 62] : List UInt8) then ((ascii_Put85.f (⟨#[0]⟩ : ByteArray)).bind fun t131 => (some (t131.toList == ([33, 33, 126, 62] : List UInt8)))) else (some false))) else (some false)) else (some false)) else (some false)) else (some false)) else (some false)) else (some false)) else (some false)) else (some false)) else (some false)) else (some false)) else (some false)) else (some false)) else (some false)) else (some false))) else (some false))))))))))))) = some r := H
  have A1 := Aside0.mk A10
  clear A10
  replace H := Option.bind_eq_some_iff.mp H
  obtain ⟨⟨t108, t109⟩, A20, H⟩ := H
  replace H : ((ascii_HexGet.f (⟨#[52, 49, 52, 50, 62]⟩ : ByteArray) 1).bind fun bt110 => ((ascii_HexGet.f (⟨#[62]⟩ : ByteArray) (-1)).bind fun bt112 => ((ascii_Get85.f (⟨#[64, 58, 69, 95, 87, 32, 64, 47, 126, 62, 120]⟩ : ByteArray) 9).bind fun bt114 => ((ascii_Get85.f (⟨#[64, 126, 62]⟩ : ByteArray) 9).bind fun bt116 => ((ascii_Get85.f (⟨#[115, 56, 87, 45, 34, 126, 62]⟩ : ByteArray) 9).bind fun bt118 => ((ascii_Get85.f (⟨#[64, 122, 126, 62]⟩ : ByteArray) 9).bind fun bt120 => ((ascii_Get85.f (⟨#[122, 126]⟩ : ByteArray) 9).bind fun bt122 => ((ascii_Get85.f (⟨#[122, 126, 120]⟩ : ByteArray) 9).bind fun bt124 => ((ascii_Get85.f (⟨#[115, 56, 87, 45, 33, 126, 62]⟩ : ByteArray) 4).bind fun bt126 => ((pagemenderlaw12_lives.f).bind fun t128 => (if t128 = true then ((ascii_HexPut.f (⟨#[65, 107]⟩ : ByteArray)).bind fun t129 => (if t129.toList = ([52, 49, 54, 66, 62] : List UInt8) then (if t107 = 8 then (if t109 = 4 then (if bt110.2 = 3 then (if bt112.2 = 2 then (if bt114.2 = 0 then (if bt114.1.toList = ([97, 98, 99, 100, 97] : List UInt8) then (if bt116.2 = 4 then (if bt118.2 = 4 then (if bt120.2 = 4 then (if bt122.2 = 8 then (if bt124.2 = 4 then (if bt126.2 = 0 then (if bt126.1.toList = ([255, 255, 255, 255] : List UInt8) then ((ascii_Put85.f (⟨#[]⟩ : ByteArray)).bind fun t130 => (if t130.toList = ([126, 62] : List UInt8) then ((ascii_Put85.f (⟨#[0]⟩ : ByteArray)).bind fun t131 => (some (t131.toList == ([33, 33, 126, 62] : List UInt8)))) else (some false))) else (some false)) else (some false)) else (some false)) else (some false)) else (some false)) else (some false)) else (some false)) else (some false)) else (some false)) else (some false)) else (some false)) else (some false)) else (some false)) else (some false))) else (some false)))))))))))) = some r := H
  have A2 := Aside0.mk A20
  clear A20
  replace H := Option.bind_eq_some_iff.mp H
  obtain ⟨⟨t110, t111⟩, A30, H⟩ := H
  replace H : ((ascii_HexGet.f (⟨#[62]⟩ : ByteArray) (-1)).bind fun bt112 => ((ascii_Get85.f (⟨#[64, 58, 69, 95, 87, 32, 64, 47, 126, 62, 120]⟩ : ByteArray) 9).bind fun bt114 => ((ascii_Get85.f (⟨#[64, 126, 62]⟩ : ByteArray) 9).bind fun bt116 => ((ascii_Get85.f (⟨#[115, 56, 87, 45, 34, 126, 62]⟩ : ByteArray) 9).bind fun bt118 => ((ascii_Get85.f (⟨#[64, 122, 126, 62]⟩ : ByteArray) 9).bind fun bt120 => ((ascii_Get85.f (⟨#[122, 126]⟩ : ByteArray) 9).bind fun bt122 => ((ascii_Get85.f (⟨#[122, 126, 120]⟩ : ByteArray) 9).bind fun bt124 => ((ascii_Get85.f (⟨#[115, 56, 87, 45, 33, 126, 62]⟩ : ByteArray) 4).bind fun bt126 => ((pagemenderlaw12_lives.f).bind fun t128 => (if t128 = true then ((ascii_HexPut.f (⟨#[65, 107]⟩ : ByteArray)).bind fun t129 => (if t129.toList = ([52, 49, 54, 66, 62] : List UInt8) then (if t107 = 8 then (if t109 = 4 then (if t111 = 3 then (if bt112.2 = 2 then (if bt114.2 = 0 then (if bt114.1.toList = ([97, 98, 99, 100, 97] : List UInt8) then (if bt116.2 = 4 then (if bt118.2 = 4 then (if bt120.2 = 4 then (if bt122.2 = 8 then (if bt124.2 = 4 then (if bt126.2 = 0 then (if bt126.1.toList = ([255, 255, 255, 255] : List UInt8) then ((ascii_Put85.f (⟨#[]⟩ : ByteArray)).bind fun t130 => (if t130.toList = ([126, 62] : List UInt8) then ((ascii_Put85.f (⟨#[0]⟩ : ByteArray)).bind fun t131 => (some (t131.toList == ([33, 33, 126, 62] : List UInt8)))) else (some false))) else (some false)) else (some false)) else (some false)) else (some false)) else (some false)) else (some false)) else (some false)) else (some false)) else (some false)) else (some false)) else (some false)) else (some false)) else (some false)) else (some false))) else (some false))))))))))) = some r := H
  have A3 := Aside0.mk A30
  clear A30
  replace H := Option.bind_eq_some_iff.mp H
  obtain ⟨⟨t112, t113⟩, A40, H⟩ := H
  replace H : ((ascii_Get85.f (⟨#[64, 58, 69, 95, 87, 32, 64, 47, 126, 62, 120]⟩ : ByteArray) 9).bind fun bt114 => ((ascii_Get85.f (⟨#[64, 126, 62]⟩ : ByteArray) 9).bind fun bt116 => ((ascii_Get85.f (⟨#[115, 56, 87, 45, 34, 126, 62]⟩ : ByteArray) 9).bind fun bt118 => ((ascii_Get85.f (⟨#[64, 122, 126, 62]⟩ : ByteArray) 9).bind fun bt120 => ((ascii_Get85.f (⟨#[122, 126]⟩ : ByteArray) 9).bind fun bt122 => ((ascii_Get85.f (⟨#[122, 126, 120]⟩ : ByteArray) 9).bind fun bt124 => ((ascii_Get85.f (⟨#[115, 56, 87, 45, 33, 126, 62]⟩ : ByteArray) 4).bind fun bt126 => ((pagemenderlaw12_lives.f).bind fun t128 => (if t128 = true then ((ascii_HexPut.f (⟨#[65, 107]⟩ : ByteArray)).bind fun t129 => (if t129.toList = ([52, 49, 54, 66, 62] : List UInt8) then (if t107 = 8 then (if t109 = 4 then (if t111 = 3 then (if t113 = 2 then (if bt114.2 = 0 then (if bt114.1.toList = ([97, 98, 99, 100, 97] : List UInt8) then (if bt116.2 = 4 then (if bt118.2 = 4 then (if bt120.2 = 4 then (if bt122.2 = 8 then (if bt124.2 = 4 then (if bt126.2 = 0 then (if bt126.1.toList = ([255, 255, 255, 255] : List UInt8) then ((ascii_Put85.f (⟨#[]⟩ : ByteArray)).bind fun t130 => (if t130.toList = ([126, 62] : List UInt8) then ((ascii_Put85.f (⟨#[0]⟩ : ByteArray)).bind fun t131 => (some (t131.toList == ([33, 33, 126, 62] : List UInt8)))) else (some false))) else (some false)) else (some false)) else (some false)) else (some false)) else (some false)) else (some false)) else (some false)) else (some false)) else (some false)) else (some false)) else (some false)) else (some false)) else (some false)) else (some false))) else (some false)))))))))) = some r := H
  have A4 := Aside0.mk A40
  clear A40
  replace H := Option.bind_eq_some_iff.mp H
  obtain ⟨⟨t114, t115⟩, A50, H⟩ := H
  replace H : ((ascii_Get85.f (⟨#[64, 126, 62]⟩ : ByteArray) 9).bind fun bt116 => ((ascii_Get85.f (⟨#[115, 56, 87, 45, 34, 126, 62]⟩ : ByteArray) 9).bind fun bt118 => ((ascii_Get85.f (⟨#[64, 122, 126, 62]⟩ : ByteArray) 9).bind fun bt120 => ((ascii_Get85.f (⟨#[122, 126]⟩ : ByteArray) 9).bind fun bt122 => ((ascii_Get85.f (⟨#[122, 126, 120]⟩ : ByteArray) 9).bind fun bt124 => ((ascii_Get85.f (⟨#[115, 56, 87, 45, 33, 126, 62]⟩ : ByteArray) 4).bind fun bt126 => ((pagemenderlaw12_lives.f).bind fun t128 => (if t128 = true then ((ascii_HexPut.f (⟨#[65, 107]⟩ : ByteArray)).bind fun t129 => (if t129.toList = ([52, 49, 54, 66, 62] : List UInt8) then (if t107 = 8 then (if t109 = 4 then (if t111 = 3 then (if t113 = 2 then (if t115 = 0 then (if t114.toList = ([97, 98, 99, 100, 97] : List UInt8) then (if bt116.2 = 4 then (if bt118.2 = 4 then (if bt120.2 = 4 then (if bt122.2 = 8 then (if bt124.2 = 4 then (if bt126.2 = 0 then (if bt126.1.toList = ([255, 255, 255, 255] : List UInt8) then ((ascii_Put85.f (⟨#[]⟩ : ByteArray)).bind fun t130 => (if t130.toList = ([126, 62] : List UInt8) then ((ascii_Put85.f (⟨#[0]⟩ : ByteArray)).bind fun t131 => (some (t131.toList == ([33, 33, 126, 62] : List UInt8)))) else (some false))) else (some false)) else (some false)) else (some false)) else (some false)) else (some false)) else (some false)) else (some false)) else (some false)) else (some false)) else (some false)) else (some false)) else (some false)) else (some false)) else (some false))) else (some false))))))))) = some r := H
  have A5 := Aside0.mk A50
  clear A50
  replace H := Option.bind_eq_some_iff.mp H
  obtain ⟨⟨t116, t117⟩, A60, H⟩ := H
  replace H : ((ascii_Get85.f (⟨#[115, 56, 87, 45, 34, 126, 62]⟩ : ByteArray) 9).bind fun bt118 => ((ascii_Get85.f (⟨#[64, 122, 126, 62]⟩ : ByteArray) 9).bind fun bt120 => ((ascii_Get85.f (⟨#[122, 126]⟩ : ByteArray) 9).bind fun bt122 => ((ascii_Get85.f (⟨#[122, 126, 120]⟩ : ByteArray) 9).bind fun bt124 => ((ascii_Get85.f (⟨#[115, 56, 87, 45, 33, 126, 62]⟩ : ByteArray) 4).bind fun bt126 => ((pagemenderlaw12_lives.f).bind fun t128 => (if t128 = true then ((ascii_HexPut.f (⟨#[65, 107]⟩ : ByteArray)).bind fun t129 => (if t129.toList = ([52, 49, 54, 66, 62] : List UInt8) then (if t107 = 8 then (if t109 = 4 then (if t111 = 3 then (if t113 = 2 then (if t115 = 0 then (if t114.toList = ([97, 98, 99, 100, 97] : List UInt8) then (if t117 = 4 then (if bt118.2 = 4 then (if bt120.2 = 4 then (if bt122.2 = 8 then (if bt124.2 = 4 then (if bt126.2 = 0 then (if bt126.1.toList = ([255, 255, 255, 255] : List UInt8) then ((ascii_Put85.f (⟨#[]⟩ : ByteArray)).bind fun t130 => (if t130.toList = ([126, 62] : List UInt8) then ((ascii_Put85.f (⟨#[0]⟩ : ByteArray)).bind fun t131 => (some (t131.toList == ([33, 33, 126, 62] : List UInt8)))) else (some false))) else (some false)) else (some false)) else (some false)) else (some false)) else (some false)) else (some false)) else (some false)) else (some false)) else (some false)) else (some false)) else (some false)) else (some false)) else (some false)) else (some false))) else (some false)))))))) = some r := H
  have A6 := Aside0.mk A60
  clear A60
  replace H := Option.bind_eq_some_iff.mp H
  obtain ⟨⟨t118, t119⟩, A70, H⟩ := H
  replace H : ((ascii_Get85.f (⟨#[64, 122, 126, 62]⟩ : ByteArray) 9).bind fun bt120 => ((ascii_Get85.f (⟨#[122, 126]⟩ : ByteArray) 9).bind fun bt122 => ((ascii_Get85.f (⟨#[122, 126, 120]⟩ : ByteArray) 9).bind fun bt124 => ((ascii_Get85.f (⟨#[115, 56, 87, 45, 33, 126, 62]⟩ : ByteArray) 4).bind fun bt126 => ((pagemenderlaw12_lives.f).bind fun t128 => (if t128 = true then ((ascii_HexPut.f (⟨#[65, 107]⟩ : ByteArray)).bind fun t129 => (if t129.toList = ([52, 49, 54, 66, 62] : List UInt8) then (if t107 = 8 then (if t109 = 4 then (if t111 = 3 then (if t113 = 2 then (if t115 = 0 then (if t114.toList = ([97, 98, 99, 100, 97] : List UInt8) then (if t117 = 4 then (if t119 = 4 then (if bt120.2 = 4 then (if bt122.2 = 8 then (if bt124.2 = 4 then (if bt126.2 = 0 then (if bt126.1.toList = ([255, 255, 255, 255] : List UInt8) then ((ascii_Put85.f (⟨#[]⟩ : ByteArray)).bind fun t130 => (if t130.toList = ([126, 62] : List UInt8) then ((ascii_Put85.f (⟨#[0]⟩ : ByteArray)).bind fun t131 => (some (t131.toList == ([33, 33, 126, 62] : List UInt8)))) else (some false))) else (some false)) else (some false)) else (some false)) else (some false)) else (some false)) else (some false)) else (some false)) else (some false)) else (some false)) else (some false)) else (some false)) else (some false)) else (some false)) else (some false))) else (some false))))))) = some r := H
  have A7 := Aside0.mk A70
  clear A70
  replace H := Option.bind_eq_some_iff.mp H
  obtain ⟨⟨t120, t121⟩, A80, H⟩ := H
  replace H : ((ascii_Get85.f (⟨#[122, 126]⟩ : ByteArray) 9).bind fun bt122 => ((ascii_Get85.f (⟨#[122, 126, 120]⟩ : ByteArray) 9).bind fun bt124 => ((ascii_Get85.f (⟨#[115, 56, 87, 45, 33, 126, 62]⟩ : ByteArray) 4).bind fun bt126 => ((pagemenderlaw12_lives.f).bind fun t128 => (if t128 = true then ((ascii_HexPut.f (⟨#[65, 107]⟩ : ByteArray)).bind fun t129 => (if t129.toList = ([52, 49, 54, 66, 62] : List UInt8) then (if t107 = 8 then (if t109 = 4 then (if t111 = 3 then (if t113 = 2 then (if t115 = 0 then (if t114.toList = ([97, 98, 99, 100, 97] : List UInt8) then (if t117 = 4 then (if t119 = 4 then (if t121 = 4 then (if bt122.2 = 8 then (if bt124.2 = 4 then (if bt126.2 = 0 then (if bt126.1.toList = ([255, 255, 255, 255] : List UInt8) then ((ascii_Put85.f (⟨#[]⟩ : ByteArray)).bind fun t130 => (if t130.toList = ([126, 62] : List UInt8) then ((ascii_Put85.f (⟨#[0]⟩ : ByteArray)).bind fun t131 => (some (t131.toList == ([33, 33, 126, 62] : List UInt8)))) else (some false))) else (some false)) else (some false)) else (some false)) else (some false)) else (some false)) else (some false)) else (some false)) else (some false)) else (some false)) else (some false)) else (some false)) else (some false)) else (some false)) else (some false))) else (some false)))))) = some r := H
  have A8 := Aside0.mk A80
  clear A80
  replace H := Option.bind_eq_some_iff.mp H
  obtain ⟨⟨t122, t123⟩, A90, H⟩ := H
  replace H : ((ascii_Get85.f (⟨#[122, 126, 120]⟩ : ByteArray) 9).bind fun bt124 => ((ascii_Get85.f (⟨#[115, 56, 87, 45, 33, 126, 62]⟩ : ByteArray) 4).bind fun bt126 => ((pagemenderlaw12_lives.f).bind fun t128 => (if t128 = true then ((ascii_HexPut.f (⟨#[65, 107]⟩ : ByteArray)).bind fun t129 => (if t129.toList = ([52, 49, 54, 66, 62] : List UInt8) then (if t107 = 8 then (if t109 = 4 then (if t111 = 3 then (if t113 = 2 then (if t115 = 0 then (if t114.toList = ([97, 98, 99, 100, 97] : List UInt8) then (if t117 = 4 then (if t119 = 4 then (if t121 = 4 then (if t123 = 8 then (if bt124.2 = 4 then (if bt126.2 = 0 then (if bt126.1.toList = ([255, 255, 255, 255] : List UInt8) then ((ascii_Put85.f (⟨#[]⟩ : ByteArray)).bind fun t130 => (if t130.toList = ([126, 62] : List UInt8) then ((ascii_Put85.f (⟨#[0]⟩ : ByteArray)).bind fun t131 => (some (t131.toList == ([33, 33, 126, 62] : List UInt8)))) else (some false))) else (some false)) else (some false)) else (some false)) else (some false)) else (some false)) else (some false)) else (some false)) else (some false)) else (some false)) else (some false)) else (some false)) else (some false)) else (some false)) else (some false))) else (some false))))) = some r := H
  have A9 := Aside0.mk A90
  clear A90
  replace H := Option.bind_eq_some_iff.mp H
  obtain ⟨⟨t124, t125⟩, A100, H⟩ := H
  replace H : ((ascii_Get85.f (⟨#[115, 56, 87, 45, 33, 126, 62]⟩ : ByteArray) 4).bind fun bt126 => ((pagemenderlaw12_lives.f).bind fun t128 => (if t128 = true then ((ascii_HexPut.f (⟨#[65, 107]⟩ : ByteArray)).bind fun t129 => (if t129.toList = ([52, 49, 54, 66, 62] : List UInt8) then (if t107 = 8 then (if t109 = 4 then (if t111 = 3 then (if t113 = 2 then (if t115 = 0 then (if t114.toList = ([97, 98, 99, 100, 97] : List UInt8) then (if t117 = 4 then (if t119 = 4 then (if t121 = 4 then (if t123 = 8 then (if t125 = 4 then (if bt126.2 = 0 then (if bt126.1.toList = ([255, 255, 255, 255] : List UInt8) then ((ascii_Put85.f (⟨#[]⟩ : ByteArray)).bind fun t130 => (if t130.toList = ([126, 62] : List UInt8) then ((ascii_Put85.f (⟨#[0]⟩ : ByteArray)).bind fun t131 => (some (t131.toList == ([33, 33, 126, 62] : List UInt8)))) else (some false))) else (some false)) else (some false)) else (some false)) else (some false)) else (some false)) else (some false)) else (some false)) else (some false)) else (some false)) else (some false)) else (some false)) else (some false)) else (some false)) else (some false))) else (some false)))) = some r := H
  have A10 := Aside0.mk A100
  clear A100
  replace H := Option.bind_eq_some_iff.mp H
  obtain ⟨⟨t126, t127⟩, A110, H⟩ := H
  replace H : ((pagemenderlaw12_lives.f).bind fun t128 => (if t128 = true then ((ascii_HexPut.f (⟨#[65, 107]⟩ : ByteArray)).bind fun t129 => (if t129.toList = ([52, 49, 54, 66, 62] : List UInt8) then (if t107 = 8 then (if t109 = 4 then (if t111 = 3 then (if t113 = 2 then (if t115 = 0 then (if t114.toList = ([97, 98, 99, 100, 97] : List UInt8) then (if t117 = 4 then (if t119 = 4 then (if t121 = 4 then (if t123 = 8 then (if t125 = 4 then (if t127 = 0 then (if t126.toList = ([255, 255, 255, 255] : List UInt8) then ((ascii_Put85.f (⟨#[]⟩ : ByteArray)).bind fun t130 => (if t130.toList = ([126, 62] : List UInt8) then ((ascii_Put85.f (⟨#[0]⟩ : ByteArray)).bind fun t131 => (some (t131.toList == ([33, 33, 126, 62] : List UInt8)))) else (some false))) else (some false)) else (some false)) else (some false)) else (some false)) else (some false)) else (some false)) else (some false)) else (some false)) else (some false)) else (some false)) else (some false)) else (some false)) else (some false)) else (some false))) else (some false))) = some r := H
  have A11 := Aside0.mk A110
  clear A110
  replace H := Option.bind_eq_some_iff.mp H
  obtain ⟨t128, A120, H⟩ := H
  replace H : (if t128 = true then ((ascii_HexPut.f (⟨#[65, 107]⟩ : ByteArray)).bind fun t129 => (if t129.toList = ([52, 49, 54, 66, 62] : List UInt8) then (if t107 = 8 then (if t109 = 4 then (if t111 = 3 then (if t113 = 2 then (if t115 = 0 then (if t114.toList = ([97, 98, 99, 100, 97] : List UInt8) then (if t117 = 4 then (if t119 = 4 then (if t121 = 4 then (if t123 = 8 then (if t125 = 4 then (if t127 = 0 then (if t126.toList = ([255, 255, 255, 255] : List UInt8) then ((ascii_Put85.f (⟨#[]⟩ : ByteArray)).bind fun t130 => (if t130.toList = ([126, 62] : List UInt8) then ((ascii_Put85.f (⟨#[0]⟩ : ByteArray)).bind fun t131 => (some (t131.toList == ([33, 33, 126, 62] : List UInt8)))) else (some false))) else (some false)) else (some false)) else (some false)) else (some false)) else (some false)) else (some false)) else (some false)) else (some false)) else (some false)) else (some false)) else (some false)) else (some false)) else (some false)) else (some false))) else (some false)) = some r := H
  have A12 := Aside0.mk A120
  clear A120
  by_cases c13 : t128 = true
  · subst c13
    have H1 : ((ascii_HexPut.f (⟨#[65, 107]⟩ : ByteArray)).bind fun t129 => (if t129.toList = ([52, 49, 54, 66, 62] : List UInt8) then (if t107 = 8 then (if t109 = 4 then (if t111 = 3 then (if t113 = 2 then (if t115 = 0 then (if t114.toList = ([97, 98, 99, 100, 97] : List UInt8) then (if t117 = 4 then (if t119 = 4 then (if t121 = 4 then (if t123 = 8 then (if t125 = 4 then (if t127 = 0 then (if t126.toList = ([255, 255, 255, 255] : List UInt8) then ((ascii_Put85.f (⟨#[]⟩ : ByteArray)).bind fun t130 => (if t130.toList = ([126, 62] : List UInt8) then ((ascii_Put85.f (⟨#[0]⟩ : ByteArray)).bind fun t131 => (some (t131.toList == ([33, 33, 126, 62] : List UInt8)))) else (some false))) else (some false)) else (some false)) else (some false)) else (some false)) else (some false)) else (some false)) else (some false)) else (some false)) else (some false)) else (some false)) else (some false)) else (some false)) else (some false)) else (some false))) = some r := by rw [if_pos rfl] at H; exact H
    clear H
    have H := H1
    clear H1
    replace H := Option.bind_eq_some_iff.mp H
    obtain ⟨t129, A140, H⟩ := H
    replace H : (if t129.toList = ([52, 49, 54, 66, 62] : List UInt8) then (if t107 = 8 then (if t109 = 4 then (if t111 = 3 then (if t113 = 2 then (if t115 = 0 then (if t114.toList = ([97, 98, 99, 100, 97] : List UInt8) then (if t117 = 4 then (if t119 = 4 then (if t121 = 4 then (if t123 = 8 then (if t125 = 4 then (if t127 = 0 then (if t126.toList = ([255, 255, 255, 255] : List UInt8) then ((ascii_Put85.f (⟨#[]⟩ : ByteArray)).bind fun t130 => (if t130.toList = ([126, 62] : List UInt8) then ((ascii_Put85.f (⟨#[0]⟩ : ByteArray)).bind fun t131 => (some (t131.toList == ([33, 33, 126, 62] : List UInt8)))) else (some false))) else (some false)) else (some false)) else (some false)) else (some false)) else (some false)) else (some false)) else (some false)) else (some false)) else (some false)) else (some false)) else (some false)) else (some false)) else (some false)) else (some false)) = some r := H
    have A14 := Aside0.mk A140
    clear A140
    by_cases c15 : t129.toList = ([52, 49, 54, 66, 62] : List UInt8)
    · rw [if_pos c15] at H
      have c15b0 : (t129.toList == ([52, 49, 54, 66, 62] : List UInt8)) = true := beq_iff_eq.mpr c15
      have c15b1 : (t129.toList != ([52, 49, 54, 66, 62] : List UInt8)) = false := bne_eq_false_iff_eq.mpr c15
      clear c15
      by_cases c16 : t107 = 8
      · rw [if_pos c16] at H
        have c16b0 : (t107 == 8) = true := beq_iff_eq.mpr c16
        have c16b1 : (t107 != 8) = false := bne_eq_false_iff_eq.mpr c16
        clear c16
        by_cases c17 : t109 = 4
        · rw [if_pos c17] at H
          have c17b0 : (t109 == 4) = true := beq_iff_eq.mpr c17
          have c17b1 : (t109 != 4) = false := bne_eq_false_iff_eq.mpr c17
          clear c17
          by_cases c18 : t111 = 3
          · rw [if_pos c18] at H
            have c18b0 : (t111 == 3) = true := beq_iff_eq.mpr c18
            have c18b1 : (t111 != 3) = false := bne_eq_false_iff_eq.mpr c18
            clear c18
            by_cases c19 : t113 = 2
            · rw [if_pos c19] at H
              have c19b0 : (t113 == 2) = true := beq_iff_eq.mpr c19
              have c19b1 : (t113 != 2) = false := bne_eq_false_iff_eq.mpr c19
              clear c19
              by_cases c20 : t115 = 0
              · rw [if_pos c20] at H
                have c20b0 : (t115 == 0) = true := beq_iff_eq.mpr c20
                have c20b1 : (t115 != 0) = false := bne_eq_false_iff_eq.mpr c20
                clear c20
                by_cases c21 : t114.toList = ([97, 98, 99, 100, 97] : List UInt8)
                · rw [if_pos c21] at H
                  have c21b0 : (t114.toList == ([97, 98, 99, 100, 97] : List UInt8)) = true := beq_iff_eq.mpr c21
                  have c21b1 : (t114.toList != ([97, 98, 99, 100, 97] : List UInt8)) = false := bne_eq_false_iff_eq.mpr c21
                  clear c21
                  by_cases c22 : t117 = 4
                  · rw [if_pos c22] at H
                    have c22b0 : (t117 == 4) = true := beq_iff_eq.mpr c22
                    have c22b1 : (t117 != 4) = false := bne_eq_false_iff_eq.mpr c22
                    clear c22
                    by_cases c23 : t119 = 4
                    · rw [if_pos c23] at H
                      have c23b0 : (t119 == 4) = true := beq_iff_eq.mpr c23
                      have c23b1 : (t119 != 4) = false := bne_eq_false_iff_eq.mpr c23
                      clear c23
                      by_cases c24 : t121 = 4
                      · rw [if_pos c24] at H
                        have c24b0 : (t121 == 4) = true := beq_iff_eq.mpr c24
                        have c24b1 : (t121 != 4) = false := bne_eq_false_iff_eq.mpr c24
                        clear c24
                        by_cases c25 : t123 = 8
                        · rw [if_pos c25] at H
                          have c25b0 : (t123 == 8) = true := beq_iff_eq.mpr c25
                          have c25b1 : (t123 != 8) = false := bne_eq_false_iff_eq.mpr c25
                          clear c25
                          by_cases c26 : t125 = 4
                          · rw [if_pos c26] at H
                            have c26b0 : (t125 == 4) = true := beq_iff_eq.mpr c26
                            have c26b1 : (t125 != 4) = false := bne_eq_false_iff_eq.mpr c26
                            clear c26
                            by_cases c27 : t127 = 0
                            · rw [if_pos c27] at H
                              have c27b0 : (t127 == 0) = true := beq_iff_eq.mpr c27
                              have c27b1 : (t127 != 0) = false := bne_eq_false_iff_eq.mpr c27
                              clear c27
                              by_cases c28 : t126.toList = ([255, 255, 255, 255] : List UInt8)
                              · rw [if_pos c28] at H
                                have c28b0 : (t126.toList == ([255, 255, 255, 255] : List UInt8)) = true := beq_iff_eq.mpr c28
                                have c28b1 : (t126.toList != ([255, 255, 255, 255] : List UInt8)) = false := bne_eq_false_iff_eq.mpr c28
                                clear c28
                                replace H := Option.bind_eq_some_iff.mp H
                                obtain ⟨t130, A290, H⟩ := H
                                replace H : (if t130.toList = ([126, 62] : List UInt8) then ((ascii_Put85.f (⟨#[0]⟩ : ByteArray)).bind fun t131 => (some (t131.toList == ([33, 33, 126, 62] : List UInt8)))) else (some false)) = some r := H
                                have A29 := Aside0.mk A290
                                clear A290
                                by_cases c30 : t130.toList = ([126, 62] : List UInt8)
                                · rw [if_pos c30] at H
                                  have c30b0 : (t130.toList == ([126, 62] : List UInt8)) = true := beq_iff_eq.mpr c30
                                  have c30b1 : (t130.toList != ([126, 62] : List UInt8)) = false := bne_eq_false_iff_eq.mpr c30
                                  clear c30
                                  replace H := Option.bind_eq_some_iff.mp H
                                  obtain ⟨t131, A310, H⟩ := H
                                  replace H : (some (t131.toList == ([33, 33, 126, 62] : List UInt8))) = some r := H
                                  have A31 := Aside0.mk A310
                                  clear A310
                                  obtain rfl := Option.some.inj H
                                  go_enter Try.func5, Try.ntmps5
                                  go_wp2_with (first | ((with_reducible refine gate_callee (f := 12) rfl ?_); refine goesL_ (some 24) rfl rfl Try.func12 (by kernel_rfl) rfl #[.string (⟨#[52, 49]⟩ : ByteArray), .int .i64 9] rfl (by (try simp only [List.map_toArray, List.map_cons, List.map_nil]); first | done | rfl | (simp only [List.length_drop, List.length_take]; rfl)) ?_; (with_reducible refine (ascii_HexGet.calls (⟨#[52, 49]⟩ : ByteArray) 9 t106 t107 _ A1.out).mono ?_); rintro e w32 ⟨rfl, hb⟩; refine ⟨_, rfl, ?_⟩; have n0_ := Aside0.mk (below_step (by repeat (first | (with_reducible first | exact HB.out | apply below_alloc | apply pw_below_drewN | apply below_drew1) | exact HB.out)) hb); clear HB; have HB := n0_; clear n0_; (try clear hb); (try clear hb2); (try clear hk); (try clear hi)) | ((with_reducible refine gate_callee (f := 12) rfl ?_); refine goesL_ (some 28) rfl rfl Try.func12 (by kernel_rfl) rfl #[.string (⟨#[52, 103, 62]⟩ : ByteArray), .int .i64 9] rfl (by (try simp only [List.map_toArray, List.map_cons, List.map_nil]); first | done | rfl | (simp only [List.length_drop, List.length_take]; rfl)) ?_; (with_reducible refine (ascii_HexGet.calls (⟨#[52, 103, 62]⟩ : ByteArray) 9 t108 t109 _ A2.out).mono ?_); rintro e w33 ⟨rfl, hb⟩; refine ⟨_, rfl, ?_⟩; have n0_ := Aside0.mk (below_step (by repeat (first | (with_reducible first | exact HB.out | apply below_alloc | apply pw_below_drewN | apply below_drew1) | exact HB.out)) hb); clear HB; have HB := n0_; clear n0_; (try clear hb); (try clear hb2); (try clear hk); (try clear hi)) | ((with_reducible refine gate_callee (f := 12) rfl ?_); refine goesL_ (some 32) rfl rfl Try.func12 (by kernel_rfl) rfl #[.string (⟨#[52, 49, 52, 50, 62]⟩ : ByteArray), .int .i64 1] rfl (by (try simp only [List.map_toArray, List.map_cons, List.map_nil]); first | done | rfl | (simp only [List.length_drop, List.length_take]; rfl)) ?_; (with_reducible refine (ascii_HexGet.calls (⟨#[52, 49, 52, 50, 62]⟩ : ByteArray) 1 t110 t111 _ A3.out).mono ?_); rintro e w34 ⟨rfl, hb⟩; refine ⟨_, rfl, ?_⟩; have n0_ := Aside0.mk (below_step (by repeat (first | (with_reducible first | exact HB.out | apply below_alloc | apply pw_below_drewN | apply below_drew1) | exact HB.out)) hb); clear HB; have HB := n0_; clear n0_; (try clear hb); (try clear hb2); (try clear hk); (try clear hi)) | ((with_reducible refine gate_callee (f := 12) rfl ?_); refine goesL_ (some 36) rfl rfl Try.func12 (by kernel_rfl) rfl #[.string (⟨#[62]⟩ : ByteArray), .int .i64 (-1)] rfl (by (try simp only [List.map_toArray, List.map_cons, List.map_nil]); first | done | rfl | (simp only [List.length_drop, List.length_take]; rfl)) ?_; (with_reducible refine (ascii_HexGet.calls (⟨#[62]⟩ : ByteArray) (-1) t112 t113 _ A4.out).mono ?_); rintro e w35 ⟨rfl, hb⟩; refine ⟨_, rfl, ?_⟩; have n0_ := Aside0.mk (below_step (by repeat (first | (with_reducible first | exact HB.out | apply below_alloc | apply pw_below_drewN | apply below_drew1) | exact HB.out)) hb); clear HB; have HB := n0_; clear n0_; (try clear hb); (try clear hb2); (try clear hk); (try clear hi)) | ((with_reducible refine gate_callee (f := 13) rfl ?_); refine goesL_ (some 40) rfl rfl Try.func13 (by kernel_rfl) rfl #[.string (⟨#[64, 58, 69, 95, 87, 32, 64, 47, 126, 62, 120]⟩ : ByteArray), .int .i64 9] rfl (by (try simp only [List.map_toArray, List.map_cons, List.map_nil]); first | done | rfl | (simp only [List.length_drop, List.length_take]; rfl)) ?_; (with_reducible refine (ascii_Get85.calls (⟨#[64, 58, 69, 95, 87, 32, 64, 47, 126, 62, 120]⟩ : ByteArray) 9 t114 t115 _ A5.out).mono ?_); rintro e w36 ⟨rfl, hb⟩; refine ⟨_, rfl, ?_⟩; have n0_ := Aside0.mk (below_step (by repeat (first | (with_reducible first | exact HB.out | apply below_alloc | apply pw_below_drewN | apply below_drew1) | exact HB.out)) hb); clear HB; have HB := n0_; clear n0_; (try clear hb); (try clear hb2); (try clear hk); (try clear hi)) | ((with_reducible refine gate_callee (f := 13) rfl ?_); refine goesL_ (some 44) rfl rfl Try.func13 (by kernel_rfl) rfl #[.string (⟨#[64, 126, 62]⟩ : ByteArray), .int .i64 9] rfl (by (try simp only [List.map_toArray, List.map_cons, List.map_nil]); first | done | rfl | (simp only [List.length_drop, List.length_take]; rfl)) ?_; (with_reducible refine (ascii_Get85.calls (⟨#[64, 126, 62]⟩ : ByteArray) 9 t116 t117 _ A6.out).mono ?_); rintro e w37 ⟨rfl, hb⟩; refine ⟨_, rfl, ?_⟩; have n0_ := Aside0.mk (below_step (by repeat (first | (with_reducible first | exact HB.out | apply below_alloc | apply pw_below_drewN | apply below_drew1) | exact HB.out)) hb); clear HB; have HB := n0_; clear n0_; (try clear hb); (try clear hb2); (try clear hk); (try clear hi)) | ((with_reducible refine gate_callee (f := 13) rfl ?_); refine goesL_ (some 48) rfl rfl Try.func13 (by kernel_rfl) rfl #[.string (⟨#[115, 56, 87, 45, 34, 126, 62]⟩ : ByteArray), .int .i64 9] rfl (by (try simp only [List.map_toArray, List.map_cons, List.map_nil]); first | done | rfl | (simp only [List.length_drop, List.length_take]; rfl)) ?_; (with_reducible refine (ascii_Get85.calls (⟨#[115, 56, 87, 45, 34, 126, 62]⟩ : ByteArray) 9 t118 t119 _ A7.out).mono ?_); rintro e w38 ⟨rfl, hb⟩; refine ⟨_, rfl, ?_⟩; have n0_ := Aside0.mk (below_step (by repeat (first | (with_reducible first | exact HB.out | apply below_alloc | apply pw_below_drewN | apply below_drew1) | exact HB.out)) hb); clear HB; have HB := n0_; clear n0_; (try clear hb); (try clear hb2); (try clear hk); (try clear hi)) | ((with_reducible refine gate_callee (f := 13) rfl ?_); refine goesL_ (some 52) rfl rfl Try.func13 (by kernel_rfl) rfl #[.string (⟨#[64, 122, 126, 62]⟩ : ByteArray), .int .i64 9] rfl (by (try simp only [List.map_toArray, List.map_cons, List.map_nil]); first | done | rfl | (simp only [List.length_drop, List.length_take]; rfl)) ?_; (with_reducible refine (ascii_Get85.calls (⟨#[64, 122, 126, 62]⟩ : ByteArray) 9 t120 t121 _ A8.out).mono ?_); rintro e w39 ⟨rfl, hb⟩; refine ⟨_, rfl, ?_⟩; have n0_ := Aside0.mk (below_step (by repeat (first | (with_reducible first | exact HB.out | apply below_alloc | apply pw_below_drewN | apply below_drew1) | exact HB.out)) hb); clear HB; have HB := n0_; clear n0_; (try clear hb); (try clear hb2); (try clear hk); (try clear hi)) | ((with_reducible refine gate_callee (f := 13) rfl ?_); refine goesL_ (some 56) rfl rfl Try.func13 (by kernel_rfl) rfl #[.string (⟨#[122, 126]⟩ : ByteArray), .int .i64 9] rfl (by (try simp only [List.map_toArray, List.map_cons, List.map_nil]); first | done | rfl | (simp only [List.length_drop, List.length_take]; rfl)) ?_; (with_reducible refine (ascii_Get85.calls (⟨#[122, 126]⟩ : ByteArray) 9 t122 t123 _ A9.out).mono ?_); rintro e w40 ⟨rfl, hb⟩; refine ⟨_, rfl, ?_⟩; have n0_ := Aside0.mk (below_step (by repeat (first | (with_reducible first | exact HB.out | apply below_alloc | apply pw_below_drewN | apply below_drew1) | exact HB.out)) hb); clear HB; have HB := n0_; clear n0_; (try clear hb); (try clear hb2); (try clear hk); (try clear hi)) | ((with_reducible refine gate_callee (f := 13) rfl ?_); refine goesL_ (some 60) rfl rfl Try.func13 (by kernel_rfl) rfl #[.string (⟨#[122, 126, 120]⟩ : ByteArray), .int .i64 9] rfl (by (try simp only [List.map_toArray, List.map_cons, List.map_nil]); first | done | rfl | (simp only [List.length_drop, List.length_take]; rfl)) ?_; (with_reducible refine (ascii_Get85.calls (⟨#[122, 126, 120]⟩ : ByteArray) 9 t124 t125 _ A10.out).mono ?_); rintro e w41 ⟨rfl, hb⟩; refine ⟨_, rfl, ?_⟩; have n0_ := Aside0.mk (below_step (by repeat (first | (with_reducible first | exact HB.out | apply below_alloc | apply pw_below_drewN | apply below_drew1) | exact HB.out)) hb); clear HB; have HB := n0_; clear n0_; (try clear hb); (try clear hb2); (try clear hk); (try clear hi)) | ((with_reducible refine gate_callee (f := 13) rfl ?_); refine goesL_ (some 64) rfl rfl Try.func13 (by kernel_rfl) rfl #[.string (⟨#[115, 56, 87, 45, 33, 126, 62]⟩ : ByteArray), .int .i64 4] rfl (by (try simp only [List.map_toArray, List.map_cons, List.map_nil]); first | done | rfl | (simp only [List.length_drop, List.length_take]; rfl)) ?_; (with_reducible refine (ascii_Get85.calls (⟨#[115, 56, 87, 45, 33, 126, 62]⟩ : ByteArray) 4 t126 t127 _ A11.out).mono ?_); rintro e w42 ⟨rfl, hb⟩; refine ⟨_, rfl, ?_⟩; have n0_ := Aside0.mk (below_step (by repeat (first | (with_reducible first | exact HB.out | apply below_alloc | apply pw_below_drewN | apply below_drew1) | exact HB.out)) hb); clear HB; have HB := n0_; clear n0_; (try clear hb); (try clear hb2); (try clear hk); (try clear hi)) | ((with_reducible refine gate_callee (f := 8) rfl ?_); refine goesL_ (some 67) rfl rfl Try.func8 (by kernel_rfl) rfl #[] rfl (by (try simp only [List.map_toArray, List.map_cons, List.map_nil]); first | done | rfl | (simp only [List.length_drop, List.length_take]; rfl)) ?_; (with_reducible refine (pagemenderlaw12_lives.calls  true rfl _ A12.out).mono ?_); rintro e w43 ⟨rfl, hb⟩; refine ⟨_, rfl, ?_⟩; have n0_ := Aside0.mk (below_step (by repeat (first | (with_reducible first | exact HB.out | apply below_alloc | apply pw_below_drewN | apply below_drew1) | exact HB.out)) hb); clear HB; have HB := n0_; clear n0_; (try clear hb); (try clear hb2); (try clear hk); (try clear hi)) | (go_at_call 9; (with_reducible refine (ascii_HexPut.calls (⟨#[65, 107]⟩ : ByteArray) t129 _ A14.out).mono ?_); rintro e w44 ⟨rfl, hb⟩; have n0_ := Aside0.mk (below_step (by repeat (first | (with_reducible first | exact HB.out | apply below_alloc | apply pw_below_drewN | apply below_drew1) | exact HB.out)) hb); clear HB; have HB := n0_; clear n0_; (try clear hb); (try clear hb2); (try clear hk); (try clear hi)) | (go_at_call 10; (with_reducible refine (ascii_Put85.calls (⟨#[]⟩ : ByteArray) t130 _ A29.out).mono ?_); rintro e w45 ⟨rfl, hb⟩; have n0_ := Aside0.mk (below_step (by repeat (first | (with_reducible first | exact HB.out | apply below_alloc | apply pw_below_drewN | apply below_drew1) | exact HB.out)) hb); clear HB; have HB := n0_; clear n0_; (try clear hb); (try clear hb2); (try clear hk); (try clear hi)) | (go_at_call 10; (with_reducible refine (ascii_Put85.calls (⟨#[0]⟩ : ByteArray) t131 _ A31.out).mono ?_); rintro e w46 ⟨rfl, hb⟩; have n0_ := Aside0.mk (below_step (by repeat (first | (with_reducible first | exact HB.out | apply below_alloc | apply pw_below_drewN | apply below_drew1) | exact HB.out)) hb); clear HB; have HB := n0_; clear n0_; (try clear hb); (try clear hb2); (try clear hk); (try clear hi)) | (go_at_call 12; (with_reducible refine (ascii_HexGet.calls (⟨#[52, 49]⟩ : ByteArray) 9 t106 t107 _ A1.out).mono ?_); rintro e w32 ⟨rfl, hb⟩; have n0_ := Aside0.mk (below_step (by repeat (first | (with_reducible first | exact HB.out | apply below_alloc | apply pw_below_drewN | apply below_drew1) | exact HB.out)) hb); clear HB; have HB := n0_; clear n0_; (try clear hb); (try clear hb2); (try clear hk); (try clear hi)) | (go_at_call 12; (with_reducible refine (ascii_HexGet.calls (⟨#[52, 103, 62]⟩ : ByteArray) 9 t108 t109 _ A2.out).mono ?_); rintro e w33 ⟨rfl, hb⟩; have n0_ := Aside0.mk (below_step (by repeat (first | (with_reducible first | exact HB.out | apply below_alloc | apply pw_below_drewN | apply below_drew1) | exact HB.out)) hb); clear HB; have HB := n0_; clear n0_; (try clear hb); (try clear hb2); (try clear hk); (try clear hi)) | (go_at_call 12; (with_reducible refine (ascii_HexGet.calls (⟨#[52, 49, 52, 50, 62]⟩ : ByteArray) 1 t110 t111 _ A3.out).mono ?_); rintro e w34 ⟨rfl, hb⟩; have n0_ := Aside0.mk (below_step (by repeat (first | (with_reducible first | exact HB.out | apply below_alloc | apply pw_below_drewN | apply below_drew1) | exact HB.out)) hb); clear HB; have HB := n0_; clear n0_; (try clear hb); (try clear hb2); (try clear hk); (try clear hi)) | (go_at_call 12; (with_reducible refine (ascii_HexGet.calls (⟨#[62]⟩ : ByteArray) (-1) t112 t113 _ A4.out).mono ?_); rintro e w35 ⟨rfl, hb⟩; have n0_ := Aside0.mk (below_step (by repeat (first | (with_reducible first | exact HB.out | apply below_alloc | apply pw_below_drewN | apply below_drew1) | exact HB.out)) hb); clear HB; have HB := n0_; clear n0_; (try clear hb); (try clear hb2); (try clear hk); (try clear hi)) | (go_at_call 13; (with_reducible refine (ascii_Get85.calls (⟨#[64, 58, 69, 95, 87, 32, 64, 47, 126, 62, 120]⟩ : ByteArray) 9 t114 t115 _ A5.out).mono ?_); rintro e w36 ⟨rfl, hb⟩; have n0_ := Aside0.mk (below_step (by repeat (first | (with_reducible first | exact HB.out | apply below_alloc | apply pw_below_drewN | apply below_drew1) | exact HB.out)) hb); clear HB; have HB := n0_; clear n0_; (try clear hb); (try clear hb2); (try clear hk); (try clear hi)) | (go_at_call 13; (with_reducible refine (ascii_Get85.calls (⟨#[64, 126, 62]⟩ : ByteArray) 9 t116 t117 _ A6.out).mono ?_); rintro e w37 ⟨rfl, hb⟩; have n0_ := Aside0.mk (below_step (by repeat (first | (with_reducible first | exact HB.out | apply below_alloc | apply pw_below_drewN | apply below_drew1) | exact HB.out)) hb); clear HB; have HB := n0_; clear n0_; (try clear hb); (try clear hb2); (try clear hk); (try clear hi)) | (go_at_call 13; (with_reducible refine (ascii_Get85.calls (⟨#[115, 56, 87, 45, 34, 126, 62]⟩ : ByteArray) 9 t118 t119 _ A7.out).mono ?_); rintro e w38 ⟨rfl, hb⟩; have n0_ := Aside0.mk (below_step (by repeat (first | (with_reducible first | exact HB.out | apply below_alloc | apply pw_below_drewN | apply below_drew1) | exact HB.out)) hb); clear HB; have HB := n0_; clear n0_; (try clear hb); (try clear hb2); (try clear hk); (try clear hi)) | (go_at_call 13; (with_reducible refine (ascii_Get85.calls (⟨#[64, 122, 126, 62]⟩ : ByteArray) 9 t120 t121 _ A8.out).mono ?_); rintro e w39 ⟨rfl, hb⟩; have n0_ := Aside0.mk (below_step (by repeat (first | (with_reducible first | exact HB.out | apply below_alloc | apply pw_below_drewN | apply below_drew1) | exact HB.out)) hb); clear HB; have HB := n0_; clear n0_; (try clear hb); (try clear hb2); (try clear hk); (try clear hi)) | (go_at_call 13; (with_reducible refine (ascii_Get85.calls (⟨#[122, 126]⟩ : ByteArray) 9 t122 t123 _ A9.out).mono ?_); rintro e w40 ⟨rfl, hb⟩; have n0_ := Aside0.mk (below_step (by repeat (first | (with_reducible first | exact HB.out | apply below_alloc | apply pw_below_drewN | apply below_drew1) | exact HB.out)) hb); clear HB; have HB := n0_; clear n0_; (try clear hb); (try clear hb2); (try clear hk); (try clear hi)) | (go_at_call 13; (with_reducible refine (ascii_Get85.calls (⟨#[122, 126, 120]⟩ : ByteArray) 9 t124 t125 _ A10.out).mono ?_); rintro e w41 ⟨rfl, hb⟩; have n0_ := Aside0.mk (below_step (by repeat (first | (with_reducible first | exact HB.out | apply below_alloc | apply pw_below_drewN | apply below_drew1) | exact HB.out)) hb); clear HB; have HB := n0_; clear n0_; (try clear hb); (try clear hb2); (try clear hk); (try clear hi)) | (go_at_call 13; (with_reducible refine (ascii_Get85.calls (⟨#[115, 56, 87, 45, 33, 126, 62]⟩ : ByteArray) 4 t126 t127 _ A11.out).mono ?_); rintro e w42 ⟨rfl, hb⟩; have n0_ := Aside0.mk (below_step (by repeat (first | (with_reducible first | exact HB.out | apply below_alloc | apply pw_below_drewN | apply below_drew1) | exact HB.out)) hb); clear HB; have HB := n0_; clear n0_; (try clear hb); (try clear hb2); (try clear hk); (try clear hi)) | (go_at_call 8; (with_reducible refine (pagemenderlaw12_lives.calls  true rfl _ A12.out).mono ?_); rintro e w43 ⟨rfl, hb⟩; have n0_ := Aside0.mk (below_step (by repeat (first | (with_reducible first | exact HB.out | apply below_alloc | apply pw_below_drewN | apply below_drew1) | exact HB.out)) hb); clear HB; have HB := n0_; clear n0_; (try clear hb); (try clear hb2); (try clear hk); (try clear hi)))
                                  go_ret
                                  exact ⟨by first | rfl | (simp [errW_none, errW_some] <;> rfl) | (simp [*, errW_none, errW_some] <;> rfl) | (rw [IntWalk.wrap64_in _ ⟨by omega, by omega⟩]), by repeat (first | (with_reducible first | exact HB.out | apply below_alloc | apply pw_below_drewN | apply below_drew1) | exact HB.out)⟩
                                · rw [if_neg c30] at H
                                  have c30b0 : (t130.toList == ([126, 62] : List UInt8)) = false := beq_eq_false_iff_ne.mpr c30
                                  have c30b1 : (t130.toList != ([126, 62] : List UInt8)) = true := bne_iff_ne.mpr c30
                                  exact absurd ((Option.some.inj H).trans hr) (by decide)
                              · rw [if_neg c28] at H
                                have c28b0 : (t126.toList == ([255, 255, 255, 255] : List UInt8)) = false := beq_eq_false_iff_ne.mpr c28
                                have c28b1 : (t126.toList != ([255, 255, 255, 255] : List UInt8)) = true := bne_iff_ne.mpr c28
                                exact absurd ((Option.some.inj H).trans hr) (by decide)
                            · rw [if_neg c27] at H
                              have c27b0 : (t127 == 0) = false := beq_eq_false_iff_ne.mpr c27
                              have c27b1 : (t127 != 0) = true := bne_iff_ne.mpr c27
                              exact absurd ((Option.some.inj H).trans hr) (by decide)
                          · rw [if_neg c26] at H
                            have c26b0 : (t125 == 4) = false := beq_eq_false_iff_ne.mpr c26
                            have c26b1 : (t125 != 4) = true := bne_iff_ne.mpr c26
                            exact absurd ((Option.some.inj H).trans hr) (by decide)
                        · rw [if_neg c25] at H
                          have c25b0 : (t123 == 8) = false := beq_eq_false_iff_ne.mpr c25
                          have c25b1 : (t123 != 8) = true := bne_iff_ne.mpr c25
                          exact absurd ((Option.some.inj H).trans hr) (by decide)
                      · rw [if_neg c24] at H
                        have c24b0 : (t121 == 4) = false := beq_eq_false_iff_ne.mpr c24
                        have c24b1 : (t121 != 4) = true := bne_iff_ne.mpr c24
                        exact absurd ((Option.some.inj H).trans hr) (by decide)
                    · rw [if_neg c23] at H
                      have c23b0 : (t119 == 4) = false := beq_eq_false_iff_ne.mpr c23
                      have c23b1 : (t119 != 4) = true := bne_iff_ne.mpr c23
                      exact absurd ((Option.some.inj H).trans hr) (by decide)
                  · rw [if_neg c22] at H
                    have c22b0 : (t117 == 4) = false := beq_eq_false_iff_ne.mpr c22
                    have c22b1 : (t117 != 4) = true := bne_iff_ne.mpr c22
                    exact absurd ((Option.some.inj H).trans hr) (by decide)
                · rw [if_neg c21] at H
                  have c21b0 : (t114.toList == ([97, 98, 99, 100, 97] : List UInt8)) = false := beq_eq_false_iff_ne.mpr c21
                  have c21b1 : (t114.toList != ([97, 98, 99, 100, 97] : List UInt8)) = true := bne_iff_ne.mpr c21
                  exact absurd ((Option.some.inj H).trans hr) (by decide)
              · rw [if_neg c20] at H
                have c20b0 : (t115 == 0) = false := beq_eq_false_iff_ne.mpr c20
                have c20b1 : (t115 != 0) = true := bne_iff_ne.mpr c20
                exact absurd ((Option.some.inj H).trans hr) (by decide)
            · rw [if_neg c19] at H
              have c19b0 : (t113 == 2) = false := beq_eq_false_iff_ne.mpr c19
              have c19b1 : (t113 != 2) = true := bne_iff_ne.mpr c19
              exact absurd ((Option.some.inj H).trans hr) (by decide)
          · rw [if_neg c18] at H
            have c18b0 : (t111 == 3) = false := beq_eq_false_iff_ne.mpr c18
            have c18b1 : (t111 != 3) = true := bne_iff_ne.mpr c18
            exact absurd ((Option.some.inj H).trans hr) (by decide)
        · rw [if_neg c17] at H
          have c17b0 : (t109 == 4) = false := beq_eq_false_iff_ne.mpr c17
          have c17b1 : (t109 != 4) = true := bne_iff_ne.mpr c17
          exact absurd ((Option.some.inj H).trans hr) (by decide)
      · rw [if_neg c16] at H
        have c16b0 : (t107 == 8) = false := beq_eq_false_iff_ne.mpr c16
        have c16b1 : (t107 != 8) = true := bne_iff_ne.mpr c16
        exact absurd ((Option.some.inj H).trans hr) (by decide)
    · rw [if_neg c15] at H
      have c15b0 : (t129.toList == ([52, 49, 54, 66, 62] : List UInt8)) = false := beq_eq_false_iff_ne.mpr c15
      have c15b1 : (t129.toList != ([52, 49, 54, 66, 62] : List UInt8)) = true := bne_iff_ne.mpr c15
      exact absurd ((Option.some.inj H).trans hr) (by decide)
  · replace c13 := Bool.eq_false_iff.mpr c13
    subst c13
    have H1 : (some false) = some r := by rw [if_neg (show ¬ (false = true) by decide)] at H; exact H
    clear H
    have H := H1
    clear H1
    exact absurd ((Option.some.inj H).trans hr) (by decide)

/-- THE ONE PURE STATEMENT of pagemenderlaw12_AsciiNames: yours. -/
def pagemenderlaw12_AsciiNames.Pure : Prop := pagemenderlaw12_AsciiNames.f  = some true
theorem pagemenderlaw12_AsciiNames.walk (P : pagemenderlaw12_AsciiNames.Pure)  (w : World)  :
    Calls Try.prog 5 #[] w fun e w' => e = .returned (.bool true) ∧ Below w.heap.size w w' := by
  have h := P  
  refine (pagemenderlaw12_AsciiNames.calls  true rfl w h).mono ?_
  rintro e w' ⟨rfl, hd⟩
  exact ⟨rfl, hd⟩

end Go.Proofs.Ytjgbnaejeeinbaa.AN

-- hand_arm_
