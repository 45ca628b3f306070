/-
  The walk of ClassNames: the chapter's examples come out as it tells.
-/
import Derived.Test.YtmcdhldaffljnaaGx3
namespace Go.Proofs.Ytmcdhldaffljnaa
open Go.RowKit Go.Proofs.Ytmcdhldaffljnaa.G Go.Proofs.YtmcdhldaffljnaaW.PrintWords Go.Proofs.YtmcdhldaffljnaaW.PrintLast
set_option linter.unusedVariables false
set_option linter.unusedSimpArgs false

set_option maxRecDepth 100000 in
set_option maxHeartbeats 1000000 in
theorem classNames_walk (w : World) : Calls Try.prog 7 #[] w fun e w' => e = .returned (.bool true) ∧ Below w.heap.size w w' := by
  have HB := Aside0.mk (Below.refl w.heap.size w)
  have f1 : Aside0 (class_White.f (0) = some true) := Aside0.mk (by decide +kernel)
  have f2 : Aside0 (class_White.f (11) = some false) := Aside0.mk (by decide +kernel)
  have f3 : Aside0 (class_Delim.f (37) = some true) := Aside0.mk (by decide +kernel)
  have f4 : Aside0 (class_Delim.f (35) = some false) := Aside0.mk (by decide +kernel)
  have f5 : Aside0 (class_Regular.f (35) = some true) := Aside0.mk (by decide +kernel)
  have f6 : Aside0 (class_Eol.f (⟨#[97]⟩ : ByteArray) 0 = some 0) := Aside0.mk (by decide +kernel)
  have f7 : Aside0 (class_Eol.f (⟨#[]⟩ : ByteArray) 5 = some 0) := Aside0.mk (by decide +kernel)
  have f8 : Aside0 (class_Back.f (⟨#[13]⟩ : ByteArray) 1 = some 1) := Aside0.mk (by decide +kernel)
  have f9 : Aside0 (class_Back.f (⟨#[97, 10]⟩ : ByteArray) 1 = some 0) := Aside0.mk (by decide +kernel)
  have f10 : Aside0 (class_Skip.f (⟨#[37, 97, 13, 37, 98]⟩ : ByteArray) (-3) = some 5) := Aside0.mk (by decide +kernel)
  have f11 : Aside0 (class_Hex.f 3 102 = some 15) := Aside0.mk (by decide +kernel)
  have f12 : Aside0 (class_Hex.f 3 70 = some 15) := Aside0.mk (by decide +kernel)
  have f13 : Aside0 (class_Hex.f 3 103 = some (-1)) := Aside0.mk (by decide +kernel)
  have f14 : Aside0 (class_Digit.f 57 = some true) := Aside0.mk (by decide +kernel)
  have f15 : Aside0 (class_Digit.f 58 = some false) := Aside0.mk (by decide +kernel)
  have f16 : Aside0 (class_Run.f 8 (⟨#[97, 98, 91, 99]⟩ : ByteArray) 0 = some 2) := Aside0.mk (by decide +kernel)
  have f17 : Aside0 (class_Run.f 8 (⟨#[97, 98]⟩ : ByteArray) 9 = some 2) := Aside0.mk (by decide +kernel)
  have f18 : Aside0 (pagemenderlaw01_lives.f  = some true) := Aside0.mk (by decide +kernel)
  go_enter Try.func7, Try.ntmps7
  go_wp2_with (first
    | (go_at_call 13; (with_reducible refine (class_White.calls (0) true _ f1.out).mono ?_); rintro e w' ⟨rfl, hb⟩; have n0_ := Aside0.mk (below_step (by repeat (first | (with_reducible first | exact HB.out | apply below_alloc | apply pw_below_drewN | apply below_drew1) | exact HB.out)) hb); clear HB; have HB := n0_; clear n0_ hb)
    | (go_at_call 13; (with_reducible refine (class_White.calls (11) false _ f2.out).mono ?_); rintro e w' ⟨rfl, hb⟩; have n0_ := Aside0.mk (below_step (by repeat (first | (with_reducible first | exact HB.out | apply below_alloc | apply pw_below_drewN | apply below_drew1) | exact HB.out)) hb); clear HB; have HB := n0_; clear n0_ hb)
    | (go_at_call 16; (with_reducible refine (class_Delim.calls (37) true _ f3.out).mono ?_); rintro e w' ⟨rfl, hb⟩; have n0_ := Aside0.mk (below_step (by repeat (first | (with_reducible first | exact HB.out | apply below_alloc | apply pw_below_drewN | apply below_drew1) | exact HB.out)) hb); clear HB; have HB := n0_; clear n0_ hb)
    | (go_at_call 16; (with_reducible refine (class_Delim.calls (35) false _ f4.out).mono ?_); rintro e w' ⟨rfl, hb⟩; have n0_ := Aside0.mk (below_step (by repeat (first | (with_reducible first | exact HB.out | apply below_alloc | apply pw_below_drewN | apply below_drew1) | exact HB.out)) hb); clear HB; have HB := n0_; clear n0_ hb)
    | (go_at_call 15; (with_reducible refine (class_Regular.calls (35) true _ f5.out).mono ?_); rintro e w' ⟨rfl, hb⟩; have n0_ := Aside0.mk (below_step (by repeat (first | (with_reducible first | exact HB.out | apply below_alloc | apply pw_below_drewN | apply below_drew1) | exact HB.out)) hb); clear HB; have HB := n0_; clear n0_ hb)
    | (go_at_call 10; (with_reducible refine (class_Eol.calls (⟨#[97]⟩ : ByteArray) 0 0 _ f6.out).mono ?_); rintro e w' ⟨rfl, hb⟩; have n0_ := Aside0.mk (below_step (by repeat (first | (with_reducible first | exact HB.out | apply below_alloc | apply pw_below_drewN | apply below_drew1) | exact HB.out)) hb); clear HB; have HB := n0_; clear n0_ hb)
    | (go_at_call 10; (with_reducible refine (class_Eol.calls (⟨#[]⟩ : ByteArray) 5 0 _ f7.out).mono ?_); rintro e w' ⟨rfl, hb⟩; have n0_ := Aside0.mk (below_step (by repeat (first | (with_reducible first | exact HB.out | apply below_alloc | apply pw_below_drewN | apply below_drew1) | exact HB.out)) hb); clear HB; have HB := n0_; clear n0_ hb)
    | (go_at_call 11; (with_reducible refine (class_Back.calls (⟨#[13]⟩ : ByteArray) 1 1 _ f8.out).mono ?_); rintro e w' ⟨rfl, hb⟩; have n0_ := Aside0.mk (below_step (by repeat (first | (with_reducible first | exact HB.out | apply below_alloc | apply pw_below_drewN | apply below_drew1) | exact HB.out)) hb); clear HB; have HB := n0_; clear n0_ hb)
    | (go_at_call 11; (with_reducible refine (class_Back.calls (⟨#[97, 10]⟩ : ByteArray) 1 0 _ f9.out).mono ?_); rintro e w' ⟨rfl, hb⟩; have n0_ := Aside0.mk (below_step (by repeat (first | (with_reducible first | exact HB.out | apply below_alloc | apply pw_below_drewN | apply below_drew1) | exact HB.out)) hb); clear HB; have HB := n0_; clear n0_ hb)
    | (go_at_call 12; (with_reducible refine (class_Skip.calls (⟨#[37, 97, 13, 37, 98]⟩ : ByteArray) (-3) 5 _ f10.out).mono ?_); rintro e w' ⟨rfl, hb⟩; have n0_ := Aside0.mk (below_step (by repeat (first | (with_reducible first | exact HB.out | apply below_alloc | apply pw_below_drewN | apply below_drew1) | exact HB.out)) hb); clear HB; have HB := n0_; clear n0_ hb)
    | (go_at_call 17; (with_reducible refine (class_Hex.calls 3 102 15 _ f11.out).mono ?_); rintro e w' ⟨rfl, ⟨nd, rfl⟩⟩)
    | (go_at_call 17; (with_reducible refine (class_Hex.calls 3 70 15 _ f12.out).mono ?_); rintro e w' ⟨rfl, ⟨nd, rfl⟩⟩)
    | (go_at_call 17; (with_reducible refine (class_Hex.calls 3 103 (-1) _ f13.out).mono ?_); rintro e w' ⟨rfl, ⟨nd, rfl⟩⟩)
    | (go_at_call 18; (with_reducible refine (class_Digit.calls 57 true _ f14.out).mono ?_); rintro e w' ⟨rfl, ⟨nd, rfl⟩⟩)
    | (go_at_call 18; (with_reducible refine (class_Digit.calls 58 false _ f15.out).mono ?_); rintro e w' ⟨rfl, ⟨nd, rfl⟩⟩)
    | (go_at_call 14; (with_reducible refine (class_Run.calls 8 (⟨#[97, 98, 91, 99]⟩ : ByteArray) 0 2 _ f16.out).mono ?_); rintro e w' ⟨rfl, hb⟩; have n0_ := Aside0.mk (below_step (by repeat (first | (with_reducible first | exact HB.out | apply below_alloc | apply pw_below_drewN | apply below_drew1) | exact HB.out)) hb); clear HB; have HB := n0_; clear n0_ hb)
    | (go_at_call 14; (with_reducible refine (class_Run.calls 8 (⟨#[97, 98]⟩ : ByteArray) 9 2 _ f17.out).mono ?_); rintro e w' ⟨rfl, hb⟩; have n0_ := Aside0.mk (below_step (by repeat (first | (with_reducible first | exact HB.out | apply below_alloc | apply pw_below_drewN | apply below_drew1) | exact HB.out)) hb); clear HB; have HB := n0_; clear n0_ hb)
    | (go_at_call 9; (with_reducible refine (pagemenderlaw01_lives.calls  true _ f18.out).mono ?_); rintro e w' ⟨rfl, hb⟩; have n0_ := Aside0.mk (below_step (by repeat (first | (with_reducible first | exact HB.out | apply below_alloc | apply pw_below_drewN | apply below_drew1) | exact HB.out)) hb); clear HB; have HB := n0_; clear n0_ hb))
  go_goals
  go_ret
  exact ⟨rfl, by repeat (first | (with_reducible first | exact HB.out | apply below_alloc | apply pw_below_drewN | apply below_drew1) | exact HB.out)⟩
end Go.Proofs.Ytmcdhldaffljnaa
