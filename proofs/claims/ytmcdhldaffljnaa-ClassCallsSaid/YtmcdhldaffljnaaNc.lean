/-
  The walk of ClassCalls: bytes and places are what the document says.
-/
import Derived.Test.YtmcdhldaffljnaaQc
namespace Go.Proofs.Ytmcdhldaffljnaa
open Go.RowKit Go.Proofs.Ytmcdhldaffljnaa.HC Go.Proofs.YtmcdhldaffljnaaW.PrintWords Go.Proofs.YtmcdhldaffljnaaW.PrintLast
set_option linter.unusedVariables false
set_option linter.unusedSimpArgs false

set_option maxRecDepth 100000 in
set_option maxHeartbeats 1000000 in
theorem calls_long (a0 : Int) (s : ByteArray) (a : Int) (w : World) (hs : (2000 : Int) < (s.size : Int)) : Calls Try.prog 8 #[.int .u8 a0, .string s, .int .i64 a] w fun e w' => e = .returned (.bool true) ∧ Below w.heap.size w w' := by
  have HB := Aside0.mk (Below.refl w.heap.size w)
  have f0 : Aside0 (pagemenderlaw01_lives.f = some true) := Aside0.mk Qc.lives_ok
  go_enter Try.func8, Try.ntmps8
  go_wp2_with (first
    | (go_at_call 9; (with_reducible refine (pagemenderlaw01_lives.calls true _ f0.out).mono ?_); rintro e w' ⟨rfl, hb⟩; have n0_ := Aside0.mk (below_step (by repeat (first | (with_reducible first | exact HB.out | apply below_alloc | apply pw_below_drewN | apply below_drew1) | exact HB.out)) hb); clear HB; have HB := n0_; clear n0_ hb))
  go_ret
  exact ⟨rfl, HB.out⟩

set_option maxRecDepth 100000 in
set_option maxHeartbeats 1000000 in
theorem calls_short (a0 : Int) (s : ByteArray) (a : Int) (w : World) (hs : (s.size : Int) ≤ 2000)
    (b1 : Bool) (f1a : Aside0 (class_White.f a0 = some b1)) (f1b : Aside0 (pagemenderref01_White.f a0 = some b1))
    (b2 : Bool) (f2a : Aside0 (class_Delim.f a0 = some b2)) (f2b : Aside0 (pagemenderref01_Delim.f a0 = some b2))
    (b3 : Bool) (f3a : Aside0 (class_Regular.f a0 = some b3)) (f3b : Aside0 (pagemenderref01_Regular.f a0 = some b3))
    (b4 : Bool) (f4a : Aside0 (class_Digit.f a0 = some b4)) (f4b : Aside0 (pagemenderref01_Digit.f a0 = some b4))
    (n5 : Int) (f5a : Aside0 (class_Hex.f 4 a0 = some n5)) (f5b : Aside0 (pagemenderref01_Hex.f 4 a0 = some n5))
    (n6 : Int) (f6a : Aside0 (class_Eol.f s a = some n6)) (f6b : Aside0 (pagemenderref01_Eol.f 1 s a = some n6))
    (n7 : Int) (f7a : Aside0 (class_Back.f s a = some n7)) (f7b : Aside0 (pagemenderref01_Back.f 1 s a = some n7))
    (n8 : Int) (f8a : Aside0 (class_Skip.f s a = some n8)) (f8b : Aside0 (pagemenderref01_Skip.f (3 * s.size + 3) s a = some n8))
    (n9 : Int) (f9a : Aside0 (class_Run.f (s.size + 1) s a = some n9)) (f9b : Aside0 (pagemenderref01_Run.f (s.size + 1) s a = some n9)) : Calls Try.prog 8 #[.int .u8 a0, .string s, .int .i64 a] w fun e w' => e = .returned (.bool true) ∧ Below w.heap.size w w' := by
  have HB := Aside0.mk (Below.refl w.heap.size w)
  have f0 : Aside0 (pagemenderlaw01_lives.f = some true) := Aside0.mk Qc.lives_ok
  go_enter Try.func8, Try.ntmps8
  go_wp2_with (first
    | (go_at_call 9; (with_reducible refine (pagemenderlaw01_lives.calls true _ f0.out).mono ?_); rintro e w' ⟨rfl, hb⟩; have n0_ := Aside0.mk (below_step (by repeat (first | (with_reducible first | exact HB.out | apply below_alloc | apply pw_below_drewN | apply below_drew1) | exact HB.out)) hb); clear HB; have HB := n0_; clear n0_ hb)
    | (go_at_call 13; (with_reducible refine (class_White.calls a0 b1 _ f1a.out).mono ?_); rintro e w' ⟨rfl, hb⟩; have n0_ := Aside0.mk (below_step (by repeat (first | (with_reducible first | exact HB.out | apply below_alloc | apply pw_below_drewN | apply below_drew1) | exact HB.out)) hb); clear HB; have HB := n0_; clear n0_ hb)
    | (go_at_call 19; (with_reducible refine (pagemenderref01_White.calls a0 b1 _ f1b.out).mono ?_); rintro e w' ⟨rfl, ⟨nd, rfl⟩⟩)
    | (go_at_call 16; (with_reducible refine (class_Delim.calls a0 b2 _ f2a.out).mono ?_); rintro e w' ⟨rfl, hb⟩; have n0_ := Aside0.mk (below_step (by repeat (first | (with_reducible first | exact HB.out | apply below_alloc | apply pw_below_drewN | apply below_drew1) | exact HB.out)) hb); clear HB; have HB := n0_; clear n0_ hb)
    | (go_at_call 20; (with_reducible refine (pagemenderref01_Delim.calls a0 b2 _ f2b.out).mono ?_); rintro e w' ⟨rfl, hb⟩; have n0_ := Aside0.mk (below_step (by repeat (first | (with_reducible first | exact HB.out | apply below_alloc | apply pw_below_drewN | apply below_drew1) | exact HB.out)) hb); clear HB; have HB := n0_; clear n0_ hb)
    | (go_at_call 15; (with_reducible refine (class_Regular.calls a0 b3 _ f3a.out).mono ?_); rintro e w' ⟨rfl, hb⟩; have n0_ := Aside0.mk (below_step (by repeat (first | (with_reducible first | exact HB.out | apply below_alloc | apply pw_below_drewN | apply below_drew1) | exact HB.out)) hb); clear HB; have HB := n0_; clear n0_ hb)
    | (go_at_call 21; (with_reducible refine (pagemenderref01_Regular.calls a0 b3 _ f3b.out).mono ?_); rintro e w' ⟨rfl, hb⟩; have n0_ := Aside0.mk (below_step (by repeat (first | (with_reducible first | exact HB.out | apply below_alloc | apply pw_below_drewN | apply below_drew1) | exact HB.out)) hb); clear HB; have HB := n0_; clear n0_ hb)
    | (go_at_call 18; (with_reducible refine (class_Digit.calls a0 b4 _ f4a.out).mono ?_); rintro e w' ⟨rfl, ⟨nd, rfl⟩⟩)
    | (go_at_call 22; (with_reducible refine (pagemenderref01_Digit.calls a0 b4 _ f4b.out).mono ?_); rintro e w' ⟨rfl, ⟨nd, rfl⟩⟩)
    | (go_at_call 17; (with_reducible refine (class_Hex.calls 4 a0 n5 _ f5a.out).mono ?_); rintro e w' ⟨rfl, ⟨nd, rfl⟩⟩)
    | (go_at_call 23; (with_reducible refine (pagemenderref01_Hex.calls 4 a0 n5 _ f5b.out).mono ?_); rintro e w' ⟨rfl, ⟨nd, rfl⟩⟩)
    | (go_at_call 10; (with_reducible refine (class_Eol.calls s a n6 _ f6a.out).mono ?_); rintro e w' ⟨rfl, hb⟩; have n0_ := Aside0.mk (below_step (by repeat (first | (with_reducible first | exact HB.out | apply below_alloc | apply pw_below_drewN | apply below_drew1) | exact HB.out)) hb); clear HB; have HB := n0_; clear n0_ hb)
    | (go_at_call 24; (with_reducible refine (pagemenderref01_Eol.calls 1 s a n6 _ f6b.out).mono ?_); rintro e w' ⟨rfl, hb⟩; have n0_ := Aside0.mk (below_step (by repeat (first | (with_reducible first | exact HB.out | apply below_alloc | apply pw_below_drewN | apply below_drew1) | exact HB.out)) hb); clear HB; have HB := n0_; clear n0_ hb)
    | (go_at_call 11; (with_reducible refine (class_Back.calls s a n7 _ f7a.out).mono ?_); rintro e w' ⟨rfl, hb⟩; have n0_ := Aside0.mk (below_step (by repeat (first | (with_reducible first | exact HB.out | apply below_alloc | apply pw_below_drewN | apply below_drew1) | exact HB.out)) hb); clear HB; have HB := n0_; clear n0_ hb)
    | (go_at_call 25; (with_reducible refine (pagemenderref01_Back.calls 1 s a n7 _ f7b.out).mono ?_); rintro e w' ⟨rfl, hb⟩; have n0_ := Aside0.mk (below_step (by repeat (first | (with_reducible first | exact HB.out | apply below_alloc | apply pw_below_drewN | apply below_drew1) | exact HB.out)) hb); clear HB; have HB := n0_; clear n0_ hb)
    | (go_at_call 12; (with_reducible refine (class_Skip.calls s a n8 _ f8a.out).mono ?_); rintro e w' ⟨rfl, hb⟩; have n0_ := Aside0.mk (below_step (by repeat (first | (with_reducible first | exact HB.out | apply below_alloc | apply pw_below_drewN | apply below_drew1) | exact HB.out)) hb); clear HB; have HB := n0_; clear n0_ hb)
    | (go_at_call 26; (with_reducible refine (pagemenderref01_Skip.calls (3 * s.size + 3) s a n8 _ f8b.out).mono ?_); rintro e w' ⟨rfl, hb⟩; have n0_ := Aside0.mk (below_step (by repeat (first | (with_reducible first | exact HB.out | apply below_alloc | apply pw_below_drewN | apply below_drew1) | exact HB.out)) hb); clear HB; have HB := n0_; clear n0_ hb)
    | (go_at_call 14; (with_reducible refine (class_Run.calls (s.size + 1) s a n9 _ f9a.out).mono ?_); rintro e w' ⟨rfl, hb⟩; have n0_ := Aside0.mk (below_step (by repeat (first | (with_reducible first | exact HB.out | apply below_alloc | apply pw_below_drewN | apply below_drew1) | exact HB.out)) hb); clear HB; have HB := n0_; clear n0_ hb)
    | (go_at_call 27; (with_reducible refine (pagemenderref01_Run.calls (s.size + 1) s a n9 _ f9b.out).mono ?_); rintro e w' ⟨rfl, hb⟩; have n0_ := Aside0.mk (below_step (by repeat (first | (with_reducible first | exact HB.out | apply below_alloc | apply pw_below_drewN | apply below_drew1) | exact HB.out)) hb); clear HB; have HB := n0_; clear n0_ hb))
  go_ret
  exact ⟨rfl, by repeat (first | (with_reducible first | exact HB.out | apply below_alloc | apply pw_below_drewN | apply below_drew1) | exact HB.out)⟩

theorem classCalls_walk (a0 : Int) (s : ByteArray) (a : Int) (w : World) (h0 : (Lit.int .u8 a0).wf = true) (hs : s.size ≤ 140737488351232) (ha : (Lit.int .i64 a).wf = true) :
    Calls Try.prog 8 #[.int .u8 a0, .string s, .int .i64 a] w fun e w' => e = .returned (.bool true) ∧ Below w.heap.size w w' := by
  have hb : 0 ≤ a0 ∧ a0 < 256 := by
    have hh : (decide (IntKind.u8.min ≤ a0) && decide (a0 ≤ IntKind.u8.max)) = true := h0
    rw [Bool.and_eq_true, decide_eq_true_eq, decide_eq_true_eq] at hh
    have e : IntKind.u8.min = 0 := by decide
    have e' : IntKind.u8.max = 255 := by decide
    omega
  by_cases h : (2000 : Int) < (s.size : Int)
  · exact calls_long a0 s a w h
  · have hz : s.size ≤ 2000 := by omega
    have w1 : class_White.f a0 = some (clsN a0.toNat == 1) := by unfold class_White.f; rw [if_pos hb]
    have w2 : class_Delim.f a0 = some (clsN a0.toNat == 2) := by unfold class_Delim.f; rw [if_pos hb]
    have w2b : pagemenderref01_Delim.f a0 = some (clsN a0.toNat == 2) := by unfold pagemenderref01_Delim.f; rw [if_pos hb]
    have w3 : class_Regular.f a0 = some (clsN a0.toNat == 0) := by unfold class_Regular.f; rw [if_pos hb]
    have x1 := Qc.of_all (p := fun a => pagemenderref01_White.f a = class_White.f a) Qc.white_all hb.1 hb.2
    have x3 := Qc.of_all (p := fun a => pagemenderref01_Regular.f a = class_Regular.f a) Qc.regular_all hb.1 hb.2
    obtain ⟨x4, y4⟩ := Qc.of_all (p := fun a => pagemenderref01_Digit.f a = class_Digit.f a ∧ (class_Digit.f a).isSome = true) Qc.digit_all hb.1 hb.2
    obtain ⟨x5, y5⟩ := Qc.of_all (p := fun a => pagemenderref01_Hex.f 4 a = class_Hex.f 4 a ∧ (class_Hex.f 4 a).isSome = true) Qc.hex_all hb.1 hb.2
    obtain ⟨b4, z4⟩ := Option.isSome_iff_exists.1 y4
    obtain ⟨n5, z5⟩ := Option.isSome_iff_exists.1 y5
    have e6 : class_Eol.f s a = some (eolL (s.data.toList.drop (plc s a))) := rfl
    have e7 : class_Back.f s a = some (backL (s.data.toList.take (plc s a)).reverse) := by unfold class_Back.f; rw [if_pos hs]
    have e8 : class_Skip.f s a = some ((plc s a : Int) + sk false (s.data.toList.drop (plc s a))) := by unfold class_Skip.f; rw [if_pos hs]
    obtain ⟨e9, e9b⟩ := Qc.run_is s a hz (s.size + 1) (Nat.le_refl _)
    exact calls_short a0 s a w (by omega) _ (Aside0.mk w1) (Aside0.mk (x1.trans w1)) _ (Aside0.mk w2) (Aside0.mk w2b) _ (Aside0.mk w3) (Aside0.mk (x3.trans w3)) b4 (Aside0.mk z4) (Aside0.mk (x4.trans z4)) n5 (Aside0.mk z5) (Aside0.mk (x5.trans z5))
      _ (Aside0.mk e6) (Aside0.mk (Qc.eol_is s a hz 0)) _ (Aside0.mk e7) (Aside0.mk (Qc.back_is s a hz 0)) _ (Aside0.mk e8) (Aside0.mk (Qc.skip_is s a hz _ (Nat.le_refl _))) _ (Aside0.mk e9) (Aside0.mk e9b)
end Go.Proofs.Ytmcdhldaffljnaa
