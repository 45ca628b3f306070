/-
  The contracts of class.ends, class.Eol.
-/
import Derived.Test.YtioildfnbcdekaaCa
import Derived.Lib.Hide
namespace Go.Proofs.Ytioildfnbcdekaa
open Go.RowKit
set_option linter.unusedVariables false
set_option linter.unusedSimpArgs false

def endsZero : Array Value := #[.string ByteArray.empty, .string ByteArray.empty, .string ByteArray.empty]
def endsFull : Array Value := #[.string ⟨#[13, 10]⟩, .string ⟨#[10]⟩, .string ⟨#[13]⟩]
theorem endsZero_run (w : World) : (zeroValue 53).run Try.prog w = .ok (.agg endsZero) w := by kernel_rfl
def endsParts : List (Nat × Value) := [(0, .string ⟨#[13, 10]⟩), (1, .string ⟨#[10]⟩), (2, .string ⟨#[13]⟩)]
theorem ends_built : Try.prog.built 53 endsParts = some endsFull := by kernel_rfl
theorem ends_info : (Try.prog.info? 53).map (·.size) = some 3 := by kernel_rfl

set_option maxRecDepth 100000 in
theorem ends_calls (w : World) :
    Calls Try.prog 28 #[] w fun e w' => e = .returned (.agg endsFull) ∧ Below w.heap.size w w' := by
  have hz := endsZero_run
  go_enter Try.func28, Try.ntmps28
  go_wp2_with (first | (refine wpList_build_as rfl 53 _ rfl endsFull ?hf ?_) | (refine wpList_store_row rfl 53 _ _ rfl w.heap.size endsFull rfl rfl 53 endsZero ?hg ?hi ?ho ?h1 ?_))
  case hf => exact ends_built
  case hg => exact heap_alloc_new _ _
  case hi => exact ends_info
  case ho => rfl
  case h1 => decide +kernel
  refine bodyPost_ret (v := .agg endsFull) (results_cell_row (by rfl) _ _ w.heap.size 53 endsFull (0, 0) _ rfl (setRow_heap _ _ _ _ _ _ (heap_alloc_new _ _)) Try.underlying53 rfl ends_info) rfl ⟨rfl, ?_⟩
  exact below_setRow ((Below.refl _ _).alloc (Nat.le_refl _) _) (Nat.le_refl _) _

theorem ends_index0 (w : World) : (Instr.index 53 (.agg endsFull) (.int .i64 0)).run Try.prog w = .ok (.string ⟨#[13, 10]⟩) w := by kernel_rfl
theorem ends_index1 (w : World) : (Instr.index 53 (.agg endsFull) (.int .i64 1)).run Try.prog w = .ok (.string ⟨#[10]⟩) w := by kernel_rfl
theorem ends_index2 (w : World) : (Instr.index 53 (.agg endsFull) (.int .i64 2)).run Try.prog w = .ok (.string ⟨#[13]⟩) w := by kernel_rfl

theorem place_calls (s : ByteArray) (a : Int) (w : World) :
    Calls Try.prog 27 #[.string s, .int .i64 a] w fun e w' => e = .returned (.int .i64 (plc s a)) ∧ Below w.heap.size w w' := by
  have hv : (plc s a : Int) = if a < 0 then 0 else if (s.size : Int) < a then (s.size : Int) else a := by unfold plc; split <;> (try split) <;> omega
  generalize plc s a = v at *
  have HV := Lib.hid hv
  clear hv
  go_enter Try.func27, Try.ntmps27
  go_wp2
  all_goals (go_ret; exact ⟨ret_int (by rw [HV.out]; split <;> (try split) <;> omega), Below.refl _ _⟩)

def class_Eol.f (s : ByteArray) (a : Int) : Option Int := some (eolL (s.data.toList.drop (plc s a)))

theorem class_Eol.calls (s : ByteArray) (a : Int) (r : Int) (w : World) (h : class_Eol.f s a = some r) :
    Calls Try.prog 18 #[.string s, .int .i64 a] w fun e w' => e = .returned (.int .i64 r) ∧ Below w.heap.size w w' := by
  have hp := plc_le s a
  have HR := Lib.hid ((Option.some.inj h).symm.trans (eol_of s _))
  clear h
  have i0 := ends_index0
  have i1 := ends_index1
  have i2 := ends_index2
  go_enter Try.func18, Try.ntmps18
  go_wp2_with (first | (go_at_call 27; refine (place_calls _ _ _).mono ?_; rintro e w1 ⟨rfl, hb1⟩) | (go_at_call 28; refine (ends_calls _).mono ?_; rintro e w2 ⟨rfl, hb2⟩))
  refine wp_loop_rounds 4 ?_
  iterate 4 (all_goals (try (rw [rounds_succ]; go_wp2)))
  all_goals (go_ret; refine ⟨ret_int ?_, hb1.trans (hb2.mono hb1.size)⟩; rw [HR.out])
  all_goals ((split <;> (try split) <;> (try split)) <;> first | rfl | (exfalso; simp_all; done) | (exfalso; omega))

end Go.Proofs.Ytioildfnbcdekaa
