/-
  The contracts of the class package's tables, proved by walking their code.
-/
import Derived.Test.YtjgbnaejeeinbaaProg
import Derived.Test.YtjgbnaejeeinbaaCp
import Derived.WalkKit
import Derived.WalkSpells
import Derived.WalkLawsBesides
import Derived.Below
import Derived.KernelRfl
import Derived.Laws.Rows
namespace Go.Proofs.Ytjgbnaejeeinbaa
open Go.RowKit
set_option linter.unusedVariables false
set_option linter.unusedSimpArgs false

def tabZero : Array Value := Array.replicate 256 (.int .u8 0)
theorem tabZero_run (w : World) : (zeroValue 60).run Try.prog w = .ok (.agg tabZero) w := by kernel_rfl
def tabParts : Array (Nat × Value) := #[(0, .int .u8 1), (9, .int .u8 1), (10, .int .u8 1), (12, .int .u8 1), (13, .int .u8 1), (32, .int .u8 1), (40, .int .u8 2), (41, .int .u8 2), (60, .int .u8 2), (62, .int .u8 2), (91, .int .u8 2), (93, .int .u8 2), (123, .int .u8 2), (125, .int .u8 2), (47, .int .u8 2), (37, .int .u8 2)]
def tabFull : Array Value := (Array.range 256).map fun n => .int .u8 (clsN n)
theorem tab_built : Try.prog.built 60 tabParts.toList = some tabFull := by kernel_rfl
theorem tab_size : tabFull.size = 256 := by simp [tabFull]
theorem tabZero_size : tabZero.size = 256 := by simp [tabZero]
theorem tab_info : (Try.prog.info? 60).map (·.size) = some 256 := by kernel_rfl
theorem tab_one : tabFull.all (·.oneCell') = true := by decide +kernel
theorem tab_at (n : Nat) (h : n < 256) : tabFull[n]? = some (.int .u8 (clsN n)) := by simp [tabFull, h]

theorem wpList_build_as {P : Program} {ops : Array Oper} {rest : List Oper} {o : Oper} {a : Act} {w : World} {Q : Exit → Act → World → Prop} (hg : o.guard = none) (t : TypeId) (parts : Array (Nat × Operand)) (ho : o.op = .build t parts)
    (cells : Array Value) (hf : P.built t (parts.map fun (i, x) => (i, a.eval x)).toList = some cells) (h : wpList P ops Q rest (a.put o.dst (.agg cells)) w) : wpList P ops Q (o :: rest) a w := by
  refine wpList_build hg t parts ho (by rw [hf]; rfl) ?_
  rw [hf]
  exact h

theorem below_setRow {B : Nat} {a w : World} (h : Below B a w) {g : Nat} (hp : B ≤ g) (cs : Array Value) : Below B a (w.setRow g cs) :=
  h.trans ⟨rfl, rfl, rfl, by simp, fun k hk => setRow_other w g k cs (by omega)⟩

set_option maxRecDepth 100000 in
theorem table_calls (w : World) :
    Calls Try.prog 33 #[] w fun e w' => e = .returned (.agg tabFull) ∧ Below w.heap.size w w' := by
  have hz := tabZero_run
  go_enter Try.func33, Try.ntmps33
  go_wp2_with (first | (refine wpList_build_as rfl 60 _ rfl tabFull ?hf ?_) | (refine wpList_store_row rfl 60 _ _ rfl w.heap.size tabFull rfl rfl 60 tabZero ?hg ?hi ?ho ?h1 ?_))
  case hf => exact tab_built
  case hg => exact heap_alloc_new _ _
  case hi => rw [tab_size]; exact tab_info
  case ho => rw [tab_size, tabZero_size]
  case h1 => exact tab_one
  refine bodyPost_ret (v := .agg tabFull) (results_cell_row (by rfl) _ _ w.heap.size 60 tabFull (0, 0) _ rfl (setRow_heap _ _ _ _ _ _ (heap_alloc_new _ _)) Try.underlying60 rfl (by rw [tab_size]; exact tab_info)) rfl ⟨rfl, ?_⟩
  exact below_setRow ((Below.refl _ _).alloc (Nat.le_refl _) _) (Nat.le_refl _) _

theorem tab_index (a : Int) (h0 : 0 ≤ a) (h1 : a < 256) (w : World) : (Instr.index 60 (.agg tabFull) (.int .u8 a)).run Try.prog w = .ok (.int .u8 (clsN a.toNat)) w := by
  obtain ⟨n, rfl⟩ := Int.eq_ofNat_of_zero_le h0
  have hn : n < 256 := by omega
  have hs : (sizeOf 5).run Try.prog w = .ok 1 w := by kernel_rfl
  have ht := tab_at n hn
  simp [Instr.index, asIntOf, run_underlying Try.underlying60, hs, part, tab_size, hn]
  rw [Array.getElem?_eq_getElem (by rw [tab_size]; exact hn)] at ht
  simpa using ht

end Go.Proofs.Ytjgbnaejeeinbaa
