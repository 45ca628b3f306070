/-
  Words for ascii.Put85: a string's head copied into an array of four; arrays of four compared; what is put by eighty-five.
-/
import Derived.Test.YtjgbnaejeeinbaaAc
import Derived.Test.YtjgbnaejeeinbaaBw
import Derived.Lib.BufferWrite
import Derived.Lib.SlBuf
import Derived.ChangeKeysEq
namespace Go.Proofs.Ytjgbnaejeeinbaa
open Go.RowKit Go.Proofs.YtjgbnaejeeinbaaW.PrintWords Go.Proofs.YtjgbnaejeeinbaaW.PrintLast
set_option linter.unusedVariables false
set_option linter.unusedSimpArgs false

theorem run_copy_head {P : Program} (w : World) (dT sT ty elem : TypeId) (g dLen dCap : Nat) (s : ByteArray) (cur : Array Value) (t : TypeId) (m : Nat)
    (hu : P.underlying dT = some (.slice elem)) (hs : (P.info? elem).map (·.size) = some 1) (hg : w.heap[g]? = some (.cells cur t (0, 0))) (hm : Nat.min s.size dLen = m) (hfit : m ≤ cur.size) :
    (Builtin.copy_ #[dT, sT] ty #[.slice (some ⟨g, 0, none⟩) dLen dCap, .string s]).run P w =
      .ok (goInt m) (w.setRow g (Lib.byteCells (s.data.toList.take m) ++ cur.toList.drop m).toArray) := by
  have hms : m ≤ s.size := by rw [← hm]; exact Nat.min_le_left _ _
  have hlen : (Lib.byteCells (s.data.toList.take m)).length = m := by rw [Lib.byteCells_length, List.length_take, ← Lib.size_eq]; omega
  have hst := run_storeCells_at P g 0 t (Lib.byteCells (s.data.toList.take m)) 0 cur w hg (by rw [hlen]; simpa using hfit) (Lib.byteCells_one _)
  have htk : List.take m (List.map (fun b : UInt8 => Value.int IntKind.u8 (b.toNat : Int)) s.data.toList) = Lib.byteCells (s.data.toList.take m) := by
    rw [← List.map_take]; rfl
  rw [hlen] at hst
  simp only [Nat.add_zero, Nat.zero_add, List.take_zero, List.nil_append] at hst
  cases hq : P.info? elem with
  | none => simp [hq] at hs
  | some i =>
    simp [Builtin.copy_, run_underlying hu, Builtin.lenOf, Builtin.firstCells, sizeOf, typeInfo, hq, hm]
    rw [htk, hst]
    simp [Result.andThen]
theorem byte_size : (Try.prog.info? 5).map (·.size) = some 1 := by kernel_rfl
abbrev zero4 : Array Value := #[.int .u8 0, .int .u8 0, .int .u8 0, .int .u8 0]
theorem setRow_new (w : World) (cur new : Array Value) (t : TypeId) : (w.alloc (.cells cur t)).setRow w.heap.size new = w.alloc (.cells new t) := by
  have h : (w.heap.push (Obj.cells cur t)).modify w.heap.size (fun | .cells _ e f => .cells new e f | o => o) = w.heap.push (.cells new t) := by
    apply Array.ext_getElem?
    intro i
    rw [Array.getElem?_modify, Array.getElem?_push, Array.getElem?_push]
    by_cases hi : i = w.heap.size
    · subst hi; simp
    · rw [if_neg hi, if_neg (fun e => hi e.symm), if_neg hi]
  exact congrArg (fun hp => ({ w with heap := hp } : World)) h
theorem copy_four (W : World) (s : ByteArray) (a b c d : UInt8) (m : Nat) (ty : TypeId) (hm : Nat.min s.size 4 = m) (hl : Lib.byteCells (s.data.toList.take m) ++ zero4.toList.drop m = (four4 a b c d).toList) :
    (Builtin.copy_ #[26, 9] ty #[.slice (some ⟨W.heap.size, 0, none⟩) 4 4, .string s]).run Try.prog (W.alloc (.cells zero4 40)) = .ok (goInt m) (W.alloc (.cells (four4 a b c d) 40)) := by
  have hm4 : m ≤ 4 := by rw [← hm]; exact Nat.min_le_right _ _
  rw [run_copy_head (W.alloc (.cells zero4 40)) _ _ _ 5 W.heap.size 4 4 s zero4 40 m Try.underlying26 byte_size (heap_alloc_new W _) hm hm4, hl, setRow_new]
theorem four_eql (a b c d : UInt8) (w : World) : (Op.equalIn 10000 40 (.agg (four4 a b c d)) (.agg zero4)).run Try.prog w = .ok ((((a.toNat : Int) == 0) && ((b.toNat : Int) == 0)) && (((c.toNat : Int) == 0) && ((d.toNat : Int) == 0))) w := by
  obtain ⟨i0, hi, hz0, hz1, hz2⟩ := info_parts by_info
  rw [run_equalIn_array w 9999 _ _ Try.underlying40 hi]
  have hc : Try.prog.cellsOf 5 = 1 := by kernel_rfl
  rw [hc]
  have hp : ∀ (x0 x1 x2 x3 : Int) (W : World), (part 5 #[.int .u8 x0, .int .u8 x1, .int .u8 x2, .int .u8 x3] 0).run Try.prog W = .ok (.int .u8 x0) W ∧ (part 5 #[.int .u8 x0, .int .u8 x1, .int .u8 x2, .int .u8 x3] 1).run Try.prog W = .ok (.int .u8 x1) W ∧ (part 5 #[.int .u8 x0, .int .u8 x1, .int .u8 x2, .int .u8 x3] 2).run Try.prog W = .ok (.int .u8 x2) W ∧ (part 5 #[.int .u8 x0, .int .u8 x1, .int .u8 x2, .int .u8 x3] 3).run Try.prog W = .ok (.int .u8 x3) W := fun x0 x1 x2 x3 W => ⟨by kernel_rfl, by kernel_rfl, by kernel_rfl, by kernel_rfl⟩
  have hr : List.range 4 = [0, 1, 2, 3] := rfl
  rw [hr]
  have q0 := fun W => (hp a.toNat b.toNat c.toNat d.toNat W)
  have q1 := fun W => (hp 0 0 0 0 W)
  have e1 : ∀ (x : Int) (W : World), (Op.equalIn 9999 5 (.int .u8 x) (.int .u8 0)).run Try.prog W = .ok (x == 0) W := fun x W => run_equalIn_int W 9998 5 .u8 .u8 x 0 Try.underlying5
  simp only [Op.eqItems, Sem.run_bind, Nat.zero_mul, Nat.one_mul, Nat.mul_one, Sem.run_pure]
  rw [(q0 w).1, Result.andThen_ok, (q1 w).1, Result.andThen_ok, e1, Result.andThen_ok]
  cases h0 : ((a.toNat : Int) == 0)
  · simp
  simp only [Bool.not_true, Bool.false_eq_true, if_false, Sem.run_bind]
  rw [(q0 w).2.1, Result.andThen_ok, (q1 w).2.1, Result.andThen_ok, e1, Result.andThen_ok]
  cases h1 : ((b.toNat : Int) == 0)
  · simp
  simp only [Bool.not_true, Bool.false_eq_true, if_false, Sem.run_bind]
  rw [(q0 w).2.2.1, Result.andThen_ok, (q1 w).2.2.1, Result.andThen_ok, e1, Result.andThen_ok]
  cases h2 : ((c.toNat : Int) == 0)
  · simp
  simp only [Bool.not_true, Bool.false_eq_true, if_false, Sem.run_bind]
  rw [(q0 w).2.2.2, Result.andThen_ok, (q1 w).2.2.2, Result.andThen_ok, e1, Result.andThen_ok]
  cases h3 : ((d.toNat : Int) == 0) <;> simp
/-- What is put by eighty-five, without the end. -/
def put85 : List UInt8 → List UInt8
  | a :: b :: c :: d :: t => (if a = 0 ∧ b = 0 ∧ c = 0 ∧ d = 0 then [122] else chr5 (num4 a b c d)) ++ put85 t
  | [a, b, c] => (chr5 (num4 a b c 0)).take 4
  | [a, b] => (chr5 (num4 a b 0 0)).take 3
  | [a] => (chr5 (num4 a 0 0 0)).take 2
  | [] => []
end Go.Proofs.Ytjgbnaejeeinbaa
