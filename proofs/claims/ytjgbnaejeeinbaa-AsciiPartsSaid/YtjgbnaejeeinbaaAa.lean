/-
  Words on bytes by sixteen, on builders, on strings as lists.
-/
import Derived.Test.YtjgbnaejeeinbaaCw
import Derived.Test.YtjgbnaejeeinbaaBa
import Derived.Test.YtjgbnaejeeinbaaSh
import Derived.Test.YtjgbnaejeeinbaaWLast
import Derived.Test.YtjgbnaejeeinbaaWMore
import Derived.Lib.Hide
namespace Go.Proofs.Ytjgbnaejeeinbaa
open Go.RowKit Go.Proofs.YtjgbnaejeeinbaaW.PrintWords Go.Proofs.YtjgbnaejeeinbaaW.PrintLast
set_option linter.unusedVariables false
set_option linter.unusedSimpArgs false

theorem cells_len (l : List UInt8) : (Lib.byteCells l).length = l.length := Lib.byteCells_length l
theorem cells_snoc (l : List UInt8) (c : UInt8) : Lib.byteCells l ++ [Value.int .u8 (c.toNat : Int)] = Lib.byteCells (l ++ [c]) := by simp [Lib.byteCells]
theorem str_cells (l : List UInt8) : Lib.strCells ⟨l.toArray⟩ = Lib.byteCells l := by simp [Lib.strCells, Lib.byteCells]
theorem isb_keep {T e : TypeId} {B b : Nat} {bs : List Value} {w0 w w' : World} (h : Lib.IsBuilder T e B b bs w ∧ Below B w0 w) (hb : Below w.heap.size w w') : Lib.IsBuilder T e B b bs w' ∧ Below B w0 w' := by
  have hle : ∀ p, Lib.BuilderAt T e B b p bs w → Lib.BuilderAt T e B b p bs w' ∧ B ≤ w.heap.size := by
    rintro p ⟨hB, v, hbk, hown, hne⟩
    have hlt : b < w.heap.size := Lib.BuilderAt.lt ⟨hB, v, hbk, hown, hne⟩
    refine ⟨⟨hB, v, (hb.block b hlt).trans hbk, ?_, hne⟩, by omega⟩
    exact hown.kept (row := none) ⟨hb.os, hb.tape, hb.output, hb.size, fun k hk _ => hb.block k hk⟩ (by cases v.ownBlock <;> simp)
  rcases h.1 with h1 | h1
  · exact ⟨.inl (hle _ h1).1, h.2.trans (hb.mono (hle _ h1).2)⟩
  · exact ⟨.inr (hle _ h1).1, h.2.trans (hb.mono (hle _ h1).2)⟩
theorem isb_snoc {T e : TypeId} {B b : Nat} {put : List UInt8} {w w' : World} (c : UInt8) (h : Lib.BuilderAt T e B b (.pointer (some ⟨b, 0, none⟩)) (Lib.byteCells put ++ [Value.int .u8 (c.toNat : Int)]) w' ∧ Below B w w') : Lib.IsBuilder T e B b (Lib.byteCells (put ++ [c])) w' ∧ Below B w w' := by
  rw [← cells_snoc]; exact ⟨.inr h.1, h.2⟩
theorem ret_str {a b : ByteArray} (h : a = b) : Ending.returned (.string a) = .returned (.string b) := by rw [h]
theorem ret_two {k : IntKind} {a b : ByteArray} {m n : Int} (h : a = b) (h' : m = n) : Ending.returned (.tuple #[.string a, .int k m]) = .returned (.tuple #[.string b, .int k n]) := by rw [h, h']
theorem toList_mk (l : List UInt8) : (⟨l.toArray⟩ : ByteArray).toList = l := by rw [Lib.toList_data]
theorem size_mk (l : List UInt8) : (⟨l.toArray⟩ : ByteArray).size = l.length := by rw [Lib.size_eq]
theorem wrap_small {i : Int} (h0 : -9223372036854775808 ≤ i) (h1 : i ≤ 9223372036854775807) : wrap64 i = i := by unfold wrap64; omega
theorem bt_nat (s : ByteArray) (i : Nat) (h : i < s.size) : bt s (i : Int) = (s[i].toNat : Int) := by
  unfold bt
  rw [dif_pos (by simpa using h)]
  rfl
theorem app_list (a b : ByteArray) : (a ++ b).data.toList = a.data.toList ++ b.data.toList := by simp
theorem ext_list (s : ByteArray) (a b : Nat) : (s.extract a b).data.toList = (s.data.toList.drop a).take (b - a) := by rw [Lib.extract_data]
theorem take_snoc (s : ByteArray) (i : Nat) (h : i < s.size) : s.data.toList.take (i + 1) = s.data.toList.take i ++ [s[i]] := by
  have hg : s.data.toList[i]? = some s[i] := by rw [List.getElem?_eq_getElem (by rw [← Lib.size_eq]; exact h)]; rfl
  rw [List.take_add_one, hg]; rfl
theorem byte_ofNat (c : UInt8) : UInt8.ofNat c.toNat = c := by simp

/-- A hexadecimal digit. -/
def hexd (n : Nat) : UInt8 := UInt8.ofNat (if n < 10 then 48 + n else 55 + n)
def hexB (c : UInt8) : List UInt8 := [hexd (c.toNat / 16), hexd (c.toNat % 16)]
def hexAll (l : List UInt8) : List UInt8 := l.flatMap hexB
theorem hexAll_cons (c : UInt8) (v : List UInt8) : hexAll (c :: v) = hexB c ++ hexAll v := by simp [hexAll]
theorem hexAll_len : ∀ l, (hexAll l).length = 2 * l.length
  | [] => rfl
  | c :: t => by
    have ih := hexAll_len t
    rw [hexAll_cons, List.length_append, ih]; simp [hexB]; omega
theorem hexd_all : ∀ n : Fin 16, ((#[48, 49, 50, 51, 52, 53, 54, 55, 56, 57, 65, 66, 67, 68, 69, 70] : Array UInt8)[n.val]?) = some (hexd n.val) := by decide +kernel
theorem dig_at (q : Int) (h0 : 0 ≤ q) (h1 : q < 16) (W : World) : (Instr.index 9 (.string ⟨#[48, 49, 50, 51, 52, 53, 54, 55, 56, 57, 65, 66, 67, 68, 69, 70]⟩) (.int .u8 q)).run Try.prog W = .ok (.int .u8 ((hexd q.toNat).toNat : Int)) W := by
  obtain ⟨n, rfl⟩ := Int.eq_ofNat_of_zero_le h0
  have hn : n < 16 := by omega
  rw [run_index_string _ _ _ _ _ Try.underlying9, dif_pos ⟨by omega, by show (n : Int) < 16; omega⟩]
  have h := hexd_all ⟨n, hn⟩
  simp only at h
  have e : ((⟨#[48, 49, 50, 51, 52, 53, 54, 55, 56, 57, 65, 66, 67, 68, 69, 70]⟩ : ByteArray)[(n : Int).toNat]'(by show _ < 16; omega)) = hexd n := by
    have := (Array.getElem?_eq_some_iff.1 h).2
    exact this
  simp only [Int.toNat_natCast] at e ⊢
  rw [e]
end Go.Proofs.Ytjgbnaejeeinbaa
