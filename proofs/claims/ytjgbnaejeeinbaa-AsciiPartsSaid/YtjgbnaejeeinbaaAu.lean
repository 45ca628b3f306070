/-
  AsciiParts: words and plain laws: small letters; a string's bytes in a new row, and stores into it; what is put, part by part.
-/
import Derived.Test.YtjgbnaejeeinbaaAl
import Derived.Lib.ConvBytes
import Derived.Laws.IdiomStrings
namespace Go.Proofs.Ytjgbnaejeeinbaa
open Go.RowKit Go.Proofs.YtjgbnaejeeinbaaW.PrintWords Go.Proofs.YtjgbnaejeeinbaaW.PrintLast
set_option linter.unusedVariables false
set_option linter.unusedSimpArgs false

/-! ### Small letters -/
def low (c : UInt8) : UInt8 := if 65 ≤ c.toNat ∧ c.toNat ≤ 70 then UInt8.ofNat (c.toNat + 32) else c
def lows (l : List UInt8) (i : Nat) : List UInt8 := (l.take i).map low ++ l.drop i
theorem lows_len (l : List UInt8) (i : Nat) (h : i ≤ l.length) : (lows l i).length = l.length := by simp [lows]; omega
theorem lows_at (l : List UInt8) (i : Nat) (h : i < l.length) : (lows l i)[i]? = some l[i] := by
  unfold lows
  rw [List.getElem?_append_right (by simp; omega)]
  simp [List.getElem?_drop]
  have : i + (i - min i l.length) = i := by omega
  rw [this]; simp [h]
theorem lows_set (l : List UInt8) (i : Nat) (h : i < l.length) : (lows l i).set i (low l[i]) = lows l (i + 1) := by
  unfold lows
  have hl : ((l.take i).map low).length = i := by simp; omega
  rw [List.set_append_right _ _ (by omega), hl, Nat.sub_self]
  have hd : l.drop i = l[i] :: l.drop (i + 1) := List.drop_eq_getElem_cons h
  have ht : l.take (i + 1) = l.take i ++ [l[i]] := (List.take_append_getElem h).symm
  rw [hd, ht, List.set_cons_zero, List.map_append, List.append_assoc]; rfl
theorem lows_same (l : List UInt8) (i : Nat) (h : i < l.length) (e : low l[i] = l[i]) : lows l (i + 1) = lows l i := by
  unfold lows
  have hd : l.drop i = l[i] :: l.drop (i + 1) := List.drop_eq_getElem_cons h
  have ht : l.take (i + 1) = l.take i ++ [l[i]] := (List.take_append_getElem h).symm
  rw [hd, ht, List.map_append, List.append_assoc]
  simp [e]
theorem lows_zero (l : List UInt8) : lows l 0 = l := by simp [lows]
theorem lows_all (l : List UInt8) : lows l l.length = l.map low := by simp [lows]
theorem low_facts : ∀ n : Fin 256, (hexOk (low (hexd (n.val / 16))) ∧ hexOk (low (hexd (n.val % 16)))) ∧ 16 * hval (low (hexd (n.val / 16))) + hval (low (hexd (n.val % 16))) = UInt8.ofNat n.val := by unfold hexOk; decide +kernel
theorem low_run (bud : Int) (t : List UInt8) : ∀ (v out part : List UInt8), ((out.length + v.length : Nat) : Int) ≤ bud → ∃ q, runM bud ⟨1, out, part, 0⟩ ((hexAll v).map low ++ 62 :: t) = ⟨0, out ++ v, q, 0⟩
  | [], out, part, _ => ⟨part, by rw [List.append_nil]; exact stop_one bud out part t⟩
  | c :: v, out, part, h => by
    have hf := low_facts ⟨c.toNat, c.toNat_lt⟩
    simp only [byte_ofNat] at hf
    rw [List.length_cons] at h
    obtain ⟨q, hq⟩ := low_run bud t v (out ++ [c]) [hval (low (hexd (c.toNat / 16)))] (by simp; omega)
    refine ⟨q, ?_⟩
    rw [hexAll_cons, List.map_append]
    show runM bud ⟨1, out, part, 0⟩ (low (hexd (c.toNat / 16)) :: low (hexd (c.toNat % 16)) :: ((hexAll v).map low ++ 62 :: t)) = _
    rw [run_byte bud out part _ _ c hf.1.1 hf.1.2 hf.2, put_fits _ _ _ _ _ (by simp; omega), hq]
    simp
theorem low_get (v : List UInt8) : readS 1 ((hexAll v ++ [62]).map low) (v.length : Int) = (v, 0) := by
  rw [List.map_append]
  obtain ⟨q, hq⟩ := low_run (v.length : Int) [] v [] [] (by simp)
  exact readS_ok 1 _ _ (by omega) hq
theorem hexAll_app (x y : List UInt8) : hexAll (x ++ y) = hexAll x ++ hexAll y := by simp [hexAll]
theorem put85_app : ∀ (x y : List UInt8), x.length % 4 = 0 → put85 (x ++ y) = put85 x ++ put85 y
  | [], y, _ => rfl
  | [_], y, h => by simp at h
  | [_, _], y, h => by simp at h
  | [_, _, _], y, h => by simp at h
  | a :: b :: c :: d :: t, y, h => by
    have ih := put85_app t y (by simp at h; omega)
    simp only [List.cons_append, put85]
    rw [ih, List.append_assoc]
theorem put85_len4 : ∀ (l : List UInt8), (put85 l).length ≤ 5 * l.length
  | [] => by simp [put85]
  | [a] => by simp only [put85, List.length_take, List.length_cons, List.length_nil]; omega
  | [a, b] => by simp only [put85, List.length_take, List.length_cons, List.length_nil]; omega
  | [a, b, c] => by simp only [put85, List.length_take, List.length_cons, List.length_nil]; omega
  | a :: b :: c :: d :: t => by
    have ih := put85_len4 t
    simp only [put85, List.length_append, List.length_cons]
    split
    · simp; omega
    · have : (chr5 (num4 a b c d)).length = 5 := rfl
      omega

/-! ### A string's bytes in a new row -/
def Sm (b : Nat) (l : List UInt8) (w : World) : Prop := ∃ cs e n, w.heap[b]? = some (.cells cs e (n, n + 1)) ∧ l.length ≤ n ∧ l.length ≤ cs.size ∧ ∀ j (h : j < l.length), cs[j]? = some (.int .u8 (l[j].toNat : Int))
theorem sm_cell {b : Nat} {l : List UInt8} {w : World} (h : Sm b l w) (j : Nat) (c : UInt8) (hc : l[j]? = some c) : w.cell? ⟨b, j, none⟩ = some (.int .u8 (c.toNat : Int)) := by
  obtain ⟨cs, e, n, h1, h2, h3, h4⟩ := h
  obtain ⟨hj, rfl⟩ := List.getElem?_eq_some_iff.1 hc
  rw [cell_of_row w b j cs e _ h1]; exact h4 j hj
theorem sm_frozen {b : Nat} {l : List UInt8} {w : World} (h : Sm b l w) (j : Nat) (hj : j < l.length) : w.frozen? ⟨b, j, none⟩ = false := by
  obtain ⟨cs, e, n, h1, h2, h3, h4⟩ := h
  simp only [World.frozen?, h1]
  have : ¬ n ≤ j := by omega
  simp [this]
theorem sm_set {b : Nat} {l : List UInt8} {w : World} (h : Sm b l w) (j : Nat) (c : UInt8) (v : Int) (hv : v = (c.toNat : Int)) (hj : j < l.length) : Sm b (l.set j c) (w.setCell ⟨b, j, none⟩ (.int .u8 v)) := by
  obtain ⟨cs, e, n, h1, h2, h3, h4⟩ := h
  subst hv
  refine ⟨cs.setIfInBounds j (.int .u8 (c.toNat : Int)), e, n, by simp [World.setCell, Array.getElem?_modify, h1], by simpa using h2, by simpa using h3, fun k hk => ?_⟩
  have hk' : k < l.length := by simpa using hk
  rw [Array.getElem?_setIfInBounds]
  by_cases hjk : j = k
  · subst hjk
    rw [if_pos rfl, if_pos (by omega)]
    simp
  · rw [if_neg hjk, h4 k hk', List.getElem_set_ne hjk]
theorem sm_new (w : World) (s : ByteArray) : Sm w.heap.size s.data.toList (Lib.bytesWorld w 5 s) := by
  have hz : s.data.toList.length ≤ (Lib.bytesCells w 5 s).size := by simp [Lib.bytesCells]
  refine ⟨_, _, _, Lib.bytesWorld_at_new w 5 s, hz, hz, fun j hj => ?_⟩
  have hj' : j < s.data.size := by simpa using hj
  have hj2 : j < s.size := by rw [Lib.size_eq]; exact hj
  simp [Lib.bytesCells, Array.getElem?_append, hj', hj2]
theorem sm_str {b : Nat} {l : List UInt8} {w : World} (h : Sm b l w) (n cap : Nat) (hn : n = l.length) : (convert 26 9 (.slice (some ⟨b, 0, none⟩) n cap)).run Try.prog w = .ok (.string ⟨l.toArray⟩) w := by
  subst hn
  refine run_convert_bytes_back w _ _ _ ⟨b, 0, none⟩ cap l Try.underlying26 Try.underlying5 Try.underlying9 (fun j hj => ?_)
  have e : (⟨b, 0, none⟩ : Addr).add j = ⟨b, j, none⟩ := by simp [Addr.add]; omega
  rw [e]
  exact sm_cell h j _ (List.getElem?_eq_getElem hj)
theorem below_new {B : Nat} (w : World) (s : ByteArray) (hB : B ≤ w.heap.size) : Below B w (Lib.bytesWorld w 5 s) := by
  refine ⟨?_, ?_, ?_, ?_, ?_⟩
  · simp [Lib.bytesWorld, World.freeze, World.alloc, World.drew, -World.alloc_eq, -World.drew_eq]
  · simp [Lib.bytesWorld, World.freeze, World.alloc, World.drew, -World.alloc_eq, -World.drew_eq]
  · simp [Lib.bytesWorld, World.freeze, World.alloc, World.drew, -World.alloc_eq, -World.drew_eq]
  · rw [Lib.bytesWorld_size]; omega
  · intro k hk
    exact Lib.bytesWorld_at_old w 5 s k (by omega)
theorem below_cell {B b : Nat} {w0 w : World} (h : Below B w0 w) (hb : B ≤ b) (j : Nat) (v : Value) : Below B w0 (w.setCell ⟨b, j, none⟩ v) := by
  refine h.trans ⟨rfl, rfl, rfl, by simp [World.setCell], fun k hk => heap_setCell_other w ⟨b, j, none⟩ k v (by show k ≠ b; omega)⟩
end Go.Proofs.Ytjgbnaejeeinbaa
