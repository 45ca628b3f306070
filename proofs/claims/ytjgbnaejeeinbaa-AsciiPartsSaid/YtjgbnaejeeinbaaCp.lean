/-
  Plain words on bytes: a byte's class, the length of a line's end, a place within a text. No program in sight.
-/
import Derived.Lib.Strings
import Derived.Below
namespace Go.Proofs.Ytjgbnaejeeinbaa
open Go.RowKit
set_option linter.unusedVariables false
set_option linter.unusedSimpArgs false

/-- A byte's class: 0 regular, 1 white, 2 a delimiter. -/
def clsN (n : Nat) : Nat := if n = 0 ∨ n = 9 ∨ n = 10 ∨ n = 12 ∨ n = 13 ∨ n = 32 then 1 else if n = 40 ∨ n = 41 ∨ n = 60 ∨ n = 62 ∨ n = 91 ∨ n = 93 ∨ n = 123 ∨ n = 125 ∨ n = 47 ∨ n = 37 then 2 else 0

/-- A place within a text. -/
def plc (s : ByteArray) (a : Int) : Nat := if a < 0 then 0 else if (s.size : Int) < a then s.size else a.toNat
theorem plc_le (s : ByteArray) (a : Int) : plc s a ≤ s.size := by
  unfold plc
  split
  · omega
  · split <;> omega
theorem plc_in (s : ByteArray) (n : Nat) (h : n ≤ s.size) : plc s n = n := by
  unfold plc
  rw [if_neg (by omega), if_neg (by omega)]
  simp

/-- The length of a line's end that begins a text. -/
def eolL : List UInt8 → Int
  | 13 :: 10 :: _ => 2
  | 10 :: _ => 1
  | 13 :: _ => 1
  | _ => 0
theorem eolL_eq (l : List UInt8) : eolL l = if 2 ≤ (l.length : Int) ∧ (l.take 2 == [13, 10]) = true then 2 else if 1 ≤ (l.length : Int) ∧ (l.take 1 == [10]) = true then 1 else if 1 ≤ (l.length : Int) ∧ (l.take 1 == [13]) = true then 1 else 0 := by
  unfold eolL
  split
  · simp; omega
  · simp; omega
  · rename_i t h1
    cases t with
    | nil => simp
    | cons d t =>
      have : d ≠ 10 := fun e => h1 t (by rw [e])
      simp [this]; omega
  · rename_i h1 h2 h3
    rcases l with _ | ⟨c, t⟩
    · simp
    · have e1 : c ≠ 10 := fun e => h2 t (by rw [e])
      have e2 : c ≠ 13 := fun e => h3 t (by rw [e])
      simp [e1, e2]

/-- The length of a line's end that ends a text, told of the text turned round. -/
def backL : List UInt8 → Int
  | 10 :: 13 :: _ => 2
  | 10 :: _ => 1
  | 13 :: _ => 1
  | _ => 0
theorem backL_eq (l : List UInt8) : backL l.reverse = if 2 ≤ (l.length : Int) ∧ (l.drop (l.length - 2) == [13, 10]) = true then 2 else if 1 ≤ (l.length : Int) ∧ (l.drop (l.length - 1) == [10]) = true then 1 else if 1 ≤ (l.length : Int) ∧ (l.drop (l.length - 1) == [13]) = true then 1 else 0 := by
  obtain ⟨r, rfl⟩ : ∃ r : List UInt8, l = r.reverse := ⟨l.reverse, by simp⟩
  rw [List.reverse_reverse]
  rcases r with _ | ⟨c, _ | ⟨d, t⟩⟩
  · simp [backL]
  · unfold backL
    split
    · simp_all
    · simp_all
    · simp_all
    · rename_i h1 h2 h3
      have e1 : c ≠ 10 := fun e => h2 [] (by rw [e])
      have e2 : c ≠ 13 := fun e => h3 [] (by rw [e])
      simp [e1, e2]
  · have h2 : (d :: t).reverse.length = t.length + 1 := by simp
    have e2 : ((c :: d :: t).reverse.drop ((c :: d :: t).reverse.length - 2)) = [d, c] := by simp
    have e1 : ((c :: d :: t).reverse.drop ((c :: d :: t).reverse.length - 1)) = [c] := by
      simp [List.drop_append]
    rw [e1, e2]
    unfold backL
    split
    · simp_all; omega
    · rename_i t' h1 he
      simp only [List.cons.injEq] at he
      obtain ⟨rfl, rfl⟩ := he
      have : d ≠ 13 := fun e => h1 t (by rw [e])
      simp [this]; omega
    · rename_i he
      simp only [List.cons.injEq] at he
      obtain ⟨rfl, rfl⟩ := he
      simp; omega
    · rename_i h1 h2 h3
      have e1 : c ≠ 10 := fun e => h2 (d :: t) (by rw [e])
      have e2 : c ≠ 13 := fun e => h3 (d :: t) (by rw [e])
      simp [e1, e2]

theorem ret_bool {a b : Bool} (h : a = b) : Ending.returned (.bool a) = .returned (.bool b) := by rw [h]
theorem ret_int {k : IntKind} {a b : Int} (h : a = b) : Ending.returned (.int k a) = .returned (.int k b) := by rw [h]

theorem eol_of (s : ByteArray) (p : Nat) : eolL (s.data.toList.drop p) = if 2 ≤ ((s.size - p : Nat) : Int) ∧ (((s.extract p s.size).extract 0 2).toList == [13, 10]) = true then 2 else if 1 ≤ ((s.size - p : Nat) : Int) ∧ (((s.extract p s.size).extract 0 1).toList == [10]) = true then 1 else if 1 ≤ ((s.size - p : Nat) : Int) ∧ (((s.extract p s.size).extract 0 1).toList == [13]) = true then 1 else 0 := by
  have hs := Lib.size_eq s
  have e : (s.extract p s.size).data.toList = s.data.toList.drop p := by
    rw [Lib.extract_data, List.take_of_length_le (by simp)]
  rw [eolL_eq]
  simp only [Lib.extract_toList, e, List.drop_zero, Nat.sub_zero, List.length_drop, ← hs]

theorem back_of (s : ByteArray) (p : Nat) (hp : p ≤ s.size) : backL (s.data.toList.take p).reverse = if 2 ≤ (p : Int) ∧ (((s.extract 0 p).extract (p - 2) p).toList == [13, 10]) = true then 2 else if 1 ≤ (p : Int) ∧ (((s.extract 0 p).extract (p - 1) p).toList == [10]) = true then 1 else if 1 ≤ (p : Int) ∧ (((s.extract 0 p).extract (p - 1) p).toList == [13]) = true then 1 else 0 := by
  have hs := Lib.size_eq s
  have e : (s.extract 0 p).data.toList = s.data.toList.take p := by rw [Lib.extract_data]; rfl
  have hl : (s.data.toList.take p).length = p := by rw [List.length_take]; omega
  rw [backL_eq]
  simp only [Lib.extract_toList, e, hl]
  have e2 : ((s.data.toList.take p).drop (p - 2)).take (p - (p - 2)) = (s.data.toList.take p).drop (p - 2) := List.take_of_length_le (by rw [List.length_drop, hl]; omega)
  have e1 : ((s.data.toList.take p).drop (p - 1)).take (p - (p - 1)) = (s.data.toList.take p).drop (p - 1) := List.take_of_length_le (by rw [List.length_drop, hl]; omega)
  rw [e1, e2]

/-- How many bytes are passed over; 'true': within a remark. -/
def sk : Bool → List UInt8 → Nat
  | _, [] => 0
  | false, c :: t => if clsN c.toNat = 1 then 1 + sk false t else if c = 37 then 1 + sk true t else 0
  | true, c :: t => if c = 10 ∨ c = 13 then 1 + sk false t else 1 + sk true t
theorem sk_le : ∀ (b : Bool) (l : List UInt8), sk b l ≤ l.length
  | _, [] => by simp [sk]
  | false, c :: t => by have := sk_le false t; have := sk_le true t; simp only [sk, List.length_cons]; split <;> (try split) <;> omega
  | true, c :: t => by have := sk_le false t; have := sk_le true t; simp only [sk, List.length_cons]; split <;> omega
theorem eolL_pos (c : UInt8) (t : List UInt8) : (eolL (c :: t) = 0) ↔ ¬ (c = 10 ∨ c = 13) := by
  unfold eolL
  split <;> simp_all
theorem drop_at (s : ByteArray) (k : Nat) (h : k < s.size) : s.data.toList.drop k = s[k] :: s.data.toList.drop (k + 1) := by
  have hk : k < s.data.toList.length := by rw [← Lib.size_eq]; exact h
  rw [List.drop_eq_getElem_cons hk]
  rfl
theorem byte_lt (c : UInt8) : 0 ≤ (c.toNat : Int) ∧ (c.toNat : Int) < 256 := ⟨by omega, by have := c.toNat_lt; omega⟩
theorem byte_eq (c : UInt8) (n : Nat) (hn : n < 256) : c = UInt8.ofNat n ↔ c.toNat = n := by
  constructor
  · rintro rfl; simp; omega
  · intro h; apply UInt8.toNat_inj.1; simp; omega
end Go.Proofs.Ytjgbnaejeeinbaa
