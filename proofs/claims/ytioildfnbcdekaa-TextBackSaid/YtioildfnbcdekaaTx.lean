/-
  Plain words on hexadecimal strings. No program in sight.
-/
import Derived.Test.YtioildfnbcdekaaTp
namespace Go.Proofs.Ytioildfnbcdekaa
set_option linter.unusedVariables false
set_option linter.unusedSimpArgs false

/-- A hexadecimal digit's value. -/
def hexv (c : UInt8) : Int := if 48 ≤ c.toNat ∧ c.toNat ≤ 57 then (c.toNat : Int) - 48 else if 65 ≤ c.toNat ∧ c.toNat ≤ 70 then (c.toNat : Int) - 55 else if 97 ≤ c.toNat ∧ c.toNat ≤ 102 then (c.toNat : Int) - 87 else -1
theorem hexv_range (c : UInt8) : -1 ≤ hexv c ∧ hexv c ≤ 15 := by unfold hexv; split <;> (try split) <;> (try split) <;> omega
/-- What stands behind a <: the error's number, the digits, how many bytes stand ahead of the >. -/
def hexS : List UInt8 → Int × List UInt8 × Nat
  | [] => (8, [], 0)
  | c :: t => if c = 62 then (0, [], 0) else if clsN c.toNat = 1 then ((hexS t).1, (hexS t).2.1, 1 + (hexS t).2.2) else if hexv c < 0 then (7, [], 0) else ((hexS t).1, UInt8.ofNat (hexv c).toNat :: (hexS t).2.1, 1 + (hexS t).2.2)
def pairs : List UInt8 → List UInt8
  | a :: b :: t => (16 * a + b) :: pairs t
  | [a] => [16 * a]
  | [] => []
theorem pairs_len : ∀ l, (pairs l).length = (l.length + 1) / 2
  | a :: b :: t => by simp only [pairs, List.length_cons]; rw [pairs_len t]; omega
  | [a] => by simp [pairs]
  | [] => by simp [pairs]
theorem pairs_odd : ∀ l : List UInt8, l.length % 2 ≠ 0 → pairs (l ++ [0]) = pairs l
  | a :: b :: t, h => by simp only [List.cons_append, pairs]; rw [pairs_odd t (by simp only [List.length_cons] at h; omega)]
  | [a], _ => by simp [pairs]
  | [], h => by simp at h
/-- What is known at a round's head. -/
def HexAt (s : ByteArray) (a p : Nat) (digs : List UInt8) : Prop :=
  a + 1 ≤ p ∧ p ≤ s.size ∧ digs.length ≤ p ∧ hexS (s.data.toList.drop (a + 1)) = ((hexS (s.data.toList.drop p)).1, digs ++ (hexS (s.data.toList.drop p)).2.1, p - (a + 1) + (hexS (s.data.toList.drop p)).2.2)
theorem hexat_start (s : ByteArray) (a : Nat) (h : a < s.size) : HexAt s a (a + 1) [] := ⟨by omega, by omega, by simp, by simp⟩
theorem hexat_end {s : ByteArray} {a p : Nat} {digs : List UInt8} (h : HexAt s a p digs) (hp : s.size ≤ p) : (hexS (s.data.toList.drop (a + 1))).1 = 8 := by
  rw [h.2.2.2, List.drop_of_length_le (by rw [← Lib.size_eq]; exact hp)]; rfl
theorem hexat_shut {s : ByteArray} {a p : Nat} {digs : List UInt8} (h : HexAt s a p digs) (hp : p < s.size) (hc : s[p] = 62) : hexS (s.data.toList.drop (a + 1)) = (0, digs, p - (a + 1)) := by
  rw [h.2.2.2, drop_at s p hp]
  simp only [hexS]
  rw [if_pos hc]
  simp
theorem hexat_bad {s : ByteArray} {a p : Nat} {digs : List UInt8} (h : HexAt s a p digs) (hp : p < s.size) (h1 : s[p] ≠ 62) (h2 : ¬ clsN s[p].toNat = 1) (h3 : hexv s[p] < 0) : (hexS (s.data.toList.drop (a + 1))).1 = 7 := by
  rw [h.2.2.2, drop_at s p hp]
  simp only [hexS]
  rw [if_neg h1, if_neg h2, if_pos h3]
theorem hexat_white {s : ByteArray} {a p : Nat} {digs : List UInt8} (h : HexAt s a p digs) (hp : p < s.size) (h1 : s[p] ≠ 62) (h2 : clsN s[p].toNat = 1) : HexAt s a (p + 1) digs := by
  obtain ⟨a1, a2, a3, a4⟩ := h
  refine ⟨by omega, by omega, by omega, ?_⟩
  rw [a4, drop_at s p hp]
  simp only [hexS]
  rw [if_neg h1, if_pos h2]
  simp only [Prod.mk.injEq, true_and]
  omega
theorem hexat_digit {s : ByteArray} {a p : Nat} {digs : List UInt8} (h : HexAt s a p digs) (hp : p < s.size) (h1 : s[p] ≠ 62) (h2 : ¬ clsN s[p].toNat = 1) (h3 : ¬ hexv s[p] < 0) : HexAt s a (p + 1) (digs ++ [UInt8.ofNat (hexv s[p]).toNat]) := by
  obtain ⟨a1, a2, a3, a4⟩ := h
  refine ⟨by omega, by omega, by simp; omega, ?_⟩
  rw [a4, drop_at s p hp]
  simp only [hexS]
  rw [if_neg h1, if_neg h2, if_neg h3]
  simp only [Prod.mk.injEq, true_and, List.append_assoc, List.singleton_append]
  omega
/-- What is read of a hexadecimal string at a place. -/
def hexR (s : ByteArray) (a : Nat) : List UInt8 × Int × Int :=
  let r := hexS (s.data.toList.drop (a + 1))
  if r.1 ≠ 0 then ([], 0, r.1) else if 65536 < (pairs r.2.1).length then ([], 0, 3) else (pairs r.2.1, a + 1 + r.2.2 + 1, 0)
def hexF (s : ByteArray) (a : Int) : List UInt8 × Int × Int := if 0 ≤ a ∧ a < s.size ∧ s.data.toList[a.toNat]? = some 60 then hexR s a.toNat else ([], 0, 7)
end Go.Proofs.Ytioildfnbcdekaa
