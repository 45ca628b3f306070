/-
  Plain words on strings: what a literal's, and a hexadecimal string's, bytes are. No program in sight.
-/
import Derived.Test.YtioildfnbcdekaaCp
namespace Go.Proofs.Ytioildfnbcdekaa
set_option linter.unusedVariables false
set_option linter.unusedSimpArgs false

/-- A digit to the base 8. -/
def oct (c : UInt8) : Bool := decide (48 ≤ c.toNat) && decide (c.toNat ≤ 55)
/-- What a letter behind a backslash is. -/
def escC (c : UInt8) : UInt8 := if c = 110 then 10 else if c = 114 then 13 else if c = 116 then 9 else if c = 98 then 8 else if c = 102 then 12 else c
/-- Up to n digits to the base 8 at the head: their number, behind v. -/
def octV : Nat → Nat → List UInt8 → Nat
  | n + 1, v, c :: t => if oct c = true then octV n (8 * v + (c.toNat - 48)) t else v
  | _, v, _ => v
def octN : Nat → List UInt8 → Nat
  | n + 1, c :: t => if oct c = true then 1 + octN n t else 0
  | _, _ => 0
theorem octN_le : ∀ n l, octN n l ≤ n ∧ octN n l ≤ l.length
  | 0, l => by simp [octN]
  | n + 1, [] => by simp [octN]
  | n + 1, c :: t => by
    have := octN_le n t
    simp only [octN, List.length_cons]
    split <;> omega
/-- What stands behind a backslash: the bytes that it tells. -/
def escV : List UInt8 → List UInt8
  | [] => []
  | c :: t => if 0 < eolL (c :: t) then [] else if oct c = true then [UInt8.ofNat (octV 3 0 (c :: t))] else [escC c]
/-- How many bytes it has. -/
def escN : List UInt8 → Nat
  | [] => 0
  | c :: t => if 0 < eolL (c :: t) then (eolL (c :: t)).toNat else if oct c = true then octN 3 (c :: t) else 1
end Go.Proofs.Ytioildfnbcdekaa
