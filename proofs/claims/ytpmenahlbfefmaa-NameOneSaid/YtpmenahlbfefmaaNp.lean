/-
  Plain words on names: what a raw name's bytes are. No program in sight.
-/
import Derived.Test.YtpmenahlbfefmaaCp
namespace Go.Proofs.Ytpmenahlbfefmaa
set_option linter.unusedVariables false
set_option linter.unusedSimpArgs false

/-- A hexadecimal digit's value. -/
def hexv (c : UInt8) : Int := if 48 ≤ c.toNat ∧ c.toNat ≤ 57 then (c.toNat : Int) - 48 else if 65 ≤ c.toNat ∧ c.toNat ≤ 70 then (c.toNat : Int) - 55 else if 97 ≤ c.toNat ∧ c.toNat ≤ 102 then (c.toNat : Int) - 87 else -1
theorem hexv_range (c : UInt8) : -1 ≤ hexv c ∧ hexv c ≤ 15 := by unfold hexv; split <;> (try split) <;> (try split) <;> omega
/-- Two digits tell a byte that is not 0. -/
def escOk (a b : UInt8) : Bool := decide (0 ≤ hexv a ∧ 0 ≤ hexv b ∧ 0 < hexv a + hexv b)
def escV (a b : UInt8) : UInt8 := UInt8.ofNat (16 * hexv a + hexv b).toNat

/-- A raw name's bytes, whatever there is. -/
def looseL : List UInt8 → List UInt8
  | c :: a :: b :: t => if c = 35 ∧ escOk a b = true then escV a b :: looseL t else c :: looseL (a :: b :: t)
  | l => l
/-- Each # is a byte's number. -/
def goodL : List UInt8 → Bool
  | c :: a :: b :: t => if c = 35 then escOk a b && goodL t else goodL (a :: b :: t)
  | l => l.all fun c => c != 35
theorem looseL_le : ∀ l : List UInt8, (looseL l).length ≤ l.length
  | c :: a :: b :: t => by
    have h1 := looseL_le t
    have h2 := looseL_le (a :: b :: t)
    simp only [looseL]
    split <;> simp only [List.length_cons] at * <;> omega
  | [] => by simp [looseL]
  | [c] => by simp [looseL]
  | [c, d] => by simp [looseL]

/-- How many regular bytes begin a text. -/
def runL : List UInt8 → Nat
  | [] => 0
  | c :: t => if clsN c.toNat = 0 then 1 + runL t else 0
theorem runL_le : ∀ l, runL l ≤ l.length
  | [] => by simp [runL]
  | c :: t => by have := runL_le t; simp only [runL, List.length_cons]; split <;> omega
/-- May a name be? -/
def checkL (l : List UInt8) : Int := if 127 < l.length then 3 else if 0 ∈ l then 2 else 0
/-- A raw name's bytes, and the error's number. -/
def strictL (l : List UInt8) : List UInt8 × Int := if runL l = l.length ∧ goodL l = true then if 127 < (looseL l).length then ([], 3) else (looseL l, 0) else ([], 7)
/-- A byte as it is written. -/
def digC (n : Nat) : UInt8 := if n < 10 then UInt8.ofNat (48 + n) else UInt8.ofNat (55 + n)
def putB (c : UInt8) : List UInt8 := if 32 < c.toNat ∧ c.toNat < 127 ∧ clsN c.toNat = 0 ∧ c ≠ 35 then [c] else [35, digC (c.toNat / 16), digC (c.toNat % 16)]
theorem putB_le (c : UInt8) : (putB c).length ≤ 3 := by unfold putB; split <;> simp
def putAll (l : List UInt8) : List UInt8 := l.flatMap putB
theorem putAll_le : ∀ l, (putAll l).length ≤ 3 * l.length
  | [] => by simp [putAll]
  | c :: t => by
    have := putAll_le t
    have h := putB_le c
    simp only [putAll, List.flatMap_cons, List.length_append, List.length_cons] at *
    omega
def putL (l : List UInt8) : List UInt8 × Int := if checkL l = 0 then (47 :: putAll l, 0) else ([], checkL l)
end Go.Proofs.Ytpmenahlbfefmaa
