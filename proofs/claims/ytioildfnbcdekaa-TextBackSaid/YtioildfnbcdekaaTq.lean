/-
  Plain words on literals: what is read behind a bracket. No program in sight.
-/
import Derived.Test.YtioildfnbcdekaaTp
namespace Go.Proofs.Ytioildfnbcdekaa
set_option linter.unusedVariables false
set_option linter.unusedSimpArgs false

/-- What a literal tells from a place on, within so many brackets, and how many bytes it has yet; none: it does not end. -/
def litS : Nat → Nat → List UInt8 → Option (List UInt8 × Nat)
  | 0, _, _ => none
  | _ + 1, _, [] => none
  | k + 1, d, c :: t =>
    if c = 92 then (if t = [] then none else (litS k d (t.drop (escN t))).map fun x => (escV t ++ x.1, 1 + escN t + x.2))
    else if c = 13 ∨ c = 10 then (litS k d ((c :: t).drop (eolL (c :: t)).toNat)).map fun x => (10 :: x.1, (eolL (c :: t)).toNat + x.2)
    else if c = 41 then (if d = 1 then some ([], 1) else (litS k (d - 1) t).map fun x => (c :: x.1, 1 + x.2))
    else if c = 40 then (litS k (d + 1) t).map fun x => (c :: x.1, 1 + x.2)
    else (litS k d t).map fun x => (c :: x.1, 1 + x.2)

theorem eolL_range (c : UInt8) (t : List UInt8) (h : c = 13 ∨ c = 10) : 1 ≤ eolL (c :: t) ∧ eolL (c :: t) ≤ ((c :: t).length : Int) := by
  rcases h with rfl | rfl
  · cases t with
    | nil => simp [eolL]
    | cons d u =>
      by_cases hd : d = 10
      · subst hd; simp [eolL]; omega
      · have : eolL (13 :: d :: u) = 1 := by unfold eolL; split <;> simp_all
        rw [this]; simp; omega
  · have : eolL (10 :: t) = 1 := by unfold eolL; split <;> simp_all
    rw [this]; simp; omega
theorem eolL_any (l : List UInt8) : 0 ≤ eolL l ∧ eolL l ≤ (l.length : Int) := by
  unfold eolL
  split <;> simp <;> omega
theorem escN_range : ∀ l : List UInt8, l ≠ [] → 1 ≤ escN l ∧ escN l ≤ l.length
  | [], h => absurd rfl h
  | c :: t, _ => by
    have h1 := eolL_any (c :: t)
    have h2 := octN_le 3 (c :: t)
    show 1 ≤ (if 0 < eolL (c :: t) then (eolL (c :: t)).toNat else if oct c = true then octN 3 (c :: t) else 1) ∧ (if 0 < eolL (c :: t) then (eolL (c :: t)).toNat else if oct c = true then octN 3 (c :: t) else 1) ≤ (c :: t).length
    by_cases hE : 0 < eolL (c :: t)
    · rw [if_pos hE]; omega
    · rw [if_neg hE]
      by_cases ho : oct c = true
      · rw [if_pos ho]
        refine ⟨?_, h2.2⟩
        simp only [octN]
        rw [if_pos ho]; omega
      · rw [if_neg ho]; simp
theorem escV_le (l : List UInt8) : (escV l).length ≤ 1 := by
  cases l with
  | nil => simp [escV]
  | cons c t =>
    show (if 0 < eolL (c :: t) then [] else if oct c = true then [UInt8.ofNat (octV 3 0 (c :: t))] else [escC c]).length ≤ 1
    split
    · simp
    · split <;> simp

/-- What is left over does not hang on how much is held ready. -/
theorem litS_fuel : ∀ (k k' d : Nat) (l : List UInt8), l.length < k → l.length < k' → litS k d l = litS k' d l := by
  intro k
  induction k with
  | zero => intro k' d l h; omega
  | succ k ih =>
    intro k' d l h h'
    obtain ⟨k', rfl⟩ : ∃ j, k' = j + 1 := ⟨k' - 1, by omega⟩
    cases l with
    | nil => rfl
    | cons c t =>
      simp only [List.length_cons] at h h'
      have same : ∀ d' u, u.length ≤ t.length → litS k d' u = litS k' d' u := fun d' u hu => ih k' d' u (by omega) (by omega)
      simp only [litS]
      by_cases h1 : c = 92
      · rw [if_pos h1, if_pos h1, same d (t.drop (escN t)) (by rw [List.length_drop]; omega)]
      · rw [if_neg h1, if_neg h1]
        by_cases h2 : c = 13 ∨ c = 10
        · have := eolL_range c t h2
          rw [if_pos h2, if_pos h2, same d ((c :: t).drop (eolL (c :: t)).toNat) (by rw [List.length_drop, List.length_cons]; omega)]
        · rw [if_neg h2, if_neg h2, same (d - 1) t (Nat.le_refl _), same (d + 1) t (Nat.le_refl _), same d t (Nat.le_refl _)]
/-- .. with just enough. -/
def lit (d : Nat) (l : List UInt8) : Option (List UInt8 × Nat) := litS (l.length + 1) d l
theorem lit_nil (d : Nat) : lit d [] = none := rfl
theorem litS_lit (k d : Nat) (l : List UInt8) (h : l.length < k) : litS k d l = lit d l := litS_fuel _ _ _ _ h (by omega)
theorem lit_cons (d : Nat) (c : UInt8) (t : List UInt8) : lit d (c :: t) =
    if c = 92 then (if t = [] then none else (lit d (t.drop (escN t))).map fun x => (escV t ++ x.1, 1 + escN t + x.2))
    else if c = 13 ∨ c = 10 then (lit d ((c :: t).drop (eolL (c :: t)).toNat)).map fun x => (10 :: x.1, (eolL (c :: t)).toNat + x.2)
    else if c = 41 then (if d = 1 then some ([], 1) else (lit (d - 1) t).map fun x => (c :: x.1, 1 + x.2))
    else if c = 40 then (lit (d + 1) t).map fun x => (c :: x.1, 1 + x.2)
    else (lit d t).map fun x => (c :: x.1, 1 + x.2) := by
  have e : lit d (c :: t) = litS (t.length + 1 + 1) d (c :: t) := rfl
  rw [e]
  simp only [litS]
  rw [litS_lit (t.length + 1) (d - 1) t (by omega), litS_lit (t.length + 1) (d + 1) t (by omega), litS_lit (t.length + 1) d t (by omega), litS_lit (t.length + 1) d (t.drop (escN t)) (by rw [List.length_drop]; omega)]
  by_cases h2 : c = 13 ∨ c = 10
  · have := eolL_range c t h2
    rw [litS_lit (t.length + 1) d ((c :: t).drop (eolL (c :: t)).toNat) (by rw [List.length_drop, List.length_cons]; omega)]
  · rw [if_neg h2, if_neg h2]

/-- What is known at a round's head: a place p behind a, within d brackets, with what has been put. -/
def LitAt (s : ByteArray) (a d p : Nat) (put : List UInt8) : Prop :=
  a + 1 ≤ p ∧ p ≤ s.size ∧ 1 ≤ d ∧ d ≤ p ∧ put.length + a + 1 ≤ p ∧ lit 1 (s.data.toList.drop (a + 1)) = (lit d (s.data.toList.drop p)).map fun x => (put ++ x.1, p - (a + 1) + x.2)
theorem lit_start (s : ByteArray) (a : Nat) (h : a < s.size) : LitAt s a 1 (a + 1) [] := by
  refine ⟨by omega, by omega, by omega, by omega, by simp, ?_⟩
  cases lit 1 (s.data.toList.drop (a + 1)) <;> simp
theorem lit_move {s : ByteArray} {a d p : Nat} {put x : List UInt8} {d' n : Nat} (h : LitAt s a d p put) (hn : 1 ≤ n) (hp : p + n ≤ s.size) (hx : x.length ≤ n) (h1 : 1 ≤ d') (h2 : d' ≤ p + n)
    (e : lit d (s.data.toList.drop p) = (lit d' (s.data.toList.drop (p + n))).map fun y => (x ++ y.1, n + y.2)) : LitAt s a d' (p + n) (put ++ x) := by
  obtain ⟨a1, a2, a3, a4, a5, a6⟩ := h
  refine ⟨by omega, hp, h1, h2, by simp; omega, ?_⟩
  rw [a6, e]
  cases lit d' (s.data.toList.drop (p + n)) with
  | none => rfl
  | some y => simp; omega
theorem lit_end {s : ByteArray} {a d p : Nat} {put : List UInt8} (h : LitAt s a d p put) (hp : s.size ≤ p) : lit 1 (s.data.toList.drop (a + 1)) = none := by
  rw [h.2.2.2.2.2, List.drop_of_length_le (by rw [← Lib.size_eq]; exact hp), lit_nil]; rfl
theorem lit_last {s : ByteArray} {a d p : Nat} {put : List UInt8} (h : LitAt s a d p put) (hp : p + 1 = s.size) (hc : s.data.toList.drop p = [92]) : lit 1 (s.data.toList.drop (a + 1)) = none := by
  rw [h.2.2.2.2.2, hc, lit_cons]; rfl
theorem lit_shut {s : ByteArray} {a p : Nat} {put t : List UInt8} (h : LitAt s a 1 p put) (hc : s.data.toList.drop p = 41 :: t) : lit 1 (s.data.toList.drop (a + 1)) = some (put, p - (a + 1) + 1) := by
  rw [h.2.2.2.2.2, hc, lit_cons, if_neg (by decide), if_neg (by decide), if_pos rfl, if_pos rfl]
  simp
theorem lit_esc {s : ByteArray} {a d p : Nat} {put t : List UInt8} (h : LitAt s a d p put) (hc : s.data.toList.drop p = 92 :: t) (ht : t ≠ []) : LitAt s a d (p + (1 + escN t)) (put ++ escV t) := by
  have hr := escN_range t ht
  have hl := congrArg List.length hc
  rw [List.length_drop, ← Lib.size_eq, List.length_cons] at hl
  have hv := escV_le t
  have h4 := h.2.2.2.1
  refine lit_move h (by omega) (by omega) (by omega) h.2.2.1 (by omega) ?_
  rw [hc, lit_cons, if_pos rfl, if_neg ht]
  have e : s.data.toList.drop (p + (1 + escN t)) = t.drop (escN t) := by
    rw [← List.drop_drop, hc, Nat.add_comm 1, List.drop_succ_cons]
  rw [e]
theorem lit_eol {s : ByteArray} {a d p : Nat} {put t : List UInt8} {c : UInt8} (h : LitAt s a d p put) (hc : s.data.toList.drop p = c :: t) (h2 : c = 13 ∨ c = 10) : LitAt s a d (p + (eolL (c :: t)).toNat) (put ++ [10]) := by
  have hr := eolL_range c t h2
  have hl := congrArg List.length hc
  rw [List.length_drop, ← Lib.size_eq] at hl
  have hpos : 0 < s.size - p := by rw [hl]; simp
  have h4 := h.2.2.2.1
  refine lit_move h (by omega) (by omega) (by simp; omega) h.2.2.1 (by omega) ?_
  rw [hc, lit_cons, if_neg (by rcases h2 with rfl | rfl <;> decide), if_pos h2, ← List.drop_drop, hc]
  simp
theorem lit_one {s : ByteArray} {a d p : Nat} {put t : List UInt8} {c : UInt8} {d' : Nat} (h : LitAt s a d p put) (hc : s.data.toList.drop p = c :: t) (h1 : 1 ≤ d') (h2 : d' ≤ d + 1) (e : lit d (c :: t) = (lit d' t).map fun y => (c :: y.1, 1 + y.2)) : LitAt s a d' (p + 1) (put ++ [c]) := by
  have hl := congrArg List.length hc
  rw [List.length_drop, ← Lib.size_eq, List.length_cons] at hl
  have h4 := h.2.2.2.1
  refine lit_move h (by omega) (by omega) (by simp) h1 (by omega) ?_
  rw [hc, e]
  have : s.data.toList.drop (p + 1) = t := by
    have := congrArg (List.drop 1) hc
    simpa [List.drop_drop] using this
  rw [this]
  rfl
theorem lit_close {s : ByteArray} {a d p : Nat} {put t : List UInt8} (h : LitAt s a d p put) (hc : s.data.toList.drop p = 41 :: t) (hd : d ≠ 1) : LitAt s a (d - 1) (p + 1) (put ++ [41]) := by
  have := h.2.2.1
  exact lit_one h hc (by omega) (by omega) (by rw [lit_cons, if_neg (by decide), if_neg (by decide), if_pos rfl, if_neg hd])
theorem lit_open {s : ByteArray} {a d p : Nat} {put t : List UInt8} (h : LitAt s a d p put) (hc : s.data.toList.drop p = 40 :: t) : LitAt s a (d + 1) (p + 1) (put ++ [40]) := by
  exact lit_one h hc (by omega) (by omega) (by rw [lit_cons, if_neg (by decide), if_neg (by decide), if_neg (by decide), if_pos rfl])
theorem lit_plain {s : ByteArray} {a d p : Nat} {put t : List UInt8} {c : UInt8} (h : LitAt s a d p put) (hc : s.data.toList.drop p = c :: t) (h1 : c ≠ 92) (h2 : ¬ (c = 13 ∨ c = 10)) (h3 : c ≠ 41) (h4 : c ≠ 40) : LitAt s a d (p + 1) (put ++ [c]) := by
  exact lit_one h hc h.2.2.1 (by omega) (by rw [lit_cons, if_neg h1, if_neg h2, if_neg h3, if_neg h4])

/-- What is read of a literal at a place. -/
def litR (s : ByteArray) (a : Nat) : List UInt8 × Int × Int :=
  match lit 1 (s.data.toList.drop (a + 1)) with
  | none => ([], 0, 8)
  | some (o, n) => if 65536 < o.length then ([], 0, 3) else (o, a + 1 + n, 0)
end Go.Proofs.Ytioildfnbcdekaa
