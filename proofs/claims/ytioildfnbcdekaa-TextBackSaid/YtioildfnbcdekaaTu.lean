/-
  Plain laws on literals and hexadecimal strings: what is put is read; what is read hangs on nothing behind its end.
-/
import Derived.Test.YtioildfnbcdekaaTx
import Derived.Test.YtioildfnbcdekaaTi
namespace Go.Proofs.Ytioildfnbcdekaa
set_option linter.unusedVariables false
set_option linter.unusedSimpArgs false

/-! ### Literals -/
def plainC (c : UInt8) : Bool := decide (32 ≤ c.toNat) && decide (c.toNat ≤ 126) && decide (c ≠ 40) && decide (c ≠ 41) && decide (c ≠ 92)
def aheadOf (p : List UInt8) (n : Nat) (x : List UInt8 × Nat) : List UInt8 × Nat := (p ++ x.1, n + x.2)
theorem ahead_map (p q : List UInt8) (n m : Nat) (y : Option (List UInt8 × Nat)) : (y.map (aheadOf q m)).map (aheadOf p n) = y.map (aheadOf (p ++ q) (n + m)) := by
  cases y with
  | none => rfl
  | some x => simp [aheadOf]; omega
theorem lit_same (d : Nat) (c : UInt8) (t : List UInt8) (h1 : c ≠ 92) (h2 : ¬ (c = 13 ∨ c = 10)) (h3 : c ≠ 41) (h4 : c ≠ 40) : lit d (c :: t) = (lit d t).map (aheadOf [c] 1) := by
  rw [lit_cons, if_neg h1, if_neg h2, if_neg h3, if_neg h4]; rfl
theorem plain_not {c : UInt8} (h : plainC c = true) : c ≠ 92 ∧ ¬ (c = 13 ∨ c = 10) ∧ c ≠ 41 ∧ c ≠ 40 := by
  unfold plainC at h
  simp only [Bool.and_eq_true, decide_eq_true_eq] at h
  refine ⟨h.2, ?_, h.1.2, h.1.1.2⟩
  rintro (rfl | rfl)
  · exact absurd h.1.1.1.1 (by decide)
  · exact absurd h.1.1.1.1 (by decide)
theorem lit_run (d : Nat) (t : List UInt8) : ∀ v : List UInt8, (∀ c ∈ v, plainC c = true) → lit d (v ++ t) = (lit d t).map (aheadOf v v.length)
  | [], _ => by rw [List.nil_append]; cases lit d t <;> simp [aheadOf]
  | c :: v, h => by
    obtain ⟨h1, h2, h3, h4⟩ := plain_not (h c (by simp))
    have ih := lit_run d t v (fun x hx => h x (by simp [hx]))
    rw [List.cons_append, lit_same d c _ h1 h2 h3 h4, ih, ahead_map]
    congr 1; simp [Nat.add_comm]
theorem lit_opens (t : List UInt8) : ∀ (n d : Nat), lit d (List.replicate n 40 ++ t) = (lit (d + n) t).map (aheadOf (List.replicate n 40) n)
  | 0, d => by simp only [List.replicate_zero, List.nil_append, Nat.add_zero]; cases lit d t <;> simp [aheadOf]
  | n + 1, d => by
    have ih := lit_opens t n (d + 1)
    have e : lit d (40 :: (List.replicate n 40 ++ t)) = (lit (d + 1) (List.replicate n 40 ++ t)).map (aheadOf [40] 1) := by
      rw [lit_cons, if_neg (by decide), if_neg (by decide), if_neg (by decide), if_pos rfl]; rfl
    rw [List.replicate_succ, List.cons_append, e, ih, ahead_map]
    have e2 : d + 1 + n = d + (n + 1) := by omega
    rw [e2]
    congr 1; simp [Nat.add_comm]
theorem lit_closes (t : List UInt8) (d : Nat) (hd : 1 ≤ d) : ∀ n : Nat, lit (d + n) (List.replicate n 41 ++ t) = (lit d t).map (aheadOf (List.replicate n 41) n)
  | 0 => by simp only [List.replicate_zero, List.nil_append, Nat.add_zero]; cases lit d t <;> simp [aheadOf]
  | n + 1 => by
    have ih := lit_closes t d hd n
    have e : lit (d + (n + 1)) (41 :: (List.replicate n 41 ++ t)) = (lit (d + n) (List.replicate n 41 ++ t)).map (aheadOf [41] 1) := by
      rw [lit_cons, if_neg (by decide), if_neg (by decide), if_pos rfl, if_neg (by omega)]; rfl
    rw [List.replicate_succ, List.cons_append, e, ih, ahead_map]
    congr 1; simp [Nat.add_comm]
theorem lit_shut1 (t : List UInt8) : lit 1 (41 :: t) = some ([], 1) := by
  rw [lit_cons, if_neg (by decide), if_neg (by decide), if_pos rfl, if_pos rfl]
theorem pairs_read (v : List UInt8) (hv : ∀ c ∈ v, plainC c = true) (n : Nat) (t : List UInt8) :
    lit 1 ((List.replicate n 40 ++ v ++ List.replicate n 41) ++ 41 :: t) = some (List.replicate n 40 ++ v ++ List.replicate n 41, n + v.length + n + 1) := by
  rw [List.append_assoc, List.append_assoc, lit_opens, lit_run _ _ v hv, lit_closes _ 1 (by omega), lit_shut1]
  simp [aheadOf]; omega

/-! ### What is put -/
def dgo (k : Nat) : UInt8 := UInt8.ofNat (48 + k)
/-- A byte within a literal that is put. -/
def litB (c : UInt8) : List UInt8 :=
  if c = 40 ∨ c = 41 ∨ c = 92 then [92, c] else if c = 10 then [92, 110] else if c = 13 then [92, 114] else if c = 9 then [92, 116] else if c = 8 then [92, 98] else if c = 12 then [92, 102]
  else if 32 ≤ c.toNat ∧ c.toNat < 127 then [c] else [92, dgo (c.toNat / 64), dgo (c.toNat / 8 % 8), dgo (c.toNat % 8)]
def litAll (l : List UInt8) : List UInt8 := l.flatMap litB
def putLitL (l : List UInt8) : List UInt8 × Int := if 65536 < l.length then ([], 3) else (40 :: (litAll l ++ [41]), 0)
theorem litB_len : ∀ n : Fin 256, 1 ≤ (litB (UInt8.ofNat n.val)).length ∧ (litB (UInt8.ofNat n.val)).length ≤ 4 := by decide +kernel
theorem litB_seen : ∀ n : Fin 256, (litB (UInt8.ofNat n.val)).all (fun b => decide (32 ≤ b.toNat) && decide (b.toNat ≤ 126)) = true := by decide +kernel
theorem litB_facts : ∀ n : Fin 256,
    (∃ e ∈ ([40, 41, 92, 110, 114, 116, 98, 102] : List UInt8), litB (UInt8.ofNat n.val) = [92, e] ∧ oct e = false ∧ escC e = UInt8.ofNat n.val ∧ ¬ (e = 10 ∨ e = 13)) ∨
    (litB (UInt8.ofNat n.val) = [UInt8.ofNat n.val] ∧ UInt8.ofNat n.val ≠ 92 ∧ ¬ (UInt8.ofNat n.val = 13 ∨ UInt8.ofNat n.val = 10) ∧ UInt8.ofNat n.val ≠ 41 ∧ UInt8.ofNat n.val ≠ 40) ∨
    (litB (UInt8.ofNat n.val) = [92, dgo (n.val / 64), dgo (n.val / 8 % 8), dgo (n.val % 8)] ∧ (oct (dgo (n.val / 64)) = true ∧ oct (dgo (n.val / 8 % 8)) = true ∧ oct (dgo (n.val % 8)) = true) ∧ ¬ (dgo (n.val / 64) = 10 ∨ dgo (n.val / 64) = 13) ∧
      UInt8.ofNat (8 * (8 * (8 * 0 + ((dgo (n.val / 64)).toNat - 48)) + ((dgo (n.val / 8 % 8)).toNat - 48)) + ((dgo (n.val % 8)).toNat - 48)) = UInt8.ofNat n.val) := by decide +kernel
theorem plain_litB : ∀ n : Fin 256, plainC (UInt8.ofNat n.val) = true → litB (UInt8.ofNat n.val) = [UInt8.ofNat n.val] := by decide +kernel
theorem byte_ofNat (c : UInt8) : UInt8.ofNat c.toNat = c := by simp
theorem lit_litB (d : Nat) (c : UInt8) (t : List UInt8) : lit d (litB c ++ t) = (lit d t).map (aheadOf [c] (litB c).length) := by
  have hf := litB_facts ⟨c.toNat, c.toNat_lt⟩
  simp only [byte_ofNat] at hf
  rcases hf with ⟨e, _, h1, h2, h3, h4⟩ | ⟨h1, h2, h3, h4, h5⟩ | ⟨h1, ⟨o1, o2, o3⟩, o4, o5⟩
  · rw [h1]
    have hE : eolL (e :: t) = 0 := (eolL_pos e _).2 h4
    have v1 : escV (e :: t) = [c] := by
      show (if 0 < eolL (e :: t) then [] else if oct e = true then [UInt8.ofNat (octV 3 0 (e :: t))] else [escC e]) = _
      rw [hE, h2, h3]; simp
    have v2 : escN (e :: t) = 1 := by
      show (if 0 < eolL (e :: t) then (eolL (e :: t)).toNat else if oct e = true then octN 3 (e :: t) else 1) = _
      rw [hE, h2]; simp
    show lit d (92 :: e :: t) = _
    rw [lit_cons, if_pos rfl, if_neg (by simp), v1, v2]
    rfl
  · rw [h1]
    exact lit_same d c t h2 h3 h4 h5
  · rw [h1]
    generalize dgo (c.toNat / 64) = x at *
    generalize dgo (c.toNat / 8 % 8) = y at *
    generalize dgo (c.toNat % 8) = z at *
    have hE : eolL (x :: y :: z :: t) = 0 := (eolL_pos x _).2 o4
    have v1 : escV (x :: y :: z :: t) = [c] := by
      show (if 0 < eolL (x :: y :: z :: t) then [] else if oct x = true then [UInt8.ofNat (octV 3 0 (x :: y :: z :: t))] else [escC x]) = _
      rw [hE, if_neg (by omega), if_pos o1]
      simp only [octV]
      rw [if_pos o1, if_pos o2, if_pos o3]
      cases t <;> exact congrArg (fun b => [b]) o5
    have v2 : escN (x :: y :: z :: t) = 3 := by
      show (if 0 < eolL (x :: y :: z :: t) then (eolL (x :: y :: z :: t)).toNat else if oct x = true then octN 3 (x :: y :: z :: t) else 1) = _
      rw [hE, if_neg (by omega), if_pos o1]
      simp only [octN]
      rw [if_pos o1, if_pos o2, if_pos o3]
    show lit d (92 :: x :: y :: z :: t) = _
    rw [lit_cons, if_pos rfl, if_neg (by simp), v1, v2]
    rfl
theorem litB_le (c : UInt8) : 1 ≤ (litB c).length ∧ (litB c).length ≤ 4 := by
  have := litB_len ⟨c.toNat, c.toNat_lt⟩
  simpa only [byte_ofNat] using this
theorem litAll_cons (c : UInt8) (v : List UInt8) : litAll (c :: v) = litB c ++ litAll v := by simp [litAll]
theorem litAll_le : ∀ v : List UInt8, v.length ≤ (litAll v).length ∧ (litAll v).length ≤ 4 * v.length
  | [] => by simp [litAll]
  | c :: v => by
    have := litAll_le v
    have := litB_le c
    rw [litAll_cons, List.length_append, List.length_cons]; omega
theorem lit_put (d : Nat) (t : List UInt8) : ∀ v : List UInt8, lit d (litAll v ++ t) = (lit d t).map (aheadOf v (litAll v).length)
  | [] => by show lit d t = _; cases lit d t <;> simp [aheadOf, litAll]
  | c :: v => by
    have ih := lit_put d t v
    rw [litAll_cons, List.append_assoc, lit_litB, ih, ahead_map]
    congr 1; simp
theorem put_read (v t : List UInt8) : lit 1 (litAll v ++ 41 :: t) = some (v, (litAll v).length + 1) := by
  rw [lit_put, lit_shut1]; simp [aheadOf]
theorem put_plain : ∀ v : List UInt8, (∀ c ∈ v, plainC c = true) → litAll v = v
  | [], _ => rfl
  | c :: v, h => by
    have hp := plain_litB ⟨c.toNat, c.toNat_lt⟩
    simp only [byte_ofNat] at hp
    rw [litAll_cons, hp (h c (by simp)), put_plain v (fun x hx => h x (by simp [hx]))]; rfl
theorem put_seen (v : List UInt8) : ∀ b ∈ 40 :: (litAll v ++ [41]), 32 ≤ b.toNat ∧ b.toNat ≤ 126 := by
  intro b hb
  simp only [List.mem_cons, List.mem_append, List.mem_nil_iff, or_false] at hb
  rcases hb with rfl | hb | rfl
  · decide
  · unfold litAll at hb
    obtain ⟨c, _, hc⟩ := List.mem_flatMap.1 hb
    have := litB_seen ⟨c.toNat, c.toNat_lt⟩
    simp only [byte_ofNat] at this
    simpa using List.all_eq_true.1 this b hc
  · decide

/-! ### What is read hangs on nothing behind its end -/
theorem oct_cut (t : List UInt8) : ∀ (n v : Nat) (l : List UInt8) (k : Nat), octN n l < k → k ≤ l.length → octN n (l.take k ++ t) = octN n l ∧ octV n v (l.take k ++ t) = octV n v l
  | 0, v, l, k, _, _ => by constructor <;> (cases l <;> cases (List.take k _ ++ t) <;> simp [octN, octV])
  | n + 1, v, [], k, h1, h2 => by simp at h2; omega
  | n + 1, v, c :: u, 0, h1, h2 => by omega
  | n + 1, v, c :: u, k + 1, h1, h2 => by
    simp only [List.take_succ_cons, List.cons_append, octN, octV] at h1 ⊢
    by_cases ho : oct c = true
    · rw [if_pos ho] at h1
      obtain ⟨i1, i2⟩ := oct_cut t n (8 * v + (c.toNat - 48)) u k (by omega) (by simpa using h2)
      simp only [if_pos ho, i1, i2, and_self]
    · simp only [if_neg ho, and_self]
theorem eol_cut (t : List UInt8) (l : List UInt8) (k : Nat) (h1 : (eolL l).toNat < k) (h2 : k ≤ l.length) : eolL (l.take k ++ t) = eolL l := by
  cases l with
  | nil => simp at h2; omega
  | cons c u =>
    obtain ⟨k, rfl⟩ : ∃ j, k = j + 1 := ⟨k - 1, by omega⟩
    rw [List.take_succ_cons, List.cons_append]
    by_cases hc : c = 10 ∨ c = 13
    · rcases hc with rfl | rfl
      · simp [eolL]
      · cases u with
        | nil => simp [eolL] at h1; simp at h2; omega
        | cons d u =>
          cases k with
          | zero =>
            exfalso
            unfold eolL at h1
            split at h1 <;> simp_all
          | succ k =>
            rw [List.take_succ_cons, List.cons_append]
            by_cases hd : d = 10
            · subst hd; simp [eolL]
            · have : ∀ u, eolL (13 :: d :: u) = 1 := by intro u; unfold eolL; split <;> simp_all
              rw [this, this]
    · rw [(eolL_pos c _).2 hc, (eolL_pos c _).2 hc]
theorem esc_cut (t u : List UInt8) (k : Nat) (h1 : escN u < k) (h2 : k ≤ u.length) : escN (u.take k ++ t) = escN u ∧ escV (u.take k ++ t) = escV u := by
  cases u with
  | nil => simp at h2; omega
  | cons c v =>
    have hN : ∀ w, escN (c :: w) = if 0 < eolL (c :: w) then (eolL (c :: w)).toNat else if oct c = true then octN 3 (c :: w) else 1 := fun _ => rfl
    have hV : ∀ w, escV (c :: w) = if 0 < eolL (c :: w) then [] else if oct c = true then [UInt8.ofNat (octV 3 0 (c :: w))] else [escC c] := fun _ => rfl
    have hk : ∃ w, (c :: v).take k ++ t = c :: w := by
      obtain ⟨k, rfl⟩ : ∃ j, k = j + 1 := ⟨k - 1, by omega⟩
      exact ⟨v.take k ++ t, by rw [List.take_succ_cons, List.cons_append]⟩
    obtain ⟨w, hw⟩ := hk
    by_cases hE : 0 < eolL (c :: v)
    · have e := eol_cut t (c :: v) k (by rw [hN, if_pos hE] at h1; exact h1) h2
      rw [hw] at e ⊢
      rw [hN, hV, hN v, hV v, e, if_pos hE, if_pos hE, if_pos hE, if_pos hE]
      exact ⟨rfl, rfl⟩
    · have hk1 : 0 < k := by omega
      have hz : eolL (c :: v) = 0 := by have := (eolL_any (c :: v)).1; omega
      have e := eol_cut t (c :: v) k (by rw [hz]; exact hk1) h2
      rw [hN, if_neg hE] at h1
      by_cases ho : oct c = true
      · rw [if_pos ho] at h1
        obtain ⟨o1, o2⟩ := oct_cut t 3 0 (c :: v) k h1 h2
        rw [hw] at e o1 o2 ⊢
        rw [hN, hV, hN v, hV v, e, if_neg hE, if_neg hE, if_neg hE, if_neg hE, if_pos ho, if_pos ho, if_pos ho, if_pos ho, o1, o2]
        exact ⟨rfl, rfl⟩
      · rw [hw] at e ⊢
        rw [hN, hV, hN v, hV v, e, if_neg hE, if_neg hE, if_neg hE, if_neg hE, if_neg ho, if_neg ho, if_neg ho, if_neg ho]
        exact ⟨rfl, rfl⟩

/-- What is known of a literal that is read. -/
def Cut (d : Nat) (l o : List UInt8) (n : Nat) : Prop := 1 ≤ n ∧ n ≤ l.length ∧ l[n - 1]? = some 41 ∧ ∀ t, lit d (l.take n ++ t) = some (o, n)
theorem cut_on {d d' : Nat} {l p q o : List UInt8} {m n : Nat} (hl : l = p ++ q) (hm : p.length = m) (h : Cut d' q o n) (f : List UInt8) (e : ∀ t, lit d (p ++ (q.take n ++ t)) = (lit d' (q.take n ++ t)).map (aheadOf f m)) : Cut d l (f ++ o) (m + n) := by
  obtain ⟨a1, a2, a3, a4⟩ := h
  subst hl hm
  refine ⟨by omega, by simp; omega, ?_, fun t => ?_⟩
  · rw [List.getElem?_append_right (by omega)]
    rw [← a3]; congr 1; omega
  · rw [List.take_append, List.take_of_length_le (by omega : p.length ≤ p.length + n), Nat.add_sub_cancel_left, List.append_assoc, e, a4]
    simp [aheadOf]
theorem lit_cut : ∀ (m d : Nat) (l o : List UInt8) (n : Nat), l.length ≤ m → lit d l = some (o, n) → Cut d l o n := by
  intro m
  induction m with
  | zero =>
    intro d l o n hm h
    have : l = [] := List.length_eq_zero_iff.1 (by omega)
    subst this
    rw [lit_nil] at h; cases h
  | succ m ih =>
    intro d l o n hm h
    cases l with
    | nil => rw [lit_nil] at h; cases h
    | cons c u =>
      rw [List.length_cons] at hm
      rw [lit_cons] at h
      have one : ∀ d', (lit d' u).map (fun x => (c :: x.1, 1 + x.2)) = some (o, n) → (∀ t, lit d (c :: t) = (lit d' t).map (aheadOf [c] 1)) → Cut d (c :: u) o n := by
        intro d' h e
        obtain ⟨⟨o', n'⟩, hx, he⟩ := Option.map_eq_some_iff.1 h
        obtain ⟨rfl, rfl⟩ := Prod.mk.inj he
        exact cut_on (p := [c]) (q := u) rfl rfl (ih d' u o' n' (by omega) hx) [c] (fun t => e _)
      by_cases h1 : c = 92
      · subst h1
        rw [if_pos rfl] at h
        by_cases hu : u = []
        · rw [if_pos hu] at h; cases h
        · rw [if_neg hu] at h
          obtain ⟨⟨o', n'⟩, hx, he⟩ := Option.map_eq_some_iff.1 h
          obtain ⟨rfl, rfl⟩ := Prod.mk.inj he
          obtain ⟨r1, r2⟩ := escN_range u hu
          have hc := ih d (u.drop (escN u)) o' n' (by rw [List.length_drop]; omega) hx
          refine cut_on (p := 92 :: u.take (escN u)) (q := u.drop (escN u)) (by rw [List.cons_append, List.take_append_drop]) (by simp; omega) hc (escV u) (fun t => ?_)
          obtain ⟨a1, a2, -, -⟩ := hc
          rw [List.length_drop] at a2
          have e : u.take (escN u) ++ ((u.drop (escN u)).take n' ++ t) = u.take (escN u + n') ++ t := by rw [List.take_add, List.append_assoc]
          obtain ⟨e1, e2⟩ := esc_cut t u (escN u + n') (by omega) (by omega)
          rw [List.cons_append, e, lit_cons, if_pos rfl, if_neg (by intro h; have h_ := congrArg List.length h; rw [List.length_append, List.length_take, List.length_nil] at h_; omega), e1, e2, ← e, List.drop_left' (by simp; omega)]
          rfl
      · rw [if_neg h1] at h
        by_cases h2 : c = 13 ∨ c = 10
        · rw [if_pos h2] at h
          obtain ⟨⟨o', n'⟩, hx, he⟩ := Option.map_eq_some_iff.1 h
          obtain ⟨rfl, rfl⟩ := Prod.mk.inj he
          obtain ⟨r1, r2⟩ := eolL_range c u h2
          rw [List.length_cons] at r2
          have hc := ih d ((c :: u).drop (eolL (c :: u)).toNat) o' n' (by rw [List.length_drop, List.length_cons]; omega) hx
          refine cut_on (p := (c :: u).take (eolL (c :: u)).toNat) (q := (c :: u).drop (eolL (c :: u)).toNat) (List.take_append_drop _ _).symm (by rw [List.length_take, List.length_cons]; omega) hc [10] (fun t => ?_)
          obtain ⟨a1, a2, -, -⟩ := hc
          rw [List.length_drop, List.length_cons] at a2
          have e : (c :: u).take (eolL (c :: u)).toNat ++ (((c :: u).drop (eolL (c :: u)).toNat).take n' ++ t) = (c :: u).take ((eolL (c :: u)).toNat + n') ++ t := by rw [List.take_add, List.append_assoc]
          have e1 := eol_cut t (c :: u) ((eolL (c :: u)).toNat + n') (by omega) (by rw [List.length_cons]; omega)
          obtain ⟨w, hw⟩ : ∃ w, (c :: u).take ((eolL (c :: u)).toNat + n') ++ t = c :: w := by
            obtain ⟨j, hj⟩ : ∃ j, (eolL (c :: u)).toNat + n' = j + 1 := ⟨(eolL (c :: u)).toNat + n' - 1, by omega⟩
            rw [hj]
            exact ⟨u.take j ++ t, by rw [List.take_succ_cons, List.cons_append]⟩
          have e2 := hw ▸ e1
          rw [e, hw, lit_cons, if_neg h1, if_pos h2, e2, ← hw, ← e, List.drop_left' (by rw [List.length_take, List.length_cons]; omega)]
          rfl
        · rw [if_neg h2] at h
          by_cases h3 : c = 41
          · subst h3
            rw [if_pos rfl] at h
            by_cases hd : d = 1
            · subst hd
              rw [if_pos rfl] at h
              obtain ⟨rfl, rfl⟩ := Prod.mk.inj (Option.some.inj h)
              exact ⟨by omega, by simp, by simp, fun t => by simpa using lit_shut1 t⟩
            · rw [if_neg hd] at h
              exact one (d - 1) h (fun t => by rw [lit_cons, if_neg (by decide), if_neg (by decide), if_pos rfl, if_neg hd]; rfl)
          · rw [if_neg h3] at h
            by_cases h4 : c = 40
            · subst h4
              rw [if_pos rfl] at h
              exact one (d + 1) h (fun t => by rw [lit_cons, if_neg (by decide), if_neg (by decide), if_neg (by decide), if_pos rfl]; rfl)
            · rw [if_neg h4] at h
              exact one d h (fun t => lit_same d c t h1 h2 h3 h4)

/-! ### Hexadecimal strings -/
def hexOk (c : UInt8) : Prop := c ≠ 62 ∧ ¬ clsN c.toNat = 1 ∧ ¬ hexv c < 0
def hval (c : UInt8) : UInt8 := UInt8.ofNat (hexv c).toNat
theorem hex_digits (t : List UInt8) : ∀ D : List UInt8, (∀ c ∈ D, hexOk c) → hexS (D ++ t) = ((hexS t).1, D.map hval ++ (hexS t).2.1, D.length + (hexS t).2.2)
  | [], _ => by simp
  | c :: D, h => by
    obtain ⟨h1, h2, h3⟩ := h c (by simp)
    have ih := hex_digits t D (fun x hx => h x (by simp [hx]))
    rw [List.cons_append]
    simp only [hexS]
    rw [if_neg h1, if_neg h2, if_neg h3, ih]
    simp [hval]; omega
theorem hex_blank (t : List UInt8) : hexS (32 :: t) = ((hexS t).1, (hexS t).2.1, 1 + (hexS t).2.2) := by
  simp only [hexS]
  rw [if_neg (by decide), if_pos (by decide)]
theorem hex_shut (t : List UInt8) : hexS (62 :: t) = (0, [], 0) := by simp [hexS]
theorem hexd_facts : ∀ n : Fin 256, (hexOk (hexd (n.val / 16)) ∧ hexOk (hexd (n.val % 16))) ∧ 16 * hval (hexd (n.val / 16)) + hval (hexd (n.val % 16)) = UInt8.ofNat n.val := by unfold hexOk; decide +kernel
theorem hexAll_cons (c : UInt8) (v : List UInt8) : hexAll (c :: v) = hexB c ++ hexAll v := by simp [hexAll]
theorem hexAll_ok : ∀ v : List UInt8, ∀ c ∈ hexAll v, hexOk c := by
  intro v c hc
  unfold hexAll at hc
  obtain ⟨b, _, hb⟩ := List.mem_flatMap.1 hc
  have hf := (hexd_facts ⟨b.toNat, b.toNat_lt⟩).1
  simp only at hf
  simp only [hexB, List.mem_cons, List.mem_nil_iff, or_false] at hb
  rcases hb with rfl | rfl
  · exact hf.1
  · exact hf.2
theorem hexAll_pairs : ∀ v : List UInt8, pairs ((hexAll v).map hval) = v
  | [] => rfl
  | c :: v => by
    have hf := (hexd_facts ⟨c.toNat, c.toNat_lt⟩).2
    simp only [byte_ofNat] at hf
    rw [hexAll_cons]
    show (16 * hval (hexd (c.toNat / 16)) + hval (hexd (c.toNat % 16))) :: pairs ((hexAll v).map hval) = _
    rw [hf, hexAll_pairs v]
theorem hex_put (v t : List UInt8) : hexS (hexAll v ++ 62 :: t) = (0, (hexAll v).map hval, (hexAll v).length) := by
  rw [hex_digits _ _ (hexAll_ok v), hex_shut]; simp
theorem hex_put_blank (v t : List UInt8) (j : Nat) (hj : j ≤ (hexAll v).length) : hexS ((hexAll v).take j ++ 32 :: ((hexAll v).drop j ++ 62 :: t)) = (0, (hexAll v).map hval, (hexAll v).length + 1) := by
  have hok := hexAll_ok v
  rw [hex_digits _ _ (fun c hc => hok c (List.mem_of_mem_take hc)), hex_blank, hex_digits _ _ (fun c hc => hok c (List.mem_of_mem_drop hc)), hex_shut]
  simp only [List.append_nil, ← List.map_append, List.take_append_drop, List.length_take, List.length_drop, Prod.mk.injEq, true_and]
  omega
theorem hex_cut : ∀ (l ds : List UInt8) (n : Nat), hexS l = (0, ds, n) → n < l.length ∧ l[n]? = some 62 ∧ ∀ t, hexS (l.take (n + 1) ++ t) = (0, ds, n)
  | [], ds, n, h => by simp [hexS] at h
  | c :: u, ds, n, h => by
    simp only [hexS] at h
    by_cases h1 : c = 62
    · subst h1
      rw [if_pos rfl] at h
      simp only [Prod.mk.injEq, true_and] at h
      obtain ⟨rfl, rfl⟩ := h
      exact ⟨by simp, by simp, fun t => by simpa using hex_shut t⟩
    · rw [if_neg h1] at h
      by_cases h2 : clsN c.toNat = 1
      · rw [if_pos h2] at h
        simp only [Prod.mk.injEq] at h
        obtain ⟨e1, e2, e3⟩ := h
        obtain ⟨i1, i2, i3⟩ := hex_cut u ds (hexS u).2.2 (by rw [← e1, ← e2])
        refine ⟨by simp; omega, ?_, fun t => ?_⟩
        · rw [← e3, Nat.add_comm, List.getElem?_cons_succ]; exact i2
        · rw [List.take_succ_cons, List.cons_append]
          simp only [hexS]
          rw [if_neg h1, if_pos h2]
          have e : n = (hexS u).2.2 + 1 := by omega
          rw [e, i3 t]; simp; omega
      · rw [if_neg h2] at h
        by_cases h3 : hexv c < 0
        · rw [if_pos h3] at h; simp at h
        · rw [if_neg h3] at h
          simp only [Prod.mk.injEq] at h
          obtain ⟨e1, e2, e3⟩ := h
          obtain ⟨i1, i2, i3⟩ := hex_cut u (hexS u).2.1 (hexS u).2.2 (by rw [← e1])
          refine ⟨by simp; omega, ?_, fun t => ?_⟩
          · rw [← e3, Nat.add_comm, List.getElem?_cons_succ]; exact i2
          · rw [List.take_succ_cons, List.cons_append]
            simp only [hexS]
            rw [if_neg h1, if_neg h2, if_neg h3]
            have e : n = (hexS u).2.2 + 1 := by omega
            rw [e, i3 t, ← e2]; simp; omega
end Go.Proofs.Ytioildfnbcdekaa
