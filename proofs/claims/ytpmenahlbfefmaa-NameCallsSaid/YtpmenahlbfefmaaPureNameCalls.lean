/-
  The plain law of NameCalls: names are read and put as the document says.
-/
import Derived.Test.YtpmenahlbfefmaaGx7
namespace Go.Proofs.Ytpmenahlbfefmaa.Pure
open Go.RowKit Go.Proofs.Ytpmenahlbfefmaa.G Go.Proofs.YtpmenahlbfefmaaW.PrintWords Go.Proofs.YtpmenahlbfefmaaW.PrintLast
set_option linter.unusedVariables false
set_option linter.unusedSimpArgs false

theorem lives_ok : pagemenderlaw03_lives.f = some true := by decide +kernel
theorem toList_mk (l : List UInt8) : (⟨l.toArray⟩ : ByteArray).toList = l := by rw [Lib.toList_data]
theorem size_mk (l : List UInt8) : (⟨l.toArray⟩ : ByteArray).size = l.length := by rw [Lib.size_eq]
def nums (l : List UInt8) : List Int := l.map fun c => (c.toNat : Int)
theorem str_nums (l : List UInt8) : strOfNums (nums l) = ⟨l.toArray⟩ := by
  unfold strOfNums nums
  rw [List.map_map]
  congr 2
  conv => rhs; rw [← List.map_id l]
  apply List.map_congr_left
  intro c _
  simp

theorem hex_all1 : ∀ n : Fin 256, pagemenderref01_Hex.f 1 (n.val : Int) = some (hexv (UInt8.ofNat n.val)) := by decide +kernel
theorem rhex (c : UInt8) : ∀ k, pagemenderref01_Hex.f (k + 1) (c.toNat : Int) = some (hexv c)
  | 0 => by have h := hex_all1 ⟨c.toNat, c.toNat_lt⟩; simpa using h
  | k + 1 => pagemenderref01_Hex.mono _ _ _ (rhex c k)
theorem reg_all : ∀ n : Fin 256, pagemenderref01_Regular.f (n.val : Int) = some (clsN n.val == 0) := by decide +kernel
theorem rreg (c : UInt8) : pagemenderref01_Regular.f (c.toNat : Int) = some (clsN c.toNat == 0) := reg_all ⟨c.toNat, c.toNat_lt⟩

/-- What a # and two digits at the head tell. -/
def codedR : List UInt8 → Int × Bool
  | c :: a :: b :: _ => if c = 35 ∧ escOk a b = true then ((escV a b).toNat, true) else (0, false)
  | _ => (0, false)
theorem coded_is (s : ByteArray) (i : Nat) (hs : s.size ≤ 600) (hi : i < s.size) (k : Nat) (hk : 2 ≤ k) : pagemenderref03_coded.f k s (i : Int) = some (codedR (s.data.toList.drop i)) := by
  obtain ⟨k, rfl⟩ : ∃ j, k = j + 2 := ⟨k - 2, by omega⟩
  have e1 : wrap64 ((i : Int) + 1) = ((i + 1 : Nat) : Int) := by rw [wrap_small (by omega) (by omega)]; omega
  have e2 : wrap64 ((i : Int) + 2) = ((i + 2 : Nat) : Int) := by rw [wrap_small (by omega) (by omega)]; omega
  unfold pagemenderref03_coded.f
  rw [if_pos (by omega), if_pos (by omega), bt_nat s i hi, e2, drop_at s i hi]
  have hcases : (s[i] = 35) ∨ (s[i] ≠ 35) := by by_cases h : s[i] = 35 <;> simp [h]
  rcases hcases with h35 | h35
  · rw [if_pos (by rw [h35]; rfl)]
    by_cases hz : ((i + 2 : Nat) : Int) ≥ (s.size : Int)
    · rw [decide_eq_true hz]
      simp only [pagemenderref03_coded.j0]
      rw [if_pos trivial]
      have : ∃ l, s.data.toList.drop (i + 1) = l ∧ l.length ≤ 1 := ⟨_, rfl, by rw [List.length_drop, ← Lib.size_eq]; omega⟩
      obtain ⟨l, hl, hle⟩ := this
      rw [hl]
      match l, hle with
      | [], _ => rfl
      | [x], _ => rfl
    · rw [decide_eq_false hz]
      have hlt1 : i + 1 < s.size := by omega
      have hlt2 : i + 2 < s.size := by omega
      rw [drop_at s (i + 1) hlt1, drop_at s (i + 1 + 1) hlt2]
      simp only [pagemenderref03_coded.j0]
      rw [if_neg (by simp), e1, e2, if_pos (by omega), if_pos (by omega), bt_nat s (i + 1) hlt1, rhex]
      simp only [Option.bind_some]
      rw [if_pos (by omega), if_pos (by omega), bt_nat s (i + 2) hlt2, rhex]
      simp only [Option.bind_some]
      obtain ⟨a, ha⟩ : ∃ a, a = s[i + 1] := ⟨_, rfl⟩
      obtain ⟨b, hb⟩ : ∃ b, b = s[i + 2] := ⟨_, rfl⟩
      rw [← ha, ← hb]
      have ra := hexv_range a
      have rb := hexv_range b
      have w1 : wrap64 (16 * hexv a) = 16 * hexv a := wrap_small (by omega) (by omega)
      have w2 : wrap64 (16 * hexv a + hexv b) = 16 * hexv a + hexv b := wrap_small (by omega) (by omega)
      have w3 : wrap64 (hexv a + hexv b) = hexv a + hexv b := wrap_small (by omega) (by omega)
      rw [w1, w2, w3]
      simp only [codedR]
      by_cases g1 : hexv a < 0
      · rw [if_pos g1, if_neg (by unfold escOk; simp; omega)]
      · rw [if_neg g1]
        by_cases g2 : hexv b < 0
        · rw [if_pos g2, if_neg (by unfold escOk; simp; omega)]
        · rw [if_neg g2]
          by_cases g3 : hexv a + hexv b = 0
          · rw [if_pos g3, if_neg (by unfold escOk; simp; omega)]
          · have ge : escOk a b = true := by unfold escOk; simp; omega
            rw [if_neg g3, if_pos ⟨h35, ge⟩]
            congr 2
            unfold escV
            simp only [UInt8.toNat_ofNat']
            omega
  · have : ¬ (s[i].toNat : Int) = 35 := fun e => h35 (UInt8.toNat_inj.1 (by simp; omega))
    rw [if_neg this]
    simp only [pagemenderref03_coded.j0]
    rw [if_pos trivial]
    congr 1
    match s.data.toList.drop (i + 1) with
    | [] => rfl
    | [x] => rfl
    | a :: b :: t => simp only [codedR]; rw [if_neg (fun h => h35 h.1)]

theorem loose_step (c : UInt8) (t : List UInt8) : (∃ a b u, t = a :: b :: u ∧ codedR (c :: t) = (((escV a b).toNat : Int), true) ∧ looseL (c :: t) = escV a b :: looseL u) ∨ (codedR (c :: t) = (0, false) ∧ looseL (c :: t) = c :: looseL t) := by
  match t with
  | [] => right; exact ⟨rfl, by simp [looseL]⟩
  | [x] => right; exact ⟨rfl, by simp [looseL]⟩
  | a :: b :: u =>
    by_cases h : c = 35 ∧ escOk a b = true
    · left; exact ⟨a, b, u, rfl, by simp only [codedR]; rw [if_pos h], by simp only [looseL]; rw [if_pos h]⟩
    · right; exact ⟨by simp only [codedR]; rw [if_neg h], by simp only [looseL]; rw [if_neg h]⟩
theorem loose_go (s : ByteArray) (hs : s.size ≤ 600) : ∀ (m i : Nat), i ≤ s.size → s.size ≤ i + m → ∀ (put : List UInt8), put.length ≤ i → ∀ k, m + 3 ≤ k →
    pagemenderref03_Loose.l0 k s (nums put) (i : Int) = some ⟨(put ++ looseL (s.data.toList.drop i)).toArray⟩ := by
  intro m
  induction m with
  | zero =>
    intro i hi hm put hp k hk
    obtain ⟨k, rfl⟩ : ∃ j, k = j + 1 := ⟨k - 1, by omega⟩
    simp only [pagemenderref03_Loose.l0]
    rw [if_neg (by omega), List.drop_of_length_le (by rw [← Lib.size_eq]; omega), str_nums]
    simp [looseL]
  | succ m ih =>
    intro i hi hm put hp k hk
    obtain ⟨k, rfl⟩ : ∃ j, k = j + 1 := ⟨k - 1, by omega⟩
    simp only [pagemenderref03_Loose.l0]
    by_cases hlt : i < s.size
    · have hl : (nums put).length = put.length := by simp [nums]
      have e1 : wrap64 ((i : Int) + 1) = ((i + 1 : Nat) : Int) := by rw [wrap_small (by omega) (by omega)]; omega
      have e3 : wrap64 ((i : Int) + 3) = ((i + 3 : Nat) : Int) := by rw [wrap_small (by omega) (by omega)]; omega
      have hz := Lib.size_eq s
      rw [if_pos (by omega), coded_is s i hs hlt k (by omega), drop_at s i hlt]
      simp only [Option.bind_some]
      rcases loose_step s[i] (s.data.toList.drop (i + 1)) with ⟨a, b, u, ht, hc, hlo⟩ | ⟨hc, hlo⟩
      · have hlen := congrArg List.length ht
        rw [List.length_drop] at hlen
        simp only [List.length_cons] at hlen
        have hu : s.data.toList.drop (i + 3) = u := by
          have := congrArg (List.drop 2) ht
          simpa [List.drop_drop] using this
        rw [hc, hlo]
        rw [if_pos rfl, if_pos (by omega), e3]
        have : nums put ++ [((escV a b).toNat : Int)] = nums (put ++ [escV a b]) := by simp [nums]
        rw [this, ih (i + 3) (by omega) (by omega) _ (by simp; omega) k (by omega), hu]
        simp
      · rw [hc, hlo]
        rw [if_neg (by simp), if_pos (by omega), if_pos (by omega), e1, bt_nat s i hlt]
        have : nums put ++ [((s[i]).toNat : Int)] = nums (put ++ [s[i]]) := by simp [nums]
        rw [this, ih (i + 1) (by omega) (by omega) _ (by simp; omega) k (by omega)]
        simp
    · rw [if_neg (by omega), List.drop_of_length_le (by rw [← Lib.size_eq]; omega), str_nums]
      simp [looseL]
theorem rloose (s : ByteArray) (hs : s.size ≤ 600) (k : Nat) (hk : s.size + 3 ≤ k) : pagemenderref03_Loose.f k s = some ⟨(looseL s.data.toList).toArray⟩ := by
  unfold pagemenderref03_Loose.f
  have := loose_go s hs s.size 0 (by omega) (by omega) [] (by simp) k (by omega)
  simpa [nums] using this

/-- Each # is a byte's number, byte for byte. -/
def goodR : List UInt8 → Bool
  | [] => true
  | c :: t => (c != 35 || (codedR (c :: t)).2) && goodR t
theorem hex35 : hexv 35 = -1 := by decide
theorem good_is : ∀ l : List UInt8, goodR l = goodL l
  | [] => rfl
  | [c] => by by_cases h : c = 35 <;> simp [goodR, goodL, codedR, h]
  | [c, d] => by
    by_cases h : c = 35 <;> simp [goodR, goodL, codedR, h]
  | c :: a :: b :: t => by
    by_cases h : c = 35
    · by_cases ho : escOk a b = true
      · have ha : a ≠ 35 := by rintro rfl; unfold escOk at ho; rw [hex35] at ho; simp at ho
        have hb : b ≠ 35 := by rintro rfl; unfold escOk at ho; rw [hex35] at ho; simp at ho
        have ih := good_is t
        have e : goodR (a :: b :: t) = goodR t := by
          have ha' : (a != 35) = true := by simpa using ha
          have hb' : (b != 35) = true := by simpa using hb
          show ((a != 35 || (codedR (a :: b :: t)).2) && ((b != 35 || (codedR (b :: t)).2) && goodR t)) = goodR t
          rw [ha', hb']; rfl
        show ((c != 35 || (codedR (c :: a :: b :: t)).2) && goodR (a :: b :: t)) = _
        rw [e, ih]
        simp [codedR, goodL, h, ho]
      · have ho' : escOk a b = false := by simpa using ho
        show ((c != 35 || (codedR (c :: a :: b :: t)).2) && goodR (a :: b :: t)) = _
        simp [codedR, goodL, h, ho']
    · have ih := good_is (a :: b :: t)
      show ((c != 35 || (codedR (c :: a :: b :: t)).2) && goodR (a :: b :: t)) = _
      rw [ih]
      simp [goodL, h]
def strictT (l u : List UInt8) : List UInt8 × Int := if runL u = u.length ∧ goodR u = true then if 127 < (looseL l).length then ([], 3) else (looseL l, 0) else ([], 7)
theorem strict_go (s : ByteArray) (hs : s.size ≤ 600) : ∀ (m i : Nat), i + m = s.size → ∀ k, m + s.size + 5 ≤ k →
    pagemenderref03_Strict.l0 k s (i : Int) = some (⟨(strictT s.data.toList (s.data.toList.drop i)).1.toArray⟩, (strictT s.data.toList (s.data.toList.drop i)).2) := by
  intro m
  induction m with
  | zero =>
    intro i hi k hk
    obtain ⟨k, rfl⟩ : ∃ j, k = j + 1 := ⟨k - 1, by omega⟩
    simp only [pagemenderref03_Strict.l0]
    rw [if_neg (by omega), List.drop_of_length_le (by rw [← Lib.size_eq]; omega), rloose s hs k (by omega)]
    simp only [Option.bind_some, size_mk]
    unfold strictT
    rw [if_pos (show runL ([] : List UInt8) = ([] : List UInt8).length ∧ goodR [] = true from ⟨rfl, rfl⟩)]
    by_cases h : 127 < (looseL s.data.toList).length
    · rw [if_pos (by omega), if_pos h]
    · rw [if_neg (by omega), if_neg h]
  | succ m ih =>
    intro i hi k hk
    obtain ⟨k, rfl⟩ : ∃ j, k = j + 1 := ⟨k - 1, by omega⟩
    have hlt : i < s.size := by omega
    have e1 : wrap64 ((i : Int) + 1) = ((i + 1 : Nat) : Int) := by rw [wrap_small (by omega) (by omega)]; omega
    simp only [pagemenderref03_Strict.l0]
    rw [if_pos (by omega), if_pos (by omega), bt_nat s i hlt, rreg, coded_is s i hs hlt k (by omega), e1, ih (i + 1) (by omega) k (by omega), drop_at s i hlt]
    simp only [Option.bind_some]
    have bad : ∀ u, (¬ (runL u = u.length ∧ goodR u = true)) → strictT s.data.toList u = ([], 7) := by intro u h; unfold strictT; rw [if_neg h]
    by_cases h1 : clsN s[i].toNat = 0
    · rw [if_pos (by simpa using h1)]
      have same : (s[i] ≠ 35 ∨ (codedR (s[i] :: s.data.toList.drop (i + 1))).2 = true) → strictT s.data.toList (s[i] :: s.data.toList.drop (i + 1)) = strictT s.data.toList (s.data.toList.drop (i + 1)) := by
        intro h
        have hg : goodR (s[i] :: s.data.toList.drop (i + 1)) = goodR (s.data.toList.drop (i + 1)) := by
          simp only [goodR]
          rcases h with h | h <;> simp [h]
        have hr : runL (s[i] :: s.data.toList.drop (i + 1)) = 1 + runL (s.data.toList.drop (i + 1)) := by simp only [runL]; rw [if_pos h1]
        unfold strictT
        rw [hg, hr]
        by_cases hx : runL (s.data.toList.drop (i + 1)) = (s.data.toList.drop (i + 1)).length
        · by_cases hy : goodR (s.data.toList.drop (i + 1)) = true
          · have e1 : 1 + runL (s.data.toList.drop (i + 1)) = (s[i] :: s.data.toList.drop (i + 1)).length ∧ goodR (s.data.toList.drop (i + 1)) = true := ⟨by rw [List.length_cons]; omega, hy⟩
            have e2 : runL (s.data.toList.drop (i + 1)) = (s.data.toList.drop (i + 1)).length ∧ goodR (s.data.toList.drop (i + 1)) = true := ⟨hx, hy⟩
            rw [if_pos e1, if_pos e2]
          · rw [if_neg (fun h => hy h.2), if_neg (fun h => hy h.2)]
        · rw [if_neg (fun h => hx (by have := h.1; rw [List.length_cons] at this; omega)), if_neg (fun h => hx h.1)]
      by_cases h35 : s[i] = 35
      · rw [if_pos (by rw [h35]; rfl)]
        by_cases hc : (codedR (s[i] :: s.data.toList.drop (i + 1))).2 = true
        · rw [if_pos hc, same (.inr hc)]
        · rw [if_neg hc, bad]
          rintro ⟨-, h⟩
          simp only [goodR] at h
          rw [h35] at h hc
          simp [hc] at h
      · have : ¬ (s[i].toNat : Int) = 35 := fun e => h35 (UInt8.toNat_inj.1 (by simp; omega))
        rw [if_neg this, same (.inl h35)]
    · rw [if_neg (by simpa using h1), bad]
      rintro ⟨h, -⟩
      simp only [runL] at h
      rw [if_neg h1] at h
      simp at h
theorem rstrict (s : ByteArray) (hs : s.size ≤ 600) (k : Nat) (hk : s.size + s.size + 5 ≤ k) : pagemenderref03_Strict.f k s = some (⟨(strictL s.data.toList).1.toArray⟩, (strictL s.data.toList).2) := by
  have h := strict_go s hs s.size 0 (by omega) k hk
  have e : strictT s.data.toList s.data.toList = strictL s.data.toList := by unfold strictT strictL; rw [good_is]
  rw [List.drop_zero, e] at h
  exact h

theorem check_go (s : ByteArray) (hs : s.size ≤ 600) : ∀ (m i : Nat), i + m = s.size → ∀ k, m + 1 ≤ k → pagemenderref03_Check.l0 k s (i : Int) = some (if 0 ∈ s.data.toList.drop i then 2 else 0) := by
  intro m
  induction m with
  | zero =>
    intro i hi k hk
    obtain ⟨k, rfl⟩ : ∃ j, k = j + 1 := ⟨k - 1, by omega⟩
    simp only [pagemenderref03_Check.l0]
    rw [if_neg (by omega), List.drop_of_length_le (by rw [← Lib.size_eq]; omega)]
    rfl
  | succ m ih =>
    intro i hi k hk
    obtain ⟨k, rfl⟩ : ∃ j, k = j + 1 := ⟨k - 1, by omega⟩
    have hlt : i < s.size := by omega
    have e1 : wrap64 ((i : Int) + 1) = ((i + 1 : Nat) : Int) := by rw [wrap_small (by omega) (by omega)]; omega
    simp only [pagemenderref03_Check.l0]
    rw [if_pos (by omega), if_pos (by omega), bt_nat s i hlt, e1, ih (i + 1) (by omega) k (by omega), drop_at s i hlt]
    by_cases h : s[i] = 0
    · rw [if_pos (by rw [h]; rfl), if_pos (by simp [h])]
    · have : ¬ (s[i].toNat : Int) = 0 := fun e => h (UInt8.toNat_inj.1 (by simp; omega))
      rw [if_neg this]
      simp only [List.mem_cons, fun e : (0 : UInt8) = s[i] => h e.symm, false_or]
      congr 1
      by_cases h0 : (0 : UInt8) ∈ s.data.toList.drop (i + 1)
      · rw [if_pos h0, if_pos (.inr h0)]
      · rw [if_neg h0, if_neg]; rintro (e | e); exact h e.symm; exact h0 e
theorem rcheck (s : ByteArray) (hs : s.size ≤ 600) (k : Nat) (hk : s.size + 1 ≤ k) : pagemenderref03_Check.f k s = some (checkL s.data.toList) := by
  unfold pagemenderref03_Check.f checkL
  have hz := Lib.size_eq s
  by_cases h : (s.size : Int) > 127
  · rw [if_pos h, if_pos (by omega)]
  · have := check_go s hs s.size 0 (by omega) k hk
    rw [List.drop_zero] at this
    rw [if_neg h, if_neg (by omega)]
    exact this

def digs : ByteArray := ⟨#[48, 49, 50, 51, 52, 53, 54, 55, 56, 57, 65, 66, 67, 68, 69, 70]⟩
theorem dig_facts : ∀ n : Fin 256, (0 ≤ (Int.tdiv (n.val : Int) 16) % 256 ∧ (Int.tdiv (n.val : Int) 16) % 256 < (digs.size : Int) ∧ 0 ≤ Int.tmod (n.val : Int) 16 ∧ Int.tmod (n.val : Int) 16 < (digs.size : Int)) ∧
    bt digs ((Int.tdiv (n.val : Int) 16) % 256) = (digC (n.val / 16)).toNat ∧ bt digs (Int.tmod (n.val : Int) 16) = (digC (n.val % 16)).toNat := by decide +kernel
theorem put_go (s : ByteArray) (hs : s.size ≤ 600) : ∀ (m i : Nat), i + m = s.size → ∀ (put : List UInt8), put.length ≤ 1 + 3 * i → ∀ k, m + 1 ≤ k →
    pagemenderref03_Put.l0 k s digs (nums put) (i : Int) = some (⟨(put ++ putAll (s.data.toList.drop i)).toArray⟩, 0) := by
  intro m
  induction m with
  | zero =>
    intro i hi put hp k hk
    obtain ⟨k, rfl⟩ : ∃ j, k = j + 1 := ⟨k - 1, by omega⟩
    simp only [pagemenderref03_Put.l0]
    rw [if_neg (by omega), List.drop_of_length_le (by rw [← Lib.size_eq]; omega), str_nums]
    simp [putAll]
  | succ m ih =>
    intro i hi put hp k hk
    obtain ⟨k, rfl⟩ : ∃ j, k = j + 1 := ⟨k - 1, by omega⟩
    have hlt : i < s.size := by omega
    have e1 : wrap64 ((i : Int) + 1) = ((i + 1 : Nat) : Int) := by rw [wrap_small (by omega) (by omega)]; omega
    have hl : (nums put).length = put.length := by simp [nums]
    obtain ⟨⟨d1, d2, d3, d4⟩, d5, d6⟩ := dig_facts ⟨s[i].toNat, s[i].toNat_lt⟩
    simp only at d1 d2 d3 d4 d5 d6
    simp only [pagemenderref03_Put.l0]
    rw [if_pos (by omega), if_pos (by omega), bt_nat s i hlt, rreg, e1, d5, d6, drop_at s i hlt]
    simp only [Option.bind_some]
    have eall : putAll (s[i] :: s.data.toList.drop (i + 1)) = putB s[i] ++ putAll (s.data.toList.drop (i + 1)) := by simp [putAll]
    have coded : putB s[i] = [35, digC (s[i].toNat / 16), digC (s[i].toNat % 16)] → (if 0 ≤ Int.tdiv (s[i].toNat : Int) 16 % 256 then if Int.tdiv (s[i].toNat : Int) 16 % 256 < (digs.size : Int) then if 0 ≤ Int.tmod (s[i].toNat : Int) 16 then if Int.tmod (s[i].toNat : Int) 16 < (digs.size : Int) then
        if (nums put).length + ([35, ((digC (s[i].toNat / 16)).toNat : Int), ((digC (s[i].toNat % 16)).toNat : Int)] : List Int).length < 140737488355328 then
          pagemenderref03_Put.l0 k s digs (nums put ++ ([35, ((digC (s[i].toNat / 16)).toNat : Int), ((digC (s[i].toNat % 16)).toNat : Int)] : List Int)) ↑(i + 1) else none else none else none else none else none) = some (⟨(put ++ putAll (s[i] :: s.data.toList.drop (i + 1))).toArray⟩, 0) := by
      intro hp'
      rw [if_pos d1, if_pos d2, if_pos d3, if_pos d4, if_pos (by simp only [List.length_cons, List.length_nil]; omega)]
      have e : nums put ++ ([35, ((digC (s[i].toNat / 16)).toNat : Int), ((digC (s[i].toNat % 16)).toNat : Int)] : List Int) = nums (put ++ [35, digC (s[i].toNat / 16), digC (s[i].toNat % 16)]) := by simp [nums]
      rw [e, ih (i + 1) (by omega) _ (by simp; omega) k (by omega), eall, hp']
      simp
    have plain : putB s[i] = [s[i]] → (if (nums put).length < 140737488355328 then pagemenderref03_Put.l0 k s digs (nums put ++ [(s[i].toNat : Int)]) ↑(i + 1) else none) = some (⟨(put ++ putAll (s[i] :: s.data.toList.drop (i + 1))).toArray⟩, 0) := by
      intro hp'
      rw [if_pos (by omega)]
      have e : nums put ++ [(s[i].toNat : Int)] = nums (put ++ [s[i]]) := by simp [nums]
      rw [e, ih (i + 1) (by omega) _ (by simp; omega) k (by omega), eall, hp']
      simp
    by_cases h1 : (s[i].toNat : Int) ≥ 33
    · rw [if_pos h1]
      by_cases h2 : (s[i].toNat : Int) ≤ 126
      · rw [if_pos h2]
        by_cases h3 : clsN s[i].toNat = 0
        · rw [if_pos (by simpa using h3)]
          by_cases h4 : s[i] = 35
          · rw [if_pos (by rw [h4]; rfl)]
            exact coded (by unfold putB; rw [if_neg (fun h => h.2.2.2 h4)])
          · have : ¬ (s[i].toNat : Int) = 35 := fun e => h4 (UInt8.toNat_inj.1 (by simp; omega))
            rw [if_neg this]
            exact plain (by unfold putB; rw [if_pos ⟨by omega, by omega, h3, h4⟩])
        · rw [if_neg (by simpa using h3)]
          exact coded (by unfold putB; rw [if_neg (fun h => h3 h.2.2.1)])
      · rw [if_neg h2]
        exact coded (by unfold putB; rw [if_neg (fun h => by omega)])
    · rw [if_neg h1]
      exact coded (by unfold putB; rw [if_neg (fun h => by omega)])
theorem rput (s : ByteArray) (hs : s.size ≤ 600) (k : Nat) (hk : s.size + 1 ≤ k) : pagemenderref03_Put.f k s = some (⟨(putL s.data.toList).1.toArray⟩, (putL s.data.toList).2) := by
  unfold pagemenderref03_Put.f
  rw [rcheck s hs k hk]
  simp only [Option.bind_some]
  unfold putL
  by_cases h : checkL s.data.toList = 0
  · rw [if_pos h, if_pos h]
    have := put_go s hs s.size 0 (by omega) [47] (by simp) k hk
    rw [List.drop_zero] at this
    exact this
  · rw [if_neg h, if_neg h]

theorem NameCalls : pagemenderlaw03_NameCalls.Pure := by
  intro s hs
  refine ⟨2000, ?_⟩
  unfold pagemenderlaw03_NameCalls.f
  rw [lives_ok]
  simp only [Option.bind_some, if_true]
  by_cases h6 : (s.size : Int) > 600
  · rw [if_pos h6]
  · rw [if_neg h6]
    have hput : name_Put.f s = some (⟨(putL s.data.toList).1.toArray⟩, (putL s.data.toList).2) := rfl
    have hst : name_Strict.f s = some (⟨(strictL s.data.toList).1.toArray⟩, (strictL s.data.toList).2) := by unfold name_Strict.f; rw [if_pos (by omega)]
    have hlo : name_Loose.f s = some ⟨(looseL s.data.toList).toArray⟩ := by unfold name_Loose.f; rw [if_pos (by omega)]
    have hck : name_Check.f s = some (checkL s.data.toList) := rfl
    rw [hput, hst, hlo, hck, rput s (by omega) 2000 (by omega), rstrict s (by omega) 2000 (by omega), rloose s (by omega) 2000 (by omega), rcheck s (by omega) 2000 (by omega)]
    simp
end Go.Proofs.Ytpmenahlbfefmaa.Pure
