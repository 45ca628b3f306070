/-
  The plain law of TextNumbers: each byte may be told by its number; letters without a meaning are themselves.
-/
import Derived.Test.YtioildfnbcdekaaGx2
namespace Go.Proofs.Ytioildfnbcdekaa.Pure
open Go.RowKit Go.Proofs.Ytioildfnbcdekaa.G Go.Proofs.YtioildfnbcdekaaW.PrintWords Go.Proofs.YtioildfnbcdekaaW.PrintLast
set_option linter.unusedVariables false
set_option linter.unusedSimpArgs false

theorem lives_ok : pagemenderlaw04_lives.f = some true := by decide +kernel
theorem toList_mk (l : List UInt8) : (⟨l.toArray⟩ : ByteArray).toList = l := by rw [Lib.toList_data]
theorem wrap_small {i : Int} (h0 : -9223372036854775808 ≤ i) (h1 : i ≤ 9223372036854775807) : wrap64 i = i := by unfold wrap64; omega
theorem bt_nat (s : ByteArray) (i : Nat) (h : i < s.size) : bt s (i : Int) = (s[i].toNat : Int) := by
  unfold bt
  rw [dif_pos (by simpa using h)]
  rfl
theorem take_snoc (s : ByteArray) (i : Nat) (h : i < s.size) : s.data.toList.take (i + 1) = s.data.toList.take i ++ [s[i]] := by
  have hg : s.data.toList[i]? = some s[i] := by rw [List.getElem?_eq_getElem (by rw [← Lib.size_eq]; exact h)]; rfl
  rw [List.take_add_one, hg]; rfl

def dg (k : Nat) : UInt8 := UInt8.ofNat (48 + k)
def num (n : Nat) : List UInt8 := [92, dg (n / 64), dg (n / 8 % 8), dg (n % 8)]
def digs8 : ByteArray := ⟨#[48, 49, 50, 51, 52, 53, 54, 55]⟩
theorem num_facts : ∀ n : Fin 256, (oct (dg (n.val / 64)) = true ∧ oct (dg (n.val / 8 % 8)) = true ∧ oct (dg (n.val % 8)) = true) ∧ ¬ (dg (n.val / 64) = 10 ∨ dg (n.val / 64) = 13) ∧
    UInt8.ofNat (8 * (8 * (8 * 0 + ((dg (n.val / 64)).toNat - 48)) + ((dg (n.val / 8 % 8)).toNat - 48)) + ((dg (n.val % 8)).toNat - 48)) = UInt8.ofNat n.val := by decide +kernel
theorem ext_facts : ∀ n : Fin 256,
  (0 ≤ (Int.tdiv (n.val : Int) 64) % 256 ∧ (Int.tdiv (n.val : Int) 64) % 256 ≤ ((Int.tdiv (n.val : Int) 64) % 256 + 1) % 256 ∧ ((Int.tdiv (n.val : Int) 64) % 256 + 1) % 256 ≤ (digs8.size : Int)) ∧
  (0 ≤ (Int.tdiv (n.val : Int) 8) % 256 % 8 ∧ (Int.tdiv (n.val : Int) 8) % 256 % 8 ≤ (Int.tdiv (n.val : Int) 8) % 256 % 8 + 1 ∧ (Int.tdiv (n.val : Int) 8) % 256 % 8 + 1 ≤ (digs8.size : Int)) ∧
  (0 ≤ Int.tmod (n.val : Int) 8 ∧ Int.tmod (n.val : Int) 8 ≤ (Int.tmod (n.val : Int) 8 + 1) % 256 ∧ (Int.tmod (n.val : Int) 8 + 1) % 256 ≤ (digs8.size : Int)) ∧
  (digs8.extract ((Int.tdiv (n.val : Int) 64) % 256).toNat (((Int.tdiv (n.val : Int) 64) % 256 + 1) % 256).toNat).data.toList = [dg (n.val / 64)] ∧
  (digs8.extract ((Int.tdiv (n.val : Int) 8) % 256 % 8).toNat ((Int.tdiv (n.val : Int) 8) % 256 % 8 + 1).toNat).data.toList = [dg (n.val / 8 % 8)] ∧
  (digs8.extract (Int.tmod (n.val : Int) 8).toNat ((Int.tmod (n.val : Int) 8 + 1) % 256).toNat).data.toList = [dg (n.val % 8)] := by decide +kernel

theorem esc_num (c : UInt8) (t : List UInt8) : escV (dg (c.toNat / 64) :: dg (c.toNat / 8 % 8) :: dg (c.toNat % 8) :: t) = [c] ∧ escN (dg (c.toNat / 64) :: dg (c.toNat / 8 % 8) :: dg (c.toNat % 8) :: t) = 3 := by
  obtain ⟨⟨o1, o2, o3⟩, o4, o5⟩ := num_facts ⟨c.toNat, c.toNat_lt⟩
  simp only at o1 o2 o3 o4 o5
  have hc : UInt8.ofNat c.toNat = c := by simp
  rw [hc] at o5
  generalize dg (c.toNat / 64) = x at *
  generalize dg (c.toNat / 8 % 8) = y at *
  generalize dg (c.toNat % 8) = z at *
  have hE : eolL (x :: y :: z :: t) = 0 := (eolL_pos x _).2 o4
  constructor
  · show (if 0 < eolL (x :: y :: z :: t) then [] else if oct x = true then [UInt8.ofNat (octV 3 0 (x :: y :: z :: t))] else [escC x]) = _
    rw [hE, if_neg (by omega), if_pos o1]
    simp only [octV]
    rw [if_pos o1, if_pos o2, if_pos o3]
    cases t <;> exact congrArg (fun b => [b]) o5
  · show (if 0 < eolL (x :: y :: z :: t) then (eolL (x :: y :: z :: t)).toNat else if oct x = true then octN 3 (x :: y :: z :: t) else 1) = _
    rw [hE, if_neg (by omega), if_pos o1]
    simp only [octN]
    rw [if_pos o1, if_pos o2, if_pos o3]
theorem lit_num (d : Nat) (c : UInt8) (t : List UInt8) : lit d (num c.toNat ++ t) = (lit d t).map fun x => (c :: x.1, 4 + x.2) := by
  obtain ⟨h1, h2⟩ := esc_num c t
  show lit d (92 :: dg (c.toNat / 64) :: dg (c.toNat / 8 % 8) :: dg (c.toNat % 8) :: t) = _
  rw [lit_cons, if_pos rfl, if_neg (by simp), h1, h2]
  rfl
/-- A letter that has no meaning behind a backslash. -/
def odd (c : UInt8) : Bool := (decide (117 ≤ c.toNat) && decide (c.toNat ≤ 122)) || (decide (65 ≤ c.toNat) && decide (c.toNat ≤ 90))
theorem odd_facts : ∀ n : Fin 256, odd (UInt8.ofNat n.val) = true → oct (UInt8.ofNat n.val) = false ∧ escC (UInt8.ofNat n.val) = UInt8.ofNat n.val ∧ ¬ (UInt8.ofNat n.val = 10 ∨ UInt8.ofNat n.val = 13) := by decide +kernel
theorem lit_odd (d : Nat) (c : UInt8) (h : odd c = true) (t : List UInt8) : lit d (92 :: c :: t) = (lit d t).map fun x => (c :: x.1, 2 + x.2) := by
  have hc : UInt8.ofNat c.toNat = c := by simp
  have hf := odd_facts ⟨c.toNat, c.toNat_lt⟩
  simp only [hc] at hf
  obtain ⟨h1, h2, h3⟩ := hf h
  have hE : eolL (c :: t) = 0 := (eolL_pos c _).2 h3
  obtain ⟨h4, h5⟩ := escaped_is c t hE h1
  rw [lit_cons, if_pos rfl, if_neg (by simp), h4, h5, h2]
  rfl

def numAll (l : List UInt8) : List UInt8 := l.flatMap fun c => num c.toNat
def oddAll (l : List UInt8) : List UInt8 := l.flatMap fun c => if odd c = true then [92, c] else []
def wantAll (l : List UInt8) : List UInt8 := l.flatMap fun c => if odd c = true then [c] else []
theorem numAll_len : ∀ l, (numAll l).length = 4 * l.length
  | [] => rfl
  | c :: t => by
    have ih := numAll_len t
    have e : numAll (c :: t) = num c.toNat ++ numAll t := by simp [numAll]
    rw [e, List.length_append, ih]; simp [num]; omega
theorem oddAll_len : ∀ l, (oddAll l).length ≤ 2 * l.length ∧ (wantAll l).length ≤ l.length
  | [] => by simp [oddAll, wantAll]
  | c :: t => by
    have ih := oddAll_len t
    have e : oddAll (c :: t) = (if odd c = true then [92, c] else []) ++ oddAll t := by simp [oddAll]
    have e' : wantAll (c :: t) = (if odd c = true then [c] else []) ++ wantAll t := by simp [wantAll]
    rw [e, e', List.length_append, List.length_append]
    split <;> simp <;> omega
theorem num_read : ∀ l : List UInt8, lit 1 (numAll l ++ [41]) = some (l, (numAll l).length + 1)
  | [] => rfl
  | c :: t => by
    have ih := num_read t
    have e : numAll (c :: t) = num c.toNat ++ numAll t := by simp [numAll]
    rw [e, List.append_assoc, lit_num, ih]
    simp [num]; omega
theorem odd_read : ∀ l : List UInt8, lit 1 (oddAll l ++ [41]) = some (wantAll l, (oddAll l).length + 1)
  | [] => rfl
  | c :: t => by
    have ih := odd_read t
    have e : oddAll (c :: t) = (if odd c = true then [92, c] else []) ++ oddAll t := by simp [oddAll]
    have e' : wantAll (c :: t) = (if odd c = true then [c] else []) ++ wantAll t := by simp [wantAll]
    rw [e, e', List.append_assoc]
    by_cases h : odd c = true
    · rw [if_pos h, if_pos h]
      show lit 1 (92 :: c :: (oddAll t ++ [41])) = _
      rw [lit_odd 1 c h, ih]
      simp; omega
    · rw [if_neg h, if_neg h]
      simpa using ih

theorem literal_of (x : ByteArray) (o : List UInt8) (hz : x.size ≤ 3000) (hr : lit 1 (x.data.toList ++ [41]) = some (o, x.size + 1)) (ho : o.length ≤ 65536) : text_Literal.f (((⟨#[40]⟩ : ByteArray) ++ x) ++ (⟨#[41]⟩ : ByteArray)) 0 = some (⟨o.toArray⟩, (x.size : Int) + 2, 0) := by
  have hl : (((⟨#[40]⟩ : ByteArray) ++ x) ++ (⟨#[41]⟩ : ByteArray)).data.toList = 40 :: (x.data.toList ++ [41]) := by simp
  have hs : (((⟨#[40]⟩ : ByteArray) ++ x) ++ (⟨#[41]⟩ : ByteArray)).size = x.size + 2 := by rw [Lib.size_eq, hl, Lib.size_eq]; simp
  unfold text_Literal.f
  rw [if_pos (by omega)]
  have e : litF (((⟨#[40]⟩ : ByteArray) ++ x) ++ (⟨#[41]⟩ : ByteArray)) 0 = (o, (x.size : Int) + 2, 0) := by
    unfold litF
    rw [if_pos ⟨by omega, by omega, by rw [hl]; rfl⟩]
    unfold litR
    rw [hl]
    simp only [Int.toNat_zero, List.drop_succ_cons, List.drop_zero]
    rw [hr]
    simp only
    rw [if_neg (by omega)]
    congr 2
    push_cast
    omega
  rw [e]

theorem l0_end (s : ByteArray) (hs : s.size ≤ 600) (i : Nat) (hi : i = s.size) (x4 x5 x6 : ByteArray) (h4 : x4.data.toList = numAll (s.data.toList.take i)) (h5 : x5.data.toList = oddAll (s.data.toList.take i)) (h6 : x6.data.toList = wantAll (s.data.toList.take i)) (k : Nat) : pagemenderlaw04_TextNumbers.l0 (k + 1) s digs8 x4 x5 x6 (i : Int) = some true := by
  have hz := Lib.size_eq s
  rw [List.take_of_length_le (by omega)] at h4 h5 h6
  have n4 := numAll_len s.data.toList
  have n5 := oddAll_len s.data.toList
  have z4 : x4.size = (numAll s.data.toList).length := by rw [Lib.size_eq, h4]
  have z5 : x5.size = (oddAll s.data.toList).length := by rw [Lib.size_eq, h5]
  have r4 := literal_of x4 s.data.toList (by omega) (by rw [h4, z4]; exact num_read _) (by omega)
  have r5 := literal_of x5 (wantAll s.data.toList) (by omega) (by rw [h5, z5]; exact odd_read _) (by omega)
  have a4 : ((⟨#[40]⟩ : ByteArray) ++ x4).size = 1 + x4.size := by rw [ByteArray.size_append]; rfl
  have a5 : ((⟨#[40]⟩ : ByteArray) ++ x5).size = 1 + x5.size := by rw [ByteArray.size_append]; rfl
  simp only [pagemenderlaw04_TextNumbers.l0]
  rw [if_neg (by omega), if_pos (by omega), if_pos (by omega), r4]
  simp only [Option.bind_some]
  rw [if_pos (by omega), if_pos (by omega), r5]
  rw [wrap_small (by omega) (by omega), wrap_small (by omega) (by omega)]
  rw [Option.bind_some]
  have t6 : x6.toList = wantAll s.data.toList := by rw [Lib.toList_data, h6]
  rw [t6, toList_mk]
  simp

theorem l0_step (s : ByteArray) (hs : s.size ≤ 600) (i : Nat) (hi : i < s.size) (x4 x5 x6 : ByteArray) (h4 : x4.data.toList = numAll (s.data.toList.take i)) (h5 : x5.data.toList = oddAll (s.data.toList.take i)) (h6 : x6.data.toList = wantAll (s.data.toList.take i)) (k : Nat)
    (ih : ∀ y4 y5 y6 : ByteArray, y4.data.toList = numAll (s.data.toList.take (i + 1)) → y5.data.toList = oddAll (s.data.toList.take (i + 1)) → y6.data.toList = wantAll (s.data.toList.take (i + 1)) → pagemenderlaw04_TextNumbers.l0 k s digs8 y4 y5 y6 ((i + 1 : Nat) : Int) = some true) :
    pagemenderlaw04_TextNumbers.l0 (k + 1) s digs8 x4 x5 x6 (i : Int) = some true := by
  have hz := Lib.size_eq s
  have hlt : i < s.size := by omega
  have e1 : wrap64 ((i : Int) + 1) = ((i + 1 : Nat) : Int) := by rw [wrap_small (by omega) (by omega)]; omega
  have ht : (s.data.toList.take i).length ≤ 600 := by rw [List.length_take]; omega
  have n4 := numAll_len (s.data.toList.take i)
  have n5 := oddAll_len (s.data.toList.take i)
  have z4 : x4.size ≤ 2400 := by rw [Lib.size_eq, h4]; omega
  have z5 : x5.size ≤ 1200 := by rw [Lib.size_eq, h5]; omega
  have z6 : x6.size ≤ 600 := by rw [Lib.size_eq, h6]; omega
  obtain ⟨⟨d1, d2, d3⟩, ⟨d4, d5, d6⟩, ⟨d7, d8, d9⟩, g1, g2, g3⟩ := ext_facts ⟨s[i].toNat, s[i].toNat_lt⟩
  simp only at d1 d2 d3 d4 d5 d6 d7 d8 d9 g1 g2 g3
  simp only [pagemenderlaw04_TextNumbers.l0]
  rw [bt_nat s i hlt, e1]
  obtain ⟨p, hp⟩ : ∃ p, p = digs8.extract ((Int.tdiv (s[i].toNat : Int) 64) % 256).toNat (((Int.tdiv (s[i].toNat : Int) 64) % 256 + 1) % 256).toNat := ⟨_, rfl⟩
  obtain ⟨q, hq⟩ : ∃ q, q = digs8.extract ((Int.tdiv (s[i].toNat : Int) 8) % 256 % 8).toNat ((Int.tdiv (s[i].toNat : Int) 8) % 256 % 8 + 1).toNat := ⟨_, rfl⟩
  obtain ⟨r, hr⟩ : ∃ r, r = digs8.extract (Int.tmod (s[i].toNat : Int) 8).toNat ((Int.tmod (s[i].toNat : Int) 8 + 1) % 256).toNat := ⟨_, rfl⟩
  obtain ⟨u, hu⟩ : ∃ u, u = s.extract ((i : Int).toNat) (((i + 1 : Nat) : Int).toNat) := ⟨_, rfl⟩
  rw [← hp] at g1
  rw [← hq] at g2
  rw [← hr] at g3
  rw [← hp, ← hq, ← hr, ← hu]
  have hul : u = ⟨#[s[i]]⟩ := by rw [hu, Int.toNat_natCast, Int.toNat_natCast]; exact ext_one s i hlt
  have pz : p.size = 1 := by rw [Lib.size_eq, g1]; rfl
  have qz : q.size = 1 := by rw [Lib.size_eq, g2]; rfl
  have rz : r.size = 1 := by rw [Lib.size_eq, g3]; rfl
  have uz : u.size = 1 := by rw [hul]; rfl
  have w1 : (x4 ++ (⟨#[92]⟩ : ByteArray)).size = x4.size + 1 := by rw [ByteArray.size_append]; rfl
  have w2 : ((x4 ++ (⟨#[92]⟩ : ByteArray)) ++ p).size = x4.size + 2 := by rw [ByteArray.size_append, w1, pz]
  have w3 : (((x4 ++ (⟨#[92]⟩ : ByteArray)) ++ p) ++ q).size = x4.size + 3 := by rw [ByteArray.size_append, w2, qz]
  have w5 : (x5 ++ (⟨#[92]⟩ : ByteArray)).size = x5.size + 1 := by rw [ByteArray.size_append]; rfl
  have hin : ((((x4 ++ (⟨#[92]⟩ : ByteArray)) ++ p) ++ q) ++ r).data.toList = numAll (s.data.toList.take (i + 1)) := by
    rw [take_snoc s i hlt]
    have : numAll (s.data.toList.take i ++ [s[i]]) = numAll (s.data.toList.take i) ++ num s[i].toNat := by simp [numAll]
    rw [this, ← h4]
    simp only [ByteArray.data_append, Array.toList_append]
    rw [g1, g2, g3]
    simp [num]
  have yes : odd s[i] = true → (if x5.size + 1 ≤ 9223372036854775807 then if (i : Int) ≤ ((i + 1 : Nat) : Int) then if ((i + 1 : Nat) : Int) ≤ (s.size : Int) then if (x5 ++ (⟨#[92]⟩ : ByteArray)).size + u.size ≤ 9223372036854775807 then if x6.size + u.size ≤ 9223372036854775807 then
      pagemenderlaw04_TextNumbers.l0 k s digs8 ((((x4 ++ (⟨#[92]⟩ : ByteArray)) ++ p) ++ q) ++ r) ((x5 ++ (⟨#[92]⟩ : ByteArray)) ++ u) (x6 ++ u) ((i + 1 : Nat) : Int) else none else none else none else none else none) = some true := by
    intro ho
    rw [if_pos (by omega), if_pos (by omega), if_pos (by omega), if_pos (by omega), if_pos (by omega)]
    refine ih _ _ _ hin ?_ ?_
    · rw [take_snoc s i hlt]
      have : oddAll (s.data.toList.take i ++ [s[i]]) = oddAll (s.data.toList.take i) ++ [92, s[i]] := by simp [oddAll, ho]
      rw [this, ← h5, hul]; simp
    · rw [take_snoc s i hlt]
      have : wantAll (s.data.toList.take i ++ [s[i]]) = wantAll (s.data.toList.take i) ++ [s[i]] := by simp [wantAll, ho]
      rw [this, ← h6, hul]; simp
  have no : odd s[i] = false → pagemenderlaw04_TextNumbers.l0 k s digs8 ((((x4 ++ (⟨#[92]⟩ : ByteArray)) ++ p) ++ q) ++ r) x5 x6 ((i + 1 : Nat) : Int) = some true := by
    intro ho
    refine ih _ _ _ hin ?_ ?_
    · rw [take_snoc s i hlt]
      have : oddAll (s.data.toList.take i ++ [s[i]]) = oddAll (s.data.toList.take i) := by simp [oddAll, ho]
      rw [this, ← h5]
    · rw [take_snoc s i hlt]
      have : wantAll (s.data.toList.take i ++ [s[i]]) = wantAll (s.data.toList.take i) := by simp [wantAll, ho]
      rw [this, ← h6]
  rw [if_pos (by omega), if_pos (by omega), if_pos (by omega), if_pos d1, if_pos d2, if_pos d3, if_pos (by omega), if_pos d4, if_pos d5, if_pos d6, if_pos (by omega), if_pos d7, if_pos d8, if_pos d9, if_pos (by omega)]
  by_cases c1 : (s[i].toNat : Int) ≥ 117
  · rw [if_pos c1]
    by_cases c2 : (s[i].toNat : Int) ≤ 122
    · rw [if_pos c2]; exact yes (by unfold odd; simp; omega)
    · rw [if_neg c2]
      by_cases c3 : (s[i].toNat : Int) ≥ 65
      · rw [if_pos c3]
        by_cases c4 : (s[i].toNat : Int) ≤ 90
        · rw [if_pos c4]; exact yes (by unfold odd; simp; omega)
        · rw [if_neg c4]; exact no (by unfold odd; simp; omega)
      · rw [if_neg c3]; exact no (by unfold odd; simp; omega)
  · rw [if_neg c1]
    by_cases c3 : (s[i].toNat : Int) ≥ 65
    · rw [if_pos c3]
      by_cases c4 : (s[i].toNat : Int) ≤ 90
      · rw [if_pos c4]; exact yes (by unfold odd; simp; omega)
      · rw [if_neg c4]; exact no (by unfold odd; simp; omega)
    · rw [if_neg c3]; exact no (by unfold odd; simp; omega)

theorem l0_go (s : ByteArray) (hs : s.size ≤ 600) : ∀ (m i : Nat), i + m = s.size → ∀ (x4 x5 x6 : ByteArray), x4.data.toList = numAll (s.data.toList.take i) → x5.data.toList = oddAll (s.data.toList.take i) → x6.data.toList = wantAll (s.data.toList.take i) → ∀ k, m + 1 ≤ k →
    pagemenderlaw04_TextNumbers.l0 k s digs8 x4 x5 x6 (i : Int) = some true := by
  intro m
  induction m with
  | zero =>
    intro i hi x4 x5 x6 h4 h5 h6 k hk
    obtain ⟨k, rfl⟩ : ∃ j, k = j + 1 := ⟨k - 1, by omega⟩
    exact l0_end s hs i (by omega) x4 x5 x6 h4 h5 h6 k
  | succ m ih =>
    intro i hi x4 x5 x6 h4 h5 h6 k hk
    obtain ⟨k, rfl⟩ : ∃ j, k = j + 1 := ⟨k - 1, by omega⟩
    exact l0_step s hs i (by omega) x4 x5 x6 h4 h5 h6 k (fun y4 y5 y6 g4 g5 g6 => ih (i + 1) (by omega) y4 y5 y6 g4 g5 g6 k (by omega))

theorem TextNumbers : pagemenderlaw04_TextNumbers.Pure := by
  intro s hs
  refine ⟨700, ?_⟩
  unfold pagemenderlaw04_TextNumbers.f
  rw [lives_ok]
  simp only [Option.bind_some, if_true]
  by_cases h6 : (s.size : Int) > 600
  · rw [if_pos h6]
  · rw [if_neg h6]
    exact l0_go s (by omega) s.size 0 (by omega) _ _ _ (by simp [numAll]) (by simp [oddAll]) (by simp [wantAll]) 700 (by omega)
end Go.Proofs.Ytioildfnbcdekaa.Pure
