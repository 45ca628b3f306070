/-
  The plain law of NameOne: names that are unlike are put unlike; a byte written by its number is that byte.
-/
import Derived.Test.YtpmenahlbfefmaaGx10
namespace Go.Proofs.Ytpmenahlbfefmaa.Pure
open Go.RowKit Go.Proofs.Ytpmenahlbfefmaa.G Go.Proofs.YtpmenahlbfefmaaW.PrintWords Go.Proofs.YtpmenahlbfefmaaW.PrintLast
set_option linter.unusedVariables false
set_option linter.unusedSimpArgs false

/-! ### Plain -/
theorem lives_is : pagemenderlaw03_lives.f = some true := by decide +kernel
theorem one_putB : ∀ n : Fin 256, n.val = 0 ∨ (putB (UInt8.ofNat n.val) = [UInt8.ofNat n.val] ∧ UInt8.ofNat n.val ≠ 35) ∨
    (∃ a b : Fin 16, putB (UInt8.ofNat n.val) = [35, digC a.val, digC b.val] ∧ escOk (digC a.val) (digC b.val) = true ∧ escV (digC a.val) (digC b.val) = UInt8.ofNat n.val) := by decide +kernel
theorem one_read : ∀ l : List UInt8, (0 : UInt8) ∉ l → looseL (putAll l) = l
  | [], _ => by simp [putAll, looseL]
  | c :: t, h => by
    have ih := one_read t (fun h' => h (by simp [h']))
    have hc : c ≠ 0 := fun e => h (by simp [e])
    have e : putAll (c :: t) = putB c ++ putAll t := by simp [putAll]
    have hcc : UInt8.ofNat c.toNat = c := by simp
    have := one_putB ⟨c.toNat, c.toNat_lt⟩
    simp only [hcc] at this
    rw [e]
    rcases this with h0 | ⟨h1, h2⟩ | ⟨a, b, h1, h2, h3⟩
    · exact absurd (UInt8.toNat_inj.1 (by simpa using h0)) hc
    · rw [h1]
      show looseL (c :: putAll t) = _
      rw [(loose_other c _ h2).1, ih]
    · rw [h1]
      show looseL (35 :: digC a.val :: digC b.val :: putAll t) = _
      rw [(loose_yes _ _ _ h2).1, ih, h3]
theorem check_ok {l : List UInt8} (h : checkL l = 0) : (0 : UInt8) ∉ l := by
  unfold checkL at h
  split at h
  · omega
  · split at h
    · omega
    · assumption
theorem put_two {l : List UInt8} (h : (putL l).2 = 0) : (putL l).1 = 47 :: putAll l ∧ (0 : UInt8) ∉ l := by
  unfold putL at h ⊢
  by_cases h0 : checkL l = 0
  · rw [if_pos h0]; exact ⟨rfl, check_ok h0⟩
  · rw [if_neg h0] at h; exact absurd h h0
theorem put_one {l m : List UInt8} (hl : (putL l).2 = 0) (hm : (putL m).2 = 0) (h : (putL l).1 = (putL m).1) : l = m := by
  rw [(put_two hl).1, (put_two hm).1] at h
  have h' := (List.cons.inj h).2
  rw [← one_read l (put_two hl).2, h', one_read m (put_two hm).2]
/-- A byte's number, in small letters. -/
def digS (n : Nat) : UInt8 := if n < 10 then UInt8.ofNat (48 + n) else UInt8.ofNat (87 + n)
theorem one_strict : ∀ n : Fin 256, strictL [35, digS (n.val / 16), digS (n.val % 16)] = if n.val = 0 then ([], 7) else ([UInt8.ofNat n.val], 0) := by decide +kernel
/-- What is asked of the letters, by trying each byte. -/
theorem one_facts : ∀ n : Fin 256,
  (0 ≤ (Int.tdiv (n.val : Int) 16) % 256 ∧ (Int.tdiv (n.val : Int) 16) % 256 ≤ ((Int.tdiv (n.val : Int) 16) % 256 + 1) % 256 ∧ ((Int.tdiv (n.val : Int) 16) % 256 + 1) % 256 ≤ 16 ∧
   0 ≤ Int.tmod (n.val : Int) 16 ∧ Int.tmod (n.val : Int) 16 ≤ (Int.tmod (n.val : Int) 16 + 1) % 256 ∧ (Int.tmod (n.val : Int) 16 + 1) % 256 ≤ 16) ∧
  ((⟨#[48, 49, 50, 51, 52, 53, 54, 55, 56, 57, 97, 98, 99, 100, 101, 102]⟩ : ByteArray).extract ((Int.tdiv (n.val : Int) 16) % 256).toNat (((Int.tdiv (n.val : Int) 16) % 256 + 1) % 256).toNat).data.toList = [digS (n.val / 16)] ∧
  ((⟨#[48, 49, 50, 51, 52, 53, 54, 55, 56, 57, 97, 98, 99, 100, 101, 102]⟩ : ByteArray).extract (Int.tmod (n.val : Int) 16).toNat ((Int.tmod (n.val : Int) 16 + 1) % 256).toNat).data.toList = [digS (n.val % 16)] := by decide +kernel
theorem of_list {x : ByteArray} {l : List UInt8} (h : x.data.toList = l) : x = ⟨l.toArray⟩ := by
  apply ByteArray.ext
  apply Array.ext'
  exact h

theorem NameOne : pagemenderlaw03_NameOne.Pure := by
  intro a b c0 ha hb hc
  obtain ⟨hc0, hc1⟩ : 0 ≤ c0 ∧ c0 < 256 := by
    have := hc
    simp only [Lit.wf] at this
    rw [Bool.and_eq_true, decide_eq_true_eq, decide_eq_true_eq] at this
    have m1 : IntKind.u8.min = 0 := by decide
    have m2 : IntKind.u8.max = 255 := by decide
    omega
  obtain ⟨c, rfl⟩ := Int.eq_ofNat_of_zero_le hc0
  have hc256 : c < 256 := by omega
  unfold pagemenderlaw03_NameOne.f
  rw [lives_is]
  simp only [Option.bind_some, if_true]
  have hpa : name_Put.f a = some (⟨(putL a.data.toList).1.toArray⟩, (putL a.data.toList).2) := rfl
  have hpb : name_Put.f b = some (⟨(putL b.data.toList).1.toArray⟩, (putL b.data.toList).2) := rfl
  rw [hpa, hpb]
  simp only [Option.bind_some]
  by_cases h1 : (a.size : Int) > 600
  · rw [if_pos h1]
  rw [if_neg h1]
  by_cases h2 : (b.size : Int) > 600
  · rw [if_pos h2]
  rw [if_neg h2]
  by_cases h3 : (putL a.data.toList).2 = 0
  case neg => rw [if_neg h3]
  rw [if_pos h3]
  by_cases h4 : (putL b.data.toList).2 = 0
  case neg => rw [if_neg h4]
  rw [if_pos h4]
  obtain ⟨⟨d1, d2, d3, d4, d5, d6⟩, g2, g3⟩ := one_facts ⟨c, hc256⟩
  simp only at d1 d2 d3 d4 d5 d6 g2 g3
  have hs := one_strict ⟨c, hc256⟩
  simp only at hs
  rw [of_list g2, of_list g3]
  have z1 : (⟨[digS (c / 16)].toArray⟩ : ByteArray).size = 1 := rfl
  have z2 : (⟨[digS (c % 16)].toArray⟩ : ByteArray).size = 1 := rfl
  have z3 : ((⟨#[35]⟩ : ByteArray) ++ (⟨[digS (c / 16)].toArray⟩ : ByteArray)).size = 2 := by rw [ByteArray.size_append]; rfl
  rw [if_pos d1, if_pos d2, if_pos d3, if_pos (by rw [z1]; omega), if_pos d4, if_pos d5, if_pos d6, if_pos (by rw [z3, z2]; omega)]
  have hst : name_Strict.f ((⟨#[35]⟩ : ByteArray) ++ (⟨[digS (c / 16)].toArray⟩ : ByteArray) ++ (⟨[digS (c % 16)].toArray⟩ : ByteArray)) = if c = 0 then some (⟨#[]⟩, 7) else some (⟨#[UInt8.ofNat c]⟩, 0) := by
    unfold name_Strict.f
    have z4 : ((⟨#[35]⟩ : ByteArray) ++ (⟨[digS (c / 16)].toArray⟩ : ByteArray) ++ (⟨[digS (c % 16)].toArray⟩ : ByteArray)).size = 3 := by rw [ByteArray.size_append, z3]; rfl
    rw [if_pos (by omega)]
    have z5 : ((⟨#[35]⟩ : ByteArray) ++ (⟨[digS (c / 16)].toArray⟩ : ByteArray) ++ (⟨[digS (c % 16)].toArray⟩ : ByteArray)).data.toList = [35, digS (c / 16), digS (c % 16)] := by simp
    rw [z5, hs]
    by_cases h0 : c = 0
    · rw [if_pos h0, if_pos h0]
    · rw [if_neg h0, if_neg h0]
  have hpq : (((⟨(putL a.data.toList).1.toArray⟩ : ByteArray).toList == (⟨(putL b.data.toList).1.toArray⟩ : ByteArray).toList) == (a.toList == b.toList)) = true := by
    rw [Lib.toList_data, Lib.toList_data, Lib.toList_data, Lib.toList_data, beq_iff_eq, Bool.eq_iff_iff, beq_iff_eq, beq_iff_eq]
    exact ⟨fun h => put_one h3 h4 h, fun h => by rw [h]⟩
  rw [hst]
  by_cases h0 : c = 0
  · rw [if_pos h0]
    simp only [Option.bind_some]
    rw [if_pos hpq, if_pos (by omega)]
    rfl
  · rw [if_neg h0]
    simp only [Option.bind_some]
    rw [if_pos hpq, if_neg (by omega), if_pos trivial, Lib.toList_data, Lib.toList_data]
    simp [strOfNums]
end Go.Proofs.Ytpmenahlbfefmaa.Pure
