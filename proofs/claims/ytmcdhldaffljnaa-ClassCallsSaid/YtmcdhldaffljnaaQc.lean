/-
  Plain laws: the references of layer 1 answer as the program's functions do.
-/
import Derived.Test.YtmcdhldaffljnaaHCx2
import Derived.Test.YtmcdhldaffljnaaHCx4
import Derived.Test.YtmcdhldaffljnaaHCx5
import Derived.Test.YtmcdhldaffljnaaHCx6
import Derived.Test.YtmcdhldaffljnaaHCx7
namespace Go.Proofs.Ytmcdhldaffljnaa.Qc
open Go.RowKit Go.Proofs.Ytmcdhldaffljnaa.HC Go.Proofs.YtmcdhldaffljnaaW.PrintWords Go.Proofs.YtmcdhldaffljnaaW.PrintLast
set_option linter.unusedVariables false
set_option linter.unusedSimpArgs false

theorem lives_ok : pagemenderlaw01_lives.f = some true := by decide +kernel
theorem wrap_small {i : Int} (h0 : -9223372036854775808 ≤ i) (h1 : i ≤ 9223372036854775807) : wrap64 i = i := by unfold wrap64; omega
theorem byte_is (c d : UInt8) : ((c.toNat : Int) = (d.toNat : Int)) ↔ c = d := by
  constructor
  · intro h; apply UInt8.toNat_inj.1; omega
  · rintro rfl; rfl
theorem is10 (c : UInt8) : ((c.toNat : Int) = 10) ↔ c = 10 := byte_is c 10
theorem is13 (c : UInt8) : ((c.toNat : Int) = 13) ↔ c = 13 := byte_is c 13
theorem is37 (c : UInt8) : ((c.toNat : Int) = 37) ↔ c = 37 := byte_is c 37
theorem plc_mn (s : ByteArray) (a : Int) : mn (mx 0 a) (s.size : Int) = plc s a := by unfold mn mx plc; split <;> split <;> (try split) <;> (try split) <;> omega
theorem plc_mn' (s : ByteArray) (a : Int) : mn (mx a 0) (s.size : Int) = plc s a := by unfold mn mx plc; split <;> split <;> (try split) <;> (try split) <;> omega

theorem white_all : ∀ n : Fin 256, pagemenderref01_White.f (n.val : Int) = class_White.f (n.val : Int) := by decide +kernel
theorem regular_all : ∀ n : Fin 256, pagemenderref01_Regular.f (n.val : Int) = class_Regular.f (n.val : Int) := by decide +kernel
theorem digit_all : ∀ n : Fin 256, pagemenderref01_Digit.f (n.val : Int) = class_Digit.f (n.val : Int) ∧ (class_Digit.f (n.val : Int)).isSome = true := by decide +kernel
theorem hex_all : ∀ n : Fin 256, pagemenderref01_Hex.f 4 (n.val : Int) = class_Hex.f 4 (n.val : Int) ∧ (class_Hex.f 4 (n.val : Int)).isSome = true := by decide +kernel
theorem of_all {p : Int → Prop} (h : ∀ n : Fin 256, p (n.val : Int)) {a : Int} (h0 : 0 ≤ a) (h1 : a < 256) : p a := by
  have := h ⟨a.toNat, by omega⟩
  simp only [Int.toNat_of_nonneg h0] at this
  exact this

/-- A text, parted at a place. -/
theorem parted (s : ByteArray) (a : Int) : ∃ p t : List UInt8, s.data.toList = p.reverse ++ t ∧ p.length = plc s a := by
  have := plc_le s a
  exact ⟨(s.data.toList.take (plc s a)).reverse, s.data.toList.drop (plc s a), by simp, by rw [List.length_reverse, List.length_take, ← Lib.size_eq]; omega⟩
theorem size_split {s : ByteArray} {p t : List UInt8} (h : s.data.toList = p.reverse ++ t) : s.size = p.length + t.length := by rw [Lib.size_eq, h]; simp
theorem bt_get (s : ByteArray) (i : Nat) (c : UInt8) (h : s.data.toList[i]? = some c) : bt s (i : Int) = c.toNat := by
  have hi : i < s.data.toList.length := (List.getElem?_eq_some_iff.1 h).1
  unfold bt
  rw [dif_pos (by rw [Lib.size_eq]; simpa using hi)]
  have e := (List.getElem?_eq_some_iff.1 h).2
  rw [← e]
  rfl

theorem eol_is (s : ByteArray) (a : Int) (hs : s.size ≤ 2000) (k : Nat) : pagemenderref01_Eol.f (k + 1) s a = some (eolL (s.data.toList.drop (plc s a))) := by
  obtain ⟨p, t, h, hp⟩ := parted s a
  have hz := size_split h
  unfold pagemenderref01_Eol.f pagemenderref01_place.f
  rw [Option.bind_some, plc_mn', ← hp, h, List.drop_left' (by simp)]
  cases t with
  | nil =>
    simp only [List.length_nil, Nat.add_zero] at hz
    rw [if_pos (by omega)]
    simp [pagemenderref01_Eol.j0, eolL]
  | cons c t =>
    simp only [List.length_cons] at hz
    have hb : bt s (p.length : Int) = c.toNat := bt_get s _ c (by rw [h]; simp)
    rw [if_neg (by omega), if_pos (by omega), if_pos (by omega), hb]
    by_cases c10 : c = 10
    · subst c10
      rw [if_pos (by decide)]
      simp only [pagemenderref01_Eol.j0]
      rw [if_neg (by simp), if_pos (by omega), if_pos (by omega), hb, if_neg (by decide)]
      rfl
    · rw [if_neg (fun e => c10 ((is10 c).1 e))]
      by_cases c13 : c = 13
      · subst c13
        have e13 : (((13 : UInt8).toNat : Int) != 13) = false := by decide
        rw [e13]
        simp only [pagemenderref01_Eol.j0]
        rw [if_neg (by simp), if_pos (by omega), if_pos (by omega), hb, if_pos (by decide), wrap_small (by omega) (by omega)]
        cases t with
        | nil =>
          simp only [List.length_nil] at hz
          rw [if_neg (by omega)]
          rfl
        | cons d t =>
          simp only [List.length_cons] at hz
          have e1 : ((p.length : Int) + 1) = ((p.length + 1 : Nat) : Int) := by omega
          have hb1 : bt s ((p.length + 1 : Nat) : Int) = d.toNat := bt_get s _ d (by rw [h, List.getElem?_append_right (by simp)]; simp)
          rw [if_pos (by omega), if_pos (by omega), e1, hb1]
          by_cases d10 : d = 10
          · subst d10
            rw [if_pos (by decide)]
            rfl
          · rw [if_neg (fun e => d10 ((is10 d).1 e))]
            congr 1
            unfold eolL
            split <;> simp_all
      · have e13 : (((c.toNat : Int)) != 13) = true := by rw [bne_iff_ne]; exact fun e => c13 ((is13 c).1 e)
        rw [e13]
        simp only [pagemenderref01_Eol.j0]
        rw [if_pos trivial, (eolL_pos c t).2 (by simp [c10, c13])]

theorem back_is (s : ByteArray) (a : Int) (hs : s.size ≤ 2000) (k : Nat) : pagemenderref01_Back.f (k + 1) s a = some (backL (s.data.toList.take (plc s a)).reverse) := by
  obtain ⟨p, t, h, hp⟩ := parted s a
  have hz := size_split h
  unfold pagemenderref01_Back.f pagemenderref01_place.f
  rw [Option.bind_some, plc_mn', ← hp, h, List.take_left' (by simp), List.reverse_reverse]
  cases p with
  | nil =>
    rw [if_pos (by simp)]
    simp [pagemenderref01_Back.j0, backL]
  | cons c p =>
    simp only [List.length_cons] at hz
    have e0 : (((c :: p).length : Nat) : Int) - 1 = (p.length : Int) := by simp
    have hb : bt s (p.length : Int) = c.toNat := bt_get s _ c (by rw [h]; simp)
    have hl : ((c :: p).length : Int) = (p.length : Int) + 1 := by simp
    rw [if_neg (by omega), wrap_small (by omega) (by omega), e0, if_pos (by omega), if_pos (by omega), hb]
    by_cases c10 : c = 10
    · subst c10
      rw [if_pos (by decide)]
      simp only [pagemenderref01_Back.j0]
      rw [if_neg (by simp), wrap_small (by omega) (by omega), e0, if_pos (by omega), if_pos (by omega), hb, if_pos (by decide)]
      cases p with
      | nil => rw [if_neg (by simp)]; rfl
      | cons d p =>
        simp only [List.length_cons] at hz
        have e1 : (((10 :: d :: p).length : Nat) : Int) - 2 = (p.length : Int) := by simp; omega
        have hl2 : ((10 :: d :: p : List UInt8).length : Int) = (p.length : Int) + 2 := by simp; omega
        have hb1 : bt s (p.length : Int) = d.toNat := bt_get s _ d (by rw [h]; simp)
        rw [if_pos (by omega), wrap_small (by omega) (by omega), e1, if_pos (by omega), if_pos (by omega), hb1]
        by_cases d13 : d = 13
        · subst d13
          rw [if_pos (by decide)]
          rfl
        · rw [if_neg (fun e => d13 ((is13 d).1 e))]
          congr 1
          unfold backL
          split <;> simp_all
    · rw [if_neg (fun e => c10 ((is10 c).1 e))]
      by_cases c13 : c = 13
      · subst c13
        have e13 : (((13 : UInt8).toNat : Int) != 13) = false := by decide
        rw [e13]
        simp only [pagemenderref01_Back.j0]
        rw [if_neg (by simp), wrap_small (by omega) (by omega), e0, if_pos (by omega), if_pos (by omega), hb, if_neg (by decide)]
        rfl
      · have e13 : (((c.toNat : Int)) != 13) = true := by rw [bne_iff_ne]; exact fun e => c13 ((is13 c).1 e)
        rw [e13]
        simp only [pagemenderref01_Back.j0]
        rw [if_pos trivial]
        congr 1
        unfold backL
        split <;> simp_all

theorem bt_nat (s : ByteArray) (i : Nat) (h : i < s.size) : bt s (i : Int) = (s[i].toNat : Int) := by
  unfold bt
  rw [dif_pos (by simpa using h)]
  rfl
theorem refwhite (c : UInt8) : pagemenderref01_White.f (c.toNat : Int) = some (clsN c.toNat == 1) := by
  have h := of_all (p := fun a => pagemenderref01_White.f a = class_White.f a) white_all (byte_lt c).1 (byte_lt c).2
  rw [h]; unfold class_White.f; rw [if_pos (byte_lt c)]; simp
theorem refregular (c : UInt8) : pagemenderref01_Regular.f (c.toNat : Int) = some (clsN c.toNat == 0) := by
  have h := of_all (p := fun a => pagemenderref01_Regular.f a = class_Regular.f a) regular_all (byte_lt c).1 (byte_lt c).2
  rw [h]; unfold class_Regular.f; rw [if_pos (byte_lt c)]; simp
theorem regular_byte (c : UInt8) : class_Regular.f (c.toNat : Int) = some (clsN c.toNat == 0) := by
  unfold class_Regular.f; rw [if_pos (byte_lt c)]; simp

/-- How many regular bytes begin a text. -/
def runL : List UInt8 → Nat
  | [] => 0
  | c :: t => if clsN c.toNat = 0 then 1 + runL t else 0
theorem run_go (s : ByteArray) (hs : s.size ≤ 2000) : ∀ (m i : Nat), i + m = s.size → ∀ k, m + 1 ≤ k → class_Run.l0 k s (i : Int) = some (((i + runL (s.data.toList.drop i) : Nat)) : Int) ∧ pagemenderref01_Run.l0 k s (i : Int) = some (((i + runL (s.data.toList.drop i) : Nat)) : Int) := by
  intro m
  induction m with
  | zero =>
    intro i hi k hk
    obtain ⟨k, rfl⟩ : ∃ j, k = j + 1 := ⟨k - 1, by omega⟩
    simp only [class_Run.l0, pagemenderref01_Run.l0]
    rw [if_neg (by omega), if_neg (by omega), List.drop_of_length_le (by rw [← Lib.size_eq]; omega)]
    simp [runL]
  | succ m ih =>
    intro i hi k hk
    obtain ⟨k, rfl⟩ : ∃ j, k = j + 1 := ⟨k - 1, by omega⟩
    have hlt : i < s.size := by omega
    simp only [class_Run.l0, pagemenderref01_Run.l0]
    rw [if_pos (by omega), if_pos (by omega), if_pos (by omega), if_pos (by omega), bt_nat s i hlt, regular_byte, refregular, drop_at s i hlt]
    simp only [Option.bind_some, runL]
    by_cases h : clsN s[i].toNat = 0
    · have e : wrap64 ((i : Int) + 1) = ((i + 1 : Nat) : Int) := by rw [wrap_small (by omega) (by omega)]; omega
      rw [if_pos (by simpa using h), if_pos h, if_pos (by simpa using h), e, (ih (i + 1) (by omega) k (by omega)).1, (ih (i + 1) (by omega) k (by omega)).2, Nat.add_assoc]
      exact ⟨rfl, rfl⟩
    · rw [if_neg (by simpa using h), if_neg h, if_neg (by simpa using h)]; simp
theorem run_is (s : ByteArray) (a : Int) (hs : s.size ≤ 2000) (k : Nat) (hk : s.size + 1 ≤ k) : class_Run.f k s a = some (((plc s a + runL (s.data.toList.drop (plc s a)) : Nat)) : Int) ∧ pagemenderref01_Run.f k s a = some (((plc s a + runL (s.data.toList.drop (plc s a)) : Nat)) : Int) := by
  have hp := plc_le s a
  unfold class_Run.f class_place.f pagemenderref01_Run.f pagemenderref01_place.f
  rw [Option.bind_some, Option.bind_some, plc_mn, plc_mn']
  exact run_go s hs (s.size - plc s a) (plc s a) (by omega) k (by omega)

theorem skip_go (s : ByteArray) (hs : s.size ≤ 2000) : ∀ (m i : Nat), i + m = s.size →
    (∀ k, 3 * m + 1 ≤ k → pagemenderref01_Skip.l0 k s (i : Int) = some (((i + sk false (s.data.toList.drop i) : Nat)) : Int)) ∧
    (∀ k, 3 * m + 2 ≤ k → pagemenderref01_Skip.l1 k s (i : Int) = some (((i + sk true (s.data.toList.drop i) : Nat)) : Int)) := by
  intro m
  induction m with
  | zero =>
    intro i hi
    have h0 : ∀ k, 1 ≤ k → pagemenderref01_Skip.l0 k s (i : Int) = some (((i + sk false (s.data.toList.drop i) : Nat)) : Int) := by
      intro k hk
      obtain ⟨k, rfl⟩ : ∃ j, k = j + 1 := ⟨k - 1, by omega⟩
      simp only [pagemenderref01_Skip.l0]
      rw [if_neg (by omega), List.drop_of_length_le (by rw [← Lib.size_eq]; omega)]
      simp [sk]
    refine ⟨fun k hk => h0 k (by omega), fun k hk => ?_⟩
    obtain ⟨k, rfl⟩ : ∃ j, k = j + 1 := ⟨k - 1, by omega⟩
    simp only [pagemenderref01_Skip.l1]
    rw [if_neg (by omega), h0 k (by omega), List.drop_of_length_le (by rw [← Lib.size_eq]; omega)]
    simp [sk]
  | succ m ih =>
    intro i hi
    have hlt : i < s.size := by omega
    obtain ⟨ih0, ih1⟩ := ih (i + 1) (by omega)
    have e : wrap64 ((i : Int) + 1) = ((i + 1 : Nat) : Int) := by rw [wrap_small (by omega) (by omega)]; omega
    have hw := refwhite s[i]
    have hd := drop_at s i hlt
    -- in a remark, a byte that ends no line
    have h0w : clsN s[i].toNat = 1 → ∀ k, 3 * m + 2 ≤ k → pagemenderref01_Skip.l0 k s (i : Int) = some (((i + (1 + sk false (s.data.toList.drop (i + 1))) : Nat)) : Int) := by
      intro hw1 k hk
      obtain ⟨k, rfl⟩ : ∃ j, k = j + 1 := ⟨k - 1, by omega⟩
      simp only [pagemenderref01_Skip.l0]
      rw [if_pos (by omega), if_pos (by omega), bt_nat s i hlt, hw]
      simp only [Option.bind_some]
      rw [if_pos (by simpa using hw1), e, ih0 k (by omega), Nat.add_assoc]
    have h1n : ¬ (s[i] = 10 ∨ s[i] = 13) → ∀ k, 3 * m + 3 ≤ k → pagemenderref01_Skip.l1 k s (i : Int) = some (((i + (1 + sk true (s.data.toList.drop (i + 1))) : Nat)) : Int) := by
      intro hn k hk
      obtain ⟨k, rfl⟩ : ∃ j, k = j + 1 := ⟨k - 1, by omega⟩
      simp only [pagemenderref01_Skip.l1]
      rw [if_pos (by omega), if_pos (by omega), bt_nat s i hlt, if_neg (fun h => hn (.inl ((is10 _).1 h))), if_neg (fun h => hn (.inr ((is13 _).1 h))), e, ih1 k (by omega), Nat.add_assoc]
    constructor
    · intro k hk
      rw [hd]
      simp only [sk]
      by_cases hw1 : clsN s[i].toNat = 1
      · rw [if_pos hw1]; exact h0w hw1 k (by omega)
      · rw [if_neg hw1]
        obtain ⟨k, rfl⟩ : ∃ j, k = j + 1 := ⟨k - 1, by omega⟩
        simp only [pagemenderref01_Skip.l0]
        rw [if_pos (by omega), if_pos (by omega), bt_nat s i hlt, hw]
        simp only [Option.bind_some]
        rw [if_neg (by simpa using hw1)]
        by_cases h37 : s[i] = 37
        · rw [if_pos ((is37 _).2 h37), if_pos h37]
          exact h1n (by rw [h37]; decide) k (by omega)
        · rw [if_neg (fun h => h37 ((is37 _).1 h)), if_neg h37]
          simp
    · intro k hk
      rw [hd]
      simp only [sk]
      by_cases hn : s[i] = 10 ∨ s[i] = 13
      · rw [if_pos hn]
        have hw1 : clsN s[i].toNat = 1 := by rcases hn with h | h <;> rw [h] <;> rfl
        obtain ⟨k, rfl⟩ : ∃ j, k = j + 1 := ⟨k - 1, by omega⟩
        simp only [pagemenderref01_Skip.l1]
        rw [if_pos (by omega), if_pos (by omega), bt_nat s i hlt]
        rcases hn with h | h
        · rw [if_pos ((is10 _).2 h)]; exact h0w hw1 k (by omega)
        · rw [if_neg (by rw [h]; decide), if_pos ((is13 _).2 h)]; exact h0w hw1 k (by omega)
      · rw [if_neg hn]; exact h1n hn k (by omega)

theorem skip_is (s : ByteArray) (a : Int) (hs : s.size ≤ 2000) (k : Nat) (hk : 3 * s.size + 3 ≤ k) : pagemenderref01_Skip.f k s a = some ((plc s a : Int) + sk false (s.data.toList.drop (plc s a))) := by
  have hp := plc_le s a
  unfold pagemenderref01_Skip.f pagemenderref01_place.f
  rw [Option.bind_some, plc_mn', (skip_go s hs (s.size - plc s a) (plc s a) (by omega)).1 k (by omega)]
  simp
end Go.Proofs.Ytmcdhldaffljnaa.Qc
