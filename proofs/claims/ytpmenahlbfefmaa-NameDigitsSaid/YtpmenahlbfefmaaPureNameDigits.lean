/-
  The plain law of NameDigits: a byte's number may be told by great letters, or by small ones; each byte of a name may.
-/
import Derived.Test.YtpmenahlbfefmaaGx11
namespace Go.Proofs.Ytpmenahlbfefmaa.Pure
open Go.RowKit Go.Proofs.Ytpmenahlbfefmaa.G Go.Proofs.YtpmenahlbfefmaaW.PrintWords Go.Proofs.YtpmenahlbfefmaaW.PrintLast
set_option linter.unusedVariables false
set_option linter.unusedSimpArgs false

theorem lives_ok : pagemenderlaw03_lives.f = some true := by decide +kernel
theorem toList_mk (l : List UInt8) : (⟨l.toArray⟩ : ByteArray).toList = l := by rw [Lib.toList_data]

def great : ByteArray := ⟨#[48, 49, 50, 51, 52, 53, 54, 55, 56, 57, 65, 66, 67, 68, 69, 70]⟩
def small : ByteArray := ⟨#[48, 49, 50, 51, 52, 53, 54, 55, 56, 57, 97, 98, 99, 100, 101, 102]⟩
/-- A byte by its number, in a table's letters. -/
def num (h : ByteArray) (n : Nat) : List UInt8 := [35, h.data.toList.getD (n / 16) 0, h.data.toList.getD (n % 16) 0]
/-- What is asked of a table, by trying each byte. -/
def Fits (h : ByteArray) : Prop := ∀ n : Fin 256,
  (0 ≤ (Int.tdiv (n.val : Int) 16) % 256 ∧ (Int.tdiv (n.val : Int) 16) % 256 ≤ ((Int.tdiv (n.val : Int) 16) % 256 + 1) % 256 ∧ ((Int.tdiv (n.val : Int) 16) % 256 + 1) % 256 ≤ (h.size : Int) ∧
   0 ≤ Int.tmod (n.val : Int) 16 ∧ Int.tmod (n.val : Int) 16 ≤ (Int.tmod (n.val : Int) 16 + 1) % 256 ∧ (Int.tmod (n.val : Int) 16 + 1) % 256 ≤ (h.size : Int)) ∧
  (h.extract ((Int.tdiv (n.val : Int) 16) % 256).toNat (((Int.tdiv (n.val : Int) 16) % 256 + 1) % 256).toNat).data.toList = [h.data.toList.getD (n.val / 16) 0] ∧
  (h.extract (Int.tmod (n.val : Int) 16).toNat ((Int.tmod (n.val : Int) 16 + 1) % 256).toNat).data.toList = [h.data.toList.getD (n.val % 16) 0] ∧
  (n.val ≠ 0 → escOk (h.data.toList.getD (n.val / 16) 0) (h.data.toList.getD (n.val % 16) 0) = true) ∧
  escV (h.data.toList.getD (n.val / 16) 0) (h.data.toList.getD (n.val % 16) 0) = UInt8.ofNat n.val ∧
  clsN (h.data.toList.getD (n.val / 16) 0).toNat = 0 ∧ clsN (h.data.toList.getD (n.val % 16) 0).toNat = 0
theorem great_fits : Fits great := by unfold Fits; decide +kernel
theorem small_fits : Fits small := by unfold Fits; decide +kernel

def rawL (h : ByteArray) (l : List UInt8) : List UInt8 := l.flatMap fun c => num h c.toNat
theorem raw_len (h : ByteArray) : ∀ l, (rawL h l).length = 3 * l.length
  | [] => rfl
  | c :: t => by
    have ih := raw_len h t
    unfold rawL at ih ⊢
    rw [List.flatMap_cons, List.length_append, ih]
    simp [num]; omega
theorem raw_read (h : ByteArray) (hf : Fits h) : ∀ l : List UInt8, (0 : UInt8) ∉ l → looseL (rawL h l) = l ∧ goodL (rawL h l) = true ∧ runL (rawL h l) = (rawL h l).length
  | [], _ => by simp [rawL, looseL, goodL, runL]
  | c :: t, h0 => by
    have ih := raw_read h hf t (fun h' => h0 (by simp [h']))
    have hc : c.toNat ≠ 0 := fun e => h0 (by rw [show c = 0 from UInt8.toNat_inj.1 e]; simp)
    have e : rawL h (c :: t) = 35 :: h.data.toList.getD (c.toNat / 16) 0 :: h.data.toList.getD (c.toNat % 16) 0 :: rawL h t := by simp [rawL, num]
    obtain ⟨-, -, -, g4, g5, g6, g7⟩ := hf ⟨c.toNat, c.toNat_lt⟩
    simp only at g4 g5 g6 g7
    rw [e, (loose_yes _ _ _ (g4 hc)).1, (loose_yes _ _ _ (g4 hc)).2, ih.1, g5]
    refine ⟨by simp, ih.2.1, ?_⟩
    simp only [runL, List.length_cons]
    rw [if_pos (by decide), if_pos g6, if_pos g7, ih.2.2]
    omega

theorem l0_go (s h : ByteArray) (hf : Fits h) (hs : s.size ≤ 127) (h0 : (0 : UInt8) ∉ s.data.toList) : ∀ (m i : Nat), i + m = s.size → ∀ (x : ByteArray), x.data.toList = rawL h (s.data.toList.take i) → ∀ k, m + 1 ≤ k →
    pagemenderlaw03_NameDigits.l0 k s h x (i : Int) = some true := by
  intro m
  induction m with
  | zero =>
    intro i hi x hx k hk
    obtain ⟨k, rfl⟩ : ∃ j, k = j + 1 := ⟨k - 1, by omega⟩
    rw [List.take_of_length_le (by rw [← Lib.size_eq]; omega)] at hx
    obtain ⟨r1, r2, r3⟩ := raw_read h hf s.data.toList h0
    have hz := Lib.size_eq s
    have hxz : x.size = 3 * s.size := by rw [Lib.size_eq, hx, raw_len, hz]
    have hst : name_Strict.f x = some (s, 0) := by
      unfold name_Strict.f
      rw [if_pos (by omega), hx]
      have : strictL (rawL h s.data.toList) = (s.data.toList, 0) := by
        unfold strictL
        rw [if_pos ⟨r3, r2⟩, r1, if_neg (by omega)]
      rw [this]
    have hlo : name_Loose.f x = some s := by
      unfold name_Loose.f
      rw [if_pos (by omega), hx, r1]
    simp only [pagemenderlaw03_NameDigits.l0]
    rw [if_neg (by omega), hst, hlo]
    simp
  | succ m ih =>
    intro i hi x hx k hk
    obtain ⟨k, rfl⟩ : ∃ j, k = j + 1 := ⟨k - 1, by omega⟩
    have hlt : i < s.size := by omega
    have hxz : x.size = 3 * i := by
      rw [Lib.size_eq, hx, raw_len, List.length_take, ← Lib.size_eq]; omega
    have e1 : wrap64 ((i : Int) + 1) = ((i + 1 : Nat) : Int) := by rw [wrap_small (by omega) (by omega)]; omega
    obtain ⟨⟨d1, d2, d3, d4, d5, d6⟩, g2, g3, -⟩ := hf ⟨s[i].toNat, s[i].toNat_lt⟩
    simp only at d1 d2 d3 d4 d5 d6 g2 g3
    have hb := bt_nat s i hlt
    simp only [pagemenderlaw03_NameDigits.l0]
    rw [hb]
    obtain ⟨p, hp⟩ : ∃ p, p = h.extract ((Int.tdiv (s[i].toNat : Int) 16) % 256).toNat (((Int.tdiv (s[i].toNat : Int) 16) % 256 + 1) % 256).toNat := ⟨_, rfl⟩
    obtain ⟨q, hq⟩ : ∃ q, q = h.extract (Int.tmod (s[i].toNat : Int) 16).toNat ((Int.tmod (s[i].toNat : Int) 16 + 1) % 256).toNat := ⟨_, rfl⟩
    rw [← hp] at g2
    rw [← hq] at g3
    rw [← hp, ← hq]
    have pz : p.size = 1 := by rw [Lib.size_eq, g2]; rfl
    have qz : q.size = 1 := by rw [Lib.size_eq, g3]; rfl
    have z1 : (x ++ (⟨#[35]⟩ : ByteArray)).size = x.size + 1 := by rw [ByteArray.size_append]; rfl
    have z2 : ((x ++ (⟨#[35]⟩ : ByteArray)) ++ p).size = x.size + 2 := by rw [ByteArray.size_append, z1, pz]
    rw [if_pos (by omega), if_pos (by omega), if_pos (by omega), if_pos d1, if_pos d2, if_pos d3, if_pos (by omega), if_pos d4, if_pos d5, if_pos d6, if_pos (by omega), e1]
    refine ih (i + 1) (by omega) _ ?_ k (by omega)
    have hg : s.data.toList[i]? = some s[i] := by rw [List.getElem?_eq_getElem (by rw [← Lib.size_eq]; exact hlt)]; rfl
    have hr : rawL h (s.data.toList.take (i + 1)) = rawL h (s.data.toList.take i) ++ num h s[i].toNat := by
      rw [List.take_add_one, hg]
      simp [rawL]
    rw [hr, ← hx]
    simp only [ByteArray.data_append, Array.toList_append]
    rw [g2, g3]
    simp [num]

theorem NameDigits : pagemenderlaw03_NameDigits.Pure := by
  intro s g hs
  refine ⟨200, ?_⟩
  unfold pagemenderlaw03_NameDigits.f
  rw [lives_ok]
  simp only [Option.bind_some, if_true]
  have hck : name_Check.f s = some (checkL s.data.toList) := rfl
  rw [hck]
  simp only [Option.bind_some]
  by_cases h0 : checkL s.data.toList = 0
  · have hz := Lib.size_eq s
    have hs127 : s.data.toList.length ≤ 127 ∧ (0 : UInt8) ∉ s.data.toList := by
      unfold checkL at h0
      split at h0
      · omega
      · split at h0
        · omega
        · exact ⟨by omega, by assumption⟩
    have fin : ∀ h, Fits h → pagemenderlaw03_NameDigits.j0 200 s h = some true := by
      intro h hf
      simp only [pagemenderlaw03_NameDigits.j0]
      exact l0_go s h hf (by omega) hs127.2 s.size 0 (by omega) _ (by simp [rawL]) 199 (by omega)
    rw [if_pos h0]
    cases g with
    | true => rw [if_pos rfl]; exact fin great great_fits
    | false => rw [if_neg (by simp)]; exact fin small small_fits
  · rw [if_neg h0]
end Go.Proofs.Ytpmenahlbfefmaa.Pure
