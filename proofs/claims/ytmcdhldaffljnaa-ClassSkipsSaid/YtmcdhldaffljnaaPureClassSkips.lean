/-
  The plain law of ClassSkips: what is passed over is passed once; what stands there is no white byte, and no remark begins there.
-/
import Derived.Test.YtmcdhldaffljnaaGx2
namespace Go.Proofs.Ytmcdhldaffljnaa.Pure
open Go.RowKit Go.Proofs.Ytmcdhldaffljnaa.G Go.Proofs.YtmcdhldaffljnaaW.PrintWords Go.Proofs.YtmcdhldaffljnaaW.PrintLast
set_option linter.unusedVariables false
set_option linter.unusedSimpArgs false

theorem lives_ok : pagemenderlaw01_lives.f = some true := by decide +kernel
theorem wrap_small {i : Int} (h0 : -9223372036854775808 ≤ i) (h1 : i ≤ 9223372036854775807) : wrap64 i = i := by unfold wrap64; omega
theorem bt_nat (s : ByteArray) (i : Nat) (h : i < s.size) : bt s (i : Int) = (s[i].toNat : Int) := by
  unfold bt
  rw [dif_pos (by simpa using h)]
  rfl
theorem byte_is (c d : UInt8) : ((c.toNat : Int) = (d.toNat : Int)) ↔ c = d := by
  constructor
  · intro h; apply UInt8.toNat_inj.1; omega
  · rintro rfl; rfl
theorem white_byte (c : UInt8) : class_White.f (c.toNat : Int) = some (clsN c.toNat == 1) := by
  unfold class_White.f; rw [if_pos (byte_lt c)]; simp
theorem regular_byte (c : UInt8) : class_Regular.f (c.toNat : Int) = some (clsN c.toNat == 0) := by
  unfold class_Regular.f; rw [if_pos (byte_lt c)]; simp
theorem plc_mn (s : ByteArray) (a : Int) : mn (mx 0 a) (s.size : Int) = plc s a := by unfold mn mx plc; split <;> split <;> (try split) <;> (try split) <;> omega
theorem plc_mn' (s : ByteArray) (a : Int) : mn (mx a 0) (s.size : Int) = plc s a := by unfold mn mx plc; split <;> split <;> (try split) <;> (try split) <;> omega

/-- How many regular bytes begin a text. -/
def runL : List UInt8 → Nat
  | [] => 0
  | c :: t => if clsN c.toNat = 0 then 1 + runL t else 0
theorem runL_le : ∀ l, runL l ≤ l.length
  | [] => by simp [runL]
  | c :: t => by have := runL_le t; simp only [runL, List.length_cons]; split <;> omega

theorem run_go (s : ByteArray) (hs : s.size ≤ 2000) : ∀ (m i : Nat), i + m = s.size → ∀ k, m + 1 ≤ k → class_Run.l0 k s (i : Int) = some (((i + runL (s.data.toList.drop i) : Nat)) : Int) := by
  intro m
  induction m with
  | zero =>
    intro i hi k hk
    obtain ⟨k, rfl⟩ : ∃ j, k = j + 1 := ⟨k - 1, by omega⟩
    simp only [class_Run.l0]
    rw [if_neg (by omega), List.drop_of_length_le (by rw [← Lib.size_eq]; omega)]
    simp [runL]
  | succ m ih =>
    intro i hi k hk
    obtain ⟨k, rfl⟩ : ∃ j, k = j + 1 := ⟨k - 1, by omega⟩
    have hlt : i < s.size := by omega
    simp only [class_Run.l0]
    rw [if_pos (by omega), if_pos (by omega), bt_nat s i hlt, regular_byte, drop_at s i hlt]
    simp only [Option.bind_some, runL]
    by_cases h : clsN s[i].toNat = 0
    · have e : wrap64 ((i : Int) + 1) = ((i + 1 : Nat) : Int) := by rw [wrap_small (by omega) (by omega)]; omega
      rw [if_pos (by simpa using h), if_pos h, e, ih (i + 1) (by omega) k (by omega), Nat.add_assoc]
    · rw [if_neg (by simpa using h), if_neg h]; simp

theorem run_is (s : ByteArray) (a : Int) (hs : s.size ≤ 2000) (k : Nat) (hk : s.size + 1 ≤ k) : class_Run.f k s a = some (((plc s a + runL (s.data.toList.drop (plc s a)) : Nat)) : Int) := by
  have hp := plc_le s a
  unfold class_Run.f class_place.f
  rw [Option.bind_some, plc_mn]
  exact run_go s hs (s.size - plc s a) (plc s a) (by omega) k (by omega)

theorem runL_at : ∀ (l : List UInt8) (j : Nat) (c : UInt8), l[j]? = some c → (j < runL l → clsN c.toNat = 0) ∧ (j = runL l → clsN c.toNat ≠ 0)
  | [], j, c, h => by simp at h
  | d :: t, 0, c, h => by
    simp only [List.getElem?_cons_zero, Option.some.injEq] at h
    subst h
    simp only [runL]
    split <;> constructor <;> intro h' <;> first | assumption | (exfalso; omega)
  | d :: t, j + 1, c, h => by
    simp only [List.getElem?_cons_succ] at h
    have ih := runL_at t j c h
    simp only [runL]
    split
    · exact ⟨fun h' => ih.1 (by omega), fun h' => ih.2 (by omega)⟩
    · exact ⟨fun h' => by omega, fun h' => by omega⟩

theorem l1_go (s : ByteArray) (hs : s.size ≤ 2000) (p : Nat) (hp : p ≤ s.size) : ∀ (m i : Nat), p ≤ i → i + m = p + runL (s.data.toList.drop p) → ∀ k, m + 1 ≤ k →
    pagemenderlaw01_ClassSkips.l1 k s (p : Int) ((p + runL (s.data.toList.drop p) : Nat) : Int) (i : Int) = some true := by
  have hr := runL_le (s.data.toList.drop p)
  rw [List.length_drop, ← Lib.size_eq] at hr
  have hat : ∀ j (h : j < s.size), p ≤ j → (s.data.toList.drop p)[j - p]? = some s[j] := by
    intro j h hpj
    rw [List.getElem?_drop, show p + (j - p) = j by omega, List.getElem?_eq_getElem (by rw [← Lib.size_eq]; exact h)]
    rfl
  intro m
  induction m with
  | zero =>
    intro i hpi hi k hk
    obtain ⟨k, rfl⟩ : ∃ j, k = j + 1 := ⟨k - 1, by omega⟩
    simp only [pagemenderlaw01_ClassSkips.l1]
    rw [if_neg (by omega), if_pos (by omega), if_pos (by omega)]
    by_cases h : p + runL (s.data.toList.drop p) = s.size
    · rw [if_pos (by omega)]
    · have hlt : p + runL (s.data.toList.drop p) < s.size := by omega
      rw [if_neg (by omega), if_pos (by omega), if_pos (by omega), bt_nat s _ hlt, regular_byte]
      have := (runL_at _ _ _ (hat _ hlt (by omega))).2 (by omega)
      simp [this]
  | succ m ih =>
    intro i hpi hi k hk
    obtain ⟨k, rfl⟩ : ∃ j, k = j + 1 := ⟨k - 1, by omega⟩
    have hlt : i < s.size := by omega
    simp only [pagemenderlaw01_ClassSkips.l1]
    rw [if_pos (by omega), if_pos (by omega), if_pos (by omega), bt_nat s i hlt, regular_byte]
    have := (runL_at _ _ _ (hat i hlt hpi)).1 (by omega)
    simp only [Option.bind_some]
    have e : wrap64 ((i : Int) + 1) = ((i + 1 : Nat) : Int) := by rw [wrap_small (by omega) (by omega)]; omega
    rw [if_pos (by simpa using this), e]
    exact ih (i + 1) (by omega) (by omega) k (by omega)

theorem l0_go (s : ByteArray) (a : Int) (hs : s.size ≤ 2000) (q : Nat) (hq : q ≤ s.size) : ∀ (m i : Nat) (b : Bool), i + m = q → i + sk b (s.data.toList.drop i) = q → ∀ k, m + s.size + 3 ≤ k →
    pagemenderlaw01_ClassSkips.l0 k s a (plc s a : Int) (q : Int) b (i : Int) = some true := by
  have hp := plc_le s a
  intro m
  induction m with
  | zero =>
    intro i b hi hsk k hk
    obtain ⟨k, rfl⟩ : ∃ j, k = j + 1 := ⟨k - 1, by omega⟩
    simp only [pagemenderlaw01_ClassSkips.l0]
    rw [if_neg (by omega), run_is s a hs k (by omega)]
    simp only [Option.bind_some]
    have hr := runL_le (s.data.toList.drop (plc s a))
    rw [List.length_drop, ← Lib.size_eq] at hr
    exact l1_go s hs (plc s a) hp (runL (s.data.toList.drop (plc s a))) (plc s a) (Nat.le_refl _) rfl k (by omega)
  | succ m ih =>
    intro i b hi hsk k hk
    obtain ⟨k, rfl⟩ : ∃ j, k = j + 1 := ⟨k - 1, by omega⟩
    have hlt : i < s.size := by omega
    rw [drop_at s i hlt] at hsk
    have e : wrap64 ((i : Int) + 1) = ((i + 1 : Nat) : Int) := by rw [wrap_small (by omega) (by omega)]; omega
    have hw := white_byte s[i]
    have h10 : ((s[i].toNat : Int) = 10) ↔ s[i] = 10 := byte_is s[i] 10
    have h13 : ((s[i].toNat : Int) = 13) ↔ s[i] = 13 := byte_is s[i] 13
    have h37 : ((s[i].toNat : Int) = 37) ↔ s[i] = 37 := byte_is s[i] 37
    simp only [pagemenderlaw01_ClassSkips.l0]
    rw [if_pos (by omega), if_pos (by omega), if_pos (by omega), bt_nat s i hlt, e, hw]
    simp only [Option.bind_some]
    by_cases c10 : s[i] = 10
    · rw [if_pos (h10.2 c10), if_pos (by rw [c10]; decide)]
      refine ih (i + 1) false (by omega) ?_ k (by omega)
      rw [c10] at hsk
      cases b <;> simp [sk, clsN] at hsk <;> omega
    · rw [if_neg (fun h => c10 (h10.1 h))]
      by_cases c13 : s[i] = 13
      · rw [if_pos (h13.2 c13), if_pos (by rw [c13]; decide)]
        refine ih (i + 1) false (by omega) ?_ k (by omega)
        rw [c13] at hsk
        cases b <;> simp [sk, clsN] at hsk <;> omega
      · rw [if_neg (fun h => c13 (h13.1 h))]
        cases b with
        | true =>
          rw [if_pos rfl]
          refine ih (i + 1) true (by omega) ?_ k (by omega)
          simp only [sk] at hsk
          rw [if_neg (by simp [c10, c13])] at hsk
          omega
        | false =>
          rw [if_neg (by simp)]
          by_cases c37 : s[i] = 37
          · rw [if_pos (h37.2 c37)]
            have e37 : ((s[i].toNat : Int) == 37) = true := by rw [beq_iff_eq]; exact h37.2 c37
            rw [e37]
            refine ih (i + 1) true (by omega) ?_ k (by omega)
            rw [c37] at hsk
            simp [sk, clsN] at hsk
            omega
          · rw [if_neg (fun h => c37 (h37.1 h))]
            have e37 : ((s[i].toNat : Int) == 37) = false := by rw [beq_eq_false_iff_ne]; exact fun h => c37 (h37.1 h)
            rw [e37]
            simp only [sk] at hsk
            by_cases hw1 : clsN s[i].toNat = 1
            · rw [if_pos (by simpa using hw1)]
              rw [if_pos hw1] at hsk
              exact ih (i + 1) false (by omega) (by omega) k (by omega)
            · rw [if_neg hw1, if_neg c37] at hsk
              omega

/-- Where passing over stops, nothing is passed over. -/
theorem sk_stop : ∀ (b : Bool) (l : List UInt8), sk false (l.drop (sk b l)) = 0 ∧ ∀ c, (l.drop (sk b l)).head? = some c → clsN c.toNat ≠ 1 ∧ c ≠ 37
  | true, [] => by simp [sk]
  | false, [] => by simp [sk]
  | false, c :: t => by
    have h1 := sk_stop false t
    have h2 := sk_stop true t
    simp only [sk]
    split
    · rw [Nat.add_comm]; exact h1
    · split
      · rw [Nat.add_comm]; exact h2
      · rename_i hw h37
        refine ⟨?_, ?_⟩
        · simp only [List.drop_zero, sk]
          rw [if_neg hw, if_neg h37]
        · simp only [List.drop_zero, List.head?_cons, Option.some.injEq]
          rintro _ rfl
          exact ⟨hw, h37⟩
  | true, c :: t => by
    have h1 := sk_stop false t
    have h2 := sk_stop true t
    simp only [sk]
    split
    · rw [Nat.add_comm]; exact h1
    · rw [Nat.add_comm]; exact h2

theorem ClassSkips : pagemenderlaw01_ClassSkips.Pure := by
  intro s a hs ha
  refine ⟨2 * s.size + 10, ?_⟩
  unfold pagemenderlaw01_ClassSkips.f
  rw [lives_ok]
  simp only [Option.bind_some, if_true]
  by_cases h : (s.size : Int) > 2000
  · rw [if_pos h]
  · rw [if_neg h, plc_mn']
    have hp := plc_le s a
    have hq := sk_le false (s.data.toList.drop (plc s a))
    rw [List.length_drop, ← Lib.size_eq] at hq
    obtain ⟨h0, hc⟩ := sk_stop false (s.data.toList.drop (plc s a))
    have hskf : class_Skip.f s a = some ((plc s a + sk false (s.data.toList.drop (plc s a)) : Nat) : Int) := by unfold class_Skip.f; rw [if_pos hs]; simp
    rw [hskf]
    generalize hn : sk false (s.data.toList.drop (plc s a)) = n at *
    have hq' : plc s a + n ≤ s.size := by omega
    rw [List.drop_drop] at h0 hc
    have hsk2 : class_Skip.f s ((plc s a + n : Nat) : Int) = some ((plc s a + n : Nat) : Int) := by
      unfold class_Skip.f
      rw [if_pos hs, plc_in s _ hq', h0]
      simp
    have main : ∀ k, 2 * s.size + 9 ≤ k → pagemenderlaw01_ClassSkips.j0 (k + 1) s a (plc s a : Int) ((plc s a + n : Nat) : Int) false = some true := by
      intro k hk
      simp only [pagemenderlaw01_ClassSkips.j0]
      rw [if_neg (by simp)]
      exact l0_go s a (by omega) (plc s a + n) hq' n (plc s a) false rfl (by rw [hn]) k (by omega)
    simp only [Option.bind_some]
    rw [if_neg (by omega), if_neg (by omega), hsk2]
    simp only [Option.bind_some, if_true]
    by_cases hlt : plc s a + n < s.size
    · rw [if_pos (by omega), if_pos (by omega), bt_nat s _ hlt, white_byte]
      rw [drop_at s _ hlt] at hc
      obtain ⟨hc1, hc2⟩ := hc _ rfl
      have e1 : (clsN s[plc s a + n].toNat == 1) = false := by simpa using hc1
      have e2 : ((s[plc s a + n].toNat : Int) == 37) = false := by
        rw [beq_eq_false_iff_ne]
        intro e
        apply hc2
        exact (byte_is s[plc s a + n] 37).1 e
      simp only [Option.bind_some, e1, e2]
      rw [if_neg (by simp)]
      exact main _ (by omega)
    · rw [if_neg (by omega)]
      exact main _ (by omega)
end Go.Proofs.Ytmcdhldaffljnaa.Pure
