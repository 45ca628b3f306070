/-
  The plain law of NameBack: what is put is read again; all its bytes are regular, and can be seen.
-/
import Derived.Test.YtpmenahlbfefmaaGBx2
namespace Go.Proofs.Ytpmenahlbfefmaa.Pure
open Go.RowKit Go.Proofs.Ytpmenahlbfefmaa.GB Go.Proofs.YtpmenahlbfefmaaW.PrintWords Go.Proofs.YtpmenahlbfefmaaW.PrintLast
set_option linter.unusedVariables false
set_option linter.unusedSimpArgs false

theorem lives_ok : pagemenderlaw03_lives.f = some true := by decide +kernel
theorem toList_mk (l : List UInt8) : (⟨l.toArray⟩ : ByteArray).toList = l := by rw [Lib.toList_data]
theorem size_mk (l : List UInt8) : (⟨l.toArray⟩ : ByteArray).size = l.length := by rw [Lib.size_eq]

/-- What is asked of each byte of what is put, by trying each. -/
def nice (c : UInt8) : Bool := decide (clsN c.toNat = 0) && decide (33 ≤ c.toNat) && decide (c.toNat ≤ 126)
theorem putB_nice : ∀ n : Fin 256, (putB (UInt8.ofNat n.val)).all nice = true := by decide +kernel
/-- What is put of a byte that is not 0 is read again. -/
theorem putB_read : ∀ n : Fin 256, n.val = 0 ∨ (putB (UInt8.ofNat n.val) = [UInt8.ofNat n.val] ∧ UInt8.ofNat n.val ≠ 35) ∨
    (∃ a b : Fin 16, putB (UInt8.ofNat n.val) = [35, digC a.val, digC b.val] ∧ escOk (digC a.val) (digC b.val) = true ∧ escV (digC a.val) (digC b.val) = UInt8.ofNat n.val) := by decide +kernel
theorem putB_read' (c : UInt8) (h : c ≠ 0) : (putB c = [c] ∧ c ≠ 35) ∨ ∃ a b, putB c = [35, a, b] ∧ escOk a b = true ∧ escV a b = c := by
  have hc : UInt8.ofNat c.toNat = c := by simp
  have := putB_read ⟨c.toNat, c.toNat_lt⟩
  simp only [hc] at this
  rcases this with h0 | h1 | ⟨a, b, h2⟩
  · exact absurd (UInt8.toNat_inj.1 (by simpa using h0)) h
  · exact .inl h1
  · exact .inr ⟨_, _, h2⟩
theorem put_read : ∀ l : List UInt8, (0 : UInt8) ∉ l → looseL (putAll l) = l ∧ goodL (putAll l) = true
  | [], _ => by simp [putAll, looseL, goodL]
  | c :: t, h => by
    have ih := put_read t (fun h' => h (by simp [h']))
    have hc : c ≠ 0 := fun e => h (by simp [e])
    have e : putAll (c :: t) = putB c ++ putAll t := by simp [putAll]
    rw [e]
    rcases putB_read' c hc with ⟨h1, h2⟩ | ⟨a, b, h1, h2, h3⟩
    · rw [h1]
      show looseL (c :: putAll t) = _ ∧ goodL (c :: putAll t) = _
      rw [(loose_other c _ h2).1, (loose_other c _ h2).2, ih.1]
      exact ⟨rfl, ih.2⟩
    · rw [h1]
      show looseL (35 :: a :: b :: putAll t) = _ ∧ goodL (35 :: a :: b :: putAll t) = _
      rw [(loose_yes a b _ h2).1, (loose_yes a b _ h2).2, ih.1, h3]
      exact ⟨rfl, ih.2⟩
theorem put_nice : ∀ l : List UInt8, ∀ c ∈ putAll l, nice c = true
  | [], c, h => by simp [putAll] at h
  | d :: t, c, h => by
    have e : putAll (d :: t) = putB d ++ putAll t := by simp [putAll]
    rw [e, List.mem_append] at h
    rcases h with h | h
    · have hd : UInt8.ofNat d.toNat = d := by simp
      have := putB_nice ⟨d.toNat, d.toNat_lt⟩
      simp only [hd] at this
      exact List.all_eq_true.1 this c h
    · exact put_nice t c h
theorem runL_all : ∀ l : List UInt8, (∀ c ∈ l, nice c = true) → runL l = l.length
  | [], _ => rfl
  | c :: t, h => by
    have hc := h c (by simp)
    simp only [nice, Bool.and_eq_true, decide_eq_true_eq] at hc
    simp only [runL, List.length_cons]
    rw [if_pos hc.1.1, runL_all t (fun d hd => h d (by simp [hd]))]
    omega

theorem run_go (s : ByteArray) (hs : s.size ≤ 140737488351232) : ∀ (m i : Nat), i + m = s.size → ∀ k, m + 1 ≤ k → GB.class_Run.l0 k s (i : Int) = some (((i + runL (s.data.toList.drop i) : Nat)) : Int) := by
  intro m
  induction m with
  | zero =>
    intro i hi k hk
    obtain ⟨k, rfl⟩ : ∃ j, k = j + 1 := ⟨k - 1, by omega⟩
    simp only [GB.class_Run.l0]
    rw [if_neg (by omega), List.drop_of_length_le (by rw [← Lib.size_eq]; omega)]
    simp [runL]
  | succ m ih =>
    intro i hi k hk
    obtain ⟨k, rfl⟩ : ∃ j, k = j + 1 := ⟨k - 1, by omega⟩
    have hlt : i < s.size := by omega
    simp only [GB.class_Run.l0]
    rw [if_pos (by omega), if_pos (by omega), bt_nat s i hlt, regular_byte, drop_at s i hlt]
    simp only [Option.bind_some, runL]
    by_cases h : clsN s[i].toNat = 0
    · have e : wrap64 ((i : Int) + 1) = ((i + 1 : Nat) : Int) := by rw [wrap_small (by omega) (by omega)]; omega
      rw [if_pos (by simpa using h), if_pos h, e, ih (i + 1) (by omega) k (by omega), Nat.add_assoc]
    · rw [if_neg (by simpa using h), if_neg h]; simp

theorem l0_go (s p : ByteArray) (hp : p.size ≤ 2000) (hn : ∀ c ∈ p.data.toList, 33 ≤ c.toNat ∧ c.toNat ≤ 126) (h1 : 1 ≤ p.size) (hst : name_Strict.f (p.extract 1 p.size) = some (s, 0)) (hlo : name_Loose.f (p.extract 1 p.size) = some s) : ∀ (m i : Nat), i + m = p.size → ∀ k, m + 1 ≤ k →
    pagemenderlaw03_NameBack.l0 k s p (i : Int) = some true := by
  intro m
  induction m with
  | zero =>
    intro i hi k hk
    obtain ⟨k, rfl⟩ : ∃ j, k = j + 1 := ⟨k - 1, by omega⟩
    simp only [pagemenderlaw03_NameBack.l0]
    rw [if_neg (by omega), if_pos (by omega), hst, hlo]
    simp
  | succ m ih =>
    intro i hi k hk
    obtain ⟨k, rfl⟩ : ∃ j, k = j + 1 := ⟨k - 1, by omega⟩
    have hlt : i < p.size := by omega
    have hb := bt_nat p i hlt
    have hm : p[i] ∈ p.data.toList := by
      have : p[i] = p.data.toList[i]'(by rw [← Lib.size_eq]; exact hlt) := rfl
      rw [this]; exact List.getElem_mem _
    have hc := hn _ hm
    have e : wrap64 ((i : Int) + 1) = ((i + 1 : Nat) : Int) := by rw [wrap_small (by omega) (by omega)]; omega
    simp only [pagemenderlaw03_NameBack.l0]
    rw [if_pos (by omega), if_pos (by omega), hb, if_neg (by omega), if_neg (by omega), e]
    exact ih (i + 1) (by omega) k (by omega)

theorem NameBack : pagemenderlaw03_NameBack.Pure := by
  intro s hs
  refine ⟨3000, ?_⟩
  unfold pagemenderlaw03_NameBack.f
  rw [lives_ok]
  simp only [Option.bind_some, if_true]
  by_cases h6 : (s.size : Int) > 600
  · rw [if_pos h6]
  · rw [if_neg h6]
    have hput : name_Put.f s = some (⟨(putL s.data.toList).1.toArray⟩, (putL s.data.toList).2) := rfl
    rw [hput]
    simp only [Option.bind_some]
    by_cases h0 : checkL s.data.toList = 0
    · have e : putL s.data.toList = (47 :: putAll s.data.toList, 0) := by unfold putL; rw [if_pos h0]
      rw [e]
      simp only [if_true]
      obtain ⟨p, hpdef⟩ : ∃ p : ByteArray, p = ⟨(47 :: putAll s.data.toList).toArray⟩ := ⟨_, rfl⟩
      rw [← hpdef]
      have hpd : p.data.toList = 47 :: putAll s.data.toList := by rw [hpdef]
      have hple := putAll_le s.data.toList
      have hsz := Lib.size_eq s
      have hpz : p.size = (putAll s.data.toList).length + 1 := by rw [Lib.size_eq, hpd]; simp
      have hs127 : s.data.toList.length ≤ 127 ∧ (0 : UInt8) ∉ s.data.toList := by
        unfold checkL at h0
        split at h0
        · omega
        · split at h0
          · omega
          · exact ⟨by omega, by assumption⟩
      obtain ⟨rd1, rd2⟩ := put_read s.data.toList hs127.2
      have hnice := put_nice s.data.toList
      have htail : (p.extract 1 p.size).data.toList = putAll s.data.toList := by
        rw [Lib.extract_data, hpd]
        simp only [List.drop_succ_cons, List.drop_zero]
        rw [List.take_of_length_le (by omega)]
      have htz : (p.extract 1 p.size).size = (putAll s.data.toList).length := by rw [Lib.size_eq, htail]
      have hsmk : (⟨s.data.toList.toArray⟩ : ByteArray) = s := rfl
      have hst : name_Strict.f (p.extract 1 p.size) = some (s, 0) := by
        unfold name_Strict.f
        rw [if_pos (by omega), htail]
        have : strictL (putAll s.data.toList) = (s.data.toList, 0) := by
          unfold strictL
          rw [if_pos ⟨runL_all _ hnice, rd2⟩, rd1, if_neg (by omega)]
        rw [this]
      have hlo : name_Loose.f (p.extract 1 p.size) = some s := by
        unfold name_Loose.f
        rw [if_pos (by omega), htail, rd1]
      have hn : ∀ c ∈ p.data.toList, 33 ≤ c.toNat ∧ c.toNat ≤ 126 := by
        rw [hpd]
        intro c hc
        rcases List.mem_cons.1 hc with rfl | hc
        · decide
        · have := hnice c hc
          simp only [nice, Bool.and_eq_true, decide_eq_true_eq] at this
          exact ⟨this.1.2, this.2⟩
      have hb0 : bt p 0 = 47 := bt_get p 0 47 (by rw [hpd]; rfl)
      have hrun : GB.class_Run.f 3000 p 1 = some (p.size : Int) := by
        unfold GB.class_Run.f GB.class_place.f
        rw [Option.bind_some, plc_mn]
        have h1 : plc p 1 = 1 := plc_in p 1 (by omega)
        rw [h1, run_go p (by omega) (p.size - 1) 1 (by omega) 3000 (by omega), hpd]
        simp only [List.drop_succ_cons, List.drop_zero]
        rw [runL_all _ hnice]
        congr 1
        omega
      rw [if_neg (by omega), if_pos (by omega), if_pos hb0, hrun]
      simp only [Option.bind_some, bne_self_eq_false]
      simp only [pagemenderlaw03_NameBack.j0]
      rw [if_neg (by simp)]
      exact l0_go s p (by omega) hn (by omega) hst hlo p.size 0 (by omega) _ (by omega)
    · have e : putL s.data.toList = ([], checkL s.data.toList) := by unfold putL; rw [if_neg h0]
      rw [e]
      have hck : name_Check.f s = some (checkL s.data.toList) := rfl
      rw [if_neg h0, hck]
      simp only [Option.bind_some, if_true]
      rw [toList_mk]
      rfl
end Go.Proofs.Ytpmenahlbfefmaa.Pure
