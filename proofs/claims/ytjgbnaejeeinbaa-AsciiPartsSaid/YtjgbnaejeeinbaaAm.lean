/-
  The machine of ascii.read, as a run over a list of bytes.
-/
import Derived.Test.YtjgbnaejeeinbaaAg
namespace Go.Proofs.Ytjgbnaejeeinbaa
open Go.RowKit Go.Proofs.YtjgbnaejeeinbaaW.PrintWords Go.Proofs.YtjgbnaejeeinbaaW.PrintLast
set_option linter.unusedVariables false
set_option linter.unusedSimpArgs false

def stepM (bud : Int) (s : St) (c : UInt8) : St :=
  if s.mode = 1 then stepD s.out s.part bud c else if s.mode = 2 then stepE s.out (s.part.headD 0) bud c else if s.mode = 3 then stepG s.out s.part bud c else if s.mode = 4 then stepN s.out s.part bud c else s
def runM (bud : Int) : St → List UInt8 → St
  | s, [] => s
  | s, c :: t => if s.mode = 0 then s else runM bud (stepM bud s c) t
theorem runM_done (bud : Int) (s : St) (h : s.mode = 0) (l : List UInt8) : runM bud s l = s := by
  cases l with
  | nil => rfl
  | cons c t => simp only [runM]; rw [if_pos h]
theorem runM_cons (bud : Int) (s : St) (h : s.mode ≠ 0) (c : UInt8) (t : List UInt8) : runM bud s (c :: t) = runM bud (stepM bud s c) t := by
  simp only [runM]; rw [if_neg h]
/-- What a state that is reached is good for. -/
def OkS (s : St) : Prop := s.mode ≤ 4 ∧ (s.mode ≠ 0 → s.e = 0) ∧ (s.mode = 2 → ∃ p, s.part = [p]) ∧ (s.mode = 3 ∨ s.mode = 4 → s.part.length ≤ 4 ∧ ∀ c ∈ s.part, chrOk c)
theorem ok_put (nm : Nat) (hnm : nm ≤ 4) (h2 : nm ≠ 2) (out part l : List UInt8) (bud : Int) (hp : nm = 3 ∨ nm = 4 → part.length ≤ 4 ∧ ∀ c ∈ part, chrOk c) (hl : l.length ≤ 4) : OkS (putS nm out part l bud) ∧ (putS nm out part l bud).out.length ≤ out.length + 4 := by
  unfold putS
  split
  · exact ⟨⟨by simp, by simp, by simp, by simp⟩, by simp⟩
  · exact ⟨⟨hnm, fun _ => rfl, fun h => absurd h h2, hp⟩, by simp; omega⟩
theorem byt4_len (n : Nat) : (byt4 n).length = 4 := rfl
theorem ok_flush (nm : Nat) (hnm : nm ≤ 4) (h2 : nm ≠ 2) (out part : List UInt8) (bud : Int) : OkS (flushS nm out part bud) ∧ (flushS nm out part bud).out.length ≤ out.length + 4 := by
  unfold flushS
  split
  · exact ok_put nm hnm h2 out [] _ bud (fun _ => ⟨by simp, by simp⟩) (by rw [List.length_take, byt4_len]; omega)
  · exact ⟨⟨by simp, by simp, by simp, by simp⟩, by simp⟩
theorem ok_step (bud : Int) (s : St) (c : UInt8) (h : OkS s) (h0 : s.mode ≠ 0) : OkS (stepM bud s c) ∧ (stepM bud s c).out.length ≤ s.out.length + 4 := by
  obtain ⟨h1, h2, h3, h4⟩ := h
  unfold stepM
  by_cases m1 : s.mode = 1
  · rw [if_pos m1]
    unfold stepD
    split
    · exact ⟨⟨by simp, by simp, by simp, by simp⟩, by simp⟩
    split
    · exact ⟨⟨by simp, by simp, by simp, by simp⟩, by simp⟩
    split
    · exact ⟨⟨by simp, by simp, by simp, by simp⟩, by simp⟩
    · exact ⟨⟨by simp, by simp, fun _ => ⟨_, rfl⟩, by simp⟩, by simp⟩
  rw [if_neg m1]
  by_cases m2 : s.mode = 2
  · rw [if_pos m2]
    unfold stepE
    split
    · exact ⟨⟨by simp, by simp, fun _ => ⟨_, rfl⟩, by simp⟩, by simp⟩
    split
    · exact ok_put 0 (by omega) (by omega) _ _ _ _ (by simp) (by simp)
    split
    · exact ⟨⟨by simp, by simp, by simp, by simp⟩, by simp⟩
    · exact ok_put 1 (by omega) (by omega) _ _ _ _ (by simp) (by simp)
  rw [if_neg m2]
  by_cases m3 : s.mode = 3
  · rw [if_pos m3]
    obtain ⟨k1, k2⟩ := h4 (.inl m3)
    unfold stepG
    split
    · exact ⟨⟨by simp, by simp, by simp, fun _ => ⟨k1, k2⟩⟩, by simp⟩
    split
    · exact ⟨⟨by simp, by simp, by simp, fun _ => ⟨k1, k2⟩⟩, by simp⟩
    split
    · exact ok_put 3 (by omega) (by omega) _ _ _ _ (fun _ => ⟨k1, k2⟩) (by simp)
    split
    · exact ⟨⟨by simp, by simp, by simp, by simp⟩, by simp⟩
    rename_i hc
    split
    · rename_i hl
      refine ⟨⟨by simp, by simp, by simp, fun _ => ⟨by simp; omega, fun x hx => ?_⟩⟩, by simp⟩
      rcases List.mem_append.1 hx with h | h
      · exact k2 x h
      · rw [List.mem_singleton.1 h]; exact ⟨by omega, by omega⟩
    · exact ok_flush 3 (by omega) (by omega) _ _ _
  rw [if_neg m3]
  have m4 : s.mode = 4 := by omega
  rw [if_pos m4]
  unfold stepN
  split
  · exact ⟨⟨by simp, by simp, by simp, by simp⟩, by simp⟩
  split
  · exact ⟨⟨by simp, by simp, by simp, by simp⟩, by simp⟩
  · exact ok_flush 0 (by omega) (by omega) _ _ _

/-- What read answers. -/
def readS (first : Nat) (l : List UInt8) (bud : Int) : List UInt8 × Int :=
  if bud < 0 then ([], 2) else
  let st := runM bud ⟨first, [], [], 0⟩ l
  if st.mode ≠ 0 then ([], 8) else if st.e ≠ 0 then ([], st.e) else (st.out, 0)
theorem step_digit (B b : Nat) (bud : Int) (s : St) (c : UInt8) (w : World) (h1 : s.mode = 1) (ho : OkS s) (h : RdAt B b s.out s.part bud s.e w) (hBw : B ≤ w.heap.size) :
    Calls Try.prog 21 #[.pointer (some ⟨b, 0, none⟩), .int .u8 (c.toNat : Int)] w (Left B b bud (stepM bud s c) w) := by
  have e : stepM bud s c = stepD s.out s.part bud c := by unfold stepM; rw [if_pos h1]
  rw [e]
  rw [ho.2.1 (by omega)] at h
  exact digit_calls B b s.out s.part bud c w h hBw
theorem step_second (B b : Nat) (bud : Int) (s : St) (c : UInt8) (w : World) (h1 : s.mode = 2) (ho : OkS s) (h : RdAt B b s.out s.part bud s.e w) (hBw : B ≤ w.heap.size) (hol : s.out.length ≤ 10000000) :
    Calls Try.prog 27 #[.pointer (some ⟨b, 0, none⟩), .int .u8 (c.toNat : Int)] w (Left B b bud (stepM bud s c) w) := by
  obtain ⟨p, hp⟩ := ho.2.2.1 h1
  have e : stepM bud s c = stepE s.out p bud c := by unfold stepM; rw [if_neg (by omega), if_pos h1, hp]; rfl
  rw [e]
  rw [ho.2.1 (by omega), hp] at h
  exact second_calls B b s.out p bud c w h hBw hol
theorem step_group (B b : Nat) (bud : Int) (s : St) (c : UInt8) (w : World) (h1 : s.mode = 3) (ho : OkS s) (h : RdAt B b s.out s.part bud s.e w) (hBw : B ≤ w.heap.size) (hol : s.out.length ≤ 10000000) :
    Calls Try.prog 22 #[.pointer (some ⟨b, 0, none⟩), .int .u8 (c.toNat : Int)] w (Left B b bud (stepM bud s c) w) := by
  have e : stepM bud s c = stepG s.out s.part bud c := by unfold stepM; rw [if_neg (by omega), if_neg (by omega), if_pos h1]
  rw [e]
  rw [ho.2.1 (by omega)] at h
  obtain ⟨k1, k2⟩ := ho.2.2.2 (.inl h1)
  exact group_calls B b s.out s.part bud c w h hBw hol k1 k2
theorem step_end (B b : Nat) (bud : Int) (s : St) (c : UInt8) (w : World) (h1 : s.mode = 4) (ho : OkS s) (h : RdAt B b s.out s.part bud s.e w) (hBw : B ≤ w.heap.size) (hol : s.out.length ≤ 10000000) :
    Calls Try.prog 28 #[.pointer (some ⟨b, 0, none⟩), .int .u8 (c.toNat : Int)] w (Left B b bud (stepM bud s c) w) := by
  have e : stepM bud s c = stepN s.out s.part bud c := by unfold stepM; rw [if_neg (by omega), if_neg (by omega), if_neg (by omega), if_pos h1]
  rw [e]
  rw [ho.2.1 (by omega)] at h
  obtain ⟨k1, k2⟩ := ho.2.2.2 (.inr h1)
  exact end_calls B b s.out s.part bud c w h hBw hol k1 k2
end Go.Proofs.Ytjgbnaejeeinbaa
