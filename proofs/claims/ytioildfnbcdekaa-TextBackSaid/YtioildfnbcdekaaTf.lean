/-
  The contract of text.escaped, whole.
-/
import Derived.Test.YtioildfnbcdekaaTe
namespace Go.Proofs.Ytioildfnbcdekaa
open Go.RowKit Go.Maps Go.Proofs.YtioildfnbcdekaaW.PrintWords Go.Proofs.YtioildfnbcdekaaW.PrintLast
set_option linter.unusedVariables false
set_option linter.unusedSimpArgs false

theorem ret_two' {k : IntKind} {v : Value} {a b : ByteArray} {m n : Int} (h : v = .tuple #[.string a, .int k m]) (h1 : a = b) (h2 : m = n) : Ending.returned v = .returned (.tuple #[.string b, .int k n]) := by rw [h, h1, h2]

set_option maxRecDepth 100000 in
set_option maxHeartbeats 2000000 in
theorem escaped_eol (s : ByteArray) (i : Nat) (w : World) (hs : s.size ≤ 140737488351232) (hi : i < s.size) (hE : 0 < eolL (s.data.toList.drop i)) :
    Calls Try.prog 16 #[.string s, .int .i64 (i : Int)] w fun e w' => e = .returned (.tuple #[.string ⟨(escV (s.data.toList.drop i)).toArray⟩, .int .i64 (escN (s.data.toList.drop i))]) ∧ Below w.heap.size w w' := by
  have hp : plc s (i : Int) = i := plc_in s i (by omega)
  have HE : Aside0 (class_Eol.f s (i : Int) = some (eolL (s.data.toList.drop i))) := Aside0.mk (by unfold class_Eol.f; rw [hp])
  have v1 : escV (s.data.toList.drop i) = [] := by
    rw [drop_at s i hi] at hE ⊢
    show (if 0 < eolL _ then _ else _) = _
    rw [if_pos hE]
  have v2 : ((escN (s.data.toList.drop i) : Nat) : Int) = eolL (s.data.toList.drop i) := by
    rw [drop_at s i hi] at hE ⊢
    show ((if 0 < eolL (s[i] :: s.data.toList.drop (i + 1)) then (eolL (s[i] :: s.data.toList.drop (i + 1))).toNat else if oct s[i] = true then octN 3 (s[i] :: s.data.toList.drop (i + 1)) else 1 : Nat) : Int) = _
    rw [if_pos hE]
    omega
  rw [v1, v2]
  generalize eolL (s.data.toList.drop i) = n at *
  clear v1 v2 hp
  go_enter Try.func16, Try.ntmps16
  go_wp2_with (go_at_call 18; (with_reducible refine (class_Eol.calls s _ n _ HE.out).mono ?_); rintro e w1 ⟨rfl, hb1⟩; have HB1 := Aside0.mk hb1; clear hb1)
  go_ret2
  exact ⟨ret_two rfl rfl, HB1.out⟩

/-- What is known at a round's head. -/
def OctAt (s : ByteArray) (i n v : Nat) : Prop := octV 3 0 (s.data.toList.drop i) = octV (3 - n) v (s.data.toList.drop (i + n)) ∧ octN 3 (s.data.toList.drop i) = n + octN (3 - n) (s.data.toList.drop (i + n)) ∧ v < 8 ^ n ∧ i + n ≤ s.size

theorem conv_num (w : World) (m : Nat) : (convert 33 9 (.slice (some ⟨w.heap.size, 0, none⟩) 1 1)).run Try.prog (w.alloc (.cells #[.int .u8 ((m : Int) % 256)] 5)) = Result.ok (.string ⟨#[UInt8.ofNat m]⟩) (w.alloc (.cells #[.int .u8 ((m : Int) % 256)] 5)) := by
  have h := conv_one w (UInt8.ofNat m)
  have e : (((UInt8.ofNat m).toNat : Nat) : Int) = (m : Int) % 256 := by simp only [UInt8.toNat_ofNat']; omega
  rw [e] at h
  exact h
theorem oct_step (s : ByteArray) (i n v : Nat) (hz : i + n < s.size) (h3 : n < 3) (h : OctAt s i n v) (ho : oct s[i + n] = true) : OctAt s i (n + 1) (8 * v + (s[i + n].toNat - 48)) := by
  obtain ⟨h1, h2, h4, h5⟩ := h
  obtain ⟨m, hm⟩ : ∃ m, 3 - n = m + 1 := ⟨2 - n, by omega⟩
  have hm' : 3 - (n + 1) = m := by omega
  have h8 : 48 ≤ s[i + n].toNat ∧ s[i + n].toNat ≤ 55 := by unfold oct at ho; simpa using ho
  rw [hm, drop_at s (i + n) hz] at h1 h2
  refine ⟨?_, ?_, ?_, by omega⟩
  · rw [h1, hm']
    simp only [octV]
    rw [if_pos ho]; rfl
  · rw [h2, hm']
    simp only [octN]
    rw [if_pos ho, show i + (n + 1) = i + n + 1 by omega]; omega
  · rw [Nat.pow_succ]; omega
theorem oct_done (s : ByteArray) (i n v : Nat) (h3 : n < 3) (h : OctAt s i n v) (he : s.size ≤ i + n ∨ ∃ hz : i + n < s.size, oct s[i + n] = false) : octV 3 0 (s.data.toList.drop i) = v ∧ octN 3 (s.data.toList.drop i) = n ∧ v < 512 := by
  obtain ⟨h1, h2, h4, h5⟩ := h
  have h6 : v < 512 := by
    have : (8 : Nat) ^ n ≤ 8 ^ 2 := Nat.pow_le_pow_right (by decide) (by omega)
    omega
  obtain ⟨m, hm⟩ : ∃ m, 3 - n = m + 1 := ⟨2 - n, by omega⟩
  rw [hm] at h1 h2
  rcases he with he | ⟨hz, he⟩
  · rw [List.drop_of_length_le (l := s.data.toList) (i := i + n) (by rw [← Lib.size_eq]; exact he)] at h1 h2
    simp only [octV, octN] at h1 h2
    exact ⟨h1, h2, h6⟩
  · rw [drop_at s (i + n) hz] at h1 h2
    simp only [octV, octN] at h1 h2
    rw [if_neg (by simp [he])] at h1 h2
    exact ⟨h1, h2, h6⟩
theorem oct_full (s : ByteArray) (i n v : Nat) (h3 : 3 ≤ n) (h : OctAt s i n v) : octV 3 0 (s.data.toList.drop i) = v ∧ octN 3 (s.data.toList.drop i) = n := by
  obtain ⟨h1, h2, -, -⟩ := h
  rw [show 3 - n = 0 by omega] at h1 h2
  exact ⟨by rw [h1]; cases s.data.toList.drop (i + n) <;> rfl, by rw [h2]; cases s.data.toList.drop (i + n) <;> rfl⟩

set_option maxRecDepth 100000 in
set_option maxHeartbeats 2000000 in
theorem escaped_octal (s : ByteArray) (i : Nat) (w : World) (hs : s.size ≤ 140737488351232) (hi : i < s.size) (hE : eolL (s.data.toList.drop i) = 0) (hO : oct s[i] = true) :
    Calls Try.prog 16 #[.string s, .int .i64 (i : Int)] w fun e w' => e = .returned (.tuple #[.string ⟨(escV (s.data.toList.drop i)).toArray⟩, .int .i64 (escN (s.data.toList.drop i))]) ∧ Below w.heap.size w w' := by
  have hp : plc s (i : Int) = i := plc_in s i (by omega)
  have HE : Aside0 (class_Eol.f s (i : Int) = some 0) := Aside0.mk (by unfold class_Eol.f; rw [hp, hE])
  have v1 : escV (s.data.toList.drop i) = [UInt8.ofNat (octV 3 0 (s.data.toList.drop i))] := by
    rw [drop_at s i hi] at hE ⊢
    show (if 0 < eolL (s[i] :: s.data.toList.drop (i + 1)) then [] else if oct s[i] = true then [UInt8.ofNat (octV 3 0 (s[i] :: s.data.toList.drop (i + 1)))] else [escC s[i]]) = _
    rw [hE, hO]; simp
  have v2 : escN (s.data.toList.drop i) = octN 3 (s.data.toList.drop i) := by
    rw [drop_at s i hi] at hE ⊢
    show (if 0 < eolL (s[i] :: s.data.toList.drop (i + 1)) then (eolL (s[i] :: s.data.toList.drop (i + 1))).toNat else if oct s[i] = true then octN 3 (s[i] :: s.data.toList.drop (i + 1)) else 1) = _
    rw [hE, hO]; simp
  rw [v1, v2]
  have hcv := conv_num
  have hi' : (i : Int) < (s.size : Int) := by omega
  clear v1 v2 hp hE
  go_enter Try.func16, Try.ntmps16
  go_wp2_with (first | (go_at_call 18; (with_reducible refine (class_Eol.calls s _ 0 _ HE.out).mono ?_); rintro e w1 ⟨rfl, hb1⟩; have HB1 := Aside0.mk hb1; clear hb1) | (go_at_call 25; (with_reducible refine (octal_calls _ _).mono ?_); rintro e w2 ⟨rfl, hb2⟩; have HB2 := Aside0.mk hb2; clear hb2))
  go_loopg [9, 10] 4 (fun g s9 s10 wx => ∃ n v : Nat, n + g = 4 ∧ s9 = .int .i64 v ∧ s10 = .int .i64 n ∧ Aside0 (OctAt s i n v) ∧ Below w.heap.size w wx)
  case atStart => exact ⟨0, 0, by omega, by first | rfl | simp, by first | rfl | simp, Aside0.mk ⟨rfl, by simp, by decide, by omega⟩, HB1.out.trans (HB2.out.mono HB1.out.size)⟩
  case round =>
    obtain ⟨n, v, hng, rfl, rfl, HA, hbx⟩ := hrel
    have HX := Aside0.mk hbx
    clear hbx
    have hv5 : v < 8 ^ n := HA.out.2.2.1
    by_cases h3 : n < 3
    · have h3' : (n : Int) < 3 := by omega
      have hv512 : v < 512 := by
        have : (8 : Nat) ^ n ≤ 8 ^ 2 := Nat.pow_le_pow_right (by decide) (by omega)
        omega
      clear hv5
      by_cases hz : i + n < s.size
      · have hz' : (i : Int) + (n : Int) < (s.size : Int) := by omega
        have HD := Aside0.mk (drop_at s (i + n) hz)
        by_cases ho : oct s[i + n] = true
        · have HO := Aside0.mk ho
          go_wp2_with (first | (go_at_call 25; (with_reducible refine (octal_calls s[i + n] _).mono ?_); rintro e w3 ⟨rfl, hb3⟩; have HB3 := Aside0.mk hb3; clear hb3))
          have h8 : 48 ≤ s[i + n].toNat ∧ s[i + n].toNat ≤ 55 := by have := HO.out; unfold oct at this; simpa using this
          go_roundg (gk - 1)
          case measure => omega
          case rel => exact ⟨n + 1, 8 * v + (s[i + n].toNat - 48), by omega, by congr 1; omega, by first | rfl | simp, Aside0.mk (oct_step s i n v hz h3 HA.out HO.out), HX.out.trans (HB3.out.mono HX.out.size)⟩
        · have ho := Bool.not_eq_true _ ▸ ho
          have HF := Aside0.mk (oct_done s i n v h3 HA.out (.inr ⟨hz, ho⟩))
          go_wp2_with (first | (go_at_call 25; (with_reducible refine (octal_calls s[i + n] _).mono ?_); rintro e w3 ⟨rfl, hb3⟩; have HB3 := Aside0.mk hb3; clear hb3))
          go_ret2
          exact ⟨ret_two (by rw [HF.out.1]) (by rw [HF.out.2.1]), (HX.out.trans (HB3.out.mono HX.out.size)).alloc (Nat.le_trans HX.out.size HB3.out.size) _⟩
      · have HF := Aside0.mk (oct_done s i n v h3 HA.out (.inl (by omega)))
        have hz' : ¬ ((i : Int) + (n : Int) < (s.size : Int)) := by omega
        go_wp2_with fail
        go_ret2
        exact ⟨ret_two (by rw [HF.out.1]) (by rw [HF.out.2.1]), HX.out.alloc HX.out.size _⟩
    · have h3' : ¬ ((n : Int) < 3) := by omega
      have HF := Aside0.mk (oct_full s i n v (by omega) HA.out)
      go_wp2_with fail
      go_ret2
      exact ⟨ret_two (by rw [HF.out.1]) (by rw [HF.out.2]), HX.out.alloc HX.out.size _⟩

theorem escaped_calls (s : ByteArray) (i : Nat) (w : World) (hs : s.size ≤ 140737488351232) (hi : i < s.size) :
    Calls Try.prog 16 #[.string s, .int .i64 (i : Int)] w fun e w' => e = .returned (.tuple #[.string ⟨(escV (s.data.toList.drop i)).toArray⟩, .int .i64 (escN (s.data.toList.drop i))]) ∧ Below w.heap.size w w' := by
  have hge : 0 ≤ eolL (s.data.toList.drop i) := by unfold eolL; split <;> omega
  by_cases hE : eolL (s.data.toList.drop i) = 0
  · by_cases hO : oct s[i] = true
    · exact escaped_octal s i w hs hi hE hO
    · exact escaped_letter s i w hs hi hE (by simpa using hO)
  · exact escaped_eol s i w hs hi (by omega)
end Go.Proofs.Ytioildfnbcdekaa
