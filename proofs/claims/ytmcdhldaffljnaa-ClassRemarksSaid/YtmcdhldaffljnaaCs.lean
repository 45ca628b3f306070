/-
  The contract of class.Skip: it passes over white bytes and remarks.
-/
import Derived.Test.YtmcdhldaffljnaaCw
import Derived.Test.YtmcdhldaffljnaaCe
import Derived.Deep.LoopGhost
namespace Go.Proofs.Ytmcdhldaffljnaa
open Go.RowKit
set_option linter.unusedVariables false
set_option linter.unusedSimpArgs false

def class_Skip.f (s : ByteArray) (a : Int) : Option Int := if s.size ≤ 140737488351232 then some ((plc s a : Int) + sk false (s.data.toList.drop (plc s a))) else none

set_option maxHeartbeats 400000 in
theorem class_Skip.calls (s : ByteArray) (a : Int) (r : Int) (w : World) (h : class_Skip.f s a = some r) :
    Calls Try.prog 12 #[.string s, .int .i64 a] w fun e w' => e = .returned (.int .i64 r) ∧ Below w.heap.size w w' := by
  have hp := plc_le s a
  unfold class_Skip.f at h
  split at h
  case isFalse => cases h
  case isTrue hs =>
  have HR := Lib.hid (Option.some.inj h)
  clear h
  go_enter Try.func12, Try.ntmps12
  go_wp2_with fail
  go_step3
  go_wp2_with (go_at_call 28; refine (place_calls _ _ _).mono ?_; rintro e w1 ⟨rfl, hb1⟩)
  go_step3
  go_wp2_with fail
  go_loopg [1] (s.size - plc s a) (fun g s1 wx => ∃ k : Nat, k + g = s.size ∧ s1 = .int .i64 k ∧ Aside (r = (k : Int) + sk false (s.data.toList.drop k)) ∧ Below w.heap.size w wx)
  case atStart => exact ⟨plc s a, by omega, rfl, HR.out.symm, hb1⟩
  case round =>
    obtain ⟨k, hkg, rfl, HI, hbx⟩ := hrel
    cases gk with
    | zero =>
      have hkz : ¬ ((k : Int) < (s.size : Int)) := by omega
      go_wp2_with fail
      try rw [Exit.noGoto_ret]
      go_ret
      refine ⟨ret_int ?_, hbx⟩
      rw [HI.out, List.drop_of_length_le (by rw [← Lib.size_eq]; omega)]
      simp [sk]
    | succ g =>
      have hkz : (k : Int) < (s.size : Int) := by omega
      have hk : k < s.size := by omega
      have HD := Lib.hid (drop_at s k hk)
      have hlt := byte_lt s[k]
      by_cases h1 : clsN s[k].toNat = 1
      · have hw1 : class_White.f (s[k].toNat : Int) = some true := by unfold class_White.f; rw [if_pos hlt]; simp [h1]
        have HW := Lib.hid hw1
        have H1 := Lib.hid h1
        clear hw1 h1
        go_wp2_with (go_at_call 13; refine (class_White.calls _ true _ HW.out).mono ?_; rintro e w2 ⟨rfl, hb2⟩)
        go_roundg g
        case measure => omega
        case rel => exact ⟨k + 1, by omega, by first | rfl | simp, by show _ = _; rw [HI.out, HD.out]; simp only [sk]; rw [if_pos H1.out]; push_cast; omega, hbx.trans (hb2.mono hbx.size)⟩
      · have hw1 : class_White.f (s[k].toNat : Int) = some false := by unfold class_White.f; rw [if_pos hlt]; simp [h1]
        have HW := Lib.hid hw1
        have H1 := Lib.hid h1
        clear hw1 h1
        by_cases h2 : s[k] = 37
        · have h3 : ((s[k].toNat : Int) != 37) = false := by rw [h2]; rfl
          have H2 := Lib.hid h2
          clear h2
          go_wp2_with (go_at_call 13; refine (class_White.calls _ false _ HW.out).mono ?_; rintro e w2 ⟨rfl, hb2⟩)
          clear h3
          go_loopg [1] (s.size - k) (fun g2 s1 wy => ∃ j : Nat, j + g2 = s.size ∧ s1 = .int .i64 j ∧ Aside (r = (j : Int) + sk true (s.data.toList.drop j) ∧ k ≤ j) ∧ Below w.heap.size w wy)
          case atStart => exact ⟨k, by omega, by first | rfl | simp, ⟨by rw [HI.out, HD.out]; simp only [sk]; rw [if_neg H1.out, if_pos H2.out, if_neg (by rw [H2.out]; decide)], Nat.le_refl _⟩, hbx.trans (hb2.mono hbx.size)⟩
          case round =>
            obtain ⟨j, hjg, rfl, HJ, hby⟩ := hrel
            cases gk with
            | zero =>
              have hjz : ¬ ((j : Int) < (s.size : Int)) := by omega
              go_wp2_with fail
              go_roundg 0
              case measure => omega
              case rel => exact ⟨j, by omega, by first | rfl | simp, by show _ = _; rw [HJ.out.1, List.drop_of_length_le (by rw [← Lib.size_eq]; omega)]; simp [sk], hby⟩
            | succ g2 =>
              have hjz : (j : Int) < (s.size : Int) := by omega
              have hj : j < s.size := by omega
              have HDj := Lib.hid (drop_at s j hj)
              have hE : class_Eol.f s (j : Int) = some (eolL (s.data.toList.drop j)) := by unfold class_Eol.f; rw [plc_in s j (by omega)]
              by_cases h4 : eolL (s.data.toList.drop j) = 0
              · rw [h4] at hE
                have HE := Lib.hid hE
                have H4 := Lib.hid h4
                clear hE h4
                go_wp2_with (go_at_call 10; refine (class_Eol.calls _ _ _ _ HE.out).mono ?_; rintro e w3 ⟨rfl, hb3⟩)
                go_roundg g2
                case measure => omega
                case rel =>
                  refine ⟨j + 1, by omega, by first | rfl | simp, ⟨?_, ?_⟩, hby.trans (hb3.mono hby.size)⟩
                  · have := H4.out
                    rw [HDj.out, eolL_pos] at this
                    rw [HJ.out.1, HDj.out]
                    simp only [sk]
                    rw [if_neg this]
                    push_cast
                    omega
                  · have := HJ.out.2; omega
              · have h5 : ((eolL (s.data.toList.drop j)) == 0) = false := by simpa using h4
                have H4 : Hid _ := Lib.hid h4
                obtain ⟨n, hn⟩ : ∃ n, n = eolL (s.data.toList.drop j) := ⟨_, rfl⟩
                rw [← hn] at h5 hE H4
                have HN := Lib.hid hn
                clear hn
                have HE := Lib.hid hE
                clear hE h4
                go_wp2_with (go_at_call 10; refine (class_Eol.calls _ _ _ _ HE.out).mono ?_; rintro e w3 ⟨rfl, hb3⟩)
                have hjk : k < j := by
                  rcases Nat.lt_or_ge k j with h | h
                  · exact h
                  · have e : j = k := by have := HJ.out.2; omega
                    subst e
                    exact absurd H4.out (by rw [HN.out, HDj.out, H2.out]; simp [eolL])
                have hd : s[j] = 10 ∨ s[j] = 13 := by
                  have := H4.out
                  rw [HN.out, HDj.out, eolL_pos] at this
                  exact Decidable.not_not.1 this
                go_roundg (s.size - j)
                case measure => omega
                case rel =>
                  refine ⟨j, by omega, by first | rfl | simp, ?_, hby.trans (hb3.mono hby.size)⟩
                  show _ = _
                  rw [HJ.out.1, HDj.out]
                  simp only [sk]
                  rw [if_pos hd, if_pos (by rcases hd with e | e <;> rw [e] <;> rfl)]
        · have h3 : ((s[k].toNat : Int) != 37) = true := by
            rw [bne_iff_ne]
            intro e
            apply h2
            apply UInt8.toNat_inj.1
            have : (37 : UInt8).toNat = 37 := rfl
            omega
          have H2 := Lib.hid h2
          clear h2
          go_wp2_with (go_at_call 13; refine (class_White.calls _ false _ HW.out).mono ?_; rintro e w2 ⟨rfl, hb2⟩)
          try rw [Exit.noGoto_ret]
          go_ret
          refine ⟨ret_int ?_, hbx.trans (hb2.mono hbx.size)⟩
          rw [HI.out, HD.out]
          simp only [sk]
          rw [if_neg H1.out, if_neg H2.out]
          simp
end Go.Proofs.Ytmcdhldaffljnaa
