/-
  The contract of text.Literal.
-/
import Derived.Test.YtioildfnbcdekaaTq
import Derived.Test.YtioildfnbcdekaaTf
import Derived.Test.YtioildfnbcdekaaBs
import Derived.Test.YtioildfnbcdekaaSh
namespace Go.Proofs.Ytioildfnbcdekaa
open Go.RowKit Go.Proofs.YtioildfnbcdekaaW.PrintWords Go.Proofs.YtioildfnbcdekaaW.PrintLast
set_option linter.unusedVariables false
set_option linter.unusedSimpArgs false

theorem ret_three {j k : IntKind} {a b : ByteArray} {m n p q : Int} (h : a = b) (h' : m = n) (h2 : p = q) : Ending.returned (.tuple #[.string a, .int j m, .int k p]) = .returned (.tuple #[.string b, .int j n, .int k q]) := by rw [h, h', h2]
theorem cells_len (l : List UInt8) : (Lib.byteCells l).length = l.length := Lib.byteCells_length l
theorem cells_snoc (l : List UInt8) (c : UInt8) : Lib.byteCells l ++ [Value.int .u8 (c.toNat : Int)] = Lib.byteCells (l ++ [c]) := by simp [Lib.byteCells]
theorem str_cells (l : List UInt8) : Lib.strCells ⟨l.toArray⟩ = Lib.byteCells l := by simp [Lib.strCells, Lib.byteCells]
theorem isb_keep {T e : TypeId} {B b : Nat} {bs : List Value} {w0 w w' : World} (h : Lib.IsBuilder T e B b bs w ∧ Below B w0 w) (hb : Below w.heap.size w w') : Lib.IsBuilder T e B b bs w' ∧ Below B w0 w' := by
  have hle : ∀ p, Lib.BuilderAt T e B b p bs w → Lib.BuilderAt T e B b p bs w' ∧ B ≤ w.heap.size := by
    rintro p ⟨hB, v, hbk, hown, hne⟩
    have hlt : b < w.heap.size := Lib.BuilderAt.lt ⟨hB, v, hbk, hown, hne⟩
    refine ⟨⟨hB, v, (hb.block b hlt).trans hbk, ?_, hne⟩, by omega⟩
    exact hown.kept (row := none) ⟨hb.os, hb.tape, hb.output, hb.size, fun k hk _ => hb.block k hk⟩ (by cases v.ownBlock <;> simp)
  rcases h.1 with h1 | h1
  · exact ⟨.inl (hle _ h1).1, h.2.trans (hb.mono (hle _ h1).2)⟩
  · exact ⟨.inr (hle _ h1).1, h.2.trans (hb.mono (hle _ h1).2)⟩


set_option maxRecDepth 100000 in
set_option maxHeartbeats 4000000 in
theorem literal_in (s : ByteArray) (a : Nat) (w : World) (hs : s.size ≤ 140737488351232) (ha : a < s.size) (hc : s[a] = 40) :
    Calls Try.prog 9 #[.string s, .int .i64 (a : Int)] w fun e w' => e = .returned (.tuple #[.string ⟨(litR s a).1.toArray⟩, .int .i64 (litR s a).2.1, .int .i64 (litR s a).2.2]) ∧ Below w.heap.size w w' := by
  have HF : Aside0 (Lib.IsBuilder 37 5 w.heap.size w.heap.size (Lib.byteCells []) (w.alloc (.cells #[.pointer none, .slice none 0 0] 37))) := Aside0.mk (Lib.fresh_isBuilder 37 5 w)
  have ha' : (a : Int) < (s.size : Int) := by omega
  have hc' : ((s[a].toNat : Int) != 40) = false := by rw [hc]; rfl
  have ha0 : decide ((a : Int) < 0) = false := decide_eq_false (by omega)
  have ha1 : decide (s.size ≤ a) = false := decide_eq_false (by omega)
  go_enter Try.func9, Try.ntmps9
  go_wp2_with fail
  go_loopg [1, 8] (s.size - (a + 1)) (fun g s1 s8 wx => ∃ (p d : Nat) (put : List UInt8), p + g = s.size ∧ s1 = .int .i64 p ∧ s8 = .int .i64 d ∧ Aside0 (LitAt s a d p put) ∧ Aside0 (Lib.IsBuilder 37 5 w.heap.size w.heap.size (Lib.byteCells put) wx ∧ Below w.heap.size w wx))
  case atStart => exact ⟨a + 1, 1, [], by omega, by first | rfl | simp, by first | rfl | simp, Aside0.mk (lit_start s a ha), Aside0.mk ⟨HF.out, (Below.refl _ _).alloc (Nat.le_refl _) _⟩⟩
  case round =>
    obtain ⟨p, d, put, hpg, rfl, rfl, HA, HI⟩ := hrel
    by_cases hz : p < s.size
    · have hz' : (p : Int) < (s.size : Int) := by omega
      have HD := Aside0.mk (drop_at s p hz)
      have hd1 : 1 ≤ d ∧ d ≤ p := ⟨HA.out.2.2.1, HA.out.2.2.2.1⟩
      have HL : Aside0 ((Lib.byteCells put).length + 1 ≤ 140737488355328) := Aside0.mk (by rw [cells_len]; have := HA.out.2.2.2.2.1; omega)
      by_cases c1 : s[p] = 92
      · have c1' : (s[p].toNat : Int) = 92 := by rw [c1]; rfl
        have C := Aside0.mk c1
        clear c1
        by_cases hl : p + 1 = s.size
        · have hl' : (p : Int) + 1 = (s.size : Int) := by omega
          have HR : Aside0 (litR s a = ([], 0, 8)) := Aside0.mk (by unfold litR; rw [lit_last HA.out hl (by rw [HD.out, C.out, List.drop_of_length_le (by rw [← Lib.size_eq]; omega)])])
          go_wp2_with fail
          go_ret3
          exact ⟨ret_three (by rw [HR.out]) (by rw [HR.out]) (by rw [HR.out]), HI.out.2⟩
        · have hz1 : p + 1 < s.size := by omega
          have hl' : ((p : Int) + 1 == (s.size : Int)) = false := by rw [beq_eq_false_iff_ne]; omega
          have HT : Aside0 (s.data.toList.drop (p + 1) ≠ []) := Aside0.mk (by rw [drop_at s (p + 1) hz1]; simp)
          have HN := Aside0.mk (lit_esc HA.out (by rw [HD.out, C.out]) HT.out)
          have HM := Aside0.mk (escN_range _ HT.out)
          have HLs : Aside0 (∀ x : ByteArray, x = ⟨(escV (s.data.toList.drop (p + 1))).toArray⟩ → (Lib.byteCells put).length + x.size ≤ 140737488355328) := Aside0.mk (by
            rintro x rfl
            have h1 := escV_le (s.data.toList.drop (p + 1))
            have h2 : (⟨(escV (s.data.toList.drop (p + 1))).toArray⟩ : ByteArray).size = (escV (s.data.toList.drop (p + 1))).length := by rw [Lib.size_eq]
            have h3 := HL.out
            omega)
          obtain ⟨m, hm⟩ : ∃ m, m = escN (s.data.toList.drop (p + 1)) := ⟨_, rfl⟩
          have HMm := HM.out
          rw [← hm] at HMm
          have hmz : m ≤ 140737488351232 := by have := HMm.2; rw [List.length_drop, ← Lib.size_eq] at this; omega
          have hmp : p + 1 + m ≤ s.size := by have := HMm.2; rw [List.length_drop, ← Lib.size_eq] at this; omega
          have HEs : Aside0 (∀ w0 : World, Calls Try.prog 16 #[.string s, .int .i64 ((p : Int) + 1)] w0 fun e w' => e = .returned (.tuple #[.string ⟨(escV (s.data.toList.drop (p + 1))).toArray⟩, .int .i64 (m : Int)]) ∧ Below w0.heap.size w0 w') := Aside0.mk (by intro w0; rw [hm]; exact escaped_calls s (p + 1) w0 hs hz1)
          go_wp2_with (first
            | (go_at_call 16; (with_reducible refine (HEs.out _).mono ?_); rintro e w1 ⟨rfl, hb1⟩; have HJ := Aside0.mk (isb_keep HI.out hb1); clear hb1 HI; have HI := HJ; clear HJ)
            | (go_at_call 17; (with_reducible refine (bu_WriteString w.heap.size w.heap.size (Lib.byteCells put) _ _ HI.out.1 (HLs.out _ rfl) HI.out.2.size).mono ?_); rintro e w2 ⟨rfl, hb2⟩; have HW := Aside0.mk hb2; clear hb2))
          go_roundg (gk - (1 + m))
          case measure => omega
          case rel =>
            refine ⟨p + (1 + m), d, put ++ escV (s.data.toList.drop (p + 1)), by omega, by rw [hm]; first | rfl | simp, rfl, Aside0.mk (by rw [hm]; exact HN.out), Aside0.mk ⟨.inr (by have := HW.out.1; rw [str_cells, ← Lib.byteCells_append] at this; exact this), HI.out.2.trans HW.out.2⟩⟩
      · have c1' : ((s[p].toNat : Int) == 92) = false := by
          rw [beq_eq_false_iff_ne]; intro e; exact c1 (UInt8.toNat_inj.1 (by have : (92 : UInt8).toNat = 92 := rfl; omega))
        have C1 := Aside0.mk c1
        clear c1
        by_cases c2 : s[p] = 13 ∨ s[p] = 10
        · obtain ⟨m, hm⟩ : ∃ m, m = (eolL (s.data.toList.drop p)).toNat := ⟨_, rfl⟩
          have hr := eolL_range s[p] (s.data.toList.drop (p + 1)) c2
          rw [← HD.out] at hr
          have hlen : (s.data.toList.drop p).length = s.size - p := by rw [List.length_drop, ← Lib.size_eq]
          have hm' : eolL (s.data.toList.drop p) = (m : Int) := by omega
          have hmz : 1 ≤ m ∧ p + m ≤ s.size := by omega
          have HN : Aside0 (LitAt s a d (p + m) (put ++ [10])) := Aside0.mk (by have := lit_eol HA.out HD.out c2; rw [← HD.out, ← hm] at this; exact this)
          have HE : Aside0 (class_Eol.f s (p : Int) = some (m : Int)) := Aside0.mk (by unfold class_Eol.f; rw [plc_in s p (by omega), hm'])
          clear hr hlen hm' hm
          rcases c2 with c2 | c2
          · have c2' : (s[p].toNat : Int) = 13 := by rw [c2]; rfl
            clear c2
            go_wp2_with (first
              | (go_at_call 18; (with_reducible refine (class_Eol.calls s _ _ _ HE.out).mono ?_); rintro e w1 ⟨rfl, hb1⟩; have HJ := Aside0.mk (isb_keep HI.out hb1); clear hb1 HI; have HI := HJ; clear HJ)
              | (go_at_call 19; (with_reducible refine (bu_WriteByte w.heap.size w.heap.size (Lib.byteCells put) _ _ HI.out.1 HL.out HI.out.2.size).mono ?_); rintro e w2 ⟨rfl, hb2⟩; have HW := Aside0.mk hb2; clear hb2))
            go_roundg (gk - m)
            case measure => omega
            case rel => exact ⟨p + m, d, put ++ [10], by omega, by first | rfl | simp, rfl, HN, Aside0.mk ⟨.inr (by have := HW.out.1; rw [← cells_snoc]; exact this), HI.out.2.trans HW.out.2⟩⟩
          · have c2' : (s[p].toNat : Int) = 10 := by rw [c2]; rfl
            clear c2
            go_wp2_with (first
              | (go_at_call 18; (with_reducible refine (class_Eol.calls s _ _ _ HE.out).mono ?_); rintro e w1 ⟨rfl, hb1⟩; have HJ := Aside0.mk (isb_keep HI.out hb1); clear hb1 HI; have HI := HJ; clear HJ)
              | (go_at_call 19; (with_reducible refine (bu_WriteByte w.heap.size w.heap.size (Lib.byteCells put) _ _ HI.out.1 HL.out HI.out.2.size).mono ?_); rintro e w2 ⟨rfl, hb2⟩; have HW := Aside0.mk hb2; clear hb2))
            go_roundg (gk - m)
            case measure => omega
            case rel => exact ⟨p + m, d, put ++ [10], by omega, by first | rfl | simp, rfl, HN, Aside0.mk ⟨.inr (by have := HW.out.1; rw [← cells_snoc]; exact this), HI.out.2.trans HW.out.2⟩⟩
        · have c2a : ((s[p].toNat : Int) == 13) = false := by
            rw [beq_eq_false_iff_ne]; intro e; exact c2 (.inl (UInt8.toNat_inj.1 (by have : (13 : UInt8).toNat = 13 := rfl; omega)))
          have c2b : ((s[p].toNat : Int) == 10) = false := by
            rw [beq_eq_false_iff_ne]; intro e; exact c2 (.inr (UInt8.toNat_inj.1 (by have : (10 : UInt8).toNat = 10 := rfl; omega)))
          have C2 := Aside0.mk c2
          clear c2
          by_cases c3 : s[p] = 41
          · have c3' : (s[p].toNat : Int) = 41 := by rw [c3]; rfl
            have C3 := Aside0.mk c3
            clear c3
            by_cases hd : d = 1
            · subst hd
              have hsh := lit_shut HA.out (by rw [HD.out, C3.out])
              by_cases hlong : 65536 < put.length
              · have hlong' : (65536 : Int) < ((Lib.byteCells put).length : Int) := by rw [cells_len]; omega
                have HR : Aside0 (litR s a = ([], 0, 3)) := Aside0.mk (by unfold litR; rw [hsh]; simp only; rw [if_pos hlong])
                clear hsh hlong
                go_wp2_with (first
                  | (go_at_call 20; (with_reducible refine (Try.Builder_Len w.heap.size w.heap.size _ _ HI.out.1).mono ?_); rintro e w2 ⟨rfl, rfl⟩))
                go_ret3
                exact ⟨ret_three (by rw [HR.out]) (by rw [HR.out]) (by rw [HR.out]), HI.out.2⟩
              · have hlong' : ((Lib.byteCells put).length : Int) ≤ 65536 := by rw [cells_len]; omega
                have hap : a + 1 ≤ p := HA.out.1
                have HR : Aside0 (litR s a = (put, (p : Int) + 1, 0)) := Aside0.mk (by unfold litR; rw [hsh]; simp only; rw [if_neg hlong]; congr 2; (try omega))
                clear hsh hlong
                go_wp2_with (first
                  | (go_at_call 20; (with_reducible refine (Try.Builder_Len w.heap.size w.heap.size _ _ HI.out.1).mono ?_); rintro e w2 ⟨rfl, rfl⟩)
                  | (go_at_call 21; (with_reducible refine (Try.Builder_String_any w.heap.size w.heap.size _ _ HI.out.1 HI.out.2.size).mono ?_); rintro e w2 ⟨rfl, hs2⟩; have HS2 := Aside0.mk hs2; clear hs2))
                go_ret3
                exact ⟨ret_three (by rw [HR.out]) (by rw [HR.out]) (by rw [HR.out]), HI.out.2.trans HS2.out⟩
            · have hd' : ((d : Int) - 1 == 0) = false := by rw [beq_eq_false_iff_ne]; omega
              have HN := Aside0.mk (lit_close HA.out (by rw [HD.out, C3.out]) hd)
              go_wp2_with (first
                | (go_at_call 19; (with_reducible refine (bu_WriteByte w.heap.size w.heap.size (Lib.byteCells put) _ _ HI.out.1 HL.out HI.out.2.size).mono ?_); rintro e w2 ⟨rfl, hb2⟩; have HW := Aside0.mk hb2; clear hb2))
              go_roundg (gk - 1)
              case measure => omega
              case rel => exact ⟨p + 1, d - 1, put ++ [41], by omega, by first | rfl | simp, by congr 1; omega, HN, Aside0.mk ⟨.inr (by have := HW.out.1; rw [← cells_snoc]; exact this), HI.out.2.trans HW.out.2⟩⟩
          · have c3' : ((s[p].toNat : Int) == 41) = false := by
              rw [beq_eq_false_iff_ne]; intro e; exact c3 (UInt8.toNat_inj.1 (by have : (41 : UInt8).toNat = 41 := rfl; omega))
            have C3 := Aside0.mk c3
            clear c3
            by_cases c4 : s[p] = 40
            · have c4' : (s[p].toNat : Int) = 40 := by rw [c4]; rfl
              have HN := Aside0.mk (lit_open HA.out (by rw [HD.out, c4]))
              clear c4
              go_wp2_with (first
                | (go_at_call 19; (with_reducible refine (bu_WriteByte w.heap.size w.heap.size (Lib.byteCells put) _ _ HI.out.1 HL.out HI.out.2.size).mono ?_); rintro e w2 ⟨rfl, hb2⟩; have HW := Aside0.mk hb2; clear hb2))
              go_roundg (gk - 1)
              case measure => omega
              case rel => exact ⟨p + 1, d + 1, put ++ [40], by omega, by first | rfl | simp, by first | rfl | simp, HN, Aside0.mk ⟨.inr (by have := HW.out.1; rw [← cells_snoc]; exact this), HI.out.2.trans HW.out.2⟩⟩
            · have c4' : ((s[p].toNat : Int) == 40) = false := by
                rw [beq_eq_false_iff_ne]; intro e; exact c4 (UInt8.toNat_inj.1 (by have : (40 : UInt8).toNat = 40 := rfl; omega))
              have HN := Aside0.mk (lit_plain HA.out HD.out C1.out C2.out C3.out c4)
              clear c4
              go_wp2_with (first
                | (go_at_call 19; (with_reducible refine (bu_WriteByte w.heap.size w.heap.size (Lib.byteCells put) _ _ HI.out.1 HL.out HI.out.2.size).mono ?_); rintro e w2 ⟨rfl, hb2⟩; have HW := Aside0.mk hb2; clear hb2))
              go_roundg (gk - 1)
              case measure => omega
              case rel => exact ⟨p + 1, d, put ++ [s[p]], by omega, by first | rfl | simp, rfl, HN, Aside0.mk ⟨.inr (by have := HW.out.1; rw [← cells_snoc]; exact this), HI.out.2.trans HW.out.2⟩⟩
    · have hz' : ¬ ((p : Int) < (s.size : Int)) := by omega
      have HR : Aside0 (litR s a = ([], 0, 8)) := Aside0.mk (by unfold litR; rw [lit_end HA.out (by omega)])
      go_wp2_with fail
      go_ret3
      exact ⟨ret_three (by rw [HR.out]) (by rw [HR.out]) (by rw [HR.out]), HI.out.2⟩

/-- What Literal answers. -/
def litF (s : ByteArray) (a : Int) : List UInt8 × Int × Int := if 0 ≤ a ∧ a < s.size ∧ s.data.toList[a.toNat]? = some 40 then litR s a.toNat else ([], 0, 7)
def text_Literal.f (s : ByteArray) (a : Int) : Option (ByteArray × Int × Int) := if s.size ≤ 140737488351232 then some (⟨(litF s a).1.toArray⟩, (litF s a).2.1, (litF s a).2.2) else none
theorem byte_at (s : ByteArray) (n : Nat) (h : n < s.size) : s.data.toList[n]? = some s[n] := by rw [List.getElem?_eq_getElem (by rw [← Lib.size_eq]; exact h)]; rfl

theorem literal_out (s : ByteArray) (a : Int) (w : World) (h : a < 0 ∨ (s.size : Int) ≤ a) :
    Calls Try.prog 9 #[.string s, .int .i64 a] w fun e w' => e = .returned (.tuple #[.string ⟨#[]⟩, .int .i64 0, .int .i64 7]) ∧ Below w.heap.size w w' := by
  by_cases h1 : a < 0
  · go_enter Try.func9, Try.ntmps9
    go_wp2_with fail
    go_ret3
    exact ⟨rfl, Below.refl _ _⟩
  · have h2 : (s.size : Int) ≤ a := by omega
    clear h
    go_enter Try.func9, Try.ntmps9
    go_wp2_with fail
    go_ret3
    exact ⟨rfl, Below.refl _ _⟩
theorem literal_not (s : ByteArray) (a : Nat) (w : World) (ha : a < s.size) (hc : s[a] ≠ 40) :
    Calls Try.prog 9 #[.string s, .int .i64 (a : Int)] w fun e w' => e = .returned (.tuple #[.string ⟨#[]⟩, .int .i64 0, .int .i64 7]) ∧ Below w.heap.size w w' := by
  have ha' : (a : Int) < (s.size : Int) := by omega
  have ha0 : decide ((a : Int) < 0) = false := decide_eq_false (by omega)
  have ha1 : decide (s.size ≤ a) = false := decide_eq_false (by omega)
  have hc' : ((s[a].toNat : Int) != 40) = true := by
    rw [bne_iff_ne]; intro e; exact hc (UInt8.toNat_inj.1 (by have : (40 : UInt8).toNat = 40 := rfl; omega))
  go_enter Try.func9, Try.ntmps9
  go_wp2_with fail
  go_ret3
  exact ⟨rfl, Below.refl _ _⟩

theorem text_Literal.calls (s : ByteArray) (a : Int) (r1 : ByteArray) (r2 r3 : Int) (w : World) (h : text_Literal.f s a = some (r1, r2, r3)) :
    Calls Try.prog 9 #[.string s, .int .i64 a] w fun e w' => e = .returned (.tuple #[.string r1, .int .i64 r2, .int .i64 r3]) ∧ Below w.heap.size w w' := by
  unfold text_Literal.f at h
  split at h
  case isFalse => cases h
  case isTrue hs =>
  obtain ⟨h1, h2⟩ := Prod.mk.inj (Option.some.inj h)
  obtain ⟨h2, h3⟩ := Prod.mk.inj h2
  subst h1 h2 h3
  by_cases hr : a < 0 ∨ (s.size : Int) ≤ a
  · have e : litF s a = ([], 0, 7) := by unfold litF; rw [if_neg (by omega)]
    rw [e]
    exact literal_out s a w hr
  · obtain ⟨n, rfl⟩ := Int.eq_ofNat_of_zero_le (show 0 ≤ a by omega)
    have hn : n < s.size := by omega
    have hb := byte_at s n hn
    by_cases hc : s[n] = 40
    · have e : litF s (n : Int) = litR s n := by unfold litF; rw [if_pos ⟨by omega, by omega, by rw [Int.toNat_natCast, hb, hc]⟩, Int.toNat_natCast]
      rw [e]
      exact literal_in s n w hs hn hc
    · have e : litF s (n : Int) = ([], 0, 7) := by
        unfold litF
        rw [if_neg]
        rintro ⟨-, -, h⟩
        rw [Int.toNat_natCast, hb] at h
        exact hc (Option.some.inj h)
      rw [e]
      exact literal_not s n w hn hc
end Go.Proofs.Ytioildfnbcdekaa
