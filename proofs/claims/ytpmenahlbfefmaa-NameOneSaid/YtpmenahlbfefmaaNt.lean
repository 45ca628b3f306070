/-
  The contract of name.Put: a name as it is written.
-/
import Derived.Test.YtpmenahlbfefmaaNs
import Derived.Test.YtpmenahlbfefmaaBs
import Derived.StillTailTactics
namespace Go.Proofs.Ytpmenahlbfefmaa
open Go.RowKit Go.Proofs.Ytpmenahlbfefmaa.E Go.Proofs.YtpmenahlbfefmaaW.PrintWords Go.Proofs.YtpmenahlbfefmaaW.PrintLast
set_option linter.unusedVariables false
set_option linter.unusedSimpArgs false

def name_Put.f (s : ByteArray) : Option (ByteArray × Int) := some (⟨(putL s.data.toList).1.toArray⟩, (putL s.data.toList).2)

theorem dig_all : ∀ n : Fin 16, ((⟨#[48, 49, 50, 51, 52, 53, 54, 55, 56, 57, 65, 66, 67, 68, 69, 70]⟩ : ByteArray).extract n.val (n.val + 1)).data.toList = [digC n.val] := by decide +kernel

theorem isb_keep {T e : TypeId} {B b : Nat} {bs : List Value} {w0 w w' : World} (h : Lib.IsBuilder T e B b bs w ∧ Below B w0 w) (hb : Below w.heap.size w w') : Lib.IsBuilder T e B b bs w' ∧ Below B w0 w' := by
  have hle : ∀ p, Lib.BuilderAt T e B b p bs w → Lib.BuilderAt T e B b p bs w' ∧ B ≤ w.heap.size := by
    rintro p ⟨hB, v, hbk, hown, hne⟩
    have hlt : b < w.heap.size := Lib.BuilderAt.lt ⟨hB, v, hbk, hown, hne⟩
    refine ⟨⟨hB, v, (hb.block b hlt).trans hbk, ?_, hne⟩, by omega⟩
    exact hown.kept (row := none) ⟨hb.os, hb.tape, hb.output, hb.size, fun k hk _ => hb.block k hk⟩ (by cases v.ownBlock <;> simp)
  rcases h.1 with h1 | h1
  · exact ⟨.inl (hle _ h1).1, h.2.trans (hb.mono (hle _ h1).2)⟩
  · exact ⟨.inr (hle _ h1).1, h.2.trans (hb.mono (hle _ h1).2)⟩

theorem u8_small {i : Int} (h0 : 0 ≤ i) (h1 : i < 256) : IntKind.u8.wrap i = i := IntWalk.u8_in i ⟨h0, by omega⟩
theorem dig_slice (q : Int) (h0 : 0 ≤ q) (h1 : q < 16) (W : World) : (Instr.slice 9 (.string ⟨#[48, 49, 50, 51, 52, 53, 54, 55, 56, 57, 65, 66, 67, 68, 69, 70]⟩) (some (.int .u8 q)) (some (.int .u8 (q + 1))) none).run Try.prog W = .ok (.string ⟨#[digC q.toNat]⟩) W := by
  obtain ⟨n, rfl⟩ := Int.eq_ofNat_of_zero_le h0
  have hn : n < 16 := by omega
  have h := dig_all ⟨n, hn⟩
  rw [run_slice_string _ _ _ _ _ _ _ Try.underlying9 (by omega) (by omega) (by show (n : Int) + 1 ≤ 16; omega)]
  have e : ((⟨#[48, 49, 50, 51, 52, 53, 54, 55, 56, 57, 65, 66, 67, 68, 69, 70]⟩ : ByteArray).extract (n : Int).toNat ((n : Int) + 1).toNat) = ⟨#[digC (n : Int).toNat]⟩ := by
    have e1 : (n : Int).toNat = n := by omega
    have e2 : ((n : Int) + 1).toNat = n + 1 := by omega
    rw [e1, e2]
    apply ByteArray.ext
    apply Array.ext'
    exact h
  rw [e]

/-- What is known at a round's head. -/
def PutAt (s : ByteArray) (i : Nat) (put : List UInt8) : Prop := 47 :: putAll s.data.toList = put ++ putAll (s.data.toList.drop i) ∧ put.length ≤ 1 + 3 * i

set_option maxRecDepth 100000 in
set_option maxHeartbeats 2000000 in
theorem put_short (s : ByteArray) (w : World) (hs : s.size ≤ 127) (h0 : checkL s.data.toList = 0) :
    Calls Try.prog 11 #[.string s] w fun e w' => e = .returned (.tuple #[.string ⟨(47 :: putAll s.data.toList).toArray⟩, .int .i64 0]) ∧ Below w.heap.size w w' := by
  have HC : Aside0 (name_Check.f s = some 0) := Aside0.mk (by unfold name_Check.f; rw [h0])
  clear h0
  go_enter Try.func11, Try.ntmps11
  go_wp2_with (first
    | (go_at_call 13; (with_reducible refine (name_Check.calls s 0 _ HC.out).mono ?_); rintro e w1 ⟨rfl, hb1⟩; have HB1 := Aside0.mk hb1; clear hb1; have HF : Aside0 (Lib.IsBuilder 37 5 w1.heap.size w1.heap.size (Lib.byteCells []) (w1.alloc (.cells #[.pointer none, .slice none 0 0] 37))) := Aside0.mk (Lib.fresh_isBuilder 37 5 w1))
    | (go_at_call 23; (with_reducible refine (bu_WriteByte w1.heap.size w1.heap.size (Lib.byteCells []) 47 _ HF.out (by decide) (by simp)).mono ?_); rintro e w2 ⟨rfl, hb2⟩; have HW := Aside0.mk hb2; clear hb2))
  go_loopg [16] s.size (fun g s16 wx => ∃ (i : Nat) (put : List UInt8), i + g = s.size ∧ s16 = .int .i64 i ∧ Aside0 (PutAt s i put) ∧ Aside0 (Lib.IsBuilder 37 5 w1.heap.size w1.heap.size (Lib.byteCells put) wx ∧ Below w1.heap.size w1 wx))
  case atStart => exact ⟨0, [47], by omega, by first | rfl | simp, Aside0.mk ⟨by simp, by simp⟩, Aside0.mk ⟨.inr HW.out.1, ((Below.refl w1.heap.size w1).alloc (Nat.le_refl _) _).trans HW.out.2⟩⟩
  case round =>
    obtain ⟨i, put, hig, rfl, HA, HI⟩ := hrel
    cases gk with
    | zero =>
      have hz : ¬ ((i : Int) < (s.size : Int)) := by omega
      have hput : Aside0 (47 :: putAll s.data.toList = put) := by
        have := HA.out.1
        rw [List.drop_of_length_le (by rw [← Lib.size_eq]; omega)] at this
        exact Aside0.mk (by simpa [putAll] using this)
      go_wp2_with (go_at_call 22; (with_reducible refine (Try.Builder_String_any w1.heap.size w1.heap.size _ _ HI.out.1 HI.out.2.size).mono ?_); rintro e w2 ⟨rfl, hs2⟩; have HS2 := Aside0.mk hs2; clear hs2)
      go_ret2
      exact ⟨ret_two (by rw [hput.out]) rfl, HB1.out.trans ((HI.out.2.trans HS2.out).mono HB1.out.size)⟩
    | succ g =>
      have hz : (i : Int) < (s.size : Int) := by omega
      have hi : i < s.size := by omega
      have HD := Aside0.mk (drop_at s i hi)
      have HL : Aside0 ((Lib.byteCells put).length + 1 ≤ 140737488355328) := Aside0.mk (by rw [cells_len]; have := HA.out.2; omega)
      have HN : ∀ x, putB s[i] = x → PutAt s (i + 1) (put ++ x) := by
        intro x hx
        obtain ⟨a1, a2⟩ := HA.out
        have hle := putB_le s[i]
        rw [hx] at hle
        rw [HD.out] at a1
        refine ⟨?_, ?_⟩
        · rw [a1]; simp only [putAll, List.flatMap_cons, hx, List.append_assoc]
        · simp only [List.length_append]; omega
      have HN := Aside0.mk HN
      have hbl := byte_lt s[i]
      obtain ⟨c, hcv⟩ : ∃ c : Int, (s[i].toNat : Int) = c := ⟨_, rfl⟩
      by_cases hplain : 32 < s[i].toNat ∧ s[i].toNat < 127 ∧ clsN s[i].toNat = 0 ∧ s[i] ≠ 35
      · obtain ⟨p1, p2, p3, p4⟩ := hplain
        have HP : Aside0 (putB s[i] = [s[i]]) := Aside0.mk (by unfold putB; rw [if_pos ⟨p1, p2, p3, p4⟩])
        have HRg : Aside0 (class_Regular.f (s[i].toNat : Int) = some true) := Aside0.mk (by rw [regular_byte]; simp [p3])
        have q1 : (32 : Int) < (s[i].toNat : Int) := by omega
        have q2 : (s[i].toNat : Int) < 127 := by omega
        have q4 : ((s[i].toNat : Int) != 35) = true := by
          rw [bne_iff_ne]; intro e; apply p4; apply UInt8.toNat_inj.1; have : (35 : UInt8).toNat = 35 := rfl; omega
        clear p1 p2 p3 p4 hbl hcv
        go_wp2_with (first
          | (go_at_call 24; (with_reducible refine (class_Regular.calls _ true _ HRg.out).mono ?_); rintro e w2 ⟨rfl, hb2⟩; have HG := Aside0.mk hb2; clear hb2)
          | (go_at_call 23; (with_reducible refine (bu_WriteByte w1.heap.size w1.heap.size (Lib.byteCells put) _ _ (isb_keep HI.out HG.out).1 HL.out (isb_keep HI.out HG.out).2.size).mono ?_); rintro e w3 ⟨rfl, hb3⟩; have HW := Aside0.mk hb3; clear hb3))
        go_roundg g
        case measure => omega
        case rel => exact ⟨i + 1, put ++ [s[i]], by omega, by first | rfl | simp, Aside0.mk (HN.out _ HP.out), Aside0.mk ⟨.inr (by have := HW.out.1; rw [← cells_snoc]; exact this), (isb_keep HI.out HG.out).2.trans HW.out.2⟩⟩
      · have HP : Aside0 (putB s[i] = [35, digC (s[i].toNat / 16), digC (s[i].toNat % 16)]) := Aside0.mk (by unfold putB; rw [if_neg hplain])
        have hcells : Lib.strCells ((⟨#[35]⟩ : ByteArray) ++ (⟨#[digC (s[i].toNat / 16)]⟩ : ByteArray) ++ (⟨#[digC (s[i].toNat % 16)]⟩ : ByteArray)) = Lib.byteCells [35, digC (s[i].toNat / 16), digC (s[i].toNat % 16)] := by simp [Lib.strCells, Lib.byteCells]
        have HL3 : Aside0 (∀ x : ByteArray, x.size = 3 → (Lib.byteCells put).length + x.size ≤ 140737488355328) := Aside0.mk (by intro x hx; have := HL.out; have := HA.out.2; rw [cells_len, hx]; omega)
        have e1 : IntKind.u8.wrap ((s[i].toNat : Int) / 16) = (s[i].toNat : Int) / 16 := u8_small (by omega) (by omega)
        have e2 : IntKind.u8.wrap ((s[i].toNat : Int) / 16 + 1) = (s[i].toNat : Int) / 16 + 1 := u8_small (by omega) (by omega)
        have e3 : ((s[i].toNat : Int)).tmod 16 = (s[i].toNat : Int) % 16 := Int.tmod_eq_emod_of_nonneg (by omega)
        have e4 : IntKind.u8.wrap ((s[i].toNat : Int) % 16 + 1) = (s[i].toNat : Int) % 16 + 1 := u8_small (by omega) (by omega)
        have d1 := dig_slice ((s[i].toNat : Int) / 16) (by omega) (by omega)
        have d2 := dig_slice ((s[i].toNat : Int) % 16) (by omega) (by omega)
        have n1 : ((s[i].toNat : Int) / 16).toNat = s[i].toNat / 16 := by omega
        have n2 : ((s[i].toNat : Int) % 16).toNat = s[i].toNat % 16 := by omega
        rw [n1] at d1
        rw [n2] at d2
        have HCells := Aside0.mk hcells
        clear hcells n1 n2
        by_cases q1 : s[i].toNat ≤ 32
        · have q1' : (s[i].toNat : Int) ≤ 32 := by omega
          clear hplain q1 hcv
          go_wp2_with fail
          go_still_tail 14, (by kernel_rfl)
          change wpList _ _ _ _ _ wr.drew
          go_wp2_with (go_at_call 25; (with_reducible refine (bu_WriteString w1.heap.size w1.heap.size (Lib.byteCells put) _ _ (isb_keep HI.out (Below.drew (Below.refl _ _))).1 (HL3.out _ rfl) (isb_keep HI.out (Below.drew (Below.refl _ _))).2.size).mono ?_); rintro e w3 ⟨rfl, hb3⟩; have HW := Aside0.mk hb3; clear hb3)
          go_roundg g
          case measure => omega
          case rel => exact ⟨i + 1, put ++ [35, digC (s[i].toNat / 16), digC (s[i].toNat % 16)], by omega, by first | rfl | simp, Aside0.mk (HN.out _ HP.out), Aside0.mk ⟨.inr (by have := HW.out.1; rw [HCells.out, ← Lib.byteCells_append] at this; exact this), (isb_keep HI.out (Below.drew (Below.refl _ _))).2.trans HW.out.2⟩⟩
        · have q1' : (32 : Int) < (s[i].toNat : Int) := by omega
          by_cases q2 : 127 ≤ s[i].toNat
          · have q2' : (127 : Int) ≤ (s[i].toNat : Int) := by omega
            clear hplain q1 q2 hcv
            go_wp2_with fail
            go_still_tail 14, (by kernel_rfl)
            change wpList _ _ _ _ _ wr.drew
            go_wp2_with (go_at_call 25; (with_reducible refine (bu_WriteString w1.heap.size w1.heap.size (Lib.byteCells put) _ _ (isb_keep HI.out (Below.drew (Below.refl _ _))).1 (HL3.out _ rfl) (isb_keep HI.out (Below.drew (Below.refl _ _))).2.size).mono ?_); rintro e w3 ⟨rfl, hb3⟩; have HW := Aside0.mk hb3; clear hb3)
            go_roundg g
            case measure => omega
            case rel => exact ⟨i + 1, put ++ [35, digC (s[i].toNat / 16), digC (s[i].toNat % 16)], by omega, by first | rfl | simp, Aside0.mk (HN.out _ HP.out), Aside0.mk ⟨.inr (by have := HW.out.1; rw [HCells.out, ← Lib.byteCells_append] at this; exact this), (isb_keep HI.out (Below.drew (Below.refl _ _))).2.trans HW.out.2⟩⟩
          · have q2' : (s[i].toNat : Int) < 127 := by omega
            by_cases q3 : clsN s[i].toNat = 0
            · have q4 : s[i] = 35 := Decidable.not_not.1 fun h => hplain ⟨by omega, by omega, q3, h⟩
              have HRg : Aside0 (class_Regular.f (s[i].toNat : Int) = some true) := Aside0.mk (by rw [regular_byte]; simp [q3])
              have q4' : ((s[i].toNat : Int) != 35) = false := by rw [q4]; rfl
              clear hplain q1 q2 q3 q4 hcv
              go_wp2_with (go_at_call 24; (with_reducible refine (class_Regular.calls _ true _ HRg.out).mono ?_); rintro e w2 ⟨rfl, hb2⟩; have HG := Aside0.mk hb2; clear hb2)
              go_still_tail 14, (by kernel_rfl)
              change wpList _ _ _ _ _ w2.drew
              go_wp2_with (go_at_call 25; (with_reducible refine (bu_WriteString w1.heap.size w1.heap.size (Lib.byteCells put) _ _ (isb_keep HI.out (Below.drew HG.out)).1 (HL3.out _ rfl) (isb_keep HI.out (Below.drew HG.out)).2.size).mono ?_); rintro e w3 ⟨rfl, hb3⟩; have HW := Aside0.mk hb3; clear hb3)
              go_roundg g
              case measure => omega
              case rel => exact ⟨i + 1, put ++ [35, digC (s[i].toNat / 16), digC (s[i].toNat % 16)], by omega, by first | rfl | simp, Aside0.mk (HN.out _ HP.out), Aside0.mk ⟨.inr (by have := HW.out.1; rw [HCells.out, ← Lib.byteCells_append] at this; exact this), (isb_keep HI.out (Below.drew HG.out)).2.trans HW.out.2⟩⟩
            · have HRg : Aside0 (class_Regular.f (s[i].toNat : Int) = some false) := Aside0.mk (by rw [regular_byte]; simp [q3])
              clear hplain q1 q2 q3 hcv
              go_wp2_with (go_at_call 24; (with_reducible refine (class_Regular.calls _ false _ HRg.out).mono ?_); rintro e w2 ⟨rfl, hb2⟩; have HG := Aside0.mk hb2; clear hb2)
              go_still_tail 14, (by kernel_rfl)
              change wpList _ _ _ _ _ w2.drew
              go_wp2_with (go_at_call 25; (with_reducible refine (bu_WriteString w1.heap.size w1.heap.size (Lib.byteCells put) _ _ (isb_keep HI.out (Below.drew HG.out)).1 (HL3.out _ rfl) (isb_keep HI.out (Below.drew HG.out)).2.size).mono ?_); rintro e w3 ⟨rfl, hb3⟩; have HW := Aside0.mk hb3; clear hb3)
              go_roundg g
              case measure => omega
              case rel => exact ⟨i + 1, put ++ [35, digC (s[i].toNat / 16), digC (s[i].toNat % 16)], by omega, by first | rfl | simp, Aside0.mk (HN.out _ HP.out), Aside0.mk ⟨.inr (by have := HW.out.1; rw [HCells.out, ← Lib.byteCells_append] at this; exact this), (isb_keep HI.out (Below.drew HG.out)).2.trans HW.out.2⟩⟩

theorem name_Put.calls (s : ByteArray) (r1 : ByteArray) (r2 : Int) (w : World) (h : name_Put.f s = some (r1, r2)) :
    Calls Try.prog 11 #[.string s] w fun e w' => e = .returned (.tuple #[.string r1, .int .i64 r2]) ∧ Below w.heap.size w w' := by
  obtain ⟨h1, h2⟩ := Prod.mk.inj (Option.some.inj h)
  subst h1 h2
  by_cases h0 : checkL s.data.toList = 0
  · have hs : s.size ≤ 127 := by
      rw [Lib.size_eq]
      unfold checkL at h0
      split at h0
      · omega
      · omega
    have e : putL s.data.toList = (47 :: putAll s.data.toList, 0) := by unfold putL; rw [if_pos h0]
    rw [e]
    exact put_short s w hs h0
  · have e : putL s.data.toList = ([], checkL s.data.toList) := by unfold putL; rw [if_neg h0]
    rw [e]
    have HC : Aside0 (name_Check.f s = some (checkL s.data.toList)) := Aside0.mk rfl
    have h1 : (checkL s.data.toList != 0) = true := by simpa using h0
    generalize checkL s.data.toList = n at *
    clear h0 h e
    go_enter Try.func11, Try.ntmps11
    go_wp2_with (go_at_call 13; (with_reducible refine (name_Check.calls s n _ HC.out).mono ?_); rintro e w1 ⟨rfl, hb1⟩)
    go_ret2
    exact ⟨rfl, hb1⟩
end Go.Proofs.Ytpmenahlbfefmaa
