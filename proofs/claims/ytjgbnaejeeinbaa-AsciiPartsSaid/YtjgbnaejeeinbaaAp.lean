/-
  The contract of ascii.Put85.
-/
import Derived.Test.YtjgbnaejeeinbaaAq
namespace Go.Proofs.Ytjgbnaejeeinbaa
open Go.RowKit Go.Proofs.YtjgbnaejeeinbaaW.PrintWords Go.Proofs.YtjgbnaejeeinbaaW.PrintLast
set_option linter.unusedVariables false
set_option linter.unusedSimpArgs false

theorem split85 (l : List UInt8) (h : l ≠ []) : ∃ (a b c d : UInt8) (m : Nat), Nat.min l.length 4 = m ∧ 1 ≤ m ∧ m ≤ 4 ∧ Lib.byteCells (l.take m) ++ zero4.toList.drop m = (four4 a b c d).toList ∧
    put85 l = (if m = 4 ∧ (a = 0 ∧ b = 0 ∧ c = 0 ∧ d = 0) then [122] else (chr5 (num4 a b c d)).take (m + 1)) ++ put85 (l.drop m) := by
  match l, h with
  | [a], _ => exact ⟨a, 0, 0, 0, 1, rfl, by omega, by omega, rfl, by rw [if_neg (by omega)]; simp [put85]⟩
  | [a, b], _ => exact ⟨a, b, 0, 0, 2, rfl, by omega, by omega, rfl, by rw [if_neg (by omega)]; simp [put85]⟩
  | [a, b, c], _ => exact ⟨a, b, c, 0, 3, rfl, by omega, by omega, rfl, by rw [if_neg (by omega)]; simp [put85]⟩
  | a :: b :: c :: d :: t, _ => exact ⟨a, b, c, d, 4, by simp [Nat.min_def], by omega, by omega, rfl, by simp only [put85, true_and]; rfl⟩
theorem chr5_five (n : Nat) : ∃ e0 e1 e2 e3 e4, chr5 n = [e0, e1, e2, e3, e4] := ⟨_, _, _, _, _, rfl⟩
theorem characters_row (a b c d : UInt8) (e0 e1 e2 e3 e4 : UInt8) (he : chr5 (num4 a b c d) = [e0, e1, e2, e3, e4]) (w : World) :
    Calls Try.prog 17 #[.agg (four4 a b c d)] w fun e w' => e = .returned (.agg #[.int .u8 (e0.toNat : Int), .int .u8 (e1.toNat : Int), .int .u8 (e2.toNat : Int), .int .u8 (e3.toNat : Int), .int .u8 (e4.toNat : Int)]) ∧ Below w.heap.size w w' := by
  have h := characters_any a b c d w
  rw [he] at h
  exact h
def PutAt (s r : ByteArray) (put : List UInt8) : Prop := put85 s.data.toList = put ++ put85 r.data.toList ∧ put.length + 5 * r.size ≤ 5 * s.size
theorem putat_step {s r : ByteArray} {put x : List UInt8} {m : Nat} (h : PutAt s r put) (hx : put85 r.data.toList = x ++ put85 (r.data.toList.drop m)) (hm : m ≤ r.size) (hl : x.length ≤ 5 * m) : PutAt s (r.extract m r.size) (put ++ x) := by
  obtain ⟨h1, h2⟩ := h
  have e : (r.extract m r.size).data.toList = r.data.toList.drop m := by
    rw [ext_list, List.take_of_length_le (by rw [List.length_drop, ← Lib.size_eq]; exact Nat.le_refl _)]
  refine ⟨by rw [h1, hx, e]; simp, ?_⟩
  rw [Lib.size_eq, e, List.length_drop, ← Lib.size_eq, List.length_append]
  omega
theorem rest_size (r : ByteArray) (m : Nat) : (r.extract m r.size).size = r.size - m := by
  rw [Lib.size_eq, ext_list, List.take_of_length_le (by rw [List.length_drop, ← Lib.size_eq]; exact Nat.le_refl _), List.length_drop, ← Lib.size_eq]
theorem rest_list (r : ByteArray) (m : Nat) : (r.extract m r.size).data.toList = r.data.toList.drop m := by
  rw [ext_list, List.take_of_length_le (by rw [List.length_drop, ← Lib.size_eq]; exact Nat.le_refl _)]

theorem blt {T e : TypeId} {B b : Nat} {bs : List Value} {w : World} (h : Lib.IsBuilder T e B b bs w) : b < w.heap.size := by
  rcases h with h | h
  · exact h.lt
  · exact h.lt
theorem five_slice (g m : Nat) (hm : m ≤ 4) (W : World) : (Instr.sliceAt 41 (.pointer (some ⟨g, 0, none⟩)) none (some (.int .i64 ((m : Int) + 1))) none).run Try.prog W = .ok (.slice (some ⟨g, 0, none⟩) (m + 1) 5) W := by
  obtain rfl | rfl | rfl | rfl | rfl : m = 0 ∨ m = 1 ∨ m = 2 ∨ m = 3 ∨ m = 4 := by omega
  all_goals kernel_rfl
abbrev five5 (e0 e1 e2 e3 e4 : UInt8) : Array Value := #[.int .u8 (e0.toNat : Int), .int .u8 (e1.toNat : Int), .int .u8 (e2.toNat : Int), .int .u8 (e3.toNat : Int), .int .u8 (e4.toNat : Int)]
theorem five_src (W : World) (e0 e1 e2 e3 e4 : UInt8) (n : Nat) (hn : n ≤ 5) : ∀ j u, (Lib.byteCells ([e0, e1, e2, e3, e4].take n))[j]? = some u → (W.alloc (.cells (five5 e0 e1 e2 e3 e4) 41)).cell? ((⟨W.heap.size, 0, none⟩ : Addr).add j) = some u := by
  intro j u hj
  have hadd : (⟨W.heap.size, 0, none⟩ : Addr).add j = ⟨W.heap.size, j, none⟩ := by unfold Addr.add; split <;> simp_all
  rw [hadd, Lib.cell_of_heap (heap_alloc_new W _)]
  have e : Lib.byteCells ([e0, e1, e2, e3, e4].take n) = (five5 e0 e1 e2 e3 e4).toList.take n := by
    show List.map _ _ = _
    rw [List.map_take]; rfl
  rw [e, List.getElem?_take] at hj
  split at hj
  · simpa using hj
  · cases hj

set_option maxRecDepth 100000 in
set_option maxHeartbeats 4000000 in
theorem put85_any (s : ByteArray) (w : World) (hs : s.size ≤ 1000000) :
    Calls Try.prog 10 #[.string s] w fun e w' => e = .returned (.string ⟨(put85 s.data.toList ++ [126, 62]).toArray⟩) ∧ Below w.heap.size w w' := by
  have HF : Aside0 (Lib.IsBuilder 35 5 w.heap.size w.heap.size (Lib.byteCells []) (w.alloc (.cells #[.pointer none, .slice none 0 0] 35))) := Aside0.mk (Lib.fresh_isBuilder 35 5 w)
  go_enter Try.func10, Try.ntmps10
  go_wp2_with fail
  go_loopg [0] s.size (fun g s0 wx => ∃ (r : ByteArray) (put : List UInt8), r.size = g ∧ s0 = .string r ∧ Aside0 (PutAt s r put) ∧ Aside0 (Lib.IsBuilder 35 5 w.heap.size w.heap.size (Lib.byteCells put) wx ∧ Below w.heap.size w wx))
  case atStart => exact ⟨s, [], rfl, rfl, Aside0.mk ⟨by simp, by simp⟩, Aside0.mk ⟨HF.out, (Below.refl w.heap.size w).alloc (Nat.le_refl _) _⟩⟩
  case round =>
    obtain ⟨r, put, hrg, rfl, HA, HI⟩ := hrel
    have hle : r.size ≤ s.size := by have := HA.out.2; omega
    have HL : Aside0 (put.length ≤ 5000000) := Aside0.mk (by have := HA.out.2; omega)
    subst hrg
    by_cases hz : r.size = 0
    · have hz' : ¬ ((0 : Int) < (r.size : Int)) := by omega
      have hput : Aside0 (put85 s.data.toList = put) := by
        have := HA.out.1
        have hnil : r.data.toList = [] := List.eq_nil_of_length_eq_zero (by rw [← Lib.size_eq]; exact hz)
        rw [hnil] at this
        exact Aside0.mk (by simpa [put85] using this)
      have hsz : (9223372036854775807 < (⟨put.toArray⟩ : ByteArray).size + 2) = False := eq_false (by rw [size_mk]; have := HL.out; omega)
      have hsz2 : (9223372036854775807 < put.length + 2) = False := eq_false (by have := HL.out; omega)
      clear hz
      go_wp2_with (go_at_call 16; (with_reducible refine (Try.Builder_String_any w.heap.size w.heap.size put _ HI.out.1 HI.out.2.size).mono ?_); rintro e w3 ⟨rfl, hs2⟩; have HS2 := Aside0.mk hs2; clear hs2)
      go_ret
      exact ⟨ret_str (by rw [hput.out]; rfl), HI.out.2.trans HS2.out⟩
    · have hz' : (0 : Int) < (r.size : Int) := by omega
      have hne : r.data.toList ≠ [] := by intro e; rw [Lib.size_eq, e] at hz; exact hz rfl
      obtain ⟨a, b, c, d, m, hm, hm1, hm4, hcells, hsplit⟩ := split85 _ hne
      rw [← Lib.size_eq] at hm
      have hmr : m ≤ r.size := by rw [← hm]; exact Nat.min_le_left _ _
      have hcp := fun W ty => copy_four W r a b c d m ty hm hcells
      have HS := Aside0.mk hsplit
      clear hsplit hcells hne hm hz
      obtain ⟨e0, e1, e2, e3, e4, he⟩ := chr5_five (num4 a b c d)
      have HE := Aside0.mk he
      clear he
      have hfe := four_eql a b c d
      have hmr' : (m : Int) ≤ (r.size : Int) := by omega
      have hm4' : (m : Int) + 1 ≤ 5 := by omega
      have hsl := fun g => five_slice g m hm4
      have hmd : (m + 1 : Nat) ≤ 5 := by omega
      have HCl : Aside0 ((Lib.byteCells ([e0, e1, e2, e3, e4].take (m + 1))).length = m + 1) := Aside0.mk (by rw [cells_len, List.length_take]; simp; omega)
      have HLn : Aside0 ((Lib.byteCells put).length + (m + 1) ≤ 140737488355328) := Aside0.mk (by rw [cells_len]; have := HL.out; omega)
      have HL1 : Aside0 ((Lib.byteCells put).length + 1 ≤ 140737488355328) := Aside0.mk (by rw [cells_len]; have := HL.out; omega)
      by_cases h4 : m = 4
      · have q4 : ((m : Int) == 4) = true := by rw [h4]; rfl
        by_cases hzz : a = 0 ∧ b = 0 ∧ c = 0 ∧ d = 0
        · have HX : Aside0 (put85 r.data.toList = [122] ++ put85 (r.data.toList.drop m)) := Aside0.mk (by rw [HS.out, if_pos ⟨h4, hzz⟩])
          have hfe' : ∀ W : World, (Op.equalIn 10000 40 (.agg (four4 a b c d)) (.agg zero4)).run Try.prog W = .ok true W := by
            intro W
            rw [hfe W]
            obtain ⟨rfl, rfl, rfl, rfl⟩ := hzz
            rfl
          clear h4 hzz hfe
          go_wp2_with (first
            | (go_at_call 17; (with_reducible refine (characters_row a b c d e0 e1 e2 e3 e4 HE.out _).mono ?_); rintro e w2 ⟨rfl, hb2⟩; have HB2 := Aside0.mk hb2; clear hb2; have kb := (HB2.out.block wr.heap.size (by simp)).trans (heap_alloc_new wr _); have k0 : w2.cell? ⟨wr.heap.size, 0, none⟩ = some (.int .u8 (a.toNat : Int)) := (Lib.cell_of_heap kb 0).trans rfl; have k1 : w2.cell? ⟨wr.heap.size, 1, none⟩ = some (.int .u8 (b.toNat : Int)) := (Lib.cell_of_heap kb 1).trans rfl; have k2 : w2.cell? ⟨wr.heap.size, 2, none⟩ = some (.int .u8 (c.toNat : Int)) := (Lib.cell_of_heap kb 2).trans rfl; have k3 : w2.cell? ⟨wr.heap.size, 3, none⟩ = some (.int .u8 (d.toNat : Int)) := (Lib.cell_of_heap kb 3).trans rfl; clear kb; have kz : wr.heap.size < w2.heap.size := (by have := HB2.out.size; simp at this; omega); have HB3 : Aside0 (Below wr.heap.size wr (w2.alloc (.cells (five5 e0 e1 e2 e3 e4) 41))) := Aside0.mk ((((Below.refl _ _).alloc (Nat.le_refl _) _).trans (HB2.out.mono (by simp))).alloc (by have := HB2.out.size; simp at this; omega) _); have HKB := Aside0.mk (isb_keep HI.out HB3.out); have HNB : Aside0 ((⟨w2.heap.size, 0, none⟩ : Addr).block ≠ w.heap.size) := Aside0.mk (by have := HB2.out.size; have := blt HI.out.1; simp at *; omega); have HLB : Aside0 ((⟨w2.heap.size, 0, none⟩ : Addr).block < (w2.alloc (.cells (five5 e0 e1 e2 e3 e4) 41)).heap.size) := Aside0.mk (by simp); have HSR := Aside0.mk (five_src w2 e0 e1 e2 e3 e4 (m + 1) hmd))
            | (go_at_call 15; (with_reducible refine (bu_WriteByte w.heap.size w.heap.size (Lib.byteCells put) 122 _ HKB.out.1 HL1.out HKB.out.2.size).mono ?_); rintro e w5 ⟨rfl, hb5⟩; have HW := Aside0.mk (isb_snoc 122 hb5); clear hb5)
            | (at_builtin; refine Lib.wpList_copy_run _ rfl _ _ 26 9 rfl _ _ rfl rfl (hcp _ _) ?_))
          go_roundg (r.size - m)
          case measure => omega
          case rel => exact ⟨r.extract m r.size, put ++ [122], rest_size r m, rfl, Aside0.mk (putat_step HA.out HX.out hmr (by simp; omega)), Aside0.mk ⟨HW.out.1, HKB.out.2.trans HW.out.2⟩⟩
        · have HX : Aside0 (put85 r.data.toList = [e0, e1, e2, e3, e4].take (m + 1) ++ put85 (r.data.toList.drop m)) := Aside0.mk (by rw [HS.out, if_neg (fun h => hzz h.2), HE.out])
          have hfe' : ∀ W : World, (Op.equalIn 10000 40 (.agg (four4 a b c d)) (.agg zero4)).run Try.prog W = .ok false W := by
            intro W
            rw [hfe W]
            congr 1
            have z : ∀ x : UInt8, ((x.toNat : Int) == 0) = decide (x = 0) := by
              intro x
              rw [Bool.eq_iff_iff, beq_iff_eq, decide_eq_true_iff]
              constructor
              · intro h; apply UInt8.toNat_inj.1; have : (0 : UInt8).toNat = 0 := rfl; omega
              · rintro rfl; rfl
            rw [z, z, z, z]
            simp only [Bool.and_eq_false_iff, decide_eq_false_iff_not]
            by_cases h0 : a = 0
            · by_cases h1 : b = 0
              · by_cases h2 : c = 0
                · exact .inr (.inr (fun h3 => hzz ⟨h0, h1, h2, h3⟩))
                · exact .inr (.inl h2)
              · exact .inl (.inr h1)
            · exact .inl (.inl h0)
          clear h4 hzz hfe
          go_wp2_with (first
            | (go_at_call 17; (with_reducible refine (characters_row a b c d e0 e1 e2 e3 e4 HE.out _).mono ?_); rintro e w2 ⟨rfl, hb2⟩; have HB2 := Aside0.mk hb2; clear hb2; have kb := (HB2.out.block wr.heap.size (by simp)).trans (heap_alloc_new wr _); have k0 : w2.cell? ⟨wr.heap.size, 0, none⟩ = some (.int .u8 (a.toNat : Int)) := (Lib.cell_of_heap kb 0).trans rfl; have k1 : w2.cell? ⟨wr.heap.size, 1, none⟩ = some (.int .u8 (b.toNat : Int)) := (Lib.cell_of_heap kb 1).trans rfl; have k2 : w2.cell? ⟨wr.heap.size, 2, none⟩ = some (.int .u8 (c.toNat : Int)) := (Lib.cell_of_heap kb 2).trans rfl; have k3 : w2.cell? ⟨wr.heap.size, 3, none⟩ = some (.int .u8 (d.toNat : Int)) := (Lib.cell_of_heap kb 3).trans rfl; clear kb; have kz : wr.heap.size < w2.heap.size := (by have := HB2.out.size; simp at this; omega); have HB3 : Aside0 (Below wr.heap.size wr (w2.alloc (.cells (five5 e0 e1 e2 e3 e4) 41))) := Aside0.mk ((((Below.refl _ _).alloc (Nat.le_refl _) _).trans (HB2.out.mono (by simp))).alloc (by have := HB2.out.size; simp at this; omega) _); have HKB := Aside0.mk (isb_keep HI.out HB3.out); have HNB : Aside0 ((⟨w2.heap.size, 0, none⟩ : Addr).block ≠ w.heap.size) := Aside0.mk (by have := HB2.out.size; have := blt HI.out.1; simp at *; omega); have HLB : Aside0 ((⟨w2.heap.size, 0, none⟩ : Addr).block < (w2.alloc (.cells (five5 e0 e1 e2 e3 e4) 41)).heap.size) := Aside0.mk (by simp); have HSR := Aside0.mk (five_src w2 e0 e1 e2 e3 e4 (m + 1) hmd))
            | (go_at_call 18; (with_reducible refine (bu_Write w.heap.size w.heap.size (Lib.byteCells put) (Lib.byteCells ([e0, e1, e2, e3, e4].take (m + 1))) ⟨w2.heap.size, 0, none⟩ (m + 1) 5 _ HKB.out.1 HCl.out HNB.out HLB.out HSR.out (Lib.byteCells_one _) HLn.out HKB.out.2.size).mono ?_); rintro e w5 ⟨rfl, hb5⟩; have HW := Aside0.mk hb5; clear hb5)
            | (at_builtin; refine Lib.wpList_copy_run _ rfl _ _ 26 9 rfl _ _ rfl rfl (hcp _ _) ?_))
          go_roundg (r.size - m)
          case measure => omega
          case rel => exact ⟨r.extract m r.size, put ++ [e0, e1, e2, e3, e4].take (m + 1), rest_size r m, rfl, Aside0.mk (putat_step HA.out HX.out hmr (by rw [List.length_take]; simp; omega)), Aside0.mk ⟨.inr (by rw [Lib.byteCells_append]; exact HW.out.1), HKB.out.2.trans HW.out.2⟩⟩
      · have q4 : ((m : Int) == 4) = false := by rw [beq_eq_false_iff_ne]; omega
        have HX : Aside0 (put85 r.data.toList = [e0, e1, e2, e3, e4].take (m + 1) ++ put85 (r.data.toList.drop m)) := Aside0.mk (by rw [HS.out, if_neg (fun h => h4 h.1), HE.out])
        clear h4 hfe
        go_wp2_with (first
          | (go_at_call 17; (with_reducible refine (characters_row a b c d e0 e1 e2 e3 e4 HE.out _).mono ?_); rintro e w2 ⟨rfl, hb2⟩; have HB2 := Aside0.mk hb2; clear hb2; have HB3 : Aside0 (Below wr.heap.size wr (w2.alloc (.cells (five5 e0 e1 e2 e3 e4) 41))) := Aside0.mk ((((Below.refl _ _).alloc (Nat.le_refl _) _).trans (HB2.out.mono (by simp))).alloc (by have := HB2.out.size; simp at this; omega) _); have HKB := Aside0.mk (isb_keep HI.out HB3.out); have HNB : Aside0 ((⟨w2.heap.size, 0, none⟩ : Addr).block ≠ w.heap.size) := Aside0.mk (by have := HB2.out.size; have := blt HI.out.1; simp at *; omega); have HLB : Aside0 ((⟨w2.heap.size, 0, none⟩ : Addr).block < (w2.alloc (.cells (five5 e0 e1 e2 e3 e4) 41)).heap.size) := Aside0.mk (by simp); have HSR := Aside0.mk (five_src w2 e0 e1 e2 e3 e4 (m + 1) hmd))
          | (go_at_call 18; (with_reducible refine (bu_Write w.heap.size w.heap.size (Lib.byteCells put) (Lib.byteCells ([e0, e1, e2, e3, e4].take (m + 1))) ⟨w2.heap.size, 0, none⟩ (m + 1) 5 _ HKB.out.1 HCl.out HNB.out HLB.out HSR.out (Lib.byteCells_one _) HLn.out HKB.out.2.size).mono ?_); rintro e w5 ⟨rfl, hb5⟩; have HW := Aside0.mk hb5; clear hb5)
          | (at_builtin; refine Lib.wpList_copy_run _ rfl _ _ 26 9 rfl _ _ rfl rfl (hcp _ _) ?_))
        go_roundg (r.size - m)
        case measure => omega
        case rel => exact ⟨r.extract m r.size, put ++ [e0, e1, e2, e3, e4].take (m + 1), rest_size r m, rfl, Aside0.mk (putat_step HA.out HX.out hmr (by rw [List.length_take]; simp; omega)), Aside0.mk ⟨.inr (by rw [Lib.byteCells_append]; exact HW.out.1), HKB.out.2.trans HW.out.2⟩⟩

def ascii_Put85.f (s : ByteArray) : Option ByteArray := if s.size ≤ 1000000 then some ⟨(put85 s.data.toList ++ [126, 62]).toArray⟩ else none
theorem ascii_Put85.calls (s r : ByteArray) (w : World) (h : ascii_Put85.f s = some r) :
    Calls Try.prog 10 #[.string s] w fun e w' => e = .returned (.string r) ∧ Below w.heap.size w w' := by
  unfold ascii_Put85.f at h
  split at h
  case isFalse => cases h
  case isTrue hs =>
  obtain rfl := Option.some.inj h
  exact put85_any s w hs
end Go.Proofs.Ytjgbnaejeeinbaa
