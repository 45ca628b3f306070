/-
  The contract of ascii.group.
-/
import Derived.Test.YtjgbnaejeeinbaaAf
namespace Go.Proofs.Ytjgbnaejeeinbaa
open Go.RowKit Go.Proofs.YtjgbnaejeeinbaaW.PrintWords Go.Proofs.YtjgbnaejeeinbaaW.PrintLast
set_option linter.unusedVariables false
set_option linter.unusedSimpArgs false

theorem zeros_src (w : World) : ∀ j v, (byteRow [0, 0, 0, 0])[j]? = some v → (w.alloc (.cells #[.int .u8 0, .int .u8 0, .int .u8 0, .int .u8 0] 5)).cell? ((⟨w.heap.size, 0, none⟩ : Addr).add j) = some v := by
  intro j v hj
  rw [add_flat, Lib.cell_of_heap (heap_alloc_new w _)]
  have e : (byteRow [0, 0, 0, 0]) = (#[.int .u8 0, .int .u8 0, .int .u8 0, .int .u8 0] : Array Value).toList := rfl
  rw [e] at hj
  simpa using hj

set_option maxRecDepth 100000 in
set_option maxHeartbeats 8000000 in
theorem group_calls (B b : Nat) (out part : List UInt8) (bud : Int) (c : UInt8) (w : World) (h : RdAt B b out part bud 0 w) (hBw : B ≤ w.heap.size) (hol : out.length ≤ 10000000) (hk : part.length ≤ 4) (hc : ∀ c ∈ part, chrOk c) :
    Calls Try.prog 22 #[.pointer (some ⟨b, 0, none⟩), .int .u8 (c.toNat : Int)] w (Left B b bud (stepG out part bud c) w) := by
  have HC := Aside0.mk hc
  have HR := Aside0.mk h
  have hBb := h.1
  clear h hc
  by_cases c1 : clsN c.toNat = 1
  · have HW : Aside0 (class_White.f (c.toNat : Int) = some true) := Aside0.mk (by rw [white_byte]; simp [c1])
    have HS : Aside0 (stepG out part bud c = ⟨3, out, part, 0⟩) := Aside0.mk (by unfold stepG; rw [if_pos c1])
    clear c1
    go_enter Try.func22, Try.ntmps22
    go_wp2_with (first | (go_at_call 25; (with_reducible refine (class_White.calls _ true _ HW.out).mono ?_); rintro e w2 ⟨rfl, hb2⟩; have HX := Aside0.mk hb2; have HRW := Aside0.mk (HR.out.below hb2); clear hb2))
    go_ret
    exact left_of HS.out rfl HRW.out (HX.out.mono hBw)
  · have HW : Aside0 (class_White.f (c.toNat : Int) = some false) := Aside0.mk (by rw [white_byte]; simp [c1])
    by_cases c2 : c = 126
    · have q2 : ((c.toNat : Int) == 126) = true := by rw [c2]; rfl
      have HS : Aside0 (stepG out part bud c = ⟨4, out, part, 0⟩) := Aside0.mk (by unfold stepG; rw [if_neg c1, if_pos c2])
      clear c1 c2
      go_enter Try.func22, Try.ntmps22
      go_wp2_with (first | (go_at_call 25; (with_reducible refine (class_White.calls _ false _ HW.out).mono ?_); rintro e w2 ⟨rfl, hb2⟩; have HX := Aside0.mk hb2; have HRW := Aside0.mk (HR.out.below hb2); clear hb2))
      go_ret
      exact left_of HS.out rfl HRW.out (HX.out.mono hBw)
    · have q2 : ((c.toNat : Int) == 126) = false := ne_byte c 126 (by decide) c2
      by_cases c3 : c = 122
      · have q3 : ((c.toNat : Int) == 122) = true := by rw [c3]; rfl
        by_cases c4 : part.length = 0
        · have q4 : ((part.length : Int) == 0) = true := by rw [c4]; rfl
          have HS : Aside0 (stepG out part bud c = putS 3 out part [0, 0, 0, 0] bud) := Aside0.mk (by unfold stepG; rw [if_neg c1, if_neg c2, if_pos ⟨c3, c4⟩])
          have HLN : Aside0 (out.length + ([0, 0, 0, 0] : List UInt8).length ≤ 100000000) := Aside0.mk (by simp; omega)
          clear c1 c2 c3 c4
          go_enter Try.func22, Try.ntmps22
          go_wp2_with (first | (go_at_call 25; (with_reducible refine (class_White.calls _ false _ HW.out).mono ?_); rintro e w2 ⟨rfl, hb2⟩; have HX := Aside0.mk hb2; have HRW := Aside0.mk (HR.out.below hb2); clear hb2; obtain ⟨_, vo, vp, hbk, ho, hp, hne⟩ := HRW.out; obtain ⟨A, cp, rfl⟩ := own_slice hp; have k2 : w2.cell? ⟨b, 2, none⟩ = some (.slice A part.length cp) := (Lib.cell_of_heap hbk 2).trans rfl; have HK := Aside0.mk hbk; have HO := Aside0.mk ho; have HP := Aside0.mk hp; have HNE := Aside0.mk hne; clear hbk ho hp hne; have HBA : Aside0 (B ≤ (w2.alloc (.cells #[.int .u8 0, .int .u8 0, .int .u8 0, .int .u8 0] 5)).heap.size) := Aside0.mk (by have := HX.out.size; simp; omega); have HSR := Aside0.mk (zeros_src w2)) | (go_at_call 29; (with_reducible refine (put_calls B b out part [0, 0, 0, 0] bud 3 (fv 22) rfl 4 rfl ⟨w2.heap.size, 0, none⟩ 4 _ (HRW.out.below ((Below.refl _ _).alloc (Nat.le_refl _) _)) HBA.out HLN.out HSR.out).mono ?_); rintro e w4 ⟨rfl, hr4, hb4⟩; have HR4 := Aside0.mk hr4; have HB4 := Aside0.mk hb4; clear hr4 hb4))
          go_ret
          exact left_of HS.out rfl HR4.out (((HX.out.mono hBw).alloc (by have := HX.out.size; omega) _).trans HB4.out)
        · have q4 : ((part.length : Int) == 0) = false := by rw [beq_eq_false_iff_ne]; omega
          have HS : Aside0 (stepG out part bud c = ⟨0, out, part, 4⟩) := Aside0.mk (by unfold stepG; rw [if_neg c1, if_neg c2, if_neg (fun h => c4 h.2), if_pos (.inr (by rw [c3]; decide))])
          have q5 : (117 : Int) < (c.toNat : Int) := by rw [c3]; decide
          clear c1 c2 c3 c4
          go_enter Try.func22, Try.ntmps22
          go_wp2_with (first | (go_at_call 25; (with_reducible refine (class_White.calls _ false _ HW.out).mono ?_); rintro e w2 ⟨rfl, hb2⟩; have HX := Aside0.mk hb2; have HRW := Aside0.mk (HR.out.below hb2); clear hb2; obtain ⟨_, vo, vp, hbk, ho, hp, hne⟩ := HRW.out; obtain ⟨A, cp, rfl⟩ := own_slice hp; have k2 : w2.cell? ⟨b, 2, none⟩ = some (.slice A part.length cp) := (Lib.cell_of_heap hbk 2).trans rfl; have HK := Aside0.mk hbk; have HO := Aside0.mk ho; have HP := Aside0.mk hp; have HNE := Aside0.mk hne; clear hbk ho hp hne) | (go_at_call 26; (with_reducible refine (fail_calls B b out part bud 0 4 _ HRW.out).mono ?_); rintro e w4 ⟨rfl, hr4, hb4⟩; have HR4 := Aside0.mk hr4; have HB4 := Aside0.mk hb4; clear hr4 hb4))
          go_ret
          exact left_of HS.out rfl HR4.out ((HX.out.mono hBw).trans HB4.out)
      · have q3 : ((c.toNat : Int) == 122) = false := ne_byte c 122 (by decide) c3
        by_cases c5 : c.toNat < 33 ∨ 117 < c.toNat
        · have HS : Aside0 (stepG out part bud c = ⟨0, out, part, 4⟩) := Aside0.mk (by unfold stepG; rw [if_neg c1, if_neg c2, if_neg (fun h => c3 h.1), if_pos c5])
          rcases c5 with c5 | c5
          · have q5 : (c.toNat : Int) < 33 := by omega
            clear c1 c2 c3 c5
            go_enter Try.func22, Try.ntmps22
            go_wp2_with (first | (go_at_call 25; (with_reducible refine (class_White.calls _ false _ HW.out).mono ?_); rintro e w2 ⟨rfl, hb2⟩; have HX := Aside0.mk hb2; have HRW := Aside0.mk (HR.out.below hb2); clear hb2) | (go_at_call 26; (with_reducible refine (fail_calls B b out part bud 0 4 _ HRW.out).mono ?_); rintro e w4 ⟨rfl, hr4, hb4⟩; have HR4 := Aside0.mk hr4; have HB4 := Aside0.mk hb4; clear hr4 hb4))
            go_ret
            exact left_of HS.out rfl HR4.out ((HX.out.mono hBw).trans HB4.out)
          · have q5 : (117 : Int) < (c.toNat : Int) := by omega
            clear c1 c2 c3 c5
            go_enter Try.func22, Try.ntmps22
            go_wp2_with (first | (go_at_call 25; (with_reducible refine (class_White.calls _ false _ HW.out).mono ?_); rintro e w2 ⟨rfl, hb2⟩; have HX := Aside0.mk hb2; have HRW := Aside0.mk (HR.out.below hb2); clear hb2) | (go_at_call 26; (with_reducible refine (fail_calls B b out part bud 0 4 _ HRW.out).mono ?_); rintro e w4 ⟨rfl, hr4, hb4⟩; have HR4 := Aside0.mk hr4; have HB4 := Aside0.mk hb4; clear hr4 hb4))
            go_ret
            exact left_of HS.out rfl HR4.out ((HX.out.mono hBw).trans HB4.out)
        · have q5 : (33 : Int) ≤ (c.toNat : Int) := by omega
          have q6 : (c.toNat : Int) ≤ 117 := by omega
          have HCC : Aside0 (∀ x ∈ part ++ [c], chrOk x) := Aside0.mk (by
            intro x hx
            rcases List.mem_append.1 hx with h | h
            · exact HC.out x h
            · rw [List.mem_singleton.1 h]; exact ⟨by omega, by omega⟩)
          by_cases c6 : part.length < 4
          · have HS : Aside0 (stepG out part bud c = ⟨3, out, part ++ [c], 0⟩) := Aside0.mk (by unfold stepG; rw [if_neg c1, if_neg c2, if_neg (fun h => c3 h.1), if_neg c5, if_pos c6])
            have q7 : (part.length : Int) + 1 < 5 := by omega
            have q8 : ((part ++ [c]).length : Int) < 5 := by simp; omega
            clear c1 c2 c3 c5
            go_enter Try.func22, Try.ntmps22
            go_wp2_with (first | (go_at_call 25; (with_reducible refine (class_White.calls _ false _ HW.out).mono ?_); rintro e w2 ⟨rfl, hb2⟩; have HX := Aside0.mk hb2; have HRW := Aside0.mk (HR.out.below hb2); clear hb2; obtain ⟨_, vo, vp, hbk, ho, hp, hne⟩ := HRW.out; obtain ⟨A, cp, rfl⟩ := own_slice hp; have k2 : w2.cell? ⟨b, 2, none⟩ = some (.slice A part.length cp) := (Lib.cell_of_heap hbk 2).trans rfl; have HK := Aside0.mk hbk; have HO := Aside0.mk ho; have HP := Aside0.mk hp; have HNE := Aside0.mk hne; clear hbk ho hp hne) | (at_builtin; refine wpList_append_bytes _ rfl _ _ rfl B (.slice A part.length cp) part [c] ⟨w2.heap.size, 0, none⟩ 1 rfl (HP.out.alloc _) rfl (one_src w2 c _ rfl) (by simp; omega) (by have := HX.out.size; simp; omega) ?_; intro v' w5 hown' hgrow hpl; obtain ⟨A', cp', rfl⟩ := own_slice hown'; have HG := Aside0.mk hgrow; have HPL := Aside0.mk hpl; have HOW := Aside0.mk hown'; have HK3 := Aside0.mk (reader_kept (reader_kept HK.out HP.out (World.grownBy_alloc w2 _ _)) (HP.out.alloc _) hgrow); clear hgrow hpl hown'; have d2 : w5.cell? ⟨b, 2, none⟩ = some (.slice A part.length cp) := (Lib.cell_of_heap HK3.out 2).trans rfl; have f2 : w5.frozen? ⟨b, 2, none⟩ = false := Lib.frozen_of_heap HK3.out 2; have HBw : Aside0 (B ≤ (w2.alloc (.cells #[.int .u8 (c.toNat : Int)] 5)).heap.size) := Aside0.mk (by have := HX.out.size; simp; omega); have HRP := Aside0.mk (RdAt.parted hBb (reader_kept HK.out HP.out (World.grownBy_alloc w2 _ _)) (HO.out.alloc _) (HP.out.alloc _) HNE.out HOW.out HG.out HPL.out); have HBP := Aside0.mk ((((HX.out.mono hBw).alloc (by have := HX.out.size; omega) _).grown HG.out HBw.out (fun k hk => (HP.out.lt k hk).1)).setCell (p := ⟨b, 2, none⟩) hBb (.slice A' (part ++ [c]).length cp')); have HRQ : Aside0 (RdAt B b out (part ++ [c]) bud 0 (w5.setCell ⟨b, 2, none⟩ (.slice A' (part.length + 1) cp'))) := Aside0.mk (by have h := HRP.out; rw [List.length_append] at h; exact h); have HBQ : Aside0 (Below B w (w5.setCell ⟨b, 2, none⟩ (.slice A' (part.length + 1) cp'))) := Aside0.mk (by have h := HBP.out; rw [List.length_append] at h; exact h)))
            go_ret
            exact left_of HS.out rfl HRQ.out HBQ.out
          · have HS : Aside0 (stepG out part bud c = flushS 3 out (part ++ [c]) bud) := Aside0.mk (by unfold stepG; rw [if_neg c1, if_neg c2, if_neg (fun h => c3 h.1), if_neg c5, if_neg c6])
            have q7 : (5 : Int) ≤ (part.length : Int) + 1 := by omega
            have q8 : (5 : Int) ≤ ((part ++ [c]).length : Int) := by simp; omega
            have hk2 : 2 ≤ (part ++ [c]).length ∧ (part ++ [c]).length ≤ 5 := by simp; omega
            clear c1 c2 c3 c5
            go_enter Try.func22, Try.ntmps22
            go_wp2_with (first | (go_at_call 25; (with_reducible refine (class_White.calls _ false _ HW.out).mono ?_); rintro e w2 ⟨rfl, hb2⟩; have HX := Aside0.mk hb2; have HRW := Aside0.mk (HR.out.below hb2); clear hb2; obtain ⟨_, vo, vp, hbk, ho, hp, hne⟩ := HRW.out; obtain ⟨A, cp, rfl⟩ := own_slice hp; have k2 : w2.cell? ⟨b, 2, none⟩ = some (.slice A part.length cp) := (Lib.cell_of_heap hbk 2).trans rfl; have HK := Aside0.mk hbk; have HO := Aside0.mk ho; have HP := Aside0.mk hp; have HNE := Aside0.mk hne; clear hbk ho hp hne) | (at_builtin; refine wpList_append_bytes _ rfl _ _ rfl B (.slice A part.length cp) part [c] ⟨w2.heap.size, 0, none⟩ 1 rfl (HP.out.alloc _) rfl (one_src w2 c _ rfl) (by simp; omega) (by have := HX.out.size; simp; omega) ?_; intro v' w5 hown' hgrow hpl; obtain ⟨A', cp', rfl⟩ := own_slice hown'; have HG := Aside0.mk hgrow; have HPL := Aside0.mk hpl; have HOW := Aside0.mk hown'; have HK3 := Aside0.mk (reader_kept (reader_kept HK.out HP.out (World.grownBy_alloc w2 _ _)) (HP.out.alloc _) hgrow); clear hgrow hpl hown'; have d2 : w5.cell? ⟨b, 2, none⟩ = some (.slice A part.length cp) := (Lib.cell_of_heap HK3.out 2).trans rfl; have f2 : w5.frozen? ⟨b, 2, none⟩ = false := Lib.frozen_of_heap HK3.out 2; have HBw : Aside0 (B ≤ (w2.alloc (.cells #[.int .u8 (c.toNat : Int)] 5)).heap.size) := Aside0.mk (by have := HX.out.size; simp; omega); have HRP := Aside0.mk (RdAt.parted hBb (reader_kept HK.out HP.out (World.grownBy_alloc w2 _ _)) (HO.out.alloc _) (HP.out.alloc _) HNE.out HOW.out HG.out HPL.out); have HBP := Aside0.mk ((((HX.out.mono hBw).alloc (by have := HX.out.size; omega) _).grown HG.out HBw.out (fun k hk => (HP.out.lt k hk).1)).setCell (p := ⟨b, 2, none⟩) hBb (.slice A' (part ++ [c]).length cp')); have HRQ : Aside0 (RdAt B b out (part ++ [c]) bud 0 (w5.setCell ⟨b, 2, none⟩ (.slice A' (part.length + 1) cp'))) := Aside0.mk (by have h := HRP.out; rw [List.length_append] at h; exact h); have HBQ : Aside0 (Below B w (w5.setCell ⟨b, 2, none⟩ (.slice A' (part.length + 1) cp'))) := Aside0.mk (by have h := HBP.out; rw [List.length_append] at h; exact h); have HSZ : Aside0 (w.heap.size ≤ (w5.setCell ⟨b, 2, none⟩ (.slice A' (part.length + 1) cp')).heap.size) := Aside0.mk HBQ.out.size) | (go_at_call 30; (with_reducible refine (flush_calls B b out (part ++ [c]) bud 3 (fv 22) rfl _ HRQ.out (Nat.le_trans hBw HSZ.out) hol hk2 HCC.out).mono ?_); rintro e w6 ⟨rfl, hr4, hb4⟩; have HR4 := Aside0.mk hr4; have HB4 := Aside0.mk hb4; clear hr4 hb4))
            go_ret
            exact left_of HS.out rfl HR4.out (HBQ.out.trans HB4.out)
end Go.Proofs.Ytjgbnaejeeinbaa
