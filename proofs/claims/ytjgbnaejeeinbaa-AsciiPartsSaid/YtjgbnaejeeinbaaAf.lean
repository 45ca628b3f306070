/-
  The contracts of the reader's flush, of ascii.group, of ascii.end: a step of the machine that reads by eighty-five.
-/
import Derived.Test.YtjgbnaejeeinbaaAb
namespace Go.Proofs.Ytjgbnaejeeinbaa
open Go.RowKit Go.Proofs.YtjgbnaejeeinbaaW.PrintWords Go.Proofs.YtjgbnaejeeinbaaW.PrintLast
set_option linter.unusedVariables false
set_option linter.unusedSimpArgs false

theorem held_cells {B : Nat} {l : List UInt8} {vp : Value} {w : World} (h : w.ownsRow B 5 1 vp l.length (byteRow l)) (h0 : 0 < l.length) : ∃ g cp, vp = .slice (some ⟨g, 0, none⟩) l.length cp ∧ ∀ j (hj : j < l.length), w.cell? ⟨g, j, none⟩ = some (.int .u8 (l[j].toNat : Int)) := by
  obtain ⟨g, cap, hv, _⟩ := h.form h0
  refine ⟨g, cap, hv, fun j hj => ?_⟩
  have := h.cells (g := g) (by rw [hv]; rfl) j (.int .u8 (l[j].toNat : Int)) (by simp [byteRow, hj])
  rw [add_flat] at this
  exact this
theorem bytes_calls (B : Nat) (part : List UInt8) (hk : 2 ≤ part.length ∧ part.length ≤ 5) (hc : ∀ c ∈ part, chrOk c) (vp : Value) (w : World) (hp : w.ownsRow B 5 1 vp part.length (byteRow part)) (bo : Bool) (hbo : decide (numP part < 4294967296) = bo) :
    Calls Try.prog 34 #[vp] w fun e w' => e = .returned (.tuple #[.slice (some ⟨w.heap.size, 0, none⟩) (part.length - 1) 4, .bool bo]) ∧ w' = w.alloc (.cells (byteRow (byt4 (numP part))).toArray 40) := by
  subst hbo
  obtain ⟨g, cp, rfl, hcell⟩ := held_cells hp (by omega)
  match part, hk, hc, hcell with
  | [x0, x1], _, hc, hcell => exact bytes_2 x0 x1 g cp w (hc _ (by simp)) (hc _ (by simp)) (hcell 0 (by simp)) (hcell 1 (by simp))
  | [x0, x1, x2], _, hc, hcell => exact bytes_3 x0 x1 x2 g cp w (hc _ (by simp)) (hc _ (by simp)) (hc _ (by simp)) (hcell 0 (by simp)) (hcell 1 (by simp)) (hcell 2 (by simp))
  | [x0, x1, x2, x3], _, hc, hcell => exact bytes_4 x0 x1 x2 x3 g cp w (hc _ (by simp)) (hc _ (by simp)) (hc _ (by simp)) (hc _ (by simp)) (hcell 0 (by simp)) (hcell 1 (by simp)) (hcell 2 (by simp)) (hcell 3 (by simp))
  | [x0, x1, x2, x3, x4], _, hc, hcell => exact bytes_5 x0 x1 x2 x3 x4 g cp w (hc _ (by simp)) (hc _ (by simp)) (hc _ (by simp)) (hc _ (by simp)) (hc _ (by simp)) (hcell 0 (by simp)) (hcell 1 (by simp)) (hcell 2 (by simp)) (hcell 3 (by simp)) (hcell 4 (by simp))
  | [], hk, _, _ => exact absurd hk.1 (by simp)
  | [x0], hk, _, _ => exact absurd hk.1 (by simp)
  | x0 :: x1 :: x2 :: x3 :: x4 :: x5 :: t, hk, _, _ => exact absurd hk.2 (by simp)
def flushS (nm : Nat) (out part : List UInt8) (bud : Int) : St := if numP part < 4294967296 then putS nm out [] ((byt4 (numP part)).take (part.length - 1)) bud else ⟨0, out, part, 4⟩
theorem four_src (W : World) (n k : Nat) : ∀ j u, (byteRow ((byt4 n).take k))[j]? = some u → (W.alloc (.cells (byteRow (byt4 n)).toArray 40)).cell? ((⟨W.heap.size, 0, none⟩ : Addr).add j) = some u := by
  intro j u hj
  rw [add_flat, Lib.cell_of_heap (heap_alloc_new W _)]
  have e : byteRow ((byt4 n).take k) = (byteRow (byt4 n)).take k := by unfold byteRow; rw [List.map_take]
  rw [e, List.getElem?_take] at hj
  split at hj
  · simpa using hj
  · cases hj
theorem size_setCell (w : World) (a : Addr) (u : Value) : (w.setCell a u).heap.size = w.heap.size := by simp [World.setCell]
theorem RdAt.emptied {B b : Nat} {out part : List UInt8} {bud e : Int} {w : World} {vo : Value} {A : Option Addr} {cp : Nat} (hB : B ≤ b) (hbk : w.heap[b]? = some (.cells #[vo, .int .i64 bud, .slice A part.length cp, .int .i64 e] 54 (0, 0)))
    (ho : w.ownsRow B 5 1 vo out.length (byteRow out)) (hp : w.ownsRow B 5 1 (.slice A part.length cp) part.length (byteRow part)) (hne : vo.ownBlock = none ∨ vo.ownBlock ≠ (Value.slice A part.length cp).ownBlock) : RdAt B b out [] bud e (w.setCell ⟨b, 2, none⟩ (.slice A 0 cp)) :=
  RdAt.parted hB hbk ho hp hne (part' := []) (own_cut hp) ⟨rfl, rfl, rfl, Nat.le_refl _, fun _ _ _ => rfl⟩ (.inl (ownBlock_cut _ _ _))

set_option maxRecDepth 100000 in
set_option maxHeartbeats 4000000 in
theorem flush_calls (B b : Nat) (out part : List UInt8) (bud : Int) (nm : Nat) (nx : Value) (hnx : nx = modeV nm) (w : World) (h : RdAt B b out part bud 0 w) (hBw : B ≤ w.heap.size) (hol : out.length ≤ 10000000) (hk : 2 ≤ part.length ∧ part.length ≤ 5) (hc : ∀ c ∈ part, chrOk c) :
    Calls Try.prog 30 #[.pointer (some ⟨b, 0, none⟩), nx] w (Left B b bud (flushS nm out part bud) w) := by
  have HNX := Aside0.mk hnx
  have HC := Aside0.mk hc
  clear hnx hc
  have hBb := h.1
  have hlt := h.lt
  have HR := Aside0.mk h
  obtain ⟨_, vo, vp, hbk, ho, hp, hne⟩ := h
  obtain ⟨A, cp, rfl⟩ := own_slice hp
  have k2 : w.cell? ⟨b, 2, none⟩ = some (.slice A part.length cp) := (Lib.cell_of_heap hbk 2).trans rfl
  have f2 : w.frozen? ⟨b, 2, none⟩ = false := Lib.frozen_of_heap hbk 2
  have HK := Aside0.mk hbk
  have HO := Aside0.mk ho
  have HP := Aside0.mk hp
  have HNE := Aside0.mk hne
  clear hbk ho hp hne
  have hk1 := hk.1
  by_cases hn : numP part < 4294967296
  · have HS : Aside0 (flushS nm out part bud = putS nm out [] ((byt4 (numP part)).take (part.length - 1)) bud) := Aside0.mk (by unfold flushS; rw [if_pos hn])
    have HBO : Aside0 (decide (numP part < 4294967296) = true) := Aside0.mk (decide_eq_true hn)
    clear hn
    have HRD : Aside0 (RdAt B b out [] bud 0 ((w.setCell ⟨b, 2, none⟩ (.slice A 0 cp)).alloc (.cells (byteRow (byt4 (numP part))).toArray 40))) := Aside0.mk ((RdAt.emptied hBb HK.out HO.out HP.out HNE.out).below ((Below.refl _ _).alloc (Nat.le_refl _) _))
    have HSR : Aside0 (∀ j u, (byteRow ((byt4 (numP part)).take (part.length - 1)))[j]? = some u → ((w.setCell ⟨b, 2, none⟩ (.slice A 0 cp)).alloc (.cells (byteRow (byt4 (numP part))).toArray 40)).cell? ((⟨w.heap.size, 0, none⟩ : Addr).add j) = some u) := Aside0.mk (by
      have := four_src (w.setCell ⟨b, 2, none⟩ (.slice A 0 cp)) (numP part) (part.length - 1)
      rw [size_setCell] at this
      exact this)
    have HLN : Aside0 (part.length - 1 = ((byt4 (numP part)).take (part.length - 1)).length) := Aside0.mk (by rw [List.length_take]; simp [byt4]; omega)
    have HLM : Aside0 (out.length + ((byt4 (numP part)).take (part.length - 1)).length ≤ 100000000) := Aside0.mk (by rw [List.length_take]; simp [byt4]; omega)
    have HBA : Aside0 (B ≤ ((w.setCell ⟨b, 2, none⟩ (.slice A 0 cp)).alloc (.cells (byteRow (byt4 (numP part))).toArray 40)).heap.size) := Aside0.mk (by simp [size_setCell]; omega)
    go_enter Try.func30, Try.ntmps30
    go_wp2_with (first
      | (go_at_call 34; (with_reducible refine (bytes_calls B part hk HC.out _ _ HP.out true HBO.out).mono ?_); rintro e w1 ⟨rfl, rfl⟩)
      | (go_at_call 29; (with_reducible refine (put_calls B b out [] ((byt4 (numP part)).take (part.length - 1)) bud nm nx HNX.out (part.length - 1) HLN.out ⟨w.heap.size, 0, none⟩ 4 _ HRD.out HBA.out HLM.out HSR.out).mono ?_); rintro e w4 ⟨rfl, hr4, hb4⟩; have HR4 := Aside0.mk hr4; have HB4 := Aside0.mk hb4; clear hr4 hb4))
    go_ret
    exact left_of HS.out rfl HR4.out ((((Below.refl B w).setCell (p := ⟨b, 2, none⟩) hBb _).alloc (by rw [size_setCell]; exact hBw) _).trans HB4.out)
  · have HS : Aside0 (flushS nm out part bud = ⟨0, out, part, 4⟩) := Aside0.mk (by unfold flushS; rw [if_neg hn])
    have HBO : Aside0 (decide (numP part < 4294967296) = false) := Aside0.mk (decide_eq_false hn)
    clear hn
    go_enter Try.func30, Try.ntmps30
    go_wp2_with (first
      | (go_at_call 34; (with_reducible refine (bytes_calls B part hk HC.out _ _ HP.out false HBO.out).mono ?_); rintro e w1 ⟨rfl, rfl⟩)
      | (go_at_call 26; (with_reducible refine (fail_calls B b out part bud 0 4 _ (HR.out.below ((Below.refl _ _).alloc (Nat.le_refl _) _))).mono ?_); rintro e w4 ⟨rfl, hr4, hb4⟩; have HR4 := Aside0.mk hr4; have HB4 := Aside0.mk hb4; clear hr4 hb4))
    go_ret
    exact left_of HS.out rfl HR4.out (((Below.refl B w).alloc hBw _).trans HB4.out)

/-- A step of group, of end. -/
def stepG (out part : List UInt8) (bud : Int) (c : UInt8) : St :=
  if clsN c.toNat = 1 then ⟨3, out, part, 0⟩ else if c = 126 then ⟨4, out, part, 0⟩ else if c = 122 ∧ part.length = 0 then putS 3 out part [0, 0, 0, 0] bud
  else if c.toNat < 33 ∨ 117 < c.toNat then ⟨0, out, part, 4⟩ else if part.length < 4 then ⟨3, out, part ++ [c], 0⟩ else flushS 3 out (part ++ [c]) bud
def stepN (out part : List UInt8) (bud : Int) (c : UInt8) : St :=
  if c ≠ 62 ∨ part.length = 1 then ⟨0, out, part, 4⟩ else if part.length = 0 then ⟨0, out, part, 0⟩ else flushS 0 out part bud
theorem ne_byte (c : UInt8) (n : Nat) (hn : n < 256) (h : c ≠ UInt8.ofNat n) : ((c.toNat : Int) == (n : Int)) = false := by
  rw [beq_eq_false_iff_ne]
  intro e
  exact h ((byte_eq c n hn).2 (by omega))

set_option maxRecDepth 100000 in
set_option maxHeartbeats 4000000 in
theorem end_calls (B b : Nat) (out part : List UInt8) (bud : Int) (c : UInt8) (w : World) (h : RdAt B b out part bud 0 w) (hBw : B ≤ w.heap.size) (hol : out.length ≤ 10000000) (hk : part.length ≤ 4) (hc : ∀ c ∈ part, chrOk c) :
    Calls Try.prog 28 #[.pointer (some ⟨b, 0, none⟩), .int .u8 (c.toNat : Int)] w (Left B b bud (stepN out part bud c) w) := by
  have HC := Aside0.mk hc
  have HRW := Aside0.mk h
  have hBb := h.1
  obtain ⟨_, vo, vp, hbk, ho, hp, hne⟩ := h
  obtain ⟨A, cp, rfl⟩ := own_slice hp
  have k2 : w.cell? ⟨b, 2, none⟩ = some (.slice A part.length cp) := (Lib.cell_of_heap hbk 2).trans rfl
  clear hbk ho hp hne hc
  by_cases c1 : c = 62
  · have q1 : ((c.toNat : Int) != 62) = false := by rw [c1]; rfl
    by_cases c2 : part.length = 1
    · have q2 : ((part.length : Int) == 1) = true := by rw [c2]; rfl
      have HS : Aside0 (stepN out part bud c = ⟨0, out, part, 4⟩) := Aside0.mk (by unfold stepN; rw [if_pos (.inr c2)])
      clear c1 c2
      go_enter Try.func28, Try.ntmps28
      go_wp2_with (first | (go_at_call 26; (with_reducible refine (fail_calls B b out part bud 0 4 _ HRW.out).mono ?_); rintro e w4 ⟨rfl, hr4, hb4⟩; have HR4 := Aside0.mk hr4; have HB4 := Aside0.mk hb4; clear hr4 hb4))
      go_ret
      exact left_of HS.out rfl HR4.out HB4.out
    · have q2 : ((part.length : Int) == 1) = false := by rw [beq_eq_false_iff_ne]; omega
      by_cases c3 : part.length = 0
      · have q3 : ((part.length : Int) == 0) = true := by rw [c3]; rfl
        have HS : Aside0 (stepN out part bud c = ⟨0, out, part, 0⟩) := Aside0.mk (by unfold stepN; rw [if_neg (by rintro (h | h); exact h c1; exact c2 h), if_pos c3])
        clear c1 c2 c3
        go_enter Try.func28, Try.ntmps28
        go_wp2_with fail
        go_ret
        exact left_of HS.out rfl HRW.out (Below.refl _ _)
      · have q3 : ((part.length : Int) == 0) = false := by rw [beq_eq_false_iff_ne]; omega
        have HS : Aside0 (stepN out part bud c = flushS 0 out part bud) := Aside0.mk (by unfold stepN; rw [if_neg (by rintro (h | h); exact h c1; exact c2 h), if_neg c3])
        have hk2 : 2 ≤ part.length ∧ part.length ≤ 5 := ⟨by omega, by omega⟩
        clear c1 c2 c3
        go_enter Try.func28, Try.ntmps28
        go_wp2_with (first | (go_at_call 30; (with_reducible refine (flush_calls B b out part bud 0 .nilFunc rfl _ HRW.out hBw hol hk2 HC.out).mono ?_); rintro e w4 ⟨rfl, hr4, hb4⟩; have HR4 := Aside0.mk hr4; have HB4 := Aside0.mk hb4; clear hr4 hb4))
        go_ret
        exact left_of HS.out rfl HR4.out HB4.out
  · have q1 : ((c.toNat : Int) != 62) = true := by have := ne_byte c 62 (by decide) c1; simpa [bne] using this
    have HS : Aside0 (stepN out part bud c = ⟨0, out, part, 4⟩) := Aside0.mk (by unfold stepN; rw [if_pos (.inl c1)])
    clear c1
    go_enter Try.func28, Try.ntmps28
    go_wp2_with (first | (go_at_call 26; (with_reducible refine (fail_calls B b out part bud 0 4 _ HRW.out).mono ?_); rintro e w4 ⟨rfl, hr4, hb4⟩; have HR4 := Aside0.mk hr4; have HB4 := Aside0.mk hb4; clear hr4 hb4))
    go_ret
    exact left_of HS.out rfl HR4.out HB4.out
end Go.Proofs.Ytjgbnaejeeinbaa
