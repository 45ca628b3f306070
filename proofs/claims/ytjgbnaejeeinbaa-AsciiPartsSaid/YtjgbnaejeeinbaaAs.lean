/-
  The contracts of ascii.digit and ascii.second: a step of the machine that reads by sixteen.
-/
import Derived.Test.YtjgbnaejeeinbaaAr
import Derived.Test.YtjgbnaejeeinbaaHXx1
namespace Go.Proofs.Ytjgbnaejeeinbaa
open Go.RowKit Go.Proofs.Ytjgbnaejeeinbaa.HX Go.Proofs.YtjgbnaejeeinbaaW.PrintWords Go.Proofs.YtjgbnaejeeinbaaW.PrintLast
set_option linter.unusedVariables false
set_option linter.unusedSimpArgs false

/-- A hexadecimal digit's value. -/
def hexv (c : UInt8) : Int := if 48 ≤ c.toNat ∧ c.toNat ≤ 57 then (c.toNat : Int) - 48 else if 65 ≤ c.toNat ∧ c.toNat ≤ 70 then (c.toNat : Int) - 55 else if 97 ≤ c.toNat ∧ c.toNat ≤ 102 then (c.toNat : Int) - 87 else -1
theorem hexv_range (c : UInt8) : -1 ≤ hexv c ∧ hexv c ≤ 15 := by unfold hexv; split <;> (try split) <;> (try split) <;> omega
theorem hex_all : ∀ n : Fin 256, class_Hex.f 1 (n.val : Int) = some (hexv (UInt8.ofNat n.val)) := by decide +kernel
theorem hex_byte (c : UInt8) : class_Hex.f 1 (c.toNat : Int) = some (hexv c) := by
  have h := hex_all ⟨c.toNat, c.toNat_lt⟩
  simpa using h
theorem white_byte (c : UInt8) : class_White.f (c.toNat : Int) = some (clsN c.toNat == 1) := by
  unfold class_White.f; rw [if_pos (byte_lt c)]; simp

/-- The states' values: 0 none, 1 digit, 2 second, 3 group, 4 end. -/
abbrev fv (n : Nat) : Value := .func (.func n) #[] #[]
def modeV : Nat → Value
  | 1 => fv 21
  | 2 => fv 27
  | 3 => fv 22
  | 4 => fv 28
  | _ => .nilFunc
/-- A machine's state: the mode, what is put, what is held, the error. -/
structure St where
  mode : Nat
  out : List UInt8
  part : List UInt8
  e : Int
def putS (nx : Nat) (out part l : List UInt8) (bud : Int) : St := if bud < ((out.length + l.length : Nat) : Int) then ⟨0, out, part, 3⟩ else ⟨nx, out ++ l, part, 0⟩
def stepD (out part : List UInt8) (bud : Int) (c : UInt8) : St :=
  if clsN c.toNat = 1 then ⟨1, out, part, 0⟩ else if c = 62 then ⟨0, out, part, 0⟩ else if hexv c < 0 then ⟨0, out, part, 4⟩ else ⟨2, out, [UInt8.ofNat (hexv c).toNat], 0⟩
def stepE (out : List UInt8) (p : UInt8) (bud : Int) (c : UInt8) : St :=
  if clsN c.toNat = 1 then ⟨2, out, [p], 0⟩ else if c = 62 then putS 0 out [p] [16 * p] bud else if hexv c < 0 then ⟨0, out, [p], 4⟩ else putS 1 out [p] [16 * p + UInt8.ofNat (hexv c).toNat] bud
/-- What a call of a state leaves. -/
def Left (B b : Nat) (bud : Int) (s : St) (w : World) (e : Ending) (w' : World) : Prop := e = .returned (modeV s.mode) ∧ RdAt B b s.out s.part bud s.e w' ∧ Below B w w'

theorem own_cut {w : World} {B n c : Nat} {e : TypeId} {A : Option Addr} {xs : List Value} (h : w.ownsRow B e 1 (.slice A n c) n xs) : w.ownsRow B e 1 (.slice A 0 c) 0 [] := by
  refine ⟨rfl, ?_⟩
  rcases h.2 with ⟨hv, h0⟩ | ⟨g, cap, cur, hv, h1, h2, h3, h4, h5, h6⟩
  · injection hv with a1 a2 a3
    subst a1 a3
    exact .inl ⟨rfl, rfl⟩
  · injection hv with a1 a2 a3
    subst a1 a3
    exact .inr ⟨g, c, cur, rfl, h1, h2, Nat.zero_le _, h4, h5, by simp⟩
theorem one_src (w : World) (u : UInt8) (n : Int) (hn : n = (u.toNat : Int)) : ∀ j v, (byteRow [u])[j]? = some v → (w.alloc (.cells #[.int .u8 n] 5)).cell? ((⟨w.heap.size, 0, none⟩ : Addr).add j) = some v := by
  intro j v hj
  subst hn
  match j, hj with
  | 0, hj =>
    have e : v = .int .u8 (u.toNat : Int) := by simpa [byteRow] using hj.symm
    subst e
    rw [add_flat, Lib.cell_of_heap (heap_alloc_new w _)]
    rfl
theorem RdAt.parted {B b : Nat} {out part part' : List UInt8} {bud e : Int} {w w' : World} {vo vp v' : Value} (hB : B ≤ b) (hbk : w.heap[b]? = some (.cells #[vo, .int .i64 bud, vp, .int .i64 e] 54 (0, 0)))
    (ho : w.ownsRow B 5 1 vo out.length (byteRow out)) (hp : w.ownsRow B 5 1 vp part.length (byteRow part)) (hne : vo.ownBlock = none ∨ vo.ownBlock ≠ vp.ownBlock)
    (hp' : w'.ownsRow B 5 1 v' part'.length (byteRow part')) (hg : w.grownBy w' vp.ownBlock) (hpl : v'.ownBlock = vp.ownBlock ∨ v'.ownBlock = some w.heap.size) : RdAt B b out part' bud e (w'.setCell ⟨b, 2, none⟩ v') := by
  have hne' : vo.ownBlock = none ∨ vo.ownBlock ≠ v'.ownBlock := by
    rcases hpl with h | h
    · rw [h]; exact hne
    · refine .inr ?_
      rw [h]
      intro e
      have := (ho.lt _ e).2
      omega
  have hbk' := reader_kept hbk hp hg
  have ho' := ho.kept hg hne
  exact ⟨hB, vo, v', by simp [World.setCell, Array.getElem?_modify, hbk'], ho'.kept (grown_set _ _ _) (ne_reader ho' hbk'), hp'.kept (grown_set _ _ _) (ne_reader hp' hbk'), hne'⟩

theorem left_of {B b : Nat} {bud : Int} {x st : St} {w w' : World} {v : Value} (hs : x = st) (hv : v = modeV st.mode) (hr : RdAt B b st.out st.part bud st.e w') (hb : Below B w w') : Left B b bud x w (.returned v) w' := by
  subst hs hv; exact ⟨rfl, hr, hb⟩
theorem ownBlock_cut (A : Option Addr) (n c : Nat) : (Value.slice A 0 c).ownBlock = (Value.slice A n c).ownBlock := by cases A <;> rfl

set_option maxRecDepth 100000 in
set_option maxHeartbeats 4000000 in
theorem digit_calls (B b : Nat) (out part : List UInt8) (bud : Int) (c : UInt8) (w : World) (h : RdAt B b out part bud 0 w) (hBw : B ≤ w.heap.size) :
    Calls Try.prog 21 #[.pointer (some ⟨b, 0, none⟩), .int .u8 (c.toNat : Int)] w (Left B b bud (stepD out part bud c) w) := by
  have HH := Aside0.mk (hex_byte c)
  have hr := hexv_range c
  have HR := Aside0.mk h
  have hBb := h.1
  clear h
  by_cases c1 : clsN c.toNat = 1
  · have HW : Aside0 (class_White.f (c.toNat : Int) = some true) := Aside0.mk (by rw [white_byte]; simp [c1])
    have HS : Aside0 (stepD out part bud c = ⟨1, out, part, 0⟩) := Aside0.mk (by unfold stepD; rw [if_pos c1])
    generalize hexv c = v at *
    clear c1
    go_enter Try.func21, Try.ntmps21
    go_wp2_with (first | (go_at_call 25; (with_reducible refine (class_White.calls _ true _ HW.out).mono ?_); rintro e w2 ⟨rfl, hb2⟩; have HX := Aside0.mk ((pw_below_drewN (Below.refl w.heap.size w) nd).trans (hb2.mono (by simp))); have HRW := Aside0.mk (HR.out.below HX.out); clear hb2) | (go_at_call 24; (with_reducible refine (class_Hex.calls 1 _ v _ HH.out).mono ?_); rintro e w3 ⟨rfl, ⟨nd, rfl⟩⟩))
    go_ret
    exact left_of HS.out rfl HRW.out (HX.out.mono hBw)
  · have HW : Aside0 (class_White.f (c.toNat : Int) = some false) := Aside0.mk (by rw [white_byte]; simp [c1])
    by_cases c2 : c = 62
    · have q2 : ((c.toNat : Int) == 62) = true := by rw [c2]; rfl
      have HS : Aside0 (stepD out part bud c = ⟨0, out, part, 0⟩) := Aside0.mk (by unfold stepD; rw [if_neg c1, if_pos c2])
      generalize hexv c = v at *
      clear c1 c2
      go_enter Try.func21, Try.ntmps21
      go_wp2_with (first | (go_at_call 25; (with_reducible refine (class_White.calls _ false _ HW.out).mono ?_); rintro e w2 ⟨rfl, hb2⟩; have HX := Aside0.mk ((pw_below_drewN (Below.refl w.heap.size w) nd).trans (hb2.mono (by simp))); have HRW := Aside0.mk (HR.out.below HX.out); clear hb2) | (go_at_call 24; (with_reducible refine (class_Hex.calls 1 _ v _ HH.out).mono ?_); rintro e w3 ⟨rfl, ⟨nd, rfl⟩⟩))
      go_ret
      exact left_of HS.out rfl HRW.out (HX.out.mono hBw)
    · have q2 : ((c.toNat : Int) == 62) = false := by
        rw [beq_eq_false_iff_ne]; intro e; exact c2 (UInt8.toNat_inj.1 (by have : (62 : UInt8).toNat = 62 := rfl; omega))
      by_cases c3 : hexv c < 0
      · have HS : Aside0 (stepD out part bud c = ⟨0, out, part, 4⟩) := Aside0.mk (by unfold stepD; rw [if_neg c1, if_neg c2, if_pos c3])
        generalize hexv c = v at *
        clear c1 c2
        go_enter Try.func21, Try.ntmps21
        go_wp2_with (first | (go_at_call 25; (with_reducible refine (class_White.calls _ false _ HW.out).mono ?_); rintro e w2 ⟨rfl, hb2⟩; have HX := Aside0.mk ((pw_below_drewN (Below.refl w.heap.size w) nd).trans (hb2.mono (by simp))); have HRW := Aside0.mk (HR.out.below HX.out); clear hb2) | (go_at_call 24; (with_reducible refine (class_Hex.calls 1 _ v _ HH.out).mono ?_); rintro e w3 ⟨rfl, ⟨nd, rfl⟩⟩) | (go_at_call 26; (with_reducible refine (fail_calls B b out part bud 0 4 _ HRW.out).mono ?_); rintro e w4 ⟨rfl, hr4, hb4⟩; have HR4 := Aside0.mk hr4; have HB4 := Aside0.mk hb4; clear hr4 hb4))
        go_ret
        exact left_of HS.out rfl HR4.out ((HX.out.mono hBw).trans HB4.out)
      · have HS : Aside0 (stepD out part bud c = ⟨2, out, [UInt8.ofNat (hexv c).toNat], 0⟩) := Aside0.mk (by unfold stepD; rw [if_neg c1, if_neg c2, if_neg c3])
        generalize hexv c = v at *
        have hv8 : v % 256 = ((UInt8.ofNat v.toNat).toNat : Int) := by simp only [UInt8.toNat_ofNat']; omega
        have HV8 := Aside0.mk hv8
        have hv8' : IntKind.u8.wrap v = v % 256 := IntKind.wrap_u8 v
        have hvn : ¬ (v < 0) := by omega
        clear c1 c2 hv8 c3
        go_enter Try.func21, Try.ntmps21
        go_wp2_with (first | (go_at_call 25; (with_reducible refine (class_White.calls _ false _ HW.out).mono ?_); rintro e w2 ⟨rfl, hb2⟩; have HX := Aside0.mk ((pw_below_drewN (Below.refl w.heap.size w) nd).trans (hb2.mono (by simp))); have HRW := Aside0.mk (HR.out.below HX.out); clear hb2; obtain ⟨_, vo, vp, hbk, ho, hp, hne⟩ := HRW.out; obtain ⟨A, cp, rfl⟩ := own_slice hp; have k2 : w2.cell? ⟨b, 2, none⟩ = some (.slice A part.length cp) := (Lib.cell_of_heap hbk 2).trans rfl; have HK := Aside0.mk hbk; have HO := Aside0.mk ho; have HP := Aside0.mk hp; have HNE := Aside0.mk hne; clear hbk ho hp hne) | (go_at_call 24; (with_reducible refine (class_Hex.calls 1 _ v _ HH.out).mono ?_); rintro e w3 ⟨rfl, ⟨nd, rfl⟩⟩) | (at_builtin; refine wpList_append_bytes _ rfl _ _ rfl B (.slice A 0 cp) [] [UInt8.ofNat v.toNat] ⟨w2.heap.size, 0, none⟩ 1 rfl ((own_cut HP.out).alloc _) rfl (one_src w2 _ _ HV8.out) (by simp) (by have := HX.out.size; simp; omega) ?_; intro v' w5 hown' hgrow hpl; rw [ownBlock_cut A part.length cp] at hgrow hpl; obtain ⟨A', cp', rfl⟩ := own_slice hown'; have HG := Aside0.mk hgrow; have HPL := Aside0.mk hpl; have HOW := Aside0.mk hown'; have HK3 := Aside0.mk (reader_kept (reader_kept HK.out HP.out (World.grownBy_alloc w2 _ _)) (HP.out.alloc _) hgrow); clear hgrow hpl hown'; have d2 : w5.cell? ⟨b, 2, none⟩ = some (.slice A part.length cp) := (Lib.cell_of_heap HK3.out 2).trans rfl; have f2 : w5.frozen? ⟨b, 2, none⟩ = false := Lib.frozen_of_heap HK3.out 2))
        go_ret
        have HBw : B ≤ (w2.alloc (.cells #[.int .u8 (v % 256)] 5)).heap.size := by have := HX.out.size; simp; omega
        exact left_of HS.out rfl (RdAt.parted hBb (reader_kept HK.out HP.out (World.grownBy_alloc w2 _ _)) (HO.out.alloc _) (HP.out.alloc _) HNE.out HOW.out HG.out HPL.out) ((((HX.out.mono hBw).alloc (by have := HX.out.size; omega) _).grown HG.out HBw (fun k hk => (HP.out.lt k hk).1)).setCell (p := ⟨b, 2, none⟩) hBb _)

theorem held_one {B : Nat} {p : UInt8} {vp : Value} {w : World} (h : w.ownsRow B 5 1 vp [p].length (byteRow [p])) : ∃ g cp, vp = .slice (some ⟨g, 0, none⟩) 1 cp ∧ w.cell? ⟨g, 0, none⟩ = some (.int .u8 (p.toNat : Int)) := by
  obtain ⟨g, cap, hv, _⟩ := h.form (by simp)
  refine ⟨g, cap, hv, ?_⟩
  have := h.cells (g := g) (by rw [hv]; rfl) 0 (.int .u8 (p.toNat : Int)) rfl
  rw [add_flat] at this
  exact this
theorem u8_shift (p : UInt8) : IntKind.u8.wrap (16 * (p.toNat : Int)) = ((16 * p : UInt8).toNat : Int) := by
  rw [IntKind.wrap_u8]
  have : (16 * p : UInt8).toNat = 16 * p.toNat % 256 := by rw [UInt8.toNat_mul]; rfl
  rw [this]; omega

theorem put_calls (B b : Nat) (out part l : List UInt8) (bud : Int) (nm : Nat) (nx : Value) (hnx : nx = modeV nm) (n : Nat) (hn : n = l.length) (ad : Addr) (c : Nat) (w : World) (h : RdAt B b out part bud 0 w) (hBw : B ≤ w.heap.size) (hlen : out.length + l.length ≤ 100000000)
    (hsrc : ∀ j u, (byteRow l)[j]? = some u → w.cell? (ad.add j) = some u) :
    Calls Try.prog 29 #[.pointer (some ⟨b, 0, none⟩), nx, .slice (some ad) n c] w (Left B b bud (putS nm out part l bud) w) := by
  subst hnx hn
  by_cases hl : bud < ((out.length + l.length : Nat) : Int)
  · refine (put_long B b out part l bud 0 (modeV nm) ad c w h hlen hl).mono ?_
    rintro e w' ⟨rfl, h1, h2⟩
    have e : putS nm out part l bud = ⟨0, out, part, 3⟩ := by unfold putS; rw [if_pos hl]
    exact left_of e rfl h1 h2
  · refine (put_ok B b out part l bud 0 (modeV nm) ad c w h hBw hlen (by omega) hsrc).mono ?_
    rintro e w' ⟨rfl, h1, h2⟩
    have e : putS nm out part l bud = ⟨nm, out ++ l, part, 0⟩ := by unfold putS; rw [if_neg hl]
    exact left_of e rfl h1 h2
theorem u8_sum (x y : UInt8) : (16 * (x.toNat : Int) + (y.toNat : Int)) % 256 = ((16 * x + y : UInt8).toNat : Int) := by
  have : (16 * x + y : UInt8).toNat = (16 * x.toNat % 256 + y.toNat) % 256 := by
    rw [UInt8.toNat_add, UInt8.toNat_mul]; rfl
  rw [this]; omega

set_option maxRecDepth 100000 in
set_option maxHeartbeats 4000000 in
theorem second_calls (B b : Nat) (out : List UInt8) (p : UInt8) (bud : Int) (c : UInt8) (w : World) (h : RdAt B b out [p] bud 0 w) (hBw : B ≤ w.heap.size) (hol : out.length ≤ 10000000) :
    Calls Try.prog 27 #[.pointer (some ⟨b, 0, none⟩), .int .u8 (c.toNat : Int)] w (Left B b bud (stepE out p bud c) w) := by
  have HH := Aside0.mk (hex_byte c)
  have hr := hexv_range c
  have HR := Aside0.mk h
  have hBb := h.1
  clear h
  by_cases c1 : clsN c.toNat = 1
  · have HW : Aside0 (class_White.f (c.toNat : Int) = some true) := Aside0.mk (by rw [white_byte]; simp [c1])
    have HS : Aside0 (stepE out p bud c = ⟨2, out, [p], 0⟩) := Aside0.mk (by unfold stepE; rw [if_pos c1])
    generalize hexv c = v at *
    clear c1
    go_enter Try.func27, Try.ntmps27
    go_wp2_with (first | (go_at_call 25; (with_reducible refine (class_White.calls _ true _ HW.out).mono ?_); rintro e w2 ⟨rfl, hb2⟩; have HX := Aside0.mk ((pw_below_drewN (Below.refl w.heap.size w) nd).trans (hb2.mono (by simp))); have HRW := Aside0.mk (HR.out.below HX.out); clear hb2) | (go_at_call 24; (with_reducible refine (class_Hex.calls 1 _ v _ HH.out).mono ?_); rintro e w3 ⟨rfl, ⟨nd, rfl⟩⟩))
    go_ret
    exact left_of HS.out rfl HRW.out (HX.out.mono hBw)
  · have HW : Aside0 (class_White.f (c.toNat : Int) = some false) := Aside0.mk (by rw [white_byte]; simp [c1])
    by_cases c2 : c = 62
    · have q2 : ((c.toNat : Int) == 62) = true := by rw [c2]; rfl
      have HS : Aside0 (stepE out p bud c = putS 0 out [p] [16 * p] bud) := Aside0.mk (by unfold stepE; rw [if_neg c1, if_pos c2])
      generalize hexv c = v at *
      have HNM : Aside0 (16 * (p.toNat : Int) % 256 = ((16 * p : UInt8).toNat : Int)) := Aside0.mk (by rw [← u8_shift, IntKind.wrap_u8])
      have HLN : Aside0 (out.length + [16 * p].length ≤ 100000000) := Aside0.mk (by simp; omega)
      clear c1 c2
      go_enter Try.func27, Try.ntmps27
      go_wp2_with (first | (go_at_call 25; (with_reducible refine (class_White.calls _ false _ HW.out).mono ?_); rintro e w2 ⟨rfl, hb2⟩; have HX := Aside0.mk ((pw_below_drewN (Below.refl w.heap.size w) nd).trans (hb2.mono (by simp))); have HRW := Aside0.mk (HR.out.below HX.out); clear hb2; obtain ⟨_, vo, vp, hbk, ho, hp, hne⟩ := HRW.out; obtain ⟨g, cp, hvp, hcell⟩ := held_one hp; subst hvp; have k2 : w2.cell? ⟨b, 2, none⟩ = some (.slice (some ⟨g, 0, none⟩) 1 cp) := (Lib.cell_of_heap hbk 2).trans rfl; have HP := Aside0.mk hp; clear hbk ho hne hp; have HBA : Aside0 (B ≤ (w2.alloc (.cells #[.int .u8 (16 * (p.toNat : Int) % 256)] 5)).heap.size) := Aside0.mk (by have := HX.out.size; simp; omega); have HSR := Aside0.mk (one_src w2 (16 * p) (16 * (p.toNat : Int) % 256) HNM.out)) | (go_at_call 24; (with_reducible refine (class_Hex.calls 1 _ v _ HH.out).mono ?_); rintro e w3 ⟨rfl, ⟨nd, rfl⟩⟩) | (go_at_call 29; (with_reducible refine (put_calls B b out [p] [16 * p] bud 0 .nilFunc rfl 1 rfl ⟨w2.heap.size, 0, none⟩ 1 _ (HRW.out.below ((Below.refl _ _).alloc (Nat.le_refl _) _)) HBA.out HLN.out HSR.out).mono ?_); rintro e w4 ⟨rfl, hr4, hb4⟩; have HR4 := Aside0.mk hr4; have HB4 := Aside0.mk hb4; clear hr4 hb4))
      go_ret
      exact left_of HS.out rfl HR4.out (((HX.out.mono hBw).alloc (by have := HX.out.size; omega) _).trans HB4.out)
    · have q2 : ((c.toNat : Int) == 62) = false := by
        rw [beq_eq_false_iff_ne]; intro e; exact c2 (UInt8.toNat_inj.1 (by have : (62 : UInt8).toNat = 62 := rfl; omega))
      by_cases c3 : hexv c < 0
      · have HS : Aside0 (stepE out p bud c = ⟨0, out, [p], 4⟩) := Aside0.mk (by unfold stepE; rw [if_neg c1, if_neg c2, if_pos c3])
        generalize hexv c = v at *
        clear c1 c2
        go_enter Try.func27, Try.ntmps27
        go_wp2_with (first | (go_at_call 25; (with_reducible refine (class_White.calls _ false _ HW.out).mono ?_); rintro e w2 ⟨rfl, hb2⟩; have HX := Aside0.mk ((pw_below_drewN (Below.refl w.heap.size w) nd).trans (hb2.mono (by simp))); have HRW := Aside0.mk (HR.out.below HX.out); clear hb2) | (go_at_call 24; (with_reducible refine (class_Hex.calls 1 _ v _ HH.out).mono ?_); rintro e w3 ⟨rfl, ⟨nd, rfl⟩⟩) | (go_at_call 26; (with_reducible refine (fail_calls B b out [p] bud 0 4 _ HRW.out).mono ?_); rintro e w4 ⟨rfl, hr4, hb4⟩; have HR4 := Aside0.mk hr4; have HB4 := Aside0.mk hb4; clear hr4 hb4))
        go_ret
        exact left_of HS.out rfl HR4.out ((HX.out.mono hBw).trans HB4.out)
      · have HS : Aside0 (stepE out p bud c = putS 1 out [p] [16 * p + UInt8.ofNat (hexv c).toNat] bud) := Aside0.mk (by unfold stepE; rw [if_neg c1, if_neg c2, if_neg c3])
        generalize hexv c = v at *
        have HNM : Aside0 (16 * (p.toNat : Int) % 256 + v = ((16 * p + UInt8.ofNat v.toNat : UInt8).toNat : Int)) := Aside0.mk (by
          rw [← u8_sum]
          have : ((UInt8.ofNat v.toNat).toNat : Int) = v := by simp only [UInt8.toNat_ofNat']; omega
          rw [this]; omega)
        have HLN : Aside0 (out.length + [16 * p + UInt8.ofNat v.toNat].length ≤ 100000000) := Aside0.mk (by simp; omega)
        have hvn : ¬ (v < 0) := by omega
        have hv8 : v % 256 = v := by omega
        clear c1 c2 c3
        go_enter Try.func27, Try.ntmps27
        go_wp2_with (first | (go_at_call 25; (with_reducible refine (class_White.calls _ false _ HW.out).mono ?_); rintro e w2 ⟨rfl, hb2⟩; have HX := Aside0.mk ((pw_below_drewN (Below.refl w.heap.size w) nd).trans (hb2.mono (by simp))); have HRW := Aside0.mk (HR.out.below HX.out); clear hb2; obtain ⟨_, vo, vp, hbk, ho, hp, hne⟩ := HRW.out; obtain ⟨g, cp, hvp, hcell⟩ := held_one hp; subst hvp; have k2 : w2.cell? ⟨b, 2, none⟩ = some (.slice (some ⟨g, 0, none⟩) 1 cp) := (Lib.cell_of_heap hbk 2).trans rfl; have HP := Aside0.mk hp; clear hbk ho hne hp; have HBA : Aside0 (B ≤ (w2.alloc (.cells #[.int .u8 (16 * (p.toNat : Int) % 256 + v)] 5)).heap.size) := Aside0.mk (by have := HX.out.size; simp; omega); have HSR := Aside0.mk (one_src w2 (16 * p + UInt8.ofNat v.toNat) (16 * (p.toNat : Int) % 256 + v) HNM.out)) | (go_at_call 24; (with_reducible refine (class_Hex.calls 1 _ v _ HH.out).mono ?_); rintro e w3 ⟨rfl, ⟨nd, rfl⟩⟩) | (go_at_call 29; (with_reducible refine (put_calls B b out [p] [16 * p + UInt8.ofNat v.toNat] bud 1 (fv 21) rfl 1 rfl ⟨w2.heap.size, 0, none⟩ 1 _ (HRW.out.below ((Below.refl _ _).alloc (Nat.le_refl _) _)) HBA.out HLN.out HSR.out).mono ?_); rintro e w4 ⟨rfl, hr4, hb4⟩; have HR4 := Aside0.mk hr4; have HB4 := Aside0.mk hb4; clear hr4 hb4))
        go_ret
        exact left_of HS.out rfl HR4.out (((HX.out.mono hBw).alloc (by have := HX.out.size; omega) _).trans HB4.out)
end Go.Proofs.Ytjgbnaejeeinbaa
