/-
  Plain laws on what is told by sixteen and by eighty-five: what is put is read; a white byte changes nothing; a budget that is too little is told.
-/
import Derived.Test.YtjgbnaejeeinbaaAd
import Derived.Test.YtjgbnaejeeinbaaAp
namespace Go.Proofs.Ytjgbnaejeeinbaa
set_option linter.unusedVariables false
set_option linter.unusedSimpArgs false

theorem runM_app (bud : Int) : ∀ (x y : List UInt8) (s : St), runM bud s (x ++ y) = runM bud (runM bud s x) y
  | [], y, s => rfl
  | c :: x, y, s => by
    by_cases h : s.mode = 0
    · rw [runM_done bud s h, runM_done bud s h, runM_done bud s h]
    · rw [List.cons_append, runM_cons bud s h, runM_cons bud s h, runM_app bud x y]

/-! ### By sixteen -/
def hexOk (c : UInt8) : Prop := ¬ clsN c.toNat = 1 ∧ c ≠ 62 ∧ ¬ hexv c < 0
def hval (c : UInt8) : UInt8 := UInt8.ofNat (hexv c).toNat
theorem hexd_facts : ∀ n : Fin 256, (hexOk (hexd (n.val / 16)) ∧ hexOk (hexd (n.val % 16))) ∧ 16 * hval (hexd (n.val / 16)) + hval (hexd (n.val % 16)) = UInt8.ofNat n.val := by unfold hexOk; decide +kernel
theorem stepM_one (bud : Int) (out part : List UInt8) (c : UInt8) (h : hexOk c) : stepM bud ⟨1, out, part, 0⟩ c = ⟨2, out, [hval c], 0⟩ := by
  unfold stepM
  rw [if_pos rfl]
  unfold stepD
  rw [if_neg h.1, if_neg h.2.1, if_neg h.2.2]; rfl
theorem stepM_two (bud : Int) (out : List UInt8) (p c : UInt8) (h : hexOk c) : stepM bud ⟨2, out, [p], 0⟩ c = putS 1 out [p] [16 * p + hval c] bud := by
  unfold stepM
  rw [if_neg (by simp), if_pos rfl]
  unfold stepE
  show (if clsN c.toNat = 1 then _ else if c = 62 then _ else if hexv c < 0 then _ else _) = _
  rw [if_neg h.1, if_neg h.2.1, if_neg h.2.2]; rfl
/-- Two digits of a byte. -/
theorem run_byte (bud : Int) (out part : List UInt8) (a b c : UInt8) (ha : hexOk a) (hb : hexOk b) (he : 16 * hval a + hval b = c) (t : List UInt8) :
    runM bud ⟨1, out, part, 0⟩ (a :: b :: t) = runM bud (putS 1 out [hval a] [c] bud) t := by
  rw [runM_cons _ _ (by simp), stepM_one _ _ _ _ ha, runM_cons _ _ (by simp), stepM_two _ _ _ _ hb, he]
theorem stop_one (bud : Int) (out part : List UInt8) (t : List UInt8) : runM bud ⟨1, out, part, 0⟩ (62 :: t) = ⟨0, out, part, 0⟩ := by
  rw [runM_cons _ _ (by simp)]
  have e : stepM bud ⟨1, out, part, 0⟩ 62 = ⟨0, out, part, 0⟩ := by
    unfold stepM
    rw [if_pos rfl]
    unfold stepD
    rw [if_neg (by decide), if_pos rfl]
  rw [e, runM_done _ _ rfl]
theorem put_fits (nm : Nat) (out part l : List UInt8) (bud : Int) (h : ((out.length + l.length : Nat) : Int) ≤ bud) : putS nm out part l bud = ⟨nm, out ++ l, part, 0⟩ := by unfold putS; rw [if_neg (by omega)]
theorem put_over (nm : Nat) (out part l : List UInt8) (bud : Int) (h : bud < ((out.length + l.length : Nat) : Int)) : putS nm out part l bud = ⟨0, out, part, 3⟩ := by unfold putS; rw [if_pos h]
/-- What a run over what was put, of a sequence of digits whose bytes are v, leaves. -/
theorem hex_run (bud : Int) (t : List UInt8) : ∀ (v out part : List UInt8), ((out.length + v.length : Nat) : Int) ≤ bud → ∃ q, runM bud ⟨1, out, part, 0⟩ (hexAll v ++ 62 :: t) = ⟨0, out ++ v, q, 0⟩
  | [], out, part, _ => ⟨part, by rw [List.append_nil]; exact stop_one bud out part t⟩
  | c :: v, out, part, h => by
    have hf := hexd_facts ⟨c.toNat, c.toNat_lt⟩
    simp only [byte_ofNat] at hf
    rw [List.length_cons] at h
    obtain ⟨q, hq⟩ := hex_run bud t v (out ++ [c]) [hval (hexd (c.toNat / 16))] (by simp; omega)
    refine ⟨q, ?_⟩
    rw [hexAll_cons]
    show runM bud ⟨1, out, part, 0⟩ (hexd (c.toNat / 16) :: hexd (c.toNat % 16) :: (hexAll v ++ 62 :: t)) = _
    rw [run_byte bud out part _ _ c hf.1.1 hf.1.2 hf.2, put_fits _ _ _ _ _ (by simp; omega), hq]
    simp
theorem hex_long (bud : Int) (t : List UInt8) : ∀ (v out part : List UInt8), (out.length : Int) ≤ bud → bud < ((out.length + v.length : Nat) : Int) → ∃ o q, runM bud ⟨1, out, part, 0⟩ (hexAll v ++ t) = ⟨0, o, q, 3⟩
  | [], out, part, h, h' => by simp at h'; omega
  | c :: v, out, part, h, h' => by
    have hf := hexd_facts ⟨c.toNat, c.toNat_lt⟩
    simp only [byte_ofNat] at hf
    rw [List.length_cons] at h'
    rw [hexAll_cons]
    show ∃ o q, runM bud ⟨1, out, part, 0⟩ (hexd (c.toNat / 16) :: hexd (c.toNat % 16) :: (hexAll v ++ t)) = _
    rw [run_byte bud out part _ _ c hf.1.1 hf.1.2 hf.2]
    by_cases hb : bud < ((out.length + [c].length : Nat) : Int)
    · rw [put_over _ _ _ _ _ hb, runM_done _ _ rfl]
      exact ⟨_, _, rfl⟩
    · rw [put_fits _ _ _ _ _ (by omega)]
      exact hex_long bud t v (out ++ [c]) _ (by simp at hb ⊢; omega) (by simp; omega)
theorem readS_ok (first : Nat) (l : List UInt8) (bud : Int) (hb : 0 ≤ bud) {o q : List UInt8} (h : runM bud ⟨first, [], [], 0⟩ l = ⟨0, o, q, 0⟩) : readS first l bud = (o, 0) := by
  unfold readS
  rw [if_neg (by omega)]
  simp only
  rw [h]
  rw [if_neg (by simp), if_neg (by simp)]
theorem readS_long (first : Nat) (l : List UInt8) (bud : Int) (hb : 0 ≤ bud) {o q : List UInt8} (h : runM bud ⟨first, [], [], 0⟩ l = ⟨0, o, q, 3⟩) : readS first l bud = ([], 3) := by
  unfold readS
  rw [if_neg (by omega)]
  simp only
  rw [h]
  rw [if_neg (by simp), if_pos (by simp)]
theorem readS_arg (first : Nat) (l : List UInt8) (bud : Int) (hb : bud < 0) : readS first l bud = ([], 2) := by
  unfold readS
  rw [if_pos hb]
theorem hex_get (v t : List UInt8) : readS 1 (hexAll v ++ 62 :: t) (v.length : Int) = (v, 0) := by
  obtain ⟨q, hq⟩ := hex_run (v.length : Int) t v [] [] (by simp)
  exact readS_ok 1 _ _ (by omega) hq
theorem hex_less (v t : List UInt8) (h : v ≠ []) : readS 1 (hexAll v ++ t) ((v.length : Int) - 1) = ([], 3) := by
  have hl : 0 < v.length := List.length_pos_iff.2 h
  obtain ⟨o, q, hq⟩ := hex_long ((v.length : Int) - 1) t v [] [] (by simp; omega) (by simp; omega)
  exact readS_long 1 _ _ (by omega) hq

/-! ### By eighty-five -/
def chrG (c : UInt8) : Prop := 33 ≤ c.toNat ∧ c.toNat ≤ 117
theorem chrG_not : ∀ n : Fin 256, chrG (UInt8.ofNat n.val) → ¬ clsN (UInt8.ofNat n.val).toNat = 1 ∧ UInt8.ofNat n.val ≠ 126 ∧ UInt8.ofNat n.val ≠ 122 := by unfold chrG; decide +kernel
theorem stepM_chr (bud : Int) (out part : List UInt8) (c : UInt8) (h : chrG c) : stepM bud ⟨3, out, part, 0⟩ c = if part.length < 4 then ⟨3, out, part ++ [c], 0⟩ else flushS 3 out (part ++ [c]) bud := by
  have hn := chrG_not ⟨c.toNat, c.toNat_lt⟩
  simp only [byte_ofNat] at hn
  obtain ⟨n1, n2, n3⟩ := hn h
  unfold stepM
  rw [if_neg (by simp), if_neg (by simp), if_pos rfl]
  unfold stepG
  obtain ⟨h1, h2⟩ := h
  show (if clsN c.toNat = 1 then _ else if c = 126 then _ else if c = 122 ∧ part.length = 0 then _ else if c.toNat < 33 ∨ 117 < c.toNat then _ else _) = _
  rw [if_neg n1, if_neg n2, if_neg (fun h => n3 h.1), if_neg (by omega)]
theorem run_chr (bud : Int) (out part : List UInt8) (c : UInt8) (h : chrG c) (hl : part.length < 4) (t : List UInt8) : runM bud ⟨3, out, part, 0⟩ (c :: t) = runM bud ⟨3, out, part ++ [c], 0⟩ t := by
  rw [runM_cons _ _ (by simp), stepM_chr _ _ _ _ h, if_pos hl]
theorem run_five (bud : Int) (out : List UInt8) (a b c d e : UInt8) (ha : chrG a) (hb : chrG b) (hc : chrG c) (hd : chrG d) (he : chrG e) (t : List UInt8) :
    runM bud ⟨3, out, [], 0⟩ (a :: b :: c :: d :: e :: t) = runM bud (flushS 3 out [a, b, c, d, e] bud) t := by
  rw [run_chr _ _ _ _ ha (by simp), run_chr _ _ _ _ hb (by simp), run_chr _ _ _ _ hc (by simp), run_chr _ _ _ _ hd (by simp), runM_cons _ _ (by simp), stepM_chr _ _ _ _ he, if_neg (by simp)]
  rfl
theorem run_z (bud : Int) (out t : List UInt8) : runM bud ⟨3, out, [], 0⟩ (122 :: t) = runM bud (putS 3 out [] [0, 0, 0, 0] bud) t := by
  rw [runM_cons _ _ (by simp)]
  congr 1
theorem run_end (bud : Int) (out part t : List UInt8) (h1 : part.length ≠ 1) : runM bud ⟨3, out, part, 0⟩ (126 :: 62 :: t) = runM bud (if part.length = 0 then ⟨0, out, part, 0⟩ else flushS 0 out part bud) t := by
  rw [runM_cons _ _ (by simp)]
  have e : stepM bud ⟨3, out, part, 0⟩ 126 = ⟨4, out, part, 0⟩ := by
    unfold stepM
    rw [if_neg (by simp), if_neg (by simp), if_pos rfl]
    unfold stepG
    rw [if_neg (by decide), if_pos rfl]
  rw [e, runM_cons _ _ (by simp)]
  have e2 : stepM bud ⟨4, out, part, 0⟩ 62 = if part.length = 0 then ⟨0, out, part, 0⟩ else flushS 0 out part bud := by
    unfold stepM
    rw [if_neg (by simp), if_neg (by simp), if_neg (by simp), if_pos rfl]
    unfold stepN
    show (if (62 : UInt8) ≠ 62 ∨ part.length = 1 then _ else _) = _
    rw [if_neg (by simpa using h1)]
  rw [e2]
theorem chr_ok (m : Nat) (h : m < 85) : chrG (UInt8.ofNat (33 + m)) ∧ (UInt8.ofNat (33 + m)).toNat - 33 = m := by
  have e : (UInt8.ofNat (33 + m)).toNat = 33 + m := by simp; omega
  unfold chrG
  rw [e]; omega
/-- Five characters of a number are characters, and tell it. -/
theorem chr5_tell (n : Nat) (hn : n < 4294967296) : ∃ a b c d e, chr5 n = [a, b, c, d, e] ∧ chrG a ∧ chrG b ∧ chrG c ∧ chrG d ∧ chrG e ∧ a.toNat - 33 = n / 52200625 ∧ b.toNat - 33 = n / 614125 % 85 ∧ c.toNat - 33 = n / 7225 % 85 ∧ d.toNat - 33 = n / 85 % 85 ∧ e.toNat - 33 = n % 85 := by
  obtain ⟨a1, a2⟩ := chr_ok (n / 52200625 % 85) (Nat.mod_lt _ (by omega))
  obtain ⟨b1, b2⟩ := chr_ok (n / 614125 % 85) (Nat.mod_lt _ (by omega))
  obtain ⟨c1, c2⟩ := chr_ok (n / 7225 % 85) (Nat.mod_lt _ (by omega))
  obtain ⟨d1, d2⟩ := chr_ok (n / 85 % 85) (Nat.mod_lt _ (by omega))
  obtain ⟨e1, e2⟩ := chr_ok (n % 85) (Nat.mod_lt _ (by omega))
  exact ⟨_, _, _, _, _, rfl, a1, b1, c1, d1, e1, by rw [a2]; omega, b2, c2, d2, e2⟩
theorem byt4_num (a b c d : UInt8) : byt4 (num4 a b c d) = [a, b, c, d] := by
  have ha := a.toNat_lt
  have hb := b.toNat_lt
  have hc := c.toNat_lt
  have hd := d.toNat_lt
  unfold byt4 num4
  have e : ∀ (m : Nat) (x : UInt8), m % 256 = x.toNat → UInt8.ofNat m = x := by
    intro m x h
    apply UInt8.toNat_inj.1
    simp; exact h
  rw [e _ a (by omega), e _ b (by omega), e _ c (by omega), e _ d (by omega)]
theorem num4_lt' (a b c d : UInt8) : num4 a b c d < 4294967296 := num4_lt a b c d
/-- A group of four. -/
theorem run_group (bud : Int) (out : List UInt8) (a b c d : UInt8) (t : List UInt8) :
    runM bud ⟨3, out, [], 0⟩ (chr5 (num4 a b c d) ++ t) = runM bud (putS 3 out [] [a, b, c, d] bud) t := by
  obtain ⟨x0, x1, x2, x3, x4, hx, g0, g1, g2, g3, g4, v0, v1, v2, v3, v4⟩ := chr5_tell _ (num4_lt a b c d)
  have hn := num4_lt a b c d
  rw [hx]
  show runM bud ⟨3, out, [], 0⟩ (x0 :: x1 :: x2 :: x3 :: x4 :: t) = _
  rw [run_five _ _ _ _ _ _ _ g0 g1 g2 g3 g4]
  have e : numP [x0, x1, x2, x3, x4] = num4 a b c d := by
    show num5 x0 x1 x2 x3 x4 = _
    unfold num5
    rw [v0, v1, v2, v3, v4]
    generalize num4 a b c d = n at *
    omega
  unfold flushS
  rw [e, if_pos hn, byt4_num]
  rfl
theorem e117 : (117 : UInt8).toNat - 33 = 84 := rfl
/-- The last part. -/
theorem last_part (bud : Int) (out p l t : List UInt8) (h1 : p.length ≠ 1) (h0 : p.length ≠ 0) (hn : numP p < 4294967296) (hl : (byt4 (numP p)).take (p.length - 1) = l) :
    runM bud ⟨3, out, p, 0⟩ (126 :: 62 :: t) = putS 0 out [] l bud := by
  rw [run_end _ _ _ _ h1, if_neg h0]
  unfold flushS
  rw [if_pos hn, hl]
  unfold putS
  split <;> exact runM_done _ _ rfl _
theorem z0 : (0 : UInt8).toNat = 0 := rfl
theorem join1 (n : Nat) : n / 52200625 * 85 + n / 614125 % 85 = n / 614125 := by omega
theorem join2 (n : Nat) : (n / 52200625 * 85 + n / 614125 % 85) * 85 + n / 7225 % 85 = n / 7225 := by rw [join1]; omega
theorem join3 (n : Nat) : ((n / 52200625 * 85 + n / 614125 % 85) * 85 + n / 7225 % 85) * 85 + n / 85 % 85 = n / 85 := by rw [join2]; omega
theorem near3 (n : Nat) : n ≤ n / 85 * 85 + 84 ∧ n / 85 * 85 + 84 < n + 256 := by omega
theorem near2 (n : Nat) : n ≤ n / 7225 * 7225 + 7224 ∧ n / 7225 * 7225 + 7224 < n + 65536 := by omega
theorem near1 (n : Nat) : n ≤ n / 614125 * 614125 + 614124 ∧ n / 614125 * 614125 + 614124 < n + 16777216 := by omega
theorem top3 (a b c N : Nat) (ha : a < 256) (hb : b < 256) (hc : c < 256) (h1 : ((a * 256 + b) * 256 + c) * 256 ≤ N) (h2 : N < ((a * 256 + b) * 256 + c) * 256 + 256) : N / 16777216 % 256 = a ∧ N / 65536 % 256 = b ∧ N / 256 % 256 = c ∧ N < 4294967296 := by
  have e1 : N / 256 = (a * 256 + b) * 256 + c := by omega
  have e2 : N / 65536 = N / 256 / 256 := by omega
  have e3 : N / 16777216 = N / 256 / 256 / 256 := by omega
  rw [e3, e2, e1]
  refine ⟨by omega, by omega, by omega, by omega⟩
theorem top2 (a b N : Nat) (ha : a < 256) (hb : b < 256) (h1 : (a * 256 + b) * 65536 ≤ N) (h2 : N < (a * 256 + b) * 65536 + 65536) : N / 16777216 % 256 = a ∧ N / 65536 % 256 = b ∧ N < 4294967296 := by
  have e1 : N / 65536 = a * 256 + b := by omega
  have e3 : N / 16777216 = N / 65536 / 256 := by omega
  rw [e3, e1]
  refine ⟨by omega, by omega, by omega⟩
theorem top1 (a N : Nat) (ha : a < 256) (h1 : a * 16777216 ≤ N) (h2 : N < a * 16777216 + 16777216) : N / 16777216 % 256 = a ∧ N < 4294967296 := by omega
theorem top_bytes (n m : Nat) (x : UInt8) (h : n % 256 = x.toNat) (hm : m = n) : UInt8.ofNat m = x := by
  subst hm
  apply UInt8.toNat_inj.1
  simp; exact h
theorem run_three (bud : Int) (out : List UInt8) (a b c : UInt8) (t : List UInt8) : runM bud ⟨3, out, [], 0⟩ ((chr5 (num4 a b c 0)).take 4 ++ 126 :: 62 :: t) = putS 0 out [] [a, b, c] bud := by
  obtain ⟨x0, x1, x2, x3, x4, hx, g0, g1, g2, g3, g4, v0, v1, v2, v3, v4⟩ := chr5_tell _ (num4_lt a b c 0)
  have ha := a.toNat_lt
  have hb := b.toNat_lt
  have hc := c.toNat_lt
  rw [hx]
  show runM bud ⟨3, out, [], 0⟩ (x0 :: x1 :: x2 :: x3 :: 126 :: 62 :: t) = _
  rw [run_chr _ _ _ _ g0 (by simp), run_chr _ _ _ _ g1 (by simp), run_chr _ _ _ _ g2 (by simp), run_chr _ _ _ _ g3 (by simp)]
  have hz : num4 a b c 0 = ((a.toNat * 256 + b.toNat) * 256 + c.toNat) * 256 := by unfold num4; rw [z0]; omega
  have e : numP [x0, x1, x2, x3] = num4 a b c 0 / 85 * 85 + 84 := by
    show num5 x0 x1 x2 x3 117 = _
    unfold num5
    rw [v0, v1, v2, v3, e117, join3]
  obtain ⟨n1, n2⟩ := near3 (num4 a b c 0)
  rw [← e, hz] at n1 n2
  obtain ⟨q1, q2, q3, q4⟩ := top3 a.toNat b.toNat c.toNat _ ha hb hc n1 n2
  refine last_part bud out [x0, x1, x2, x3] [a, b, c] t (by simp) (by simp) q4 ?_
  show [UInt8.ofNat _, UInt8.ofNat _, UInt8.ofNat _] = [a, b, c]
  rw [top_bytes _ _ a q1 rfl, top_bytes _ _ b q2 rfl, top_bytes _ _ c q3 rfl]
theorem run_two (bud : Int) (out : List UInt8) (a b : UInt8) (t : List UInt8) : runM bud ⟨3, out, [], 0⟩ ((chr5 (num4 a b 0 0)).take 3 ++ 126 :: 62 :: t) = putS 0 out [] [a, b] bud := by
  obtain ⟨x0, x1, x2, x3, x4, hx, g0, g1, g2, g3, g4, v0, v1, v2, v3, v4⟩ := chr5_tell _ (num4_lt a b 0 0)
  have ha := a.toNat_lt
  have hb := b.toNat_lt
  rw [hx]
  show runM bud ⟨3, out, [], 0⟩ (x0 :: x1 :: x2 :: 126 :: 62 :: t) = _
  rw [run_chr _ _ _ _ g0 (by simp), run_chr _ _ _ _ g1 (by simp), run_chr _ _ _ _ g2 (by simp)]
  have hz : num4 a b 0 0 = (a.toNat * 256 + b.toNat) * 65536 := by unfold num4; rw [z0]; omega
  have e : numP [x0, x1, x2] = num4 a b 0 0 / 7225 * 7225 + 7224 := by
    show num5 x0 x1 x2 117 117 = _
    unfold num5
    rw [v0, v1, v2, e117, join2]
    omega
  obtain ⟨n1, n2⟩ := near2 (num4 a b 0 0)
  rw [← e, hz] at n1 n2
  obtain ⟨q1, q2, q4⟩ := top2 a.toNat b.toNat _ ha hb n1 n2
  refine last_part bud out [x0, x1, x2] [a, b] t (by simp) (by simp) q4 ?_
  show [UInt8.ofNat _, UInt8.ofNat _] = [a, b]
  rw [top_bytes _ _ a q1 rfl, top_bytes _ _ b q2 rfl]
theorem run_one (bud : Int) (out : List UInt8) (a : UInt8) (t : List UInt8) : runM bud ⟨3, out, [], 0⟩ ((chr5 (num4 a 0 0 0)).take 2 ++ 126 :: 62 :: t) = putS 0 out [] [a] bud := by
  obtain ⟨x0, x1, x2, x3, x4, hx, g0, g1, g2, g3, g4, v0, v1, v2, v3, v4⟩ := chr5_tell _ (num4_lt a 0 0 0)
  have ha := a.toNat_lt
  rw [hx]
  show runM bud ⟨3, out, [], 0⟩ (x0 :: x1 :: 126 :: 62 :: t) = _
  rw [run_chr _ _ _ _ g0 (by simp), run_chr _ _ _ _ g1 (by simp)]
  have hz : num4 a 0 0 0 = a.toNat * 16777216 := by unfold num4; rw [z0]; omega
  have e : numP [x0, x1] = num4 a 0 0 0 / 614125 * 614125 + 614124 := by
    show num5 x0 x1 117 117 117 = _
    unfold num5
    rw [v0, v1, e117, join1]
    omega
  obtain ⟨n1, n2⟩ := near1 (num4 a 0 0 0)
  rw [← e, hz] at n1 n2
  obtain ⟨q1, q4⟩ := top1 a.toNat _ ha n1 n2
  refine last_part bud out [x0, x1] [a] t (by simp) (by simp) q4 ?_
  show [UInt8.ofNat _] = [a]
  rw [top_bytes _ _ a q1 rfl]
/-- What a run over what was put leaves: all bytes, or the error that tells of too many. -/
theorem run_85 (bud : Int) (t : List UInt8) : ∀ (v out : List UInt8), (out.length : Int) ≤ bud →
    (((out.length + v.length : Nat) : Int) ≤ bud → ∃ q, runM bud ⟨3, out, [], 0⟩ (put85 v ++ 126 :: 62 :: t) = ⟨0, out ++ v, q, 0⟩) ∧
    (bud < ((out.length + v.length : Nat) : Int) → ∃ o q, runM bud ⟨3, out, [], 0⟩ (put85 v ++ 126 :: 62 :: t) = ⟨0, o, q, 3⟩)
  | [], out, h => ⟨fun _ => ⟨[], by
      show runM bud ⟨3, out, [], 0⟩ (126 :: 62 :: t) = _
      rw [run_end _ _ _ _ (by simp), if_pos (by simp), runM_done _ _ rfl, List.append_nil]⟩, fun h' => by simp at h'; omega⟩
  | [a], out, h => by
    show (_ → ∃ q, runM bud ⟨3, out, [], 0⟩ ((chr5 (num4 a 0 0 0)).take 2 ++ 126 :: 62 :: t) = _) ∧ (_ → ∃ o q, runM bud ⟨3, out, [], 0⟩ ((chr5 (num4 a 0 0 0)).take 2 ++ 126 :: 62 :: t) = _)
    rw [run_one]
    exact ⟨fun h => ⟨_, put_fits _ _ _ _ _ h⟩, fun h => ⟨_, _, put_over _ _ _ _ _ h⟩⟩
  | [a, b], out, h => by
    show (_ → ∃ q, runM bud ⟨3, out, [], 0⟩ ((chr5 (num4 a b 0 0)).take 3 ++ 126 :: 62 :: t) = _) ∧ (_ → ∃ o q, runM bud ⟨3, out, [], 0⟩ ((chr5 (num4 a b 0 0)).take 3 ++ 126 :: 62 :: t) = _)
    rw [run_two]
    exact ⟨fun h => ⟨_, put_fits _ _ _ _ _ h⟩, fun h => ⟨_, _, put_over _ _ _ _ _ h⟩⟩
  | [a, b, c], out, h => by
    show (_ → ∃ q, runM bud ⟨3, out, [], 0⟩ ((chr5 (num4 a b c 0)).take 4 ++ 126 :: 62 :: t) = _) ∧ (_ → ∃ o q, runM bud ⟨3, out, [], 0⟩ ((chr5 (num4 a b c 0)).take 4 ++ 126 :: 62 :: t) = _)
    rw [run_three]
    exact ⟨fun h => ⟨_, put_fits _ _ _ _ _ h⟩, fun h => ⟨_, _, put_over _ _ _ _ _ h⟩⟩
  | a :: b :: c :: d :: v, out, h => by
    have e : runM bud ⟨3, out, [], 0⟩ (put85 (a :: b :: c :: d :: v) ++ 126 :: 62 :: t) = runM bud (putS 3 out [] [a, b, c, d] bud) (put85 v ++ 126 :: 62 :: t) := by
      simp only [put85, List.append_assoc]
      by_cases hz : a = 0 ∧ b = 0 ∧ c = 0 ∧ d = 0
      · rw [if_pos hz]
        obtain ⟨rfl, rfl, rfl, rfl⟩ := hz
        exact run_z bud out _
      · rw [if_neg hz]
        exact run_group bud out a b c d _
    rw [e]
    by_cases hb : bud < ((out.length + [a, b, c, d].length : Nat) : Int)
    · rw [put_over _ _ _ _ _ hb, runM_done _ _ rfl]
      refine ⟨fun h' => ?_, fun _ => ⟨_, _, rfl⟩⟩
      simp at hb h'; omega
    · rw [put_fits _ _ _ _ _ (by omega)]
      obtain ⟨i1, i2⟩ := run_85 bud t v (out ++ [a, b, c, d]) (by simp at hb ⊢; omega)
      refine ⟨fun h' => ?_, fun h' => ?_⟩
      · obtain ⟨q, hq⟩ := i1 (by simp at h' ⊢; omega)
        exact ⟨q, by rw [hq]; simp⟩
      · exact i2 (by simp at h' ⊢; omega)
theorem get_85 (v t : List UInt8) : readS 3 (put85 v ++ 126 :: 62 :: t) (v.length : Int) = (v, 0) := by
  obtain ⟨q, hq⟩ := (run_85 (v.length : Int) t v [] (by simp)).1 (by simp)
  exact readS_ok 3 _ _ (by omega) hq
theorem less_85 (v t : List UInt8) (h : v ≠ []) : readS 3 (put85 v ++ 126 :: 62 :: t) ((v.length : Int) - 1) = ([], 3) := by
  have hl : 0 < v.length := List.length_pos_iff.2 h
  obtain ⟨o, q, hq⟩ := (run_85 ((v.length : Int) - 1) t v [] (by simp; omega)).2 (by simp; omega)
  exact readS_long 3 _ _ (by omega) hq
end Go.Proofs.Ytjgbnaejeeinbaa
