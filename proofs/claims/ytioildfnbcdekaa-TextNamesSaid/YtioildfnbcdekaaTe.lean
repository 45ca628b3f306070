/-
  The contracts of text.octal, text.escapes, text.escaped.
-/
import Derived.Test.YtioildfnbcdekaaTp
import Derived.Test.YtioildfnbcdekaaCe
import Derived.Maps.OwnSet
import Derived.Lib.Hide
import Derived.Test.YtioildfnbcdekaaWLast
import Derived.Test.YtioildfnbcdekaaWMore
namespace Go.Proofs.Ytioildfnbcdekaa
open Go.RowKit Go.Maps Go.Proofs.YtioildfnbcdekaaW.PrintWords Go.Proofs.YtioildfnbcdekaaW.PrintLast
set_option linter.unusedVariables false
set_option linter.unusedSimpArgs false

theorem octal_calls (c : UInt8) (w : World) : Calls Try.prog 25 #[.int .u8 (c.toNat : Int)] w fun e w' => e = .returned (.bool (oct c)) ∧ Below w.heap.size w w' := by
  have hv : oct c = (decide (48 ≤ (c.toNat : Int)) && decide ((c.toNat : Int) ≤ 55)) := by unfold oct; rw [Bool.eq_iff_iff]; simp; omega
  rw [hv]
  clear hv
  go_enter Try.func25, Try.ntmps25
  go_wp2
  all_goals (go_ret; exact ⟨ret_bool (by simp [*]; try omega), Below.refl _ _⟩)

/-! ### The map -/
theorem escLaw : Keyed Try.prog 5 := int_keyed Try.underlying5
theorem escKey (c : Int) (h0 : 0 ≤ c) (h1 : c < 256) : keyOf Try.prog 5 (.int .u8 c) = some (.int .u8 c) := keyOf_int_mk Try.underlying5 (by simp [Lit.wf, IntKind.min, IntKind.max, IntKind.signed, IntKind.bits]; omega)
abbrev escD : DataW Unit := (((((DataW.map []).put (.int .u8 110) (.lit (.int .u8 10))).put (.int .u8 114) (.lit (.int .u8 13))).put (.int .u8 116) (.lit (.int .u8 9))).put (.int .u8 98) (.lit (.int .u8 8))).put (.int .u8 102) (.lit (.int .u8 12))
theorem escZero (w : World) : (zeroValue 5).run Try.prog w = .ok (.int .u8 0) w := by kernel_rfl

theorem wpList_insert_own {H : Type} {P : Program} (w : World) {ops : Array Oper} {rest : List Oper} {o : Oper} {a : Act} {Q : Exit → Act → World → Prop}
    (hg : o.guard = none) (m x v : Operand) (t : TypeId) (hop : o.op = Op.insert t m x v)
    (k e : TypeId) (K : Keyed P k) (ht : P.underlying t = some (.map k e)) (R : Value → Option (DataW H × List MemPlace)) (b n : Nat) (D : DataW H)
    (hm : a.eval m = .map (some b)) (hown : w.ownsMap P k R b n D) (hn : n < maxLen) (key val : Value) (kl : Lit) (hx : a.eval x = key) (hv : a.eval v = val) (hkey : keyOf P k key = some kl)
    (d : DataW H) (ps : List MemPlace) (hval : R val = some (d, ps))
    (hK : ∀ w', w'.ownsMap P k R b (n + 1) (D.put kl d) → w.grownBy w' (some b) → wpList P ops Q rest (a.put o.dst undef) w') :
    wpList P ops Q (o :: rest) a w := by
  refine wpList_plain hg fun K' hK' => ?_
  obtain ⟨w', hrun, r1, r2⟩ := hown.update K ht hn hkey hval
  unfold Oper.wp
  simp [execOp, hop, hm, hx, hv, hrun, Result.andThen]
  exact hK' _ _ (hK w' r1 r2)

set_option maxRecDepth 100000 in
theorem escapes_calls (w : World) : Calls Try.prog 24 #[] w fun e w' => ∃ b, e = .returned (.map (some b)) ∧ w'.ownsMap Try.prog 5 (plainElem Try.prog 5) b 5 escD ∧ Below w.heap.size w w' := by
  have hmm := @run_makeMap Try.prog
  go_enter Try.func24, Try.ntmps24
  go_wp2_with (first
    | (refine wpList_insert_own (H := Unit) _ rfl _ _ _ 50 rfl 5 5 escLaw Try.underlying50 (plainElem Try.prog 5) w.heap.size 0 _ rfl (World.ownsMap_made _ _ _ _) (by unfold maxLen; omega) (.int .u8 110) (.int .u8 10) (.int .u8 110) rfl rfl (escKey 110 (by omega) (by omega)) (.lit (.int .u8 10)) [] (plainElem_int Try.underlying5 (by decide)) ?_; intro w1 h1 g1)
    | (refine wpList_insert_own (H := Unit) _ rfl _ _ _ 50 rfl 5 5 escLaw Try.underlying50 (plainElem Try.prog 5) w.heap.size 1 _ rfl h1 (by unfold maxLen; omega) (.int .u8 114) (.int .u8 13) (.int .u8 114) rfl rfl (escKey 114 (by omega) (by omega)) (.lit (.int .u8 13)) [] (plainElem_int Try.underlying5 (by decide)) ?_; intro w2 h2 g2)
    | (refine wpList_insert_own (H := Unit) _ rfl _ _ _ 50 rfl 5 5 escLaw Try.underlying50 (plainElem Try.prog 5) w.heap.size 2 _ rfl h2 (by unfold maxLen; omega) (.int .u8 116) (.int .u8 9) (.int .u8 116) rfl rfl (escKey 116 (by omega) (by omega)) (.lit (.int .u8 9)) [] (plainElem_int Try.underlying5 (by decide)) ?_; intro w3 h3 g3)
    | (refine wpList_insert_own (H := Unit) _ rfl _ _ _ 50 rfl 5 5 escLaw Try.underlying50 (plainElem Try.prog 5) w.heap.size 3 _ rfl h3 (by unfold maxLen; omega) (.int .u8 98) (.int .u8 8) (.int .u8 98) rfl rfl (escKey 98 (by omega) (by omega)) (.lit (.int .u8 8)) [] (plainElem_int Try.underlying5 (by decide)) ?_; intro w4 h4 g4)
    | (refine wpList_insert_own (H := Unit) _ rfl _ _ _ 50 rfl 5 5 escLaw Try.underlying50 (plainElem Try.prog 5) w.heap.size 4 _ rfl h4 (by unfold maxLen; omega) (.int .u8 102) (.int .u8 12) (.int .u8 102) rfl rfl (escKey 102 (by omega) (by omega)) (.lit (.int .u8 12)) [] (plainElem_int Try.underlying5 (by decide)) ?_; intro w5 h5 g5))
  go_ret
  have hb : ∀ {w1 w2 : World}, Below w.heap.size w w1 → w1.grownBy w2 (some w.heap.size) → Below w.heap.size w w2 := fun h g => ⟨g.os.trans h.os, g.tape.trans h.tape, g.output.trans h.output, Nat.le_trans h.size g.size, fun k hk => (g.block k (Nat.lt_of_lt_of_le hk h.size) (by intro e; have := Option.some.inj e; omega)).trans (h.block k hk)⟩
  exact ⟨_, rfl, h5, hb (hb (hb (hb (hb ((Below.refl _ _).alloc (Nat.le_refl _) _) g1) g2) g3) g4) g5⟩

def escIs (c : UInt8) : Bool := c == 110 || c == 114 || c == 116 || c == 98 || c == 102
def escZ (c : UInt8) : UInt8 := if escIs c = true then escC c else 0
theorem esc_has : ∀ n : Fin 256, Maps.has escD (.int .u8 (n.val : Int)) = escIs (UInt8.ofNat n.val) := by decide +kernel
theorem esc_at : ∀ n : Fin 256, (match escD.atKey (.int .u8 (n.val : Int)) (.lit (.int .u8 0)) with | .lit (.int .u8 v) => decide (v = ((escZ (UInt8.ofNat n.val)).toNat : Int)) | _ => false) = true := by decide +kernel
theorem esc_look {w : World} {b : Nat} (h : w.ownsMap Try.prog 5 (plainElem Try.prog 5) b 5 escD) (c : UInt8) :
    (Instr.lookup 50 (.map (some b)) (.int .u8 (c.toNat : Int)) true).run Try.prog w = .ok (.tuple #[.int .u8 ((escZ c).toNat : Int), .bool (escIs c)]) w := by
  obtain ⟨v, ps, hrun, hv⟩ := h.look_ok escLaw Try.underlying50 (escZero w) (plainElem_int Try.underlying5 (by decide)) (escKey (c.toNat : Int) (by omega) (by have := c.toNat_lt; omega))
  have h1 := esc_has ⟨c.toNat, c.toNat_lt⟩
  have h2 := esc_at ⟨c.toNat, c.toNat_lt⟩
  have hc : UInt8.ofNat c.toNat = c := by simp
  simp only [hc] at h1 h2
  obtain ⟨a, rfl, hz, hw⟩ := plainElem_int_inv Try.underlying5 hv
  have h3 := congrArg Prod.fst hz
  simp only at h3
  rw [h3] at h2
  have h4 : a = ((escZ c).toNat : Int) := by simpa using h2
  rw [hrun, h1, h4]

theorem conv_one (w : World) (c : UInt8) : (convert 33 9 (.slice (some ⟨w.heap.size, 0, none⟩) 1 1)).run Try.prog (w.alloc (.cells #[.int .u8 (c.toNat : Int)] 5)) = Result.ok (.string ⟨#[c]⟩) (w.alloc (.cells #[.int .u8 (c.toNat : Int)] 5)) := by
  have h : (w.alloc (.cells #[.int .u8 (c.toNat : Int)] 5)).ownsRow w.heap.size 5 1 (.slice (some ⟨w.heap.size, 0, none⟩) 1 1) 1 (nums .u8 [(c.toNat : Int)]) := by
    exact ⟨by simp [nums], .inr ⟨w.heap.size, 1, _, rfl, Nat.le_refl _, heap_alloc_new w _, Nat.le_refl _, by decide, rfl, by simp [nums]⟩⟩
  rw [own_string Try.underlying33 Try.underlying5 Try.underlying9 h]
  simp [strOfNums]

theorem escaped_is (c : UInt8) (t : List UInt8) (hE : eolL (c :: t) = 0) (hO : oct c = false) : escV (c :: t) = [escC c] ∧ escN (c :: t) = 1 := by
  constructor
  · show (if 0 < eolL (c :: t) then [] else if oct c = true then [UInt8.ofNat (octV 3 0 (c :: t))] else [escC c]) = _
    rw [hE, hO]; simp
  · show (if 0 < eolL (c :: t) then (eolL (c :: t)).toNat else if oct c = true then octN 3 (c :: t) else 1) = _
    rw [hE, hO]; simp
theorem ret_two {k : IntKind} {a b : ByteArray} {m n : Int} (h : a = b) (h' : m = n) : Ending.returned (.tuple #[.string a, .int k m]) = .returned (.tuple #[.string b, .int k n]) := by rw [h, h']
theorem ext_one (s : ByteArray) (i : Nat) (hi : i < s.size) : s.extract i (i + 1) = ⟨#[s[i]]⟩ := by
  apply ByteArray.ext
  apply Array.ext'
  rw [Lib.extract_data, drop_at s i hi]
  simp
theorem escC_not (c : UInt8) (h : escIs c = false) : escC c = c := by
  unfold escIs at h
  unfold escC
  simp only [Bool.or_eq_false_iff, beq_eq_false_iff_ne] at h
  simp [h]

set_option maxRecDepth 100000 in
set_option maxHeartbeats 2000000 in
theorem escaped_letter (s : ByteArray) (i : Nat) (w : World) (hs : s.size ≤ 140737488351232) (hi : i < s.size) (hE : eolL (s.data.toList.drop i) = 0) (hO : oct s[i] = false) :
    Calls Try.prog 16 #[.string s, .int .i64 (i : Int)] w fun e w' => e = .returned (.tuple #[.string ⟨(escV (s.data.toList.drop i)).toArray⟩, .int .i64 (escN (s.data.toList.drop i))]) ∧ Below w.heap.size w w' := by
  have hp : plc s (i : Int) = i := plc_in s i (by omega)
  have HE : Aside0 (class_Eol.f s (i : Int) = some 0) := Aside0.mk (by unfold class_Eol.f; rw [hp, hE])
  have hi' : (i : Int) < (s.size : Int) := by omega
  have hd := drop_at s i hi
  rw [hd] at hE
  obtain ⟨v1, v2⟩ := escaped_is _ _ hE hO
  rw [hd, v1, v2]
  have hcv := conv_one
  clear hE v1 v2 hp hd
  by_cases hI : escIs s[i] = true
  · have hz : escZ s[i] = escC s[i] := by unfold escZ; rw [if_pos hI]
    go_enter Try.func16, Try.ntmps16
    go_wp2_with (first | (go_at_call 18; (with_reducible refine (class_Eol.calls s _ 0 _ HE.out).mono ?_); rintro e w1 ⟨rfl, hb1⟩; have HB1 := Aside0.mk hb1; clear hb1) | (go_at_call 25; (with_reducible refine (octal_calls _ _).mono ?_); rintro e w2 ⟨rfl, hb2⟩; have HB2 := Aside0.mk hb2; clear hb2))
    go_region_with (first | (go_at_call 24; (with_reducible refine (escapes_calls _).mono ?_); rintro e w3 ⟨b, rfl, hm, hb3⟩; have HB3 := Aside0.mk hb3; clear hb3; have hlk := esc_look hm s[i]))
    all_goals (go_wp2_with fail)
    all_goals (try go_ret2)
    all_goals refine ⟨?_, ?_⟩
    all_goals first | exact ret_two rfl rfl | exact ret_two (ext_one s i hi) rfl | skip
    all_goals (have HA : Below w.heap.size w w2 := HB1.out.trans (HB2.out.mono HB1.out.size))
    all_goals first | exact HA.trans (HB3.out.mono HA.size) | exact (HA.trans (HB3.out.mono HA.size)).alloc (Nat.le_trans HA.size HB3.out.size) _ | exact HA.drew.trans (HB3.out.mono HA.size) | exact (HA.drew.trans (HB3.out.mono HA.size)).alloc (Nat.le_trans HA.size HB3.out.size) _
  · have hI := Bool.not_eq_true _ ▸ hI
    have hz : escC s[i] = s[i] := escC_not _ hI
    rw [hz]
    go_enter Try.func16, Try.ntmps16
    go_wp2_with (first | (go_at_call 18; (with_reducible refine (class_Eol.calls s _ 0 _ HE.out).mono ?_); rintro e w1 ⟨rfl, hb1⟩; have HB1 := Aside0.mk hb1; clear hb1) | (go_at_call 25; (with_reducible refine (octal_calls _ _).mono ?_); rintro e w2 ⟨rfl, hb2⟩; have HB2 := Aside0.mk hb2; clear hb2))
    go_region_with (first | (go_at_call 24; (with_reducible refine (escapes_calls _).mono ?_); rintro e w3 ⟨b, rfl, hm, hb3⟩; have HB3 := Aside0.mk hb3; clear hb3; have hlk := esc_look hm s[i]))
    all_goals (go_wp2_with fail)
    all_goals (try go_ret2)
    all_goals refine ⟨?_, ?_⟩
    all_goals first | exact ret_two rfl rfl | exact ret_two (ext_one s i hi) rfl | skip
    all_goals (have HA : Below w.heap.size w w2 := HB1.out.trans (HB2.out.mono HB1.out.size))
    all_goals first | exact HA.trans (HB3.out.mono HA.size) | exact (HA.trans (HB3.out.mono HA.size)).alloc (Nat.le_trans HA.size HB3.out.size) _ | exact HA.drew.trans (HB3.out.mono HA.size) | exact (HA.drew.trans (HB3.out.mono HA.size)).alloc (Nat.le_trans HA.size HB3.out.size) _
end Go.Proofs.Ytioildfnbcdekaa
