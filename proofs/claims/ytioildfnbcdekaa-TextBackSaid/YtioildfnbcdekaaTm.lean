/-
  Words on the map of letters, turned round in an order that nobody knows; text.escapes with its map's block.
-/
import Derived.Test.YtioildfnbcdekaaTe
import Derived.Maps.RangeWalk
import Derived.Maps.Ext
namespace Go.Proofs.Ytioildfnbcdekaa
open Go.RowKit Go.Maps Go.Proofs.YtioildfnbcdekaaW.PrintWords Go.Proofs.YtioildfnbcdekaaW.PrintLast
set_option linter.unusedVariables false
set_option linter.unusedSimpArgs false

/-- The map of letters, turned round. -/
abbrev letD : DataW Unit := (((((DataW.map []).put (.int .u8 10) (.lit (.int .u8 110))).put (.int .u8 13) (.lit (.int .u8 114))).put (.int .u8 9) (.lit (.int .u8 116))).put (.int .u8 8) (.lit (.int .u8 98))).put (.int .u8 12) (.lit (.int .u8 102))
abbrev ku (n : Int) : Lit := .int .u8 n
abbrev du (n : Int) : DataW Unit := .lit (.int .u8 n)
def back : Lit → Lit
  | .int .u8 n => if n = 10 then ku 110 else if n = 13 then ku 114 else if n = 9 then ku 116 else if n = 8 then ku 98 else if n = 12 then ku 102 else ku n
  | k => k
theorem letD_has {k : Lit} (h : Maps.has letD k = true) : k = ku 10 ∨ k = ku 13 ∨ k = ku 9 ∨ k = ku 8 ∨ k = ku 12 := by
  by_cases h1 : k = ku 10
  · exact .inl h1
  by_cases h2 : k = ku 13
  · exact .inr (.inl h2)
  by_cases h3 : k = ku 9
  · exact .inr (.inr (.inl h3))
  by_cases h4 : k = ku 8
  · exact .inr (.inr (.inr (.inl h4)))
  by_cases h5 : k = ku 12
  · exact .inr (.inr (.inr (.inr h5)))
  · unfold letD at h
    rw [has_put_other h5, has_put_other h4, has_put_other h3, has_put_other h2, has_put_other h1] at h
    cases h
theorem escD_has {k : Lit} (h : Maps.has escD k = true) : k = ku 110 ∨ k = ku 114 ∨ k = ku 116 ∨ k = ku 98 ∨ k = ku 102 := by
  by_cases h1 : k = ku 110
  · exact .inl h1
  by_cases h2 : k = ku 114
  · exact .inr (.inl h2)
  by_cases h3 : k = ku 116
  · exact .inr (.inr (.inl h3))
  by_cases h4 : k = ku 98
  · exact .inr (.inr (.inr (.inl h4)))
  by_cases h5 : k = ku 102
  · exact .inr (.inr (.inr (.inr h5)))
  · unfold escD at h
    rw [has_put_other h5, has_put_other h4, has_put_other h3, has_put_other h2, has_put_other h1] at h
    cases h
theorem letD_hasAll : Maps.has letD (ku 10) = true ∧ Maps.has letD (ku 13) = true ∧ Maps.has letD (ku 9) = true ∧ Maps.has letD (ku 8) = true ∧ Maps.has letD (ku 12) = true := ⟨by kernel_rfl, by kernel_rfl, by kernel_rfl, by kernel_rfl, by kernel_rfl⟩
theorem escD_hasAll : Maps.has escD (ku 110) = true ∧ Maps.has escD (ku 114) = true ∧ Maps.has escD (ku 116) = true ∧ Maps.has escD (ku 98) = true ∧ Maps.has escD (ku 102) = true := ⟨by kernel_rfl, by kernel_rfl, by kernel_rfl, by kernel_rfl, by kernel_rfl⟩
theorem back_all : back (ku 10) = ku 110 ∧ back (ku 13) = ku 114 ∧ back (ku 9) = ku 116 ∧ back (ku 8) = ku 98 ∧ back (ku 12) = ku 102 := ⟨rfl, rfl, rfl, rfl, rfl⟩
theorem letD_at : ∀ z, letD.atKey (ku 10) z = du 110 ∧ letD.atKey (ku 13) z = du 114 ∧ letD.atKey (ku 9) z = du 116 ∧ letD.atKey (ku 8) z = du 98 ∧ letD.atKey (ku 12) z = du 102 := fun z => ⟨by kernel_rfl, by kernel_rfl, by kernel_rfl, by kernel_rfl, by kernel_rfl⟩
theorem escD_at : ∀ z, escD.atKey (ku 110) z = du 10 ∧ escD.atKey (ku 114) z = du 13 ∧ escD.atKey (ku 116) z = du 9 ∧ escD.atKey (ku 98) z = du 8 ∧ escD.atKey (ku 102) z = du 12 := fun z => ⟨by kernel_rfl, by kernel_rfl, by kernel_rfl, by kernel_rfl, by kernel_rfl⟩
/-- So much of the map stands turned round: what is no longer to come. -/
def InvD (D : DataW Unit) (left : Lit → Bool) : Prop := (∀ k, Maps.has D k = (Maps.has letD k && !left (back k))) ∧ ∀ k z, Maps.has D k = true → D.atKey k z = letD.atKey k z
theorem inv_start : InvD (.map []) (Maps.has escD) := by
  refine ⟨fun k => ?_, fun k z h => by cases h⟩
  show false = _
  cases h : Maps.has letD k
  · rfl
  · obtain ⟨a1, a2, a3, a4, a5⟩ := escD_hasAll
    obtain ⟨b1, b2, b3, b4, b5⟩ := back_all
    rcases letD_has h with rfl | rfl | rfl | rfl | rfl
    · rw [b1, a1]; rfl
    · rw [b2, a2]; rfl
    · rw [b3, a3]; rfl
    · rw [b4, a4]; rfl
    · rw [b5, a5]; rfl
theorem back_one {k : Lit} (h : Maps.has letD k = true) {x : Int} (hb : back k = ku x) {c : Int} (hc : back (ku c) = ku x) (h2 : Maps.has letD (ku c) = true) : k = ku c := by
  obtain ⟨b1, b2, b3, b4, b5⟩ := back_all
  have inj : ∀ {m n : Int}, ku m = ku n → m = n := fun h => by injection h
  have e := hb.trans hc.symm
  rcases letD_has h with rfl | rfl | rfl | rfl | rfl <;> rcases letD_has h2 with f | f | f | f | f <;> obtain rfl := inj f <;> first | rfl | (exfalso; simp only [b1, b2, b3, b4, b5] at e; have := inj e; omega)
theorem inv_step {D : DataW Unit} {left : Lit → Bool} (hI : InvD D left) (hm : IsMap D) {x c : Int} (hat : ∀ zd, escD.atKey (ku x) zd = du c) : InvD (D.put (ku c) (du x)) (fun z => left z && !z.sameKey (ku x)) := by
  obtain ⟨l1, l2, l3, l4, l5⟩ := letD_hasAll
  obtain ⟨b1, b2, b3, b4, b5⟩ := back_all
  have h0 := hat .nil
  have inj : ∀ {m n : Int}, du m = du n → m = n := fun h => by injection h with h; injection h
  have inj' : ∀ {m n : Int}, ku m = ku n → m = n := fun h => by injection h
  have key : Maps.has letD (ku c) = true ∧ back (ku c) = ku x ∧ ∀ z, letD.atKey (ku c) z = du x := by
    rcases escD_has (has_true_of_atKey hat) with e | e | e | e | e
    · obtain rfl := inj' e; rw [(escD_at _).1] at h0; obtain rfl := inj h0; exact ⟨l1, b1, fun z => (letD_at z).1⟩
    · obtain rfl := inj' e; rw [(escD_at _).2.1] at h0; obtain rfl := inj h0; exact ⟨l2, b2, fun z => (letD_at z).2.1⟩
    · obtain rfl := inj' e; rw [(escD_at _).2.2.1] at h0; obtain rfl := inj h0; exact ⟨l3, b3, fun z => (letD_at z).2.2.1⟩
    · obtain rfl := inj' e; rw [(escD_at _).2.2.2.1] at h0; obtain rfl := inj h0; exact ⟨l4, b4, fun z => (letD_at z).2.2.2.1⟩
    · obtain rfl := inj' e; rw [(escD_at _).2.2.2.2] at h0; obtain rfl := inj h0; exact ⟨l5, b5, fun z => (letD_at z).2.2.2.2⟩
  obtain ⟨k1, k2, k3⟩ := key
  have hkl : WideAt.IsKeyLit (ku c) := trivial
  refine ⟨fun k => ?_, fun k z h => ?_⟩
  · by_cases e : k = ku c
    · subst e
      show Maps.has (D.put (ku c) (du x)) (ku c) = (Maps.has letD (ku c) && !(left (back (ku c)) && !(back (ku c)).sameKey (ku x)))
      rw [has_put_same hm hkl, k1, k2, WideAt.sameKey_self (show WideAt.IsKeyLit (ku x) from trivial)]
      simp
    · show Maps.has (D.put (ku c) (du x)) k = (Maps.has letD k && !(left (back k) && !(back k).sameKey (ku x)))
      rw [has_put_other e, hI.1 k]
      cases hk : Maps.has letD k
      · rfl
      · rw [sameKey_ne (fun hb => e (back_one hk hb k2 k1))]
        simp
  · by_cases e : k = ku c
    · subst e
      rw [atKey_put_same hm hkl, k3]
    · rw [has_put_other e] at h
      rw [atKey_put_other e, hI.2 k z h]
theorem letD_eq : letD = DataW.map [(ku 8, du 98), (ku 9, du 116), (ku 10, du 110), (ku 12, du 102), (ku 13, du 114)] := by kernel_rfl
theorem letD_canon : Canon letD := by
  refine ⟨_, letD_eq, ?_, ?_⟩
  · simp only [List.pairwise_cons, List.mem_cons, List.mem_nil_iff, or_false, forall_eq_or_imp, forall_eq, List.Pairwise.nil, and_true, false_implies, implies_true]
    exact ⟨⟨rfl, rfl, rfl, rfl⟩, ⟨rfl, rfl, rfl⟩, ⟨rfl, rfl⟩, rfl⟩
  · intro p hp
    simp only [List.mem_cons, List.mem_nil_iff, or_false] at hp
    rcases hp with rfl | rfl | rfl | rfl | rfl <;> trivial
theorem inv_end {D : DataW Unit} {left : Lit → Bool} (hI : InvD D left) (hl : ∀ k, left k = false) (c : Canon D) : D = letD :=
  ext c letD_canon (fun k => by rw [hI.1, hl]; simp) (fun k z h => hI.2 k z h)
end Go.Proofs.Ytioildfnbcdekaa
