/-
  The plain law of ClassLines: a text is its lines. What the printed functions answer is true of every text.
-/
import Derived.Test.YtmcdhldaffljnaaGx1
namespace Go.Proofs.Ytmcdhldaffljnaa.Pure
open Go.RowKit Go.Proofs.Ytmcdhldaffljnaa.G Go.Proofs.YtmcdhldaffljnaaW.PrintWords Go.Proofs.YtmcdhldaffljnaaW.PrintLast
set_option linter.unusedVariables false
set_option linter.unusedSimpArgs false

theorem lives_ok : pagemenderlaw01_lives.f = some true := by decide +kernel

theorem size_of_split {s : ByteArray} {p t : List UInt8} (h : s.data.toList = p.reverse ++ t) : s.size = p.length + t.length := by
  rw [Lib.size_eq, h]; simp
theorem eol_at {s : ByteArray} {p t : List UInt8} (h : s.data.toList = p.reverse ++ t) : class_Eol.f s (p.length : Int) = some (eolL t) := by
  have hz := size_of_split h
  unfold class_Eol.f
  rw [plc_in s p.length (by omega), h, List.drop_left' (by simp)]
theorem back_at {s : ByteArray} {p t : List UInt8} (hs : s.size ≤ 2000) (h : s.data.toList = p.reverse ++ t) : class_Back.f s (p.length : Int) = some (backL p) := by
  have hz := size_of_split h
  unfold class_Back.f
  rw [if_pos (by omega), plc_in s p.length (by omega), h, List.take_left' (by simp), List.reverse_reverse]
theorem bt_split {s : ByteArray} {p t : List UInt8} {c : UInt8} (h : s.data.toList = p.reverse ++ c :: t) : bt s (p.length : Int) = c.toNat := by
  have hz := size_of_split h
  simp only [List.length_cons] at hz
  unfold bt
  have h' : (p.length : Int).toNat < s.size := by omega
  rw [dif_pos h']
  have e : s[(p.length : Int).toNat]'h' = s.data.toList[p.length]'(by rw [← Lib.size_eq]; omega) := rfl
  rw [e]
  simp only [h]
  rw [List.getElem_append_right (by simp)]
  simp

theorem wrap_small {i : Int} (h0 : -9223372036854775808 ≤ i) (h1 : i ≤ 9223372036854775807) : wrap64 i = i := by unfold wrap64; omega

theorem lines_go (s : ByteArray) (hs : s.size ≤ 2000) : ∀ (m : Nat) (p t : List UInt8), t.length ≤ m → s.data.toList = p.reverse ++ t → ¬ (p.head? = some 13 ∧ t.head? = some 10) →
    ∀ k, 2 * m + 1 ≤ k → pagemenderlaw01_ClassLines.l0 k s (p.length : Int) = some true := by
  intro m
  induction m with
  | zero =>
    intro p t ht h hn k hk
    obtain rfl : t = [] := List.eq_nil_of_length_eq_zero (by omega)
    obtain ⟨k, rfl⟩ : ∃ j, k = j + 1 := ⟨k - 1, by omega⟩
    have hz := size_of_split h
    simp only [List.length_nil, Nat.add_zero] at hz
    simp only [pagemenderlaw01_ClassLines.l0]
    rw [if_neg (by omega), hz, eol_at h]
    have hb : class_Back.f s 0 = some 0 := back_at (p := []) (t := s.data.toList) hs (by simp)
    simp [eolL, hb]
  | succ m ih =>
    intro p t ht h hn k hk
    obtain ⟨k, rfl⟩ : ∃ j, k = j + 1 := ⟨k - 1, by omega⟩
    have hz := size_of_split h
    cases t with
    | nil => exact ih p [] (by simp) h hn (k + 1) (by omega)
    | cons c t =>
      simp only [List.length_cons] at hz ht
      have hb := bt_split h
      simp only [pagemenderlaw01_ClassLines.l0]
      rw [if_pos (by omega), eol_at h]
      simp only [Option.bind_some]
      have step : ∀ (n : Nat) (p' t' : List UInt8), eolL (c :: t) = n → 1 ≤ n → n ≤ 2 → p'.length = p.length + n → t'.length + n = t.length + 1 → s.data.toList = p'.reverse ++ t' → backL p' = n → ¬ (p'.head? = some 13 ∧ t'.head? = some 10) →
          (if eolL (c :: t) = 0 then (if 0 ≤ (p.length : Int) then (if (bt s (p.length : Int)) = 10 then (pagemenderlaw01_ClassLines.j1 k s (p.length : Int) true) else (pagemenderlaw01_ClassLines.j1 k s (p.length : Int) ((bt s (p.length : Int)) == 13))) else (none)) else (if eolL (c :: t) > 2 then (some false) else (if (wrap64 ((p.length : Int) + eolL (c :: t))) > (s.size : Int) then (some false) else ((class_Back.f s (wrap64 ((p.length : Int) + eolL (c :: t)))).bind fun t109 => (if t109 = eolL (c :: t) then (pagemenderlaw01_ClassLines.l0 k s (wrap64 ((p.length : Int) + eolL (c :: t)))) else (some false)))))) = some true := by
        intro n p' t' he hn1 hn2 hpl htl hs' hb' hi'
        rw [he, if_neg (by omega), if_neg (by omega), wrap_small (by omega) (by omega), if_neg (by omega)]
        have e : (p.length : Int) + (n : Int) = (p'.length : Int) := by omega
        rw [e, back_at hs hs', hb']
        simp only [Option.bind_some, if_true]
        exact ih p' t' (by omega) hs' hi' k (by omega)
      by_cases hc : c = 10 ∨ c = 13
      · rcases hc with rfl | rfl
        · refine step 1 (10 :: p) t rfl (by omega) (by omega) (by simp) (by omega) (by rw [h]; simp) ?_ (by simp)
          have hp : p.head? ≠ some 13 := fun e => hn ⟨e, rfl⟩
          cases p with
          | nil => rfl
          | cons d p =>
            have hd : d ≠ 13 := fun e => hp (by rw [e]; rfl)
            unfold backL
            split <;> simp_all
        · cases t with
          | nil => exact step 1 (13 :: p) [] rfl (by omega) (by omega) (by simp) (by simp) (by rw [h]; simp) rfl (by simp)
          | cons d t =>
            by_cases hd : d = 10
            · subst hd
              exact step 2 (10 :: 13 :: p) t rfl (by omega) (by omega) (by simp) (by simp) (by rw [h]; simp) rfl (by simp)
            · refine step 1 (13 :: p) (d :: t) ?_ (by omega) (by omega) (by simp) (by simp) (by rw [h]; simp) rfl (by simp [hd])
              unfold eolL
              split <;> simp_all
      · rw [if_pos ((eolL_pos c t).2 hc), if_pos (by omega), hb]
        have h1 : ¬ ((c.toNat : Int) = 10) := fun e => hc (.inl ((byte_eq c 10 (by omega)).2 (by omega)))
        have h2 : ((c.toNat : Int) == 13) = false := by rw [beq_eq_false_iff_ne]; exact fun e => hc (.inr ((byte_eq c 13 (by omega)).2 (by omega)))
        rw [if_neg h1, h2]
        obtain ⟨k, rfl⟩ : ∃ j, k = j + 1 := ⟨k - 1, by omega⟩
        simp only [pagemenderlaw01_ClassLines.j1]
        rw [if_neg (by simp), wrap_small (by omega) (by omega)]
        have := ih (c :: p) t (by omega) (by rw [h]; simp) (by rintro ⟨e, _⟩; simp at e; exact hc (.inr e)) k (by omega)
        simpa using this

theorem ClassLines : pagemenderlaw01_ClassLines.Pure := by
  intro s hs
  refine ⟨2 * s.size + 1, ?_⟩
  unfold pagemenderlaw01_ClassLines.f
  rw [lives_ok]
  simp only [Option.bind_some, if_true]
  by_cases h : (s.size : Int) > 2000
  · rw [if_pos h]
  · rw [if_neg h]
    exact lines_go s (by omega) s.size [] s.data.toList (by rw [Lib.size_eq]; exact Nat.le_refl _) (by simp) (by simp) _ (Nat.le_refl _)
end Go.Proofs.Ytmcdhldaffljnaa.Pure
