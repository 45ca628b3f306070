/-
  The walk of ClassRemarks: a remark and a line's end are passed over.
-/
import Derived.Test.YtmcdhldaffljnaaHCx1
namespace Go.Proofs.Ytmcdhldaffljnaa
open Go.RowKit Go.Proofs.Ytmcdhldaffljnaa.HC Go.Proofs.YtmcdhldaffljnaaW.PrintWords Go.Proofs.YtmcdhldaffljnaaW.PrintLast
set_option linter.unusedVariables false
set_option linter.unusedSimpArgs false

theorem sk_rem (S T : List UInt8) (h : ∀ c ∈ S, c ≠ 10 ∧ c ≠ 13) : sk true (S ++ T) = S.length + sk true T := by
  induction S with
  | nil => simp
  | cons c S ih =>
    have hc := h c (by simp)
    simp only [List.cons_append, sk, List.length_cons]
    rw [if_neg (by simp [hc.1, hc.2]), ih (fun d hd => h d (by simp [hd]))]
    omega
theorem data_append (x y : ByteArray) : (x ++ y).data.toList = x.data.toList ++ y.data.toList := by simp
theorem size_append (x y : ByteArray) : (x ++ y).size = x.size + y.size := by simp
theorem plc0 (s : ByteArray) : plc s 0 = 0 := by
  have := plc_in s 0 (by omega)
  exact this
theorem skip_of (s : ByteArray) (hs : s.size ≤ 140737488351232) : class_Skip.f s 0 = some (sk false s.data.toList : Int) := by
  unfold class_Skip.f
  rw [if_pos hs, plc0]
  simp
theorem skip_some (t : ByteArray) (ht : (t.size : Int) ≤ 1000) : ∃ n : Int, class_Skip.f t 0 = some n ∧ 0 ≤ n ∧ n ≤ 1000 := by
  have := sk_le false t.data.toList
  rw [← Lib.size_eq] at this
  exact ⟨_, skip_of t (by omega), by omega, by omega⟩
theorem skip_remark (s : ByteArray) (h : ∀ c ∈ s.data.toList, c ≠ 10 ∧ c ≠ 13) (hs : (s.size : Int) ≤ 1000) : class_Skip.f ((⟨#[37]⟩ : ByteArray) ++ s) 0 = some ((s.size : Int) + 1) := by
  have hz : (⟨#[37]⟩ : ByteArray).size = 1 := rfl
  rw [skip_of _ (by rw [size_append]; omega), data_append]
  have e : sk false ((⟨#[37]⟩ : ByteArray).data.toList ++ s.data.toList) = 1 + s.size := by
    show sk false (37 :: s.data.toList) = _
    have e1 : sk false (37 :: s.data.toList) = 1 + sk true s.data.toList := by simp [sk, clsN]
    have e2 := sk_rem s.data.toList [] h
    rw [List.append_nil] at e2
    rw [e1, e2, Lib.size_eq]
    simp [sk]
  rw [e]
  congr 1
  omega
theorem skip_ahead (s t x : ByteArray) (h : ∀ c ∈ s.data.toList, c ≠ 10 ∧ c ≠ 13) (hx : x = ⟨#[10]⟩ ∨ x = ⟨#[13, 10]⟩ ∨ x = ⟨#[13, 32]⟩) (hs : (s.size : Int) ≤ 1000) (ht : (t.size : Int) ≤ 1000) (n : Int) (hn : class_Skip.f t 0 = some n) (m : Int) (hm : (x.size : Int) = m) :
    class_Skip.f ((⟨#[37]⟩ : ByteArray) ++ s ++ x ++ t) 0 = some (1 + (s.size : Int) + m + n) := by
  have hz : (⟨#[37]⟩ : ByteArray).size = 1 := rfl
  have hx2 : x.size ≤ 2 := by rcases hx with rfl | rfl | rfl <;> decide
  rw [skip_of t (by omega)] at hn
  have hn' := Option.some.inj hn
  rw [skip_of _ (by rw [size_append, size_append, size_append]; omega), data_append, data_append, data_append]
  have e : sk false ((⟨#[37]⟩ : ByteArray).data.toList ++ s.data.toList ++ x.data.toList ++ t.data.toList) = 1 + s.size + x.size + sk false t.data.toList := by
    show sk false ((37 :: s.data.toList) ++ x.data.toList ++ t.data.toList) = _
    rw [List.cons_append, List.cons_append, List.append_assoc]
    have e1 : sk false (37 :: (s.data.toList ++ (x.data.toList ++ t.data.toList))) = 1 + sk true (s.data.toList ++ (x.data.toList ++ t.data.toList)) := by simp [sk, clsN]
    rw [e1, sk_rem _ _ h, Lib.size_eq s]
    have e2 : sk true (x.data.toList ++ t.data.toList) = x.size + sk false t.data.toList := by
      rcases hx with rfl | rfl | rfl
      · show sk true (10 :: t.data.toList) = 1 + _
        simp [sk]
      · show sk true (13 :: 10 :: t.data.toList) = 2 + _
        simp [sk, clsN]; omega
      · show sk true (13 :: 32 :: t.data.toList) = 2 + _
        simp [sk, clsN]; omega
    rw [e2]; omega
  rw [e]
  congr 1
  omega

set_option maxRecDepth 100000 in
set_option maxHeartbeats 1000000 in
theorem remarks_long (s t : ByteArray) (a : Int) (w : World) (h : (1000 : Int) < (s.size : Int) ∨ (1000 : Int) < (t.size : Int)) :
    Calls Try.prog 4 #[.string s, .string t, .int .u8 a] w fun e w' => e = .returned (.bool true) ∧ Below w.heap.size w w' := by
  have f0 : Aside0 (pagemenderlaw01_lives.f = some true) := Aside0.mk (by decide +kernel)
  by_cases h1 : (1000 : Int) < (s.size : Int)
  · clear h
    go_enter Try.func4, Try.ntmps4
    go_wp2_with (go_at_call 9; (with_reducible refine (pagemenderlaw01_lives.calls true _ f0.out).mono ?_); rintro e w1 ⟨rfl, hb1⟩)
    go_ret
    exact ⟨rfl, hb1⟩
  · have h2 : (1000 : Int) < (t.size : Int) := by omega
    clear h
    go_enter Try.func4, Try.ntmps4
    go_wp2_with (go_at_call 9; (with_reducible refine (pagemenderlaw01_lives.calls true _ f0.out).mono ?_); rintro e w1 ⟨rfl, hb1⟩)
    go_ret
    exact ⟨rfl, hb1⟩

set_option maxRecDepth 100000 in
set_option maxHeartbeats 1000000 in
theorem remarks_short (s t : ByteArray) (a : Int) (w : World) (h0 : 0 ≤ a) (h1 : a < 256) (hs : (s.size : Int) ≤ 1000) (ht : (t.size : Int) ≤ 1000) :
    Calls Try.prog 4 #[.string s, .string t, .int .u8 a] w fun e w' => e = .returned (.bool true) ∧ Below w.heap.size w w' := by
  have f0 : Aside0 (pagemenderlaw01_lives.f = some true) := Aside0.mk (by decide +kernel)
  go_enter Try.func4, Try.ntmps4
  go_wp2_with (go_at_call 9; (with_reducible refine (pagemenderlaw01_lives.calls true _ f0.out).mono ?_); rintro e w1 ⟨rfl, hb1⟩)
  go_loopg [7] s.size (fun g s6 wx => ∃ k : Nat, k + g = s.size ∧ s6 = .int .i64 k ∧ Aside0 (∀ j c, j < k → s.data.toList[j]? = some c → c ≠ 10 ∧ c ≠ 13) ∧ Below w.heap.size w wx)
  case atStart => exact ⟨0, by omega, by first | rfl | simp, Aside0.mk (by intros; omega), hb1⟩
  case round =>
    obtain ⟨k, hkg, rfl, HA, hbx⟩ := hrel
    cases gk with
    | zero =>
      have hkz : ¬ ((k : Int) < (s.size : Int)) := by omega
      have hclean : ∀ c ∈ s.data.toList, c ≠ 10 ∧ c ≠ 13 := by
        intro c hc
        obtain ⟨j, hj, e⟩ := List.mem_iff_getElem.1 hc
        exact HA.out j c (by rw [← Lib.size_eq] at hj; omega) (by rw [List.getElem?_eq_getElem hj, e])
      obtain ⟨n, hn', hn0, hn1⟩ := skip_some t ht
      have hn : Aside0 (class_Skip.f t 0 = some n) := Aside0.mk hn'
      have g3 : Aside0 (class_Skip.f ((⟨#[37]⟩ : ByteArray) ++ s) 0 = some ((s.size : Int) + 1)) := Aside0.mk (skip_remark s hclean hs)
      have HC := Aside0.mk hclean
      have HB := Aside0.mk hbx
      clear hbx hclean hn'
      have h3 : a % 3 = 0 ∨ a % 3 = 1 ∨ a % 3 = 2 := by omega
      rcases h3 with h3 | h3 | h3
      · have g1 : Aside0 (class_Skip.f ((⟨#[37]⟩ : ByteArray) ++ s ++ (⟨#[10]⟩ : ByteArray) ++ t) 0 = some (1 + (s.size : Int) + 1 + n)) := Aside0.mk (skip_ahead s t _ HC.out (by exact .inl rfl) hs ht n hn.out 1 rfl)
        go_wp2_with (first
          | (go_at_call 12; (with_reducible refine (class_Skip.calls _ _ _ _ g1.out).mono ?_); rintro e w2 ⟨rfl, hb⟩; have n0_ := Aside0.mk (below_step (by repeat (first | (with_reducible first | exact HB.out | apply below_alloc | apply pw_below_drewN | apply below_drew1) | exact HB.out)) hb); clear HB; have HB := n0_; clear n0_ hb)
          | (go_at_call 12; (with_reducible refine (class_Skip.calls _ _ _ _ hn.out).mono ?_); rintro e w2 ⟨rfl, hb⟩; have n0_ := Aside0.mk (below_step (by repeat (first | (with_reducible first | exact HB.out | apply below_alloc | apply pw_below_drewN | apply below_drew1) | exact HB.out)) hb); clear HB; have HB := n0_; clear n0_ hb)
          | (go_at_call 12; (with_reducible refine (class_Skip.calls _ _ _ _ g3.out).mono ?_); rintro e w2 ⟨rfl, hb⟩; have n0_ := Aside0.mk (below_step (by repeat (first | (with_reducible first | exact HB.out | apply below_alloc | apply pw_below_drewN | apply below_drew1) | exact HB.out)) hb); clear HB; have HB := n0_; clear n0_ hb))
        go_ret
        exact ⟨rfl, by repeat (first | (with_reducible first | exact HB.out | apply below_alloc | apply pw_below_drewN | apply below_drew1) | exact HB.out)⟩
      · have g1 : Aside0 (class_Skip.f ((⟨#[37]⟩ : ByteArray) ++ s ++ (⟨#[13, 10]⟩ : ByteArray) ++ t) 0 = some (1 + (s.size : Int) + 2 + n)) := Aside0.mk (skip_ahead s t _ HC.out (by exact .inr (.inl rfl)) hs ht n hn.out 2 rfl)
        go_wp2_with (first
          | (go_at_call 12; (with_reducible refine (class_Skip.calls _ _ _ _ g1.out).mono ?_); rintro e w2 ⟨rfl, hb⟩; have n0_ := Aside0.mk (below_step (by repeat (first | (with_reducible first | exact HB.out | apply below_alloc | apply pw_below_drewN | apply below_drew1) | exact HB.out)) hb); clear HB; have HB := n0_; clear n0_ hb)
          | (go_at_call 12; (with_reducible refine (class_Skip.calls _ _ _ _ hn.out).mono ?_); rintro e w2 ⟨rfl, hb⟩; have n0_ := Aside0.mk (below_step (by repeat (first | (with_reducible first | exact HB.out | apply below_alloc | apply pw_below_drewN | apply below_drew1) | exact HB.out)) hb); clear HB; have HB := n0_; clear n0_ hb)
          | (go_at_call 12; (with_reducible refine (class_Skip.calls _ _ _ _ g3.out).mono ?_); rintro e w2 ⟨rfl, hb⟩; have n0_ := Aside0.mk (below_step (by repeat (first | (with_reducible first | exact HB.out | apply below_alloc | apply pw_below_drewN | apply below_drew1) | exact HB.out)) hb); clear HB; have HB := n0_; clear n0_ hb))
        go_ret
        exact ⟨rfl, by repeat (first | (with_reducible first | exact HB.out | apply below_alloc | apply pw_below_drewN | apply below_drew1) | exact HB.out)⟩
      · have g1 : Aside0 (class_Skip.f ((⟨#[37]⟩ : ByteArray) ++ s ++ (⟨#[13, 32]⟩ : ByteArray) ++ t) 0 = some (1 + (s.size : Int) + 2 + n)) := Aside0.mk (skip_ahead s t _ HC.out (by exact .inr (.inr rfl)) hs ht n hn.out 2 rfl)
        go_wp2_with (first
          | (go_at_call 12; (with_reducible refine (class_Skip.calls _ _ _ _ g1.out).mono ?_); rintro e w2 ⟨rfl, hb⟩; have n0_ := Aside0.mk (below_step (by repeat (first | (with_reducible first | exact HB.out | apply below_alloc | apply pw_below_drewN | apply below_drew1) | exact HB.out)) hb); clear HB; have HB := n0_; clear n0_ hb)
          | (go_at_call 12; (with_reducible refine (class_Skip.calls _ _ _ _ hn.out).mono ?_); rintro e w2 ⟨rfl, hb⟩; have n0_ := Aside0.mk (below_step (by repeat (first | (with_reducible first | exact HB.out | apply below_alloc | apply pw_below_drewN | apply below_drew1) | exact HB.out)) hb); clear HB; have HB := n0_; clear n0_ hb)
          | (go_at_call 12; (with_reducible refine (class_Skip.calls _ _ _ _ g3.out).mono ?_); rintro e w2 ⟨rfl, hb⟩; have n0_ := Aside0.mk (below_step (by repeat (first | (with_reducible first | exact HB.out | apply below_alloc | apply pw_below_drewN | apply below_drew1) | exact HB.out)) hb); clear HB; have HB := n0_; clear n0_ hb))
        go_ret
        exact ⟨rfl, by repeat (first | (with_reducible first | exact HB.out | apply below_alloc | apply pw_below_drewN | apply below_drew1) | exact HB.out)⟩
    | succ g =>
      have hkz : (k : Int) < (s.size : Int) := by omega
      have hk : k < s.size := by omega
      by_cases c10 : (s[k].toNat : Int) = 10
      · have b10 : ((s[k].toNat : Int) == 10) = true := by simpa using c10
        clear c10
        go_wp2_with fail
        go_ret
        exact ⟨rfl, hbx⟩
      · have b10 : ((s[k].toNat : Int) == 10) = false := by simpa using c10
        by_cases c13 : (s[k].toNat : Int) = 13
        · have b13 : ((s[k].toNat : Int) == 13) = true := by simpa using c13
          clear c13 c10
          go_wp2_with fail
          go_ret
          exact ⟨rfl, hbx⟩
        · have b13 : ((s[k].toNat : Int) == 13) = false := by simpa using c13
          have HN : Aside0 (s[k] ≠ 10 ∧ s[k] ≠ 13) := Aside0.mk ⟨fun e => c10 (by rw [e]; rfl), fun e => c13 (by rw [e]; rfl)⟩
          clear c10 c13
          go_wp2_with fail
          go_roundg g
          case measure => omega
          case rel =>
            refine ⟨k + 1, by omega, by first | rfl | simp, Aside0.mk ?_, hbx⟩
            intro j c hj hc
            rcases Nat.lt_or_ge j k with h | h
            · exact HA.out j c h hc
            · have e : j = k := by omega
              subst e
              have e2 : s.data.toList[j]? = some s[j] := by rw [List.getElem?_eq_getElem (by rw [← Lib.size_eq]; exact hk)]; rfl
              rw [e2] at hc
              have := Option.some.inj hc
              rw [← this]
              exact HN.out

theorem classRemarks_walk (s t : ByteArray) (a : Int) (w : World) (hs : s.size ≤ 140737488351232) (ht : t.size ≤ 140737488351232) (h0 : (Lit.int .u8 a).wf = true) :
    Calls Try.prog 4 #[.string s, .string t, .int .u8 a] w fun e w' => e = .returned (.bool true) ∧ Below w.heap.size w w' := by
  have hb : 0 ≤ a ∧ a < 256 := by
    have hh : (decide (IntKind.u8.min ≤ a) && decide (a ≤ IntKind.u8.max)) = true := h0
    rw [Bool.and_eq_true, decide_eq_true_eq, decide_eq_true_eq] at hh
    have e : IntKind.u8.min = 0 := by decide
    have e' : IntKind.u8.max = 255 := by decide
    omega
  by_cases h1 : (1000 : Int) < (s.size : Int)
  · exact remarks_long s t a w (.inl h1)
  · by_cases h2 : (1000 : Int) < (t.size : Int)
    · exact remarks_long s t a w (.inr h2)
    · exact remarks_short s t a w hb.1 hb.2 (by omega) (by omega)
end Go.Proofs.Ytmcdhldaffljnaa
