/-
  The contracts of ascii.read, HexGet, Get85.
-/
import Derived.Test.YtjgbnaejeeinbaaAm
namespace Go.Proofs.Ytjgbnaejeeinbaa
open Go.RowKit Go.Proofs.YtjgbnaejeeinbaaW.PrintWords Go.Proofs.YtjgbnaejeeinbaaW.PrintLast
set_option linter.unusedVariables false
set_option linter.unusedSimpArgs false

def MAt (bud : Int) (first : Nat) (s : ByteArray) (i : Nat) (st : St) : Prop := runM bud st (s.data.toList.drop i) = runM bud ⟨first, [], [], 0⟩ s.data.toList ∧ OkS st ∧ st.out.length ≤ 4 * i

theorem fun_guard (n : Nat) (x y : Operand) (W : World) : (eqGuard .neq 51 x y (fv n) .nilFunc).run Try.prog W = .ok () W := by kernel_rfl
theorem fun_neq (n : Nat) (W : World) : (binOp .neq 51 (fv n) .nilFunc).run Try.prog W = .ok (.bool true) W := by kernel_rfl
theorem nil_guard (x y : Operand) (W : World) : (eqGuard .neq 51 x y .nilFunc .nilFunc).run Try.prog W = .ok () W := by kernel_rfl
theorem nil_neq (W : World) : (binOp .neq 51 .nilFunc .nilFunc).run Try.prog W = .ok (.bool false) W := by kernel_rfl

theorem row_string {B n : Nat} {v : Value} {l : List UInt8} {w : World} (h : w.ownsRow B 5 1 v n (byteRow l)) : (convert 26 9 v).run Try.prog w = .ok (.string ⟨l.toArray⟩) w := by
  have e : byteRow l = nums .u8 (l.map fun c => (c.toNat : Int)) := by simp [byteRow, nums]
  rw [e] at h
  rw [own_string Try.underlying26 Try.underlying5 Try.underlying9 h]
  have e2 : strOfNums (l.map fun c => (c.toNat : Int)) = ⟨l.toArray⟩ := by
    unfold strOfNums
    simp only [List.map_map]
    congr 2
    exact (List.map_congr_left (fun c _ => by simp)).trans (List.map_id l)
  rw [e2]

set_option maxRecDepth 100000 in
set_option maxHeartbeats 8000000 in
theorem read_in (s : ByteArray) (bud : Int) (first : Nat) (fvv : Value) (hf : fvv = modeV first) (h13 : first = 1 ∨ first = 3) (w : World) (hs : s.size ≤ 1000000) (hb : 0 ≤ bud) :
    Calls Try.prog 20 #[.string s, .int .i64 bud, fvv] w fun e w' => e = .returned (.tuple #[.string ⟨(readS first s.data.toList bud).1.toArray⟩, .int .i64 (readS first s.data.toList bud).2]) ∧ Below w.heap.size w w' := by
  have hb' : ¬ (bud < 0) := by omega
  have HF := Aside0.mk hf
  clear hf
  go_enter Try.func20, Try.ntmps20
  go_wp2_with fail
  have hrd : RdAt w.heap.size w.heap.size [] [] bud 0 (w.alloc (.cells #[.slice none 0 0, .int .i64 bud, .slice none 0 0, .int .i64 0] 54)) := ⟨Nat.le_refl _, .slice none 0 0, .slice none 0 0, heap_alloc_new w _, World.ownsRow_nil _ _ _ _, World.ownsRow_nil _ _ _ _, .inl rfl⟩
  have HRD := Aside0.mk hrd
  clear hrd
  go_loopg [9, 10] s.size (fun g s9 s10 wx => ∃ (i : Nat) (st : St), i + g = s.size ∧ s9 = modeV st.mode ∧ s10 = .int .i64 i ∧ Aside0 (MAt bud first s i st) ∧ Aside0 (RdAt w.heap.size w.heap.size st.out st.part bud st.e wx ∧ Below w.heap.size w wx))
  case atStart => exact ⟨0, ⟨first, [], [], 0⟩, by omega, HF.out, rfl, Aside0.mk ⟨rfl, ⟨by rcases h13 with h | h <;> simp [h], fun _ => rfl, by rcases h13 with h | h <;> simp [h], fun _ => ⟨by simp, by simp⟩⟩, by simp⟩, Aside0.mk ⟨HRD.out, (Below.refl _ _).alloc (Nat.le_refl _) _⟩⟩
  case round =>
    obtain ⟨i, st, hig, rfl, rfl, HA, HR⟩ := hrel
    have hol : st.out.length ≤ 10000000 := by have := HA.out.2.2; omega
    have hm4 : st.mode ≤ 4 := HA.out.2.1.1
    by_cases hz : i < s.size
    · have hz' : (i : Int) < (s.size : Int) := by omega
      have HD := Aside0.mk (drop_at s i hz)
      have HN : Aside0 (st.mode ≠ 0 → MAt bud first s (i + 1) (stepM bud st s[i])) := Aside0.mk (fun h0 => by
        obtain ⟨a1, a2, a3⟩ := HA.out
        obtain ⟨b1, b2⟩ := ok_step bud st s[i] a2 h0
        refine ⟨?_, b1, by omega⟩
        rw [← a1, HD.out, runM_cons bud st h0])
      obtain h0 | h0 | h0 | h0 | h0 : st.mode = 0 ∨ st.mode = 1 ∨ st.mode = 2 ∨ st.mode = 3 ∨ st.mode = 4 := by omega
      · have hv : modeV st.mode = .nilFunc := by rw [h0]; rfl
        rw [hv]
        have HE : Aside0 (readS first s.data.toList bud = if st.e ≠ 0 then ([], st.e) else (st.out, 0)) := Aside0.mk (by
          unfold readS
          rw [if_neg (by omega)]
          simp only
          rw [← HA.out.1, runM_done bud st h0, if_neg (fun h => h h0)])
        have gq := nil_guard
        have bq := nil_neq
        clear h0 hv
        obtain ⟨_, vo, vp, hbk, ho, _, _⟩ := HR.out.1
        obtain ⟨A, cp, rfl⟩ := own_slice ho
        have k0 : wr.cell? ⟨w.heap.size, 0, none⟩ = some (.slice A st.out.length cp) := (Lib.cell_of_heap hbk 0).trans rfl
        have k3 : wr.cell? ⟨w.heap.size, 3, none⟩ = some (.int .i64 st.e) := (Lib.cell_of_heap hbk 3).trans rfl
        have hcv := row_string ho
        clear hbk ho
        by_cases he : st.e = 0
        · have q3 : (st.e != 0) = false := by rw [he]; rfl
          have HE2 : Aside0 (readS first s.data.toList bud = (st.out, 0)) := Aside0.mk (by rw [HE.out, if_neg (fun h => h he)])
          clear he
          go_wp2_with fail
          go_ret2
          exact ⟨ret_two (by rw [HE2.out]) (by rw [HE2.out]), HR.out.2⟩
        · have q3 : (st.e != 0) = true := by rw [bne_iff_ne]; exact he
          have HE2 : Aside0 (readS first s.data.toList bud = ([], st.e)) := Aside0.mk (by rw [HE.out, if_pos he])
          clear he
          go_wp2_with fail
          go_quiet (fail)
          go_wp2_with fail
          go_ret2
          exact ⟨ret_two (by rw [HE2.out]) (by rw [HE2.out]), pw_below_drewN HR.out.2 _⟩
      · have hv : modeV st.mode = fv 21 := by rw [h0]; rfl
        rw [hv]
        have HST := Aside0.mk (fun W h hB => step_digit w.heap.size w.heap.size bud st s[i] W h0 HA.out.2.1 h hB)
        have HN2 := Aside0.mk (HN.out (by omega))
        have gq := fun_guard 21
        have bq := fun_neq 21
        clear h0 hv
        go_wp2_with (go_at_call 21; (with_reducible refine (HST.out _ HR.out.1 HR.out.2.size).mono ?_); rintro e w2 ⟨rfl, hr2, hb2⟩; have HR2 := Aside0.mk hr2; have HB2 := Aside0.mk hb2; clear hr2 hb2)
        go_roundg (gk - 1)
        case measure => omega
        case rel => exact ⟨i + 1, stepM bud st s[i], by omega, rfl, by first | rfl | simp, HN2, Aside0.mk ⟨HR2.out, HR.out.2.trans HB2.out⟩⟩
      · have hv : modeV st.mode = fv 27 := by rw [h0]; rfl
        rw [hv]
        have HST := Aside0.mk (fun W h hB => step_second w.heap.size w.heap.size bud st s[i] W h0 HA.out.2.1 h hB hol)
        have HN2 := Aside0.mk (HN.out (by omega))
        have gq := fun_guard 27
        have bq := fun_neq 27
        clear h0 hv
        go_wp2_with (go_at_call 27; (with_reducible refine (HST.out _ HR.out.1 HR.out.2.size).mono ?_); rintro e w2 ⟨rfl, hr2, hb2⟩; have HR2 := Aside0.mk hr2; have HB2 := Aside0.mk hb2; clear hr2 hb2)
        go_roundg (gk - 1)
        case measure => omega
        case rel => exact ⟨i + 1, stepM bud st s[i], by omega, rfl, by first | rfl | simp, HN2, Aside0.mk ⟨HR2.out, HR.out.2.trans HB2.out⟩⟩
      · have hv : modeV st.mode = fv 22 := by rw [h0]; rfl
        rw [hv]
        have HST := Aside0.mk (fun W h hB => step_group w.heap.size w.heap.size bud st s[i] W h0 HA.out.2.1 h hB hol)
        have HN2 := Aside0.mk (HN.out (by omega))
        have gq := fun_guard 22
        have bq := fun_neq 22
        clear h0 hv
        go_wp2_with (go_at_call 22; (with_reducible refine (HST.out _ HR.out.1 HR.out.2.size).mono ?_); rintro e w2 ⟨rfl, hr2, hb2⟩; have HR2 := Aside0.mk hr2; have HB2 := Aside0.mk hb2; clear hr2 hb2)
        go_roundg (gk - 1)
        case measure => omega
        case rel => exact ⟨i + 1, stepM bud st s[i], by omega, rfl, by first | rfl | simp, HN2, Aside0.mk ⟨HR2.out, HR.out.2.trans HB2.out⟩⟩
      · have hv : modeV st.mode = fv 28 := by rw [h0]; rfl
        rw [hv]
        have HST := Aside0.mk (fun W h hB => step_end w.heap.size w.heap.size bud st s[i] W h0 HA.out.2.1 h hB hol)
        have HN2 := Aside0.mk (HN.out (by omega))
        have gq := fun_guard 28
        have bq := fun_neq 28
        clear h0 hv
        go_wp2_with (go_at_call 28; (with_reducible refine (HST.out _ HR.out.1 HR.out.2.size).mono ?_); rintro e w2 ⟨rfl, hr2, hb2⟩; have HR2 := Aside0.mk hr2; have HB2 := Aside0.mk hb2; clear hr2 hb2)
        go_roundg (gk - 1)
        case measure => omega
        case rel => exact ⟨i + 1, stepM bud st s[i], by omega, rfl, by first | rfl | simp, HN2, Aside0.mk ⟨HR2.out, HR.out.2.trans HB2.out⟩⟩
    · have hz' : ¬ ((i : Int) < (s.size : Int)) := by omega
      have HL : Aside0 (runM bud ⟨first, [], [], 0⟩ s.data.toList = st) := Aside0.mk (by
        rw [← HA.out.1, List.drop_of_length_le (by rw [← Lib.size_eq]; omega)]; rfl)
      by_cases h0 : st.mode = 0
      · have hv : modeV st.mode = .nilFunc := by rw [h0]; rfl
        rw [hv]
        have HE : Aside0 (readS first s.data.toList bud = if st.e ≠ 0 then ([], st.e) else (st.out, 0)) := Aside0.mk (by
          unfold readS
          rw [if_neg (by omega)]
          simp only
          rw [HL.out, if_neg (fun h => h h0)])
        have gq := nil_guard
        have bq := nil_neq
        clear h0 hv hz
        obtain ⟨_, vo, vp, hbk, ho, _, _⟩ := HR.out.1
        obtain ⟨A, cp, rfl⟩ := own_slice ho
        have k0 : wr.cell? ⟨w.heap.size, 0, none⟩ = some (.slice A st.out.length cp) := (Lib.cell_of_heap hbk 0).trans rfl
        have k3 : wr.cell? ⟨w.heap.size, 3, none⟩ = some (.int .i64 st.e) := (Lib.cell_of_heap hbk 3).trans rfl
        have hcv := row_string ho
        clear hbk ho
        by_cases he : st.e = 0
        · have q3 : (st.e != 0) = false := by rw [he]; rfl
          have HE2 : Aside0 (readS first s.data.toList bud = (st.out, 0)) := Aside0.mk (by rw [HE.out, if_neg (fun h => h he)])
          clear he
          go_wp2_with fail
          go_ret2
          exact ⟨ret_two (by rw [HE2.out]) (by rw [HE2.out]), HR.out.2⟩
        · have q3 : (st.e != 0) = true := by rw [bne_iff_ne]; exact he
          have HE2 : Aside0 (readS first s.data.toList bud = ([], st.e)) := Aside0.mk (by rw [HE.out, if_pos he])
          clear he
          go_wp2_with fail
          go_quiet (fail)
          go_wp2_with fail
          go_ret2
          exact ⟨ret_two (by rw [HE2.out]) (by rw [HE2.out]), pw_below_drewN HR.out.2 _⟩
      · have hv : ∃ n, modeV st.mode = fv n := by
          obtain h | h | h | h : st.mode = 1 ∨ st.mode = 2 ∨ st.mode = 3 ∨ st.mode = 4 := by omega
          all_goals (rw [h]; exact ⟨_, rfl⟩)
        obtain ⟨n, hv⟩ := hv
        rw [hv]
        have HE : Aside0 (readS first s.data.toList bud = ([], 8)) := Aside0.mk (by
          unfold readS
          rw [if_neg (by omega)]
          simp only
          rw [HL.out, if_pos h0])
        have gq := fun_guard n
        have bq := fun_neq n
        clear h0 hv hz
        go_wp2_with fail
        go_ret2
        exact ⟨by rw [HE.out]; rfl, HR.out.2⟩

theorem read_calls (s : ByteArray) (bud : Int) (first : Nat) (fvv : Value) (hf : fvv = modeV first) (h13 : first = 1 ∨ first = 3) (w : World) (hs : s.size ≤ 1000000) :
    Calls Try.prog 20 #[.string s, .int .i64 bud, fvv] w fun e w' => e = .returned (.tuple #[.string ⟨(readS first s.data.toList bud).1.toArray⟩, .int .i64 (readS first s.data.toList bud).2]) ∧ Below w.heap.size w w' := by
  by_cases hb : 0 ≤ bud
  · exact read_in s bud first fvv hf h13 w hs hb
  · have e : readS first s.data.toList bud = ([], 2) := by unfold readS; rw [if_pos (by omega)]
    rw [e]
    have hb' : bud < 0 := by omega
    clear hb e
    go_enter Try.func20, Try.ntmps20
    go_wp2_with fail
    go_ret2
    exact ⟨rfl, Below.refl _ _⟩

def ascii_HexGet.f (s : ByteArray) (bud : Int) : Option (ByteArray × Int) := if s.size ≤ 1000000 then some (⟨(readS 1 s.data.toList bud).1.toArray⟩, (readS 1 s.data.toList bud).2) else none
def ascii_Get85.f (s : ByteArray) (bud : Int) : Option (ByteArray × Int) := if s.size ≤ 1000000 then some (⟨(readS 3 s.data.toList bud).1.toArray⟩, (readS 3 s.data.toList bud).2) else none
theorem ascii_HexGet.calls (s : ByteArray) (bud : Int) (r1 : ByteArray) (r2 : Int) (w : World) (h : ascii_HexGet.f s bud = some (r1, r2)) :
    Calls Try.prog 12 #[.string s, .int .i64 bud] w fun e w' => e = .returned (.tuple #[.string r1, .int .i64 r2]) ∧ Below w.heap.size w w' := by
  unfold ascii_HexGet.f at h
  split at h
  case isFalse => cases h
  case isTrue hs =>
  obtain ⟨h1, h2⟩ := Prod.mk.inj (Option.some.inj h)
  subst h1 h2
  clear h
  go_enter Try.func12, Try.ntmps12
  go_wp2_with (go_at_call 20; (with_reducible refine (read_calls s bud 1 (fv 21) rfl (.inl rfl) _ hs).mono ?_); rintro e w1 ⟨rfl, hb1⟩)
  go_ret2
  exact ⟨rfl, hb1⟩
theorem ascii_Get85.calls (s : ByteArray) (bud : Int) (r1 : ByteArray) (r2 : Int) (w : World) (h : ascii_Get85.f s bud = some (r1, r2)) :
    Calls Try.prog 13 #[.string s, .int .i64 bud] w fun e w' => e = .returned (.tuple #[.string r1, .int .i64 r2]) ∧ Below w.heap.size w w' := by
  unfold ascii_Get85.f at h
  split at h
  case isFalse => cases h
  case isTrue hs =>
  obtain ⟨h1, h2⟩ := Prod.mk.inj (Option.some.inj h)
  subst h1 h2
  clear h
  go_enter Try.func13, Try.ntmps13
  go_wp2_with (go_at_call 20; (with_reducible refine (read_calls s bud 3 (fv 22) rfl (.inr rfl) _ hs).mono ?_); rintro e w1 ⟨rfl, hb1⟩)
  go_ret2
  exact ⟨rfl, hb1⟩
end Go.Proofs.Ytjgbnaejeeinbaa
