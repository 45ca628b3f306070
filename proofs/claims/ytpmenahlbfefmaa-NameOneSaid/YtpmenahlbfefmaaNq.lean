/-
  The contract of name.read: it puts a raw name's bytes into a builder, and tells whether each # is a byte's number.
-/
import Derived.Test.YtpmenahlbfefmaaNp
import Derived.Test.YtpmenahlbfefmaaEx1
import Derived.Test.YtpmenahlbfefmaaBa
import Derived.Lib.UnsafeStr
namespace Go.Proofs.Ytpmenahlbfefmaa
open Go.RowKit Go.Proofs.Ytpmenahlbfefmaa.E Go.Proofs.YtpmenahlbfefmaaW.PrintWords Go.Proofs.YtpmenahlbfefmaaW.PrintLast
set_option linter.unusedVariables false
set_option linter.unusedSimpArgs false

theorem wrap_small {i : Int} (h0 : -9223372036854775808 ≤ i) (h1 : i ≤ 9223372036854775807) : wrap64 i = i := by unfold wrap64; omega
theorem bt_get (s : ByteArray) (i : Nat) (c : UInt8) (h : s.data.toList[i]? = some c) : bt s (i : Int) = c.toNat := by
  have hi : i < s.data.toList.length := (List.getElem?_eq_some_iff.1 h).1
  unfold bt
  rw [dif_pos (by rw [Lib.size_eq]; simpa using hi)]
  have e := (List.getElem?_eq_some_iff.1 h).2
  rw [← e]
  rfl
theorem hex_all : ∀ n : Fin 256, class_Hex.f 1 (n.val : Int) = some (hexv (UInt8.ofNat n.val)) := by decide +kernel
theorem hex_byte (c : UInt8) : class_Hex.f 1 (c.toNat : Int) = some (hexv c) := by
  have h := hex_all ⟨c.toNat, c.toNat_lt⟩
  simpa using h

theorem escape_yes (s : ByteArray) (i : Nat) (hs : s.size ≤ 140737488351232) (c a b : UInt8) (t : List UInt8) (h : s.data.toList.drop i = c :: a :: b :: t) :
    ∃ v, name_escape.f 1 s (i : Int) = some (v, escOk a b) ∧ (escOk a b = true → v = (escV a b).toNat) := by
  have hz : s.size = i + (t.length + 3) := by
    have := congrArg List.length h
    rw [List.length_drop, ← Lib.size_eq] at this
    simp only [List.length_cons] at this
    omega
  have ha : bt s ((i + 1 : Nat) : Int) = a.toNat := bt_get s _ a (by have := congrArg (·[1]?) h; simpa [List.getElem?_drop] using this)
  have hb : bt s ((i + 2 : Nat) : Int) = b.toNat := bt_get s _ b (by have := congrArg (·[2]?) h; simpa [List.getElem?_drop] using this)
  have e1 : wrap64 ((i : Int) + 1) = ((i + 1 : Nat) : Int) := by rw [wrap_small (by omega) (by omega)]; omega
  have e2 : wrap64 ((i : Int) + 2) = ((i + 2 : Nat) : Int) := by rw [wrap_small (by omega) (by omega)]; omega
  have ra := hexv_range a
  have rb := hexv_range b
  unfold name_escape.f
  rw [e1, e2, if_neg (by omega), if_pos (by omega), if_pos (by omega), ha, hex_byte]
  simp only [Option.bind_some]
  rw [if_pos (by omega), if_pos (by omega), hb, hex_byte]
  simp only [Option.bind_some]
  have w1 : wrap64 (16 * hexv a) = 16 * hexv a := wrap_small (by omega) (by omega)
  have w2 : wrap64 (16 * hexv a + hexv b) = 16 * hexv a + hexv b := wrap_small (by omega) (by omega)
  have w3 : wrap64 (hexv a + hexv b) = hexv a + hexv b := wrap_small (by omega) (by omega)
  rw [w1, w2, w3]
  by_cases h1 : hexv a ≥ 0
  · by_cases h2 : hexv b ≥ 0
    · rw [if_pos h1, if_pos h2]
      have e : decide (hexv a + hexv b > 0) = escOk a b := by unfold escOk; rw [Bool.eq_iff_iff]; simp; omega
      refine ⟨_, by rw [e], ?_⟩
      · intro _
        unfold escV
        simp only [UInt8.toNat_ofNat']
        omega
    · rw [if_pos h1, if_neg h2]
      have e : escOk a b = false := by unfold escOk; simp; omega
      exact ⟨_, by rw [e], fun h => by rw [e] at h; cases h⟩
  · rw [if_neg h1]
    have e : escOk a b = false := by unfold escOk; simp; omega
    exact ⟨_, by rw [e], fun h => by rw [e] at h; cases h⟩

theorem escape_no (s : ByteArray) (i : Nat) (hs : s.size ≤ 140737488351232) (hi : s.size ≤ i + 2) (h0 : i < s.size) : name_escape.f 1 s (i : Int) = some (0, false) := by
  unfold name_escape.f
  rw [wrap_small (by omega) (by omega), if_pos (by omega)]

theorem loose_other (c : UInt8) (t : List UInt8) (h : c ≠ 35) : looseL (c :: t) = c :: looseL t ∧ goodL (c :: t) = goodL t := by
  match t with
  | [] => simp [looseL, goodL, h]
  | [a] => simp [looseL, goodL, h]
  | a :: b :: t => simp [looseL, goodL, h]
theorem loose_short (t : List UInt8) (h : t.length ≤ 1) : looseL (35 :: t) = 35 :: looseL t ∧ goodL (35 :: t) = false := by
  match t, h with
  | [], _ => simp [looseL, goodL]
  | [a], _ => simp [looseL, goodL]
theorem loose_no (a b : UInt8) (t : List UInt8) (h : escOk a b = false) : looseL (35 :: a :: b :: t) = 35 :: looseL (a :: b :: t) ∧ goodL (35 :: a :: b :: t) = false := by
  constructor
  · simp only [looseL]; rw [if_neg (by simp [h])]
  · simp [goodL, h]
theorem loose_yes (a b : UInt8) (t : List UInt8) (h : escOk a b = true) : looseL (35 :: a :: b :: t) = escV a b :: looseL t ∧ goodL (35 :: a :: b :: t) = goodL t := by
  constructor
  · simp only [looseL]; rw [if_pos (by simp [h])]
  · simp [goodL, h]

theorem isb_dN {T e : TypeId} {B b : Nat} {bs : List Value} {w0 w : World} (h : Lib.IsBuilder T e B b bs w ∧ Below B w0 w) (n : Nat) : Lib.IsBuilder T e B b bs (w.drewN n) ∧ Below B w0 (w.drewN n) :=
  ⟨h.1, ⟨h.2.os, h.2.tape, h.2.output, h.2.size, h.2.block⟩⟩
theorem cells_snoc (l : List UInt8) (c : UInt8) : Lib.byteCells l ++ [Value.int .u8 (c.toNat : Int)] = Lib.byteCells (l ++ [c]) := by simp [Lib.byteCells]
theorem cells_len (l : List UInt8) : (Lib.byteCells l).length = l.length := Lib.byteCells_length l

/-- What is known at a round's head: the bytes that are put, with those still to come, are the whole; likewise whether all is good. -/
def ReadAt (raw : ByteArray) (acc : List UInt8) (i : Nat) (put : List UInt8) (g : Bool) : Prop :=
  acc ++ looseL raw.data.toList = put ++ looseL (raw.data.toList.drop i) ∧ goodL raw.data.toList = (g && goodL (raw.data.toList.drop i)) ∧ put.length ≤ acc.length + i

set_option maxRecDepth 100000 in
set_option maxHeartbeats 2000000 in
theorem read_calls (raw : ByteArray) (B b : Nat) (acc : List UInt8) (w : World) (hs : raw.size ≤ 140737488351232) (ha : acc.length ≤ 140737488351232 - raw.size)
    (hI : Lib.IsBuilder 37 5 B b (Lib.byteCells acc) w) (hBw : B ≤ w.heap.size) :
    Calls Try.prog 20 #[.string raw, .pointer (some ⟨b, 0, none⟩)] w fun e w' => e = .returned (.bool (goodL raw.data.toList)) ∧ (Lib.IsBuilder 37 5 B b (Lib.byteCells (acc ++ looseL raw.data.toList)) w' ∧ Below B w w') := by
  go_enter Try.func20, Try.ntmps20
  go_wp2_with fail
  go_loopg [5, 6] raw.size (fun g s5 s6 wx => ∃ (i : Nat) (put : List UInt8) (gd : Bool), i + g = raw.size ∧ s5 = .bool gd ∧ s6 = .int .i64 i ∧ Aside0 (ReadAt raw acc i put gd) ∧ Aside0 (Lib.IsBuilder 37 5 B b (Lib.byteCells put) wx ∧ Below B w wx))
  case atStart => exact ⟨0, acc, true, by omega, rfl, by first | rfl | simp, Aside0.mk ⟨by simp, by simp, by simp⟩, Aside0.mk ⟨hI, Below.refl _ _⟩⟩
  case round =>
    obtain ⟨i, put, gd, hig, rfl, rfl, HA, HI⟩ := hrel
    cases gk with
    | zero =>
      have hz : ¬ ((i : Int) < (raw.size : Int)) := by omega
      go_wp2_with fail
      go_ret
      obtain ⟨a1, a2, a3⟩ := HA.out
      rw [List.drop_of_length_le (by rw [← Lib.size_eq]; omega)] at a1 a2
      refine ⟨?_, ?_, HI.out.2⟩
      · refine ret_bool ?_
        rw [a2]; simp [goodL]
      · rw [a1]; simpa [looseL] using HI.out.1
    | succ g =>
      have hz : (i : Int) < (raw.size : Int) := by omega
      have hi : i < raw.size := by omega
      have HD := Aside0.mk (drop_at raw i hi)
      have HL : Aside0 ((Lib.byteCells put).length + 1 ≤ 140737488355328) := Aside0.mk (by rw [cells_len]; have := HA.out.2.2; omega)
      by_cases hc : raw[i] = 35
      · have h35 : ((raw[i].toNat : Int) != 35) = false := by rw [hc]; rfl
        have HC := Aside0.mk hc
        clear hc
        by_cases hlen : raw.size ≤ i + 2
        · have HE := Aside0.mk (escape_no raw i hs hlen hi)
          go_wp2_with (first
            | (go_at_call 30; (with_reducible refine (name_escape.calls 1 raw (i : Int) _ _ _ HE.out).mono ?_); rintro e w1 ⟨rfl, ⟨nd, rfl⟩⟩; have HI2 := Aside0.mk (isb_dN HI.out nd); clear HI; have HI := HI2; clear HI2)
            | (go_at_call 23; (with_reducible refine (bu_WriteByte B b (Lib.byteCells put) _ _ HI.out.1 HL.out (Nat.le_trans hBw HI.out.2.size)).mono ?_); rintro e w2 ⟨rfl, hb2⟩; have HW := Aside0.mk hb2; clear hb2))
          go_roundg g
          case measure => omega
          case rel =>
            refine ⟨i + 1, put ++ [35], false, by omega, rfl, by first | rfl | simp, Aside0.mk ?_, Aside0.mk ⟨.inr (by have := HW.out.1; rw [← cells_snoc]; exact this), HI.out.2.trans HW.out.2⟩⟩
            obtain ⟨a1, a2, a3⟩ := HA.out
            obtain ⟨l1, l2⟩ := loose_short (raw.data.toList.drop (i + 1)) (by rw [List.length_drop, ← Lib.size_eq]; omega)
            rw [HD.out, HC.out] at a1 a2
            exact ⟨by rw [a1, l1]; simp, by rw [a2, l2]; simp, by simp; omega⟩
        · obtain ⟨a, b', t, HT⟩ : ∃ a b' t, Aside0 (raw.data.toList.drop (i + 1) = a :: b' :: t) := by
            have hl : (raw.data.toList.drop (i + 1)).length = raw.size - (i + 1) := by rw [List.length_drop, ← Lib.size_eq]
            match raw.data.toList.drop (i + 1), hl with
            | [], hl => simp at hl; omega
            | [_], hl => simp at hl; omega
            | a :: b' :: t, _ => exact ⟨a, b', t, Aside0.mk rfl⟩
          obtain ⟨v, hv, hv2⟩ := escape_yes raw i hs raw[i] a b' t (by rw [HD.out, HT.out])
          by_cases hok : escOk a b' = true
          · rw [hok] at hv
            have HE := Aside0.mk hv
            have HV := Aside0.mk (hv2 hok)
            have HO := Aside0.mk hok
            clear hv hv2 hok
            go_wp2_with (first
              | (go_at_call 30; (with_reducible refine (name_escape.calls 1 raw (i : Int) _ _ _ HE.out).mono ?_); rintro e w1 ⟨rfl, ⟨nd, rfl⟩⟩; have HI2 := Aside0.mk (isb_dN HI.out nd); clear HI; have HI := HI2; clear HI2)
              | (go_at_call 23; (with_reducible refine (bu_WriteByte B b (Lib.byteCells put) _ _ HI.out.1 HL.out (Nat.le_trans hBw HI.out.2.size)).mono ?_); rintro e w2 ⟨rfl, hb2⟩; have HW := Aside0.mk hb2; clear hb2))
            go_roundg (g - 2)
            case measure => omega
            case rel =>
              have hl : (raw.data.toList.drop (i + 1)).length = raw.size - (i + 1) := by rw [List.length_drop, ← Lib.size_eq]
              rw [HT.out] at hl
              simp only [List.length_cons] at hl
              refine ⟨i + 3, put ++ [escV a b'], gd, by omega, rfl, by first | rfl | (simp; omega), Aside0.mk ?_, Aside0.mk ⟨.inr (by have := HW.out.1; rw [HV.out] at this; rw [← cells_snoc]; exact this), HI.out.2.trans HW.out.2⟩⟩
              obtain ⟨a1, a2, a3⟩ := HA.out
              obtain ⟨l1, l2⟩ := loose_yes a b' t HO.out
              have hd3 : raw.data.toList.drop (i + 3) = t := by
                have := congrArg (·.drop 2) HT.out
                simpa [List.drop_drop] using this
              rw [HD.out, HC.out, HT.out] at a1 a2
              exact ⟨by rw [a1, l1, hd3]; simp, by rw [a2, l2, hd3], by simp; omega⟩
          · have hok' : escOk a b' = false := by simpa using hok
            rw [hok'] at hv
            have HE := Aside0.mk hv
            have HO := Aside0.mk hok'
            clear hv hv2 hok hok'
            go_wp2_with (first
              | (go_at_call 30; (with_reducible refine (name_escape.calls 1 raw (i : Int) _ _ _ HE.out).mono ?_); rintro e w1 ⟨rfl, ⟨nd, rfl⟩⟩; have HI2 := Aside0.mk (isb_dN HI.out nd); clear HI; have HI := HI2; clear HI2)
              | (go_at_call 23; (with_reducible refine (bu_WriteByte B b (Lib.byteCells put) _ _ HI.out.1 HL.out (Nat.le_trans hBw HI.out.2.size)).mono ?_); rintro e w2 ⟨rfl, hb2⟩; have HW := Aside0.mk hb2; clear hb2))
            go_roundg g
            case measure => omega
            case rel =>
              refine ⟨i + 1, put ++ [35], false, by omega, rfl, by first | rfl | simp, Aside0.mk ?_, Aside0.mk ⟨.inr (by have := HW.out.1; rw [← cells_snoc]; exact this), HI.out.2.trans HW.out.2⟩⟩
              obtain ⟨a1, a2, a3⟩ := HA.out
              obtain ⟨l1, l2⟩ := loose_no a b' t HO.out
              rw [HD.out, HC.out, HT.out] at a1 a2
              exact ⟨by rw [a1, l1, HT.out]; simp, by rw [a2, l2]; simp, by simp; omega⟩
      · have h35 : ((raw[i].toNat : Int) != 35) = true := by
          rw [bne_iff_ne]
          intro e
          apply hc
          apply UInt8.toNat_inj.1
          have : (35 : UInt8).toNat = 35 := rfl
          omega
        have HC := Aside0.mk hc
        clear hc
        go_wp2_with (first
          | (go_at_call 23; (with_reducible refine (bu_WriteByte B b (Lib.byteCells put) _ _ HI.out.1 HL.out (Nat.le_trans hBw HI.out.2.size)).mono ?_); rintro e w2 ⟨rfl, hb2⟩; have HW := Aside0.mk hb2; clear hb2))
        go_roundg g
        case measure => omega
        case rel =>
          refine ⟨i + 1, put ++ [raw[i]], gd, by omega, rfl, by first | rfl | simp, Aside0.mk ?_, Aside0.mk ⟨.inr (by have := HW.out.1; rw [← cells_snoc]; exact this), HI.out.2.trans HW.out.2⟩⟩
          obtain ⟨a1, a2, a3⟩ := HA.out
          obtain ⟨l1, l2⟩ := loose_other raw[i] (raw.data.toList.drop (i + 1)) HC.out
          rw [HD.out] at a1 a2
          exact ⟨by rw [a1, l1]; simp, by rw [a2, l2], by simp; omega⟩
end Go.Proofs.Ytpmenahlbfefmaa
