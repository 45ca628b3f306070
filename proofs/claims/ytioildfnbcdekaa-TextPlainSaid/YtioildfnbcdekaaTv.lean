/-
  What text.Literal, text.Hex, text.PutHex answer at texts that are known in part; words on strings as lists. No walk.
-/
import Derived.Test.YtioildfnbcdekaaTu
import Derived.Test.YtioildfnbcdekaaTh
import Derived.Test.YtioildfnbcdekaaWTab
namespace Go.Proofs.Ytioildfnbcdekaa
open Go.RowKit Go.Proofs.YtioildfnbcdekaaW.PrintWords Go.Proofs.YtioildfnbcdekaaW.PrintLast
set_option linter.unusedVariables false
set_option linter.unusedSimpArgs false

theorem toList_mk (l : List UInt8) : (⟨l.toArray⟩ : ByteArray).toList = l := by rw [Lib.toList_data]
theorem size_mk (l : List UInt8) : (⟨l.toArray⟩ : ByteArray).size = l.length := by rw [Lib.size_eq]
theorem mk_data (s : ByteArray) : (⟨s.data.toList.toArray⟩ : ByteArray) = s := rfl
theorem wrap_small {i : Int} (h0 : -9223372036854775808 ≤ i) (h1 : i ≤ 9223372036854775807) : wrap64 i = i := by unfold wrap64; omega
theorem bt_nat (s : ByteArray) (i : Nat) (h : i < s.size) : bt s (i : Int) = (s[i].toNat : Int) := by
  unfold bt
  rw [dif_pos (by simpa using h)]
  rfl
theorem app_list (a b : ByteArray) : (a ++ b).data.toList = a.data.toList ++ b.data.toList := by simp
theorem ext_list (s : ByteArray) (a b : Nat) : (s.extract a b).data.toList = (s.data.toList.drop a).take (b - a) := by rw [Lib.extract_data]
theorem take_in (x : UInt8) (H K : List UInt8) (j : Nat) (h : j ≤ H.length) : (x :: (H ++ K)).take (j + 1) = x :: H.take j := by
  rw [List.take_succ_cons, List.take_append_of_le_length h]
theorem drop_in (x : UInt8) (H K : List UInt8) (j : Nat) (h : j ≤ H.length) : (x :: (H ++ K)).drop (j + 1) = H.drop j ++ K := by
  rw [List.drop_succ_cons, List.drop_append_of_le_length h]
theorem head_part (y : ByteArray) (x : UInt8) (H K : List UInt8) (j : Nat) (hy : y.data.toList = x :: (H ++ K)) (h : j ≤ H.length) : (y.extract 0 (j + 1)).data.toList = x :: H.take j := by
  rw [ext_list, hy, List.drop_zero, Nat.sub_zero, take_in x H K j h]
theorem tail_part (y : ByteArray) (x : UInt8) (H K : List UInt8) (j : Nat) (hy : y.data.toList = x :: (H ++ K)) (h : j ≤ H.length) : (y.extract (j + 1) y.size).data.toList = H.drop j ++ K := by
  rw [ext_list, List.take_of_length_le (by rw [List.length_drop, ← Lib.size_eq]; exact Nat.le_refl _), hy, drop_in x H K j h]
theorem literal_at (s : ByteArray) (p l o : List UInt8) (n : Nat) (hz : s.size ≤ 140737488351232) (hs : s.data.toList = p ++ 40 :: l) (hr : lit 1 l = some (o, n)) (ho : o.length ≤ 65536) :
    text_Literal.f s (p.length : Int) = some (⟨o.toArray⟩, (p.length : Int) + 1 + n, 0) := by
  have hlen := Lib.size_eq s
  rw [hs, List.length_append, List.length_cons] at hlen
  unfold text_Literal.f
  rw [if_pos hz]
  have e : litF s (p.length : Int) = (o, (p.length : Int) + 1 + n, 0) := by
    unfold litF
    rw [if_pos ⟨by omega, by omega, by rw [hs, Int.toNat_natCast, List.getElem?_append_right (Nat.le_refl _), Nat.sub_self]; rfl⟩]
    unfold litR
    have e1 : s.data.toList.drop (p.length + 1) = l := by rw [hs, ← List.drop_drop, List.drop_left' rfl]; rfl
    rw [Int.toNat_natCast, e1, hr]
    show (if 65536 < o.length then _ else _) = _
    rw [if_neg (by omega)]
  rw [e]
theorem hex_at (s : ByteArray) (p l ds : List UInt8) (n : Nat) (hz : s.size ≤ 140737488351232) (hs : s.data.toList = p ++ 60 :: l) (hr : hexS l = (0, ds, n)) (ho : (pairs ds).length ≤ 65536) :
    text_Hex.f s (p.length : Int) = some (⟨(pairs ds).toArray⟩, (p.length : Int) + 1 + n + 1, 0) := by
  have hlen := Lib.size_eq s
  rw [hs, List.length_append, List.length_cons] at hlen
  unfold text_Hex.f
  rw [if_pos hz]
  have e : hexF s (p.length : Int) = (pairs ds, (p.length : Int) + 1 + n + 1, 0) := by
    unfold hexF
    rw [if_pos ⟨by omega, by omega, by rw [hs, Int.toNat_natCast, List.getElem?_append_right (Nat.le_refl _), Nat.sub_self]; rfl⟩]
    unfold hexR
    have e1 : s.data.toList.drop (p.length + 1) = l := by rw [hs, ← List.drop_drop, List.drop_left' rfl]; rfl
    rw [Int.toNat_natCast, e1, hr]
    show (if (0 : Int) ≠ 0 then _ else if 65536 < (pairs ds).length then _ else _) = _
    rw [if_neg (by simp), if_neg (by omega)]
  rw [e]
theorem puthex_at (s : ByteArray) (hs : s.size ≤ 65536) : text_PutHex.f s = some (⟨(60 :: (hexAll s.data.toList ++ [62])).toArray⟩, 0) := by
  unfold text_PutHex.f putHexL
  rw [if_neg (by rw [← Lib.size_eq]; omega)]
theorem wf_64 {a : Int} (h : (Lit.int .i64 a).wf = true) : -9223372036854775808 ≤ a ∧ a ≤ 9223372036854775807 := by
  simp [Lit.wf, IntKind.min, IntKind.max, IntKind.signed, IntKind.bits] at h
  omega
theorem tmod_small (a m : Int) (hm : 1 ≤ m) : -m < Int.tmod a m ∧ Int.tmod a m < m := by
  have h1 := Int.tmod_lt_of_pos a (show 0 < m by omega)
  have h2 : -m < Int.tmod a m := by
    have h3 := Int.tmod_lt_of_pos (-a) (show 0 < m by omega)
    rw [Int.neg_tmod] at h3
    omega
  exact ⟨h2, h1⟩
end Go.Proofs.Ytioildfnbcdekaa
