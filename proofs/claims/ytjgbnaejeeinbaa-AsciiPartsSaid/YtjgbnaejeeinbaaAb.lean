/-
  The contract of ascii.bytes: characters as bytes, one fewer.
-/
import Derived.Test.YtjgbnaejeeinbaaAs
import Derived.Laws.BitsAllLaws
namespace Go.Proofs.Ytjgbnaejeeinbaa
open Go.RowKit Go.Proofs.YtjgbnaejeeinbaaW.PrintWords Go.Proofs.YtjgbnaejeeinbaaW.PrintLast
set_option linter.unusedVariables false
set_option linter.unusedSimpArgs false

/-- A character of a group. -/
def chrOk (c : UInt8) : Prop := 33 ≤ c.toNat ∧ c.toNat ≤ 117
/-- The number of five characters. -/
def num5 (a b c d e : UInt8) : Nat := ((((a.toNat - 33) * 85 + (b.toNat - 33)) * 85 + (c.toNat - 33)) * 85 + (d.toNat - 33)) * 85 + (e.toNat - 33)
def byt4 (n : Nat) : List UInt8 := [UInt8.ofNat (n / 16777216), UInt8.ofNat (n / 65536), UInt8.ofNat (n / 256), UInt8.ofNat n]
/-- The number of up to five characters, filled with u. -/
def numP : List UInt8 → Nat
  | [a] => num5 a 117 117 117 117
  | [a, b] => num5 a b 117 117 117
  | [a, b, c] => num5 a b c 117 117
  | [a, b, c, d] => num5 a b c d 117
  | [a, b, c, d, e] => num5 a b c d e
  | _ => 0

theorem byt_row (n : Nat) (N : Int) (hN : N = (n : Int)) : (byteRow (byt4 n)).toArray = #[.int .u8 (N / 16777216 % 256), .int .u8 (N / 65536 % 256), .int .u8 (N / 256 % 256), .int .u8 (N % 256)] := by
  subst hN
  have h : ∀ m : Nat, ((UInt8.ofNat m).toNat : Int) = (m : Int) % 256 := by intro m; simp
  simp only [byteRow, byt4, List.map_cons, List.map_nil, h]
  rw [show ((n / 16777216 : Nat) : Int) = (n : Int) / 16777216 by omega, show ((n / 65536 : Nat) : Int) = (n : Int) / 65536 by omega, show ((n / 256 : Nat) : Int) = (n : Int) / 256 by omega]
theorem high_none (n : Nat) (N : Int) (hN : N = (n : Int)) : (N / 4294967296 == 0) = decide (n < 4294967296) := by
  subst hN
  rw [Bool.eq_iff_iff, beq_iff_eq, decide_eq_true_iff]
  omega
theorem ret_pair {v : Value} {a b : Bool} (h : a = b) : Ending.returned (.tuple #[v, .bool a]) = .returned (.tuple #[v, .bool b]) := by rw [h]

set_option maxRecDepth 100000 in
set_option maxHeartbeats 4000000 in
theorem bytes_2 (x0 x1 : UInt8) (g cp : Nat) (w : World) (h0 : chrOk x0) (h1 : chrOk x1)
    (k0 : w.cell? ⟨g, 0, none⟩ = some (.int .u8 (x0.toNat : Int))) (k1 : w.cell? ⟨g, 1, none⟩ = some (.int .u8 (x1.toNat : Int))) :
    Calls Try.prog 34 #[.slice (some ⟨g, 0, none⟩) 2 cp] w fun e w' => e = .returned (.tuple #[.slice (some ⟨w.heap.size, 0, none⟩) 1 4, .bool (decide (numP [x0, x1] < 4294967296))]) ∧ w' = w.alloc (.cells (byteRow (byt4 (numP [x0, x1]))).toArray 40) := by
  obtain ⟨a0, b0⟩ := h0
  obtain ⟨a1, b1⟩ := h1
  obtain ⟨n, hn⟩ : ∃ n, n = numP [x0, x1] := ⟨_, rfl⟩
  rw [← hn]
  have hn2 : (85 * (85 * (85 * (85 * ((x0.toNat : Int) - 33) + ((x1.toNat : Int) - 33)) + 84) + 84) + 84 : Int) = (n : Int) := by rw [hn]; show _ = ((num5 x0 x1 117 117 117 : Nat) : Int); unfold num5; have e117 : (117 : UInt8).toNat = 117 := rfl; omega
  have HN := Aside0.mk hn2
  clear hn hn2
  go_enter Try.func34, Try.ntmps34
  go_wp2
  refine wp_loop_rounds 6 ?_
  iterate 6 (rw [rounds_succ]; go_wp2)
  generalize hN : (85 * (85 * (85 * (85 * ((x0.toNat : Int) - 33) + ((x1.toNat : Int) - 33)) + 84) + 84) + 84 : Int) = N
  have n0 : 0 ≤ N := by omega
  have n1 : N < 4437053125 := by omega
  have HM : Aside0 (N = (n : Int)) := Aside0.mk (hN.symm.trans HN.out)
  clear hN
  refine wp_loop_rounds 5 ?_
  iterate 5 (rw [rounds_succ]; go_wp2)
  go_ret2
  exact ⟨ret_pair (high_none n N HM.out), by rw [byt_row n N HM.out]⟩

set_option maxRecDepth 100000 in
set_option maxHeartbeats 4000000 in
theorem bytes_3 (x0 x1 x2 : UInt8) (g cp : Nat) (w : World) (h0 : chrOk x0) (h1 : chrOk x1) (h2 : chrOk x2)
    (k0 : w.cell? ⟨g, 0, none⟩ = some (.int .u8 (x0.toNat : Int))) (k1 : w.cell? ⟨g, 1, none⟩ = some (.int .u8 (x1.toNat : Int))) (k2 : w.cell? ⟨g, 2, none⟩ = some (.int .u8 (x2.toNat : Int))) :
    Calls Try.prog 34 #[.slice (some ⟨g, 0, none⟩) 3 cp] w fun e w' => e = .returned (.tuple #[.slice (some ⟨w.heap.size, 0, none⟩) 2 4, .bool (decide (numP [x0, x1, x2] < 4294967296))]) ∧ w' = w.alloc (.cells (byteRow (byt4 (numP [x0, x1, x2]))).toArray 40) := by
  obtain ⟨a0, b0⟩ := h0
  obtain ⟨a1, b1⟩ := h1
  obtain ⟨a2, b2⟩ := h2
  obtain ⟨n, hn⟩ : ∃ n, n = numP [x0, x1, x2] := ⟨_, rfl⟩
  rw [← hn]
  have hn2 : (85 * (85 * (85 * (85 * ((x0.toNat : Int) - 33) + ((x1.toNat : Int) - 33)) + ((x2.toNat : Int) - 33)) + 84) + 84 : Int) = (n : Int) := by rw [hn]; show _ = ((num5 x0 x1 x2 117 117 : Nat) : Int); unfold num5; have e117 : (117 : UInt8).toNat = 117 := rfl; omega
  have HN := Aside0.mk hn2
  clear hn hn2
  go_enter Try.func34, Try.ntmps34
  go_wp2
  refine wp_loop_rounds 6 ?_
  iterate 6 (rw [rounds_succ]; go_wp2)
  generalize hN : (85 * (85 * (85 * (85 * ((x0.toNat : Int) - 33) + ((x1.toNat : Int) - 33)) + ((x2.toNat : Int) - 33)) + 84) + 84 : Int) = N
  have n0 : 0 ≤ N := by omega
  have n1 : N < 4437053125 := by omega
  have HM : Aside0 (N = (n : Int)) := Aside0.mk (hN.symm.trans HN.out)
  clear hN
  refine wp_loop_rounds 5 ?_
  iterate 5 (rw [rounds_succ]; go_wp2)
  go_ret2
  exact ⟨ret_pair (high_none n N HM.out), by rw [byt_row n N HM.out]⟩

set_option maxRecDepth 100000 in
set_option maxHeartbeats 4000000 in
theorem bytes_4 (x0 x1 x2 x3 : UInt8) (g cp : Nat) (w : World) (h0 : chrOk x0) (h1 : chrOk x1) (h2 : chrOk x2) (h3 : chrOk x3)
    (k0 : w.cell? ⟨g, 0, none⟩ = some (.int .u8 (x0.toNat : Int))) (k1 : w.cell? ⟨g, 1, none⟩ = some (.int .u8 (x1.toNat : Int))) (k2 : w.cell? ⟨g, 2, none⟩ = some (.int .u8 (x2.toNat : Int))) (k3 : w.cell? ⟨g, 3, none⟩ = some (.int .u8 (x3.toNat : Int))) :
    Calls Try.prog 34 #[.slice (some ⟨g, 0, none⟩) 4 cp] w fun e w' => e = .returned (.tuple #[.slice (some ⟨w.heap.size, 0, none⟩) 3 4, .bool (decide (numP [x0, x1, x2, x3] < 4294967296))]) ∧ w' = w.alloc (.cells (byteRow (byt4 (numP [x0, x1, x2, x3]))).toArray 40) := by
  obtain ⟨a0, b0⟩ := h0
  obtain ⟨a1, b1⟩ := h1
  obtain ⟨a2, b2⟩ := h2
  obtain ⟨a3, b3⟩ := h3
  obtain ⟨n, hn⟩ : ∃ n, n = numP [x0, x1, x2, x3] := ⟨_, rfl⟩
  rw [← hn]
  have hn2 : (85 * (85 * (85 * (85 * ((x0.toNat : Int) - 33) + ((x1.toNat : Int) - 33)) + ((x2.toNat : Int) - 33)) + ((x3.toNat : Int) - 33)) + 84 : Int) = (n : Int) := by rw [hn]; show _ = ((num5 x0 x1 x2 x3 117 : Nat) : Int); unfold num5; have e117 : (117 : UInt8).toNat = 117 := rfl; omega
  have HN := Aside0.mk hn2
  clear hn hn2
  go_enter Try.func34, Try.ntmps34
  go_wp2
  refine wp_loop_rounds 6 ?_
  iterate 6 (rw [rounds_succ]; go_wp2)
  generalize hN : (85 * (85 * (85 * (85 * ((x0.toNat : Int) - 33) + ((x1.toNat : Int) - 33)) + ((x2.toNat : Int) - 33)) + ((x3.toNat : Int) - 33)) + 84 : Int) = N
  have n0 : 0 ≤ N := by omega
  have n1 : N < 4437053125 := by omega
  have HM : Aside0 (N = (n : Int)) := Aside0.mk (hN.symm.trans HN.out)
  clear hN
  refine wp_loop_rounds 5 ?_
  iterate 5 (rw [rounds_succ]; go_wp2)
  go_ret2
  exact ⟨ret_pair (high_none n N HM.out), by rw [byt_row n N HM.out]⟩

set_option maxRecDepth 100000 in
set_option maxHeartbeats 4000000 in
theorem bytes_5 (x0 x1 x2 x3 x4 : UInt8) (g cp : Nat) (w : World) (h0 : chrOk x0) (h1 : chrOk x1) (h2 : chrOk x2) (h3 : chrOk x3) (h4 : chrOk x4)
    (k0 : w.cell? ⟨g, 0, none⟩ = some (.int .u8 (x0.toNat : Int))) (k1 : w.cell? ⟨g, 1, none⟩ = some (.int .u8 (x1.toNat : Int))) (k2 : w.cell? ⟨g, 2, none⟩ = some (.int .u8 (x2.toNat : Int))) (k3 : w.cell? ⟨g, 3, none⟩ = some (.int .u8 (x3.toNat : Int))) (k4 : w.cell? ⟨g, 4, none⟩ = some (.int .u8 (x4.toNat : Int))) :
    Calls Try.prog 34 #[.slice (some ⟨g, 0, none⟩) 5 cp] w fun e w' => e = .returned (.tuple #[.slice (some ⟨w.heap.size, 0, none⟩) 4 4, .bool (decide (numP [x0, x1, x2, x3, x4] < 4294967296))]) ∧ w' = w.alloc (.cells (byteRow (byt4 (numP [x0, x1, x2, x3, x4]))).toArray 40) := by
  obtain ⟨a0, b0⟩ := h0
  obtain ⟨a1, b1⟩ := h1
  obtain ⟨a2, b2⟩ := h2
  obtain ⟨a3, b3⟩ := h3
  obtain ⟨a4, b4⟩ := h4
  obtain ⟨n, hn⟩ : ∃ n, n = numP [x0, x1, x2, x3, x4] := ⟨_, rfl⟩
  rw [← hn]
  have hn2 : (85 * (85 * (85 * (85 * ((x0.toNat : Int) - 33) + ((x1.toNat : Int) - 33)) + ((x2.toNat : Int) - 33)) + ((x3.toNat : Int) - 33)) + ((x4.toNat : Int) - 33) : Int) = (n : Int) := by rw [hn]; show _ = ((num5 x0 x1 x2 x3 x4 : Nat) : Int); unfold num5; omega
  have HN := Aside0.mk hn2
  clear hn hn2
  go_enter Try.func34, Try.ntmps34
  go_wp2
  refine wp_loop_rounds 6 ?_
  iterate 6 (rw [rounds_succ]; go_wp2)
  generalize hN : (85 * (85 * (85 * (85 * ((x0.toNat : Int) - 33) + ((x1.toNat : Int) - 33)) + ((x2.toNat : Int) - 33)) + ((x3.toNat : Int) - 33)) + ((x4.toNat : Int) - 33) : Int) = N
  have n0 : 0 ≤ N := by omega
  have n1 : N < 4437053125 := by omega
  have HM : Aside0 (N = (n : Int)) := Aside0.mk (hN.symm.trans HN.out)
  clear hN
  refine wp_loop_rounds 5 ?_
  iterate 5 (rw [rounds_succ]; go_wp2)
  go_ret2
  exact ⟨ret_pair (high_none n N HM.out), by rw [byt_row n N HM.out]⟩
end Go.Proofs.Ytjgbnaejeeinbaa
