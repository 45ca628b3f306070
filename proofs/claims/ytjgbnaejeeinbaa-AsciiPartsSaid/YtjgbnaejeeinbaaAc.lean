/-
  The contract of ascii.characters: four bytes as five characters.
-/
import Derived.Test.YtjgbnaejeeinbaaAa
import Derived.Laws.BitsAllLaws
namespace Go.Proofs.Ytjgbnaejeeinbaa
open Go.RowKit Go.Proofs.YtjgbnaejeeinbaaW.PrintWords Go.Proofs.YtjgbnaejeeinbaaW.PrintLast
set_option linter.unusedVariables false
set_option linter.unusedSimpArgs false

abbrev four4 (a b c d : UInt8) : Array Value := #[.int .u8 (a.toNat : Int), .int .u8 (b.toNat : Int), .int .u8 (c.toNat : Int), .int .u8 (d.toNat : Int)]
theorem four_index0 (a b c d : UInt8) (w : World) : (Instr.index 40 (.agg (four4 a b c d)) (.int .i64 0)).run Try.prog w = .ok (.int .u8 (a.toNat : Int)) w := by kernel_rfl
theorem four_index1 (a b c d : UInt8) (w : World) : (Instr.index 40 (.agg (four4 a b c d)) (.int .i64 1)).run Try.prog w = .ok (.int .u8 (b.toNat : Int)) w := by kernel_rfl
theorem four_index2 (a b c d : UInt8) (w : World) : (Instr.index 40 (.agg (four4 a b c d)) (.int .i64 2)).run Try.prog w = .ok (.int .u8 (c.toNat : Int)) w := by kernel_rfl
theorem four_index3 (a b c d : UInt8) (w : World) : (Instr.index 40 (.agg (four4 a b c d)) (.int .i64 3)).run Try.prog w = .ok (.int .u8 (d.toNat : Int)) w := by kernel_rfl

theorem or_low (x b : Nat) (hb : b < 256) (hx : x * 256 < 4294967296) : bits .or .u32 ((x * 256 : Nat) : Int) (b : Int) = ((x * 256 + b : Nat) : Int) := by
  rw [u32_or_nat _ _ hx (by omega)]
  congr 1
  have := Nat.two_pow_add_eq_or_of_lt (i := 8) (b := b) (by omega) x
  rw [Nat.mul_comm x 256]
  exact this.symm
/-- Four bytes' number. -/
def num4 (a b c d : UInt8) : Nat := ((a.toNat * 256 + b.toNat) * 256 + c.toNat) * 256 + d.toNat
theorem num4_lt (a b c d : UInt8) : num4 a b c d < 4294967296 := by
  unfold num4
  have := a.toNat_lt; have := b.toNat_lt; have := c.toNat_lt; have := d.toNat_lt
  omega
/-- A number's five characters. -/
def chr5 (n : Nat) : List UInt8 := [UInt8.ofNat (33 + n / 52200625 % 85), UInt8.ofNat (33 + n / 614125 % 85), UInt8.ofNat (33 + n / 7225 % 85), UInt8.ofNat (33 + n / 85 % 85), UInt8.ofNat (33 + n % 85)]

theorem five_info : (Try.prog.info? 41).map (·.size) = some 5 := by kernel_rfl
theorem size_alloc_one (w : World) (o : Obj) : (w.alloc o).heap.size = w.heap.size + 1 := by simp
theorem chr_row (n : Nat) : ((chr5 n).map fun x => Value.int .u8 (x.toNat : Int)).toArray = #[.int .u8 (33 + (n : Int) / 85 / 85 / 85 / 85 % 85), .int .u8 (33 + (n : Int) / 85 / 85 / 85 % 85), .int .u8 (33 + (n : Int) / 85 / 85 % 85), .int .u8 (33 + (n : Int) / 85 % 85), .int .u8 (33 + (n : Int) % 85)] := by
  have h : ∀ m : Nat, m < 85 → ((UInt8.ofNat (33 + m)).toNat : Int) = 33 + (m : Int) := by intro m hm; simp; omega
  have e1 := h (n / 52200625 % 85) (Nat.mod_lt _ (by omega))
  have e2 := h (n / 614125 % 85) (Nat.mod_lt _ (by omega))
  have e3 := h (n / 7225 % 85) (Nat.mod_lt _ (by omega))
  have e4 := h (n / 85 % 85) (Nat.mod_lt _ (by omega))
  have e5 := h (n % 85) (Nat.mod_lt _ (by omega))
  simp only [chr5, List.map_cons, List.map_nil]
  rw [e1, e2, e3, e4, e5]
  have f1 : ((n / 52200625 % 85 : Nat) : Int) = (n : Int) / 85 / 85 / 85 / 85 % 85 := by omega
  have f2 : ((n / 614125 % 85 : Nat) : Int) = (n : Int) / 85 / 85 / 85 % 85 := by omega
  have f3 : ((n / 7225 % 85 : Nat) : Int) = (n : Int) / 85 / 85 % 85 := by omega
  have f4 : ((n / 85 % 85 : Nat) : Int) = (n : Int) / 85 % 85 := by omega
  have f5 : ((n % 85 : Nat) : Int) = (n : Int) % 85 := by omega
  rw [f1, f2, f3, f4, f5]

set_option maxRecDepth 100000 in
set_option maxHeartbeats 4000000 in
theorem characters_any (a b c d : UInt8) (w : World) :
    Calls Try.prog 17 #[.agg (four4 a b c d)] w fun e w' => e = .returned (.agg ((chr5 (num4 a b c d)).map fun x => Value.int .u8 (x.toNat : Int)).toArray) ∧ Below w.heap.size w w' := by
  have i0 := four_index0 a b c d
  have i1 := four_index1 a b c d
  have i2 := four_index2 a b c d
  have i3 := four_index3 a b c d
  have la := a.toNat_lt
  have lb := b.toNat_lt
  have lc := c.toNat_lt
  have ld := d.toNat_lt
  obtain ⟨m1, hm1⟩ : ∃ m : Int, m = ((a.toNat * 256 : Nat) : Int) := ⟨_, rfl⟩
  obtain ⟨n2, hn2⟩ : ∃ m : Int, m = ((a.toNat * 256 + b.toNat : Nat) : Int) := ⟨_, rfl⟩
  obtain ⟨m2, hm2⟩ : ∃ m : Int, m = (((a.toNat * 256 + b.toNat) * 256 : Nat) : Int) := ⟨_, rfl⟩
  obtain ⟨n3, hn3⟩ : ∃ m : Int, m = (((a.toNat * 256 + b.toNat) * 256 + c.toNat : Nat) : Int) := ⟨_, rfl⟩
  obtain ⟨m3, hm3⟩ : ∃ m : Int, m = ((((a.toNat * 256 + b.toNat) * 256 + c.toNat) * 256 : Nat) : Int) := ⟨_, rfl⟩
  obtain ⟨n4, hn4⟩ : ∃ m : Int, m = ((num4 a b c d : Nat) : Int) := ⟨_, rfl⟩
  have o2 : bits .or .u32 m1 (b.toNat : Int) = n2 := by rw [hm1, hn2]; exact or_low a.toNat b.toNat lb (by omega)
  have o3 : bits .or .u32 m2 (c.toNat : Int) = n3 := by rw [hm2, hn3]; exact or_low _ c.toNat lc (by omega)
  have o4 : bits .or .u32 m3 (d.toNat : Int) = n4 := by rw [hm3, hn4]; exact or_low _ d.toNat ld (by omega)
  have o1 : bits .or .u32 0 (a.toNat : Int) = (a.toNat : Int) := by
    have := or_low 0 a.toNat la (by omega)
    simpa using this
  have p1 : (a.toNat : Int) * 256 % 4294967296 = m1 := by rw [hm1]; omega
  have p2 : n2 * 256 % 4294967296 = m2 := by rw [hm2, hn2]; omega
  have p3 : n3 * 256 % 4294967296 = m3 := by rw [hm3, hn3]; omega
  have ea : (a.toNat : Int) % 4294967296 = (a.toNat : Int) := by omega
  have eb : (b.toNat : Int) % 4294967296 = (b.toNat : Int) := by omega
  have ec : (c.toNat : Int) % 4294967296 = (c.toNat : Int) := by omega
  have ed : (d.toNat : Int) % 4294967296 = (d.toNat : Int) := by omega
  have HN := Aside0.mk hn4
  have g0 : 0 ≤ n4 := by omega
  have g1 : n4 < 4294967296 := by have := num4_lt a b c d; omega
  clear hm1 hn2 hm2 hn3 hm3 hn4 la lb lc ld
  go_enter Try.func17, Try.ntmps17
  go_wp2
  refine wp_loop_rounds 5 ?_
  iterate 5 (rw [rounds_succ]; go_wp2)
  refine wp_loop_rounds 6 ?_
  iterate 6 (rw [rounds_succ]; go_wp2)
  have hchr := HN.out
  rw [hchr, chr_row]
  obtain ⟨R, hR⟩ : ∃ R : Array Value, R = #[.int .u8 (33 + ((num4 a b c d : Nat) : Int) / 85 / 85 / 85 / 85 % 85), .int .u8 (33 + ((num4 a b c d : Nat) : Int) / 85 / 85 / 85 % 85), .int .u8 (33 + ((num4 a b c d : Nat) : Int) / 85 / 85 % 85), .int .u8 (33 + ((num4 a b c d : Nat) : Int) / 85 % 85), .int .u8 (33 + ((num4 a b c d : Nat) : Int) % 85)] := ⟨_, rfl⟩
  have hRs : R.size = 5 := by rw [hR]; rfl
  rw [← hR]
  refine bodyPost_ret (v := .agg R) (results_cell_row (by rfl) _ _ (w.heap.size + 1) 41 R (0, 0) _ rfl (by have := heap_alloc_new (w.alloc (.cells (four4 a b c d) 40)); simp only [size_alloc_one] at this; exact this _) Try.underlying41 rfl (by rw [hRs]; exact five_info)) rfl ⟨rfl, ?_⟩
  exact ((Below.refl _ _).alloc (Nat.le_refl _) _).alloc (by simp) _
end Go.Proofs.Ytjgbnaejeeinbaa
