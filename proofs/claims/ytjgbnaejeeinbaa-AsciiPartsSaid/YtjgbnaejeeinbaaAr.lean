/-
  A reader in memory: what its block holds; the contracts of its methods fail and put.
-/
import Derived.Test.YtjgbnaejeeinbaaAa
import Derived.Deep.QuietTactic
import Derived.BigQuiet
import Derived.StillTailTactics
import Derived.RegionTactic
import Derived.Deep.AppendLies
namespace Go.Proofs.Ytjgbnaejeeinbaa
open Go.RowKit Go.Proofs.YtjgbnaejeeinbaaW.PrintWords Go.Proofs.YtjgbnaejeeinbaaW.PrintLast
set_option linter.unusedVariables false
set_option linter.unusedSimpArgs false

def byteRow (l : List UInt8) : List Value := l.map fun c => .int .u8 (c.toNat : Int)
theorem byteRow_len (l : List UInt8) : (byteRow l).length = l.length := by simp [byteRow]
theorem byteRow_app (a b : List UInt8) : byteRow (a ++ b) = byteRow a ++ byteRow b := by simp [byteRow]
/-- A reader: block b (from B on), its fields, its two rows of bytes in blocks of their own. -/
def RdAt (B b : Nat) (out part : List UInt8) (bud e : Int) (w : World) : Prop :=
  B ≤ b ∧ ∃ vo vp, w.heap[b]? = some (.cells #[vo, .int .i64 bud, vp, .int .i64 e] 54 (0, 0)) ∧ w.ownsRow B 5 1 vo out.length (byteRow out) ∧ w.ownsRow B 5 1 vp part.length (byteRow part) ∧ (vo.ownBlock = none ∨ vo.ownBlock ≠ vp.ownBlock)
theorem grown_set (w : World) (a : Addr) (u : Value) : w.grownBy (w.setCell a u) (some a.block) :=
  ⟨rfl, rfl, rfl, by simp [World.setCell], fun k _ hk => Below.heap_setCell _ _ _ _ (fun e => hk (by simp [e]))⟩
theorem RdAt.lt {B b : Nat} {out part : List UInt8} {bud e : Int} {w : World} (h : RdAt B b out part bud e w) : b < w.heap.size := by
  obtain ⟨_, vo, vp, hb, _⟩ := h
  exact (Array.getElem?_eq_some_iff.1 hb).1
theorem RdAt.below {B b : Nat} {out part : List UInt8} {bud e : Int} {w w' : World} (h : RdAt B b out part bud e w) (hb : Below w.heap.size w w') : RdAt B b out part bud e w' := by
  have hlt := h.lt
  obtain ⟨hB, vo, vp, hbk, ho, hp, hne⟩ := h
  have hg : w.grownBy w' none := ⟨hb.os, hb.tape, hb.output, hb.size, fun k hk _ => hb.block k hk⟩
  exact ⟨hB, vo, vp, (hb.block b hlt).trans hbk, ho.kept hg (by cases vo.ownBlock <;> simp), hp.kept hg (by cases vp.ownBlock <;> simp), hne⟩
theorem ne_reader {B b n : Nat} {v : Value} {xs : List Value} {w : World} {cs : Array Value} {fr : Nat × Nat} (h : w.ownsRow B 5 1 v n xs) (hb : w.heap[b]? = some (.cells cs 54 fr)) : v.ownBlock = none ∨ v.ownBlock ≠ some b := .inr (Lib.ownBlock_ne h hb (by decide))
theorem RdAt.err {B b : Nat} {out part : List UInt8} {bud e : Int} {w : World} (h : RdAt B b out part bud e w) (e' : Int) : RdAt B b out part bud e' (w.setCell ⟨b, 3, none⟩ (.int .i64 e')) := by
  obtain ⟨hB, vo, vp, hbk, ho, hp, hne⟩ := h
  exact ⟨hB, vo, vp, by simp [World.setCell, Array.getElem?_modify, hbk], ho.kept (grown_set _ _ _) (ne_reader ho hbk), hp.kept (grown_set _ _ _) (ne_reader hp hbk), hne⟩

set_option maxRecDepth 100000 in
theorem fail_calls (B b : Nat) (out part : List UInt8) (bud e0 e1 : Int) (w : World) (h : RdAt B b out part bud e0 w) :
    Calls Try.prog 26 #[.pointer (some ⟨b, 0, none⟩), .int .i64 e1] w fun e w' => e = .returned .nilFunc ∧ RdAt B b out part bud e1 w' ∧ Below B w w' := by
  have hE := Aside0.mk (h.err e1)
  have hBb := h.1
  obtain ⟨_, vo, vp, hbk, _⟩ := h
  have c3 : w.cell? ⟨b, 3, none⟩ = some (.int .i64 e0) := by rw [Lib.cell_of_heap hbk]; rfl
  have f3 : w.frozen? ⟨b, 3, none⟩ = false := Lib.frozen_of_heap hbk 3
  clear hbk
  go_enter Try.func26, Try.ntmps26
  go_wp2_with fail
  go_ret
  exact ⟨rfl, hE.out, (Below.refl B w).setCell (p := ⟨b, 3, none⟩) hBb _⟩

/-! ### An append of bytes: the law of the kit, and where the row lies afterwards -/
theorem append_place {P : Program} (w : World) (base : Nat) (t ty e : TypeId) (i : TypeInfo) (z : Value) (size bytes : Nat) (ht : P.underlying t = some (.slice e)) (hi : P.info? e = some i) (hz : i.zero = some z)
    (hsize : i.size = size) (hby : i.bytes = bytes) (v : Value) (n : Nat) (xs : List Value) (hown : w.ownsRow base e size v n xs)
    (a : Addr) (m c : Nat) (news : List Value) (hl : news.length = m * size) (hnews : ∀ j u, news[j]? = some u → w.cell? (a.add j) = some u) (h1 : ∀ u ∈ news, u.oneCell' = true)
    (h63 : n + m ≤ maxLen) (hbytes : (n + m) * bytes ≤ 140737488355328) (v' : Value) (w' : World) (hr : (Builtin.append_ #[t, t] ty #[v, .slice (some a) m c]).run P w = .ok v' w') :
    v'.ownBlock = v.ownBlock ∨ v'.ownBlock = some w.heap.size := by
  subst hsize hby
  have hsmall : n + m ≤ 9223372036854775807 := by simp only [maxLen] at h63; omega
  rcases hown.2 with ⟨rfl, rfl⟩ | ⟨g, cap, cur, rfl, hbg, hg, hnc, hcm, hcs, htake⟩
  · by_cases hm : m = 0
    · subst hm
      have h2 : (Builtin.append_ #[t, t] ty #[.slice none 0 0, .slice (some a) 0 c]).run P w = .ok (.slice none 0 0) w := by
        have hn : news = [] := List.eq_nil_of_length_eq_zero (by simpa using hl)
        simp [Builtin.append_, run_underlying ht, sizeOf, typeInfo, hi, Builtin.lenOf, Builtin.firstCells, loadCells, loadCellsFrom]
      rw [h2] at hr
      injection hr with e1 e2
      exact .inl (by rw [← e1])
    · have h2 := run_append_nil (P := P) w t ty e i z ht hi hz a m c news hl hnews (by omega) (by omega) (by have hb := hbytes; simp only [Nat.zero_add] at hb; omega)
      rw [h2] at hr
      injection hr with e1 e2
      exact .inr (by rw [← e1]; rfl)
  · by_cases hroom : n + m ≤ cap
    · have h2 := run_append_room (P := P) w t ty e i ht hi g n cap cur hg a m c news hl hnews h1 hroom (by rw [hl, hcs, ← Nat.add_mul]; exact Nat.mul_le_mul_right _ hroom)
      rw [h2] at hr
      injection hr with e1 e2
      exact .inl (by rw [← e1]; rfl)
    · have holds : ∀ j u, xs[j]? = some u → w.cell? ((⟨g, 0, none⟩ : Addr).add j) = some u := hown.cells (g := g) rfl
      have h2 := run_append_grow (P := P) w t ty e i z ht hi hz ⟨g, 0, none⟩ n cap xs hown.1 holds a m c news hl hnews (by omega) (by omega) (growslice_fits (by omega) hbytes)
      rw [h2] at hr
      injection hr with e1 e2
      exact .inr (by rw [← e1]; rfl)
theorem byte_one (l : List UInt8) : ∀ u ∈ byteRow l, u.oneCell' = true := by
  intro u hu
  unfold byteRow at hu
  obtain ⟨c, _, rfl⟩ := List.mem_map.1 hu
  rfl
theorem run_append_bytes (w : World) (ty : TypeId) (B : Nat) (v : Value) (l news : List UInt8) (ad : Addr) (c : Nat) (hown : w.ownsRow B 5 1 v l.length (byteRow l))
    (hnews : ∀ j u, (byteRow news)[j]? = some u → w.cell? (ad.add j) = some u) (hlen : l.length + news.length ≤ 100000000) (hB : B ≤ w.heap.size) :
    ∃ v' w', (Builtin.append_ #[26, 26] ty #[v, .slice (some ad) news.length c]).run Try.prog w = .ok v' w' ∧ w'.ownsRow B 5 1 v' (l ++ news).length (byteRow (l ++ news)) ∧ w.grownBy w' v.ownBlock ∧ (v'.ownBlock = v.ownBlock ∨ v'.ownBlock = some w.heap.size) := by
  obtain ⟨i0, hi, hz0, hz1, hz2⟩ := info_parts by_info
  obtain ⟨v', w', hr, h2, h3, _⟩ := run_append_own (P := Try.prog) w B 26 ty 5 i0 (.int .u8 0) 1 1 Try.underlying26 hi hz0 hz1 hz2 rfl (by decide) v l.length (byteRow l) hown ad news.length c (byteRow news) (by simp [byteRow]) hnews (byte_one news) (by unfold maxLen; omega) (by omega) hB
  refine ⟨v', w', hr, by rw [byteRow_app, List.length_append]; exact h2, h3, ?_⟩
  exact append_place (P := Try.prog) w B 26 ty 5 i0 (.int .u8 0) 1 1 Try.underlying26 hi hz0 hz1 hz2 v l.length (byteRow l) hown ad news.length c (byteRow news) (by simp [byteRow]) hnews (byte_one news) (by unfold maxLen; omega) (by omega) v' w' hr
theorem wpList_append_bytes (w : World) {ops : Array Oper} {rest : List Oper} {o : Oper} {a : Act} {Q : Exit → Act → World → Prop} (hgd : o.guard = none) (s x : Operand)
    (ho : o.op = .call { callee := .builtin .append, args := #[s, x], argTypes := #[26, 26] }) (B : Nat) (v : Value) (l news : List UInt8) (ad : Addr) (c : Nat)
    (hs : a.eval s = v) (hown : w.ownsRow B 5 1 v l.length (byteRow l)) (hx : a.eval x = .slice (some ad) news.length c)
    (hnews : ∀ j u, (byteRow news)[j]? = some u → w.cell? (ad.add j) = some u) (hlen : l.length + news.length ≤ 100000000) (hB : B ≤ w.heap.size)
    (h : ∀ v' w', w'.ownsRow B 5 1 v' (l ++ news).length (byteRow (l ++ news)) → w.grownBy w' v.ownBlock → (v'.ownBlock = v.ownBlock ∨ v'.ownBlock = some w.heap.size) → wpList Try.prog ops Q rest (a.put o.dst v') w') :
    wpList Try.prog ops Q (o :: rest) a w := by
  refine wpList_plain hgd fun K hK => ?_
  obtain ⟨v', w', hr, h2, h3, h4⟩ := run_append_bytes w o.type B v l news ad c hown hnews hlen hB
  unfold Oper.wp execOp
  simp only [ho, resolve, invoke, builtin, Sem.run_bind, Sem.run_pure, Result.andThen_ok, List.map_toArray, List.map_cons, List.map_nil, hs, hx, hr]
  exact hK _ _ (h v' w' h2 h3 h4)

theorem cell_drewN (w : World) (n : Nat) (a : Addr) : (w.drewN n).cell? a = w.cell? a := by simp
/-- What put makes of a reader. -/
def putOut (out l : List UInt8) (bud : Int) : List UInt8 := if bud < ((out.length + l.length : Nat) : Int) then out else out ++ l
theorem RdAt.outed {B b : Nat} {out out' part : List UInt8} {bud e : Int} {w w' : World} {vo vp v' : Value} (hB : B ≤ b) (hbk : w.heap[b]? = some (.cells #[vo, .int .i64 bud, vp, .int .i64 e] 54 (0, 0)))
    (ho : w.ownsRow B 5 1 vo out.length (byteRow out)) (hp : w.ownsRow B 5 1 vp part.length (byteRow part)) (hne : vo.ownBlock = none ∨ vo.ownBlock ≠ vp.ownBlock)
    (ho' : w'.ownsRow B 5 1 v' out'.length (byteRow out')) (hg : w.grownBy w' vo.ownBlock) (hpl : v'.ownBlock = vo.ownBlock ∨ v'.ownBlock = some w.heap.size) : RdAt B b out' part bud e (w'.setCell ⟨b, 0, none⟩ v') := by
  have hlt := (Array.getElem?_eq_some_iff.1 hbk).1
  have hne' : v'.ownBlock = none ∨ v'.ownBlock ≠ vp.ownBlock := by
    rcases hpl with h | h
    · rw [h]; exact hne
    · refine .inr ?_
      rw [h]
      intro e
      have := (hp.lt _ e.symm).2
      omega
  have hbk' : w'.heap[b]? = some (.cells #[vo, .int .i64 bud, vp, .int .i64 e] 54 (0, 0)) := by
    rw [hg.block b hlt (fun e => by
      rcases ne_reader ho hbk with h | h
      · rw [h] at e; cases e
      · exact h e.symm)]
    exact hbk
  have hp' := hp.kept hg (by
    cases h : vp.ownBlock with
    | none => exact .inl rfl
    | some g =>
      refine .inr ?_
      rcases hne with h1 | h1
      · rw [h1]; simp
      · rw [h] at h1; exact fun e => h1 e.symm)
  exact ⟨hB, v', vp, by simp [World.setCell, Array.getElem?_modify, hbk'], ho'.kept (grown_set _ _ _) (ne_reader ho' hbk'), hp'.kept (grown_set _ _ _) (ne_reader hp' hbk'), hne'⟩

set_option maxRecDepth 100000 in
set_option maxHeartbeats 2000000 in
theorem put_long (B b : Nat) (out part l : List UInt8) (bud e0 : Int) (nx : Value) (ad : Addr) (c : Nat) (w : World) (h : RdAt B b out part bud e0 w) (hlen : out.length + l.length ≤ 100000000) (hlong : bud < ((out.length + l.length : Nat) : Int)) :
    Calls Try.prog 29 #[.pointer (some ⟨b, 0, none⟩), nx, .slice (some ad) l.length c] w fun e w' => e = .returned .nilFunc ∧ RdAt B b out part bud 3 w' ∧ Below B w w' := by
  have hE := Aside0.mk h
  have hBb := h.1
  obtain ⟨_, vo, vp, hbk, ho, _⟩ := h
  have c0 : w.cell? ⟨b, 0, none⟩ = some vo := by rw [Lib.cell_of_heap hbk]; rfl
  have c1 : w.cell? ⟨b, 1, none⟩ = some (.int .i64 bud) := by rw [Lib.cell_of_heap hbk]; rfl
  obtain ⟨A, cp, rfl⟩ := own_slice ho
  have hl' : bud < (out.length : Int) + (l.length : Int) := by omega
  have hl2 : decide (bud < (out.length : Int) + (l.length : Int)) = true := decide_eq_true hl'
  clear hbk ho hlong
  go_enter Try.func29, Try.ntmps29
  go_wp2_with fail
  go_quiet (fail)
  go_wp2_with (go_at_call 26; (with_reducible refine (fail_calls B b out part bud e0 3 _ (hE.out.below (pw_below_drewN (Below.refl _ _) _))).mono ?_); rintro e w1 ⟨rfl, hr1, hb1⟩)
  go_ret
  exact ⟨rfl, hr1, (pw_below_drewN (Below.refl B w) _).trans hb1⟩

theorem reader_kept {B b n : Nat} {vo : Value} {xs : List Value} {cs : Array Value} {w w' : World} (hbk : w.heap[b]? = some (.cells cs 54 (0, 0))) (ho : w.ownsRow B 5 1 vo n xs) (hg : w.grownBy w' vo.ownBlock) : w'.heap[b]? = some (.cells cs 54 (0, 0)) := by
  rw [hg.block b (Array.getElem?_eq_some_iff.1 hbk).1 (fun e => by
    rcases ne_reader ho hbk with h | h
    · rw [h] at e; cases e
    · exact h e.symm)]
  exact hbk
theorem grown_drewN (w : World) (n : Nat) (row : Option Nat) : w.grownBy (w.drewN n) row := by
  have h := pw_below_drewN (Below.refl w.heap.size w) n
  exact ⟨h.os, h.tape, h.output, h.size, fun k hk _ => h.block k hk⟩
theorem add_flat (b j : Nat) : (⟨b, 0, none⟩ : Addr).add j = ⟨b, j, none⟩ := by unfold Addr.add; split <;> simp_all

set_option maxRecDepth 100000 in
set_option maxHeartbeats 2000000 in
theorem put_ok (B b : Nat) (out part l : List UInt8) (bud e0 : Int) (nx : Value) (ad : Addr) (c : Nat) (w : World) (h : RdAt B b out part bud e0 w) (hBw : B ≤ w.heap.size) (hlen : out.length + l.length ≤ 100000000) (hfits : ((out.length + l.length : Nat) : Int) ≤ bud)
    (hsrc : ∀ j u, (byteRow l)[j]? = some u → w.cell? (ad.add j) = some u) :
    Calls Try.prog 29 #[.pointer (some ⟨b, 0, none⟩), nx, .slice (some ad) l.length c] w fun e w' => e = .returned nx ∧ RdAt B b (out ++ l) part bud e0 w' ∧ Below B w w' := by
  have HS := Aside0.mk hsrc
  clear hsrc
  have hBb := h.1
  obtain ⟨_, vo, vp, hbk, ho, hp, hne⟩ := h
  have c0 : w.cell? ⟨b, 0, none⟩ = some vo := by rw [Lib.cell_of_heap hbk]; rfl
  have c1 : w.cell? ⟨b, 1, none⟩ = some (.int .i64 bud) := by rw [Lib.cell_of_heap hbk]; rfl
  have HK := Aside0.mk hbk
  have HP := Aside0.mk hp
  have HNE := Aside0.mk hne
  clear hbk hp hne
  obtain ⟨A, cp, rfl⟩ := own_slice ho
  have hl' : (out.length : Int) + (l.length : Int) ≤ bud := by omega
  have hl2 : decide (bud < (out.length : Int) + (l.length : Int)) = false := decide_eq_false (by omega)
  clear hfits
  have HO := Aside0.mk ho
  clear ho
  go_enter Try.func29, Try.ntmps29
  go_wp2_with fail
  go_quiet (fail)
  have HO2 := Aside0.mk (HO.out.kept (grown_drewN w nq none) (by cases (Value.slice A out.length cp).ownBlock <;> simp))
  have HK2 : Aside0 ((w.drewN nq).heap[b]? = some (.cells #[.slice A out.length cp, .int .i64 bud, vp, .int .i64 e0] 54 (0, 0))) := Aside0.mk (by simpa using HK.out)
  have HP2 := Aside0.mk (HP.out.kept (grown_drewN w nq none) (by cases vp.ownBlock <;> simp))
  have HB2 : Aside0 (B ≤ (w.drewN nq).heap.size) := Aside0.mk (by simpa using hBw)
  have HBel : Aside0 (Below B w (w.drewN nq)) := Aside0.mk (pw_below_drewN (Below.refl B w) nq)
  have HSrc : Aside0 (∀ j u, (byteRow l)[j]? = some u → (w.drewN nq).cell? (ad.add j) = some u) := Aside0.mk (fun j u hj => (cell_drewN w nq _).trans (HS.out j u hj))
  clear HK HP HO HS
  go_wp2_with (at_builtin; refine wpList_append_bytes _ rfl _ _ rfl B (.slice A out.length cp) out l ad c rfl HO2.out rfl HSrc.out hlen HB2.out ?_; intro v' w1 hown' hgrow hpl; obtain ⟨A', cp', rfl⟩ := own_slice hown'; have HG := Aside0.mk hgrow; have HPL := Aside0.mk hpl; have HOW := Aside0.mk hown'; have HK3 := Aside0.mk (reader_kept HK2.out HO2.out hgrow); clear hgrow hpl hown'; have d0 : w1.cell? ⟨b, 0, none⟩ = some (.slice A out.length cp) := (Lib.cell_of_heap HK3.out 0).trans rfl; have f0 : w1.frozen? ⟨b, 0, none⟩ = false := Lib.frozen_of_heap HK3.out 0)
  go_ret
  exact ⟨rfl, by simpa only [List.length_append] using RdAt.outed hBb HK2.out HO2.out HP2.out HNE.out HOW.out HG.out HPL.out, (HBel.out.grown HG.out HB2.out (fun k hk => (HO2.out.lt k hk).1)).setCell (p := ⟨b, 0, none⟩) hBb _⟩
end Go.Proofs.Ytjgbnaejeeinbaa
