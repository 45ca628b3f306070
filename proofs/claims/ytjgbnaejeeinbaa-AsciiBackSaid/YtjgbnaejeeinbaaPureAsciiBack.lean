/-
  AsciiBack: Get of Put is s, of either, whatever stands behind; a budget that is less by one is too little.
-/
import Derived.Test.YtjgbnaejeeinbaaABx2
import Derived.Test.YtjgbnaejeeinbaaAl
namespace Go.Proofs.Ytjgbnaejeeinbaa.Pure
open Go.RowKit Go.Proofs.Ytjgbnaejeeinbaa.AB Go.Proofs.YtjgbnaejeeinbaaW.PrintWords Go.Proofs.YtjgbnaejeeinbaaW.PrintLast
set_option linter.unusedVariables false
set_option linter.unusedSimpArgs false

theorem lives_ok : pagemenderlaw12_lives.f = some true := by decide +kernel
theorem put85_len (l : List UInt8) : (put85 l).length ≤ 5 * l.length := by
  match l with
  | [] => simp [put85]
  | [a] => simp only [put85, List.length_take, List.length_cons, List.length_nil]; omega
  | [a, b] => simp only [put85, List.length_take, List.length_cons, List.length_nil]; omega
  | [a, b, c] => simp only [put85, List.length_take, List.length_cons, List.length_nil]; omega
  | a :: b :: c :: d :: t =>
    have ih := put85_len t
    simp only [put85, List.length_append, List.length_cons]
    split
    · simp; omega
    · have : (chr5 (num4 a b c d)).length = 5 := rfl
      omega
theorem j0_yes (k : Nat) (s q : ByteArray) : pagemenderlaw12_AsciiBack.j0 (k + 1) s q true = some true := by
  simp only [pagemenderlaw12_AsciiBack.j0]
  exact if_pos trivial
theorem hexput_at (s : ByteArray) (hs : s.size ≤ 1000) : ascii_HexPut.f s = some ⟨(hexAll s.data.toList ++ [62]).toArray⟩ := by unfold ascii_HexPut.f; rw [if_pos (by omega)]
theorem put85_at (s : ByteArray) (hs : s.size ≤ 1000) : ascii_Put85.f s = some ⟨(put85 s.data.toList ++ [126, 62]).toArray⟩ := by unfold ascii_Put85.f; rw [if_pos (by omega)]
theorem hexget_at (s : ByteArray) (bud : Int) (hs : s.size ≤ 1000000) (o : List UInt8) (e : Int) (h : readS 1 s.data.toList bud = (o, e)) : ascii_HexGet.f s bud = some (⟨o.toArray⟩, e) := by unfold ascii_HexGet.f; rw [if_pos hs, h]
theorem get85_at (s : ByteArray) (bud : Int) (hs : s.size ≤ 1000000) (o : List UInt8) (e : Int) (h : readS 3 s.data.toList bud = (o, e)) : ascii_Get85.f s bud = some (⟨o.toArray⟩, e) := by unfold ascii_Get85.f; rw [if_pos hs, h]

theorem j1_go (k : Nat) (s : ByteArray) (hs : s.size ≤ 1000) : pagemenderlaw12_AsciiBack.j1 (k + 1) s false = some true := by
  have sz := Lib.size_eq s
  have hl := hexAll_len s.data.toList
  have pl := put85_len s.data.toList
  have e1 : Aside0 (wrap64 ((s.size : Int) - 1) = (s.data.toList.length : Int) - 1) := Aside0.mk (by rw [wrap_small (by omega) (by omega), sz])
  have z1 : (⟨(hexAll s.data.toList ++ [62]).toArray⟩ : ByteArray).size ≤ 1000000 := by rw [size_mk]; simp; omega
  have z2 : (⟨(put85 s.data.toList ++ [126, 62]).toArray⟩ : ByteArray).size ≤ 1000000 := by rw [size_mk]; simp; omega
  simp only [pagemenderlaw12_AsciiBack.j1]
  rw [if_neg (by decide), hexput_at s hs, Option.bind_some, put85_at s hs, e1.out]
  by_cases h0 : s.size = 0
  · have hn : s.data.toList = [] := List.eq_nil_of_length_eq_zero (by omega)
    have hb : (s.data.toList.length : Int) - 1 < 0 := by omega
    rw [hexget_at _ _ z1 [] 2 (readS_arg 1 _ _ hb), Option.bind_some, Option.bind_some, get85_at _ _ z2 [] 2 (readS_arg 3 _ _ hb), Option.bind_some]
    dsimp only
    rw [if_pos (by omega), if_pos rfl, if_pos rfl]
  · have hn : s.data.toList ≠ [] := by intro h; rw [h] at sz; exact h0 sz
    rw [hexget_at _ _ z1 [] 3 (hex_less s.data.toList [62] hn), Option.bind_some, Option.bind_some, get85_at _ _ z2 [] 3 (less_85 s.data.toList [] hn), Option.bind_some]
    dsimp only
    rw [if_neg (by omega), if_pos (by omega), if_pos rfl]
    rfl

theorem j0_go (k : Nat) (s q : ByteArray) (hs : s.size ≤ 1000) (hq : q.size ≤ 1000) : pagemenderlaw12_AsciiBack.j0 (k + 2) s q false = some true := by
  have sz := Lib.size_eq s
  have hl := hexAll_len s.data.toList
  have pl := put85_len s.data.toList
  obtain ⟨x, hx⟩ : ∃ x : ByteArray, x = ⟨(hexAll s.data.toList ++ [62]).toArray⟩ := ⟨_, rfl⟩
  obtain ⟨y, hy⟩ : ∃ y : ByteArray, y = ⟨(put85 s.data.toList ++ [126, 62]).toArray⟩ := ⟨_, rfl⟩
  have xl : x.data.toList = hexAll s.data.toList ++ [62] := by rw [hx]
  have yl : y.data.toList = put85 s.data.toList ++ [126, 62] := by rw [hy]
  have xz : x.size ≤ 5002 := by rw [Lib.size_eq, xl]; simp; omega
  have yz : y.size ≤ 5002 := by rw [Lib.size_eq, yl]; simp; omega
  have w1 : (x ++ q).size ≤ 1000000 := by rw [ByteArray.size_append]; omega
  have w2 : (y ++ q).size ≤ 1000000 := by rw [ByteArray.size_append]; omega
  have g1 : ascii_HexGet.f (x ++ q) (s.size : Int) = some (⟨s.data.toList.toArray⟩, 0) := by
    refine hexget_at _ _ w1 _ _ ?_
    rw [app_list, xl, sz, List.append_assoc]
    exact hex_get s.data.toList q.data.toList
  have g2 : ascii_Get85.f (y ++ q) (s.size : Int) = some (⟨s.data.toList.toArray⟩, 0) := by
    refine get85_at _ _ w2 _ _ ?_
    rw [app_list, yl, sz, List.append_assoc]
    exact get_85 s.data.toList q.data.toList
  have s2 : (⟨s.data.toList.toArray⟩ : ByteArray).toList = s.toList := rfl
  have hp := hexput_at s hs
  have pp := put85_at s hs
  rw [← hx] at hp
  rw [← hy] at pp
  simp only [pagemenderlaw12_AsciiBack.j0]
  rw [if_neg (by decide), hp, Option.bind_some, if_pos (by omega), g1, Option.bind_some, pp, Option.bind_some, if_pos (by omega), g2, Option.bind_some]
  dsimp only
  rw [s2, if_pos rfl, if_pos rfl, if_pos rfl]
  have hb : (s.toList != s.toList) = false := by simp
  rw [hb]
  exact j1_go k s hs

theorem AsciiBack : pagemenderlaw12_AsciiBack.Pure := by
  intro s q hs hq
  refine ⟨10, ?_⟩
  unfold pagemenderlaw12_AsciiBack.f
  rw [lives_ok, Option.bind_some, if_pos rfl]
  by_cases h1 : (s.size : Int) > 1000
  · rw [if_pos h1]; exact j0_yes 9 s q
  · rw [if_neg h1]
    by_cases h3 : (q.size : Int) > 1000
    · rw [decide_eq_true h3]; exact j0_yes 9 s q
    · rw [decide_eq_false h3]; exact j0_go 8 s q (by omega) (by omega)
end Go.Proofs.Ytjgbnaejeeinbaa.Pure
