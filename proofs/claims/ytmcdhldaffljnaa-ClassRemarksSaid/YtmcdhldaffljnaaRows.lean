/-
  No cell of these rows narrows 'for every input' (looked for: loops, veiled, ifaces, maps, wideKeys, modest, calm, conditions, laid).
  DERIVED. THE GIVEN ROWS OF THIS SEAT. 6 by the template 'for every input the law returns true; each argument reads behind the call as it read before'; 0 by the template 'total and deterministic' (their statements: YtmcdhldaffljnaaTotals.lean).
  GIVEN WITH THE SEED: the statements are not yours to turn. If you find one false, say at which input.
  Laid BY PROGRAM, IN A SANDBOX (cutbox-rows.mjs): the forced cells as the released guide's own fill.sh prints them over the translation b17af8877b368031… (all of the seat's roots in one cut). By AI agents, Wed Nov 11 2026. No macro, syntax, notation, axiom, sorry.
-/
import Derived.Test.YtmcdhldaffljnaaChecked
import GoSem.Claim
import GoSem.ClaimJoined
import GoSem.ClaimMapViews
import Derived.JoinedTies
import Derived.KernelRfl
namespace Go.Proofs.Ytmcdhldaffljnaa
/- THE CELL 'sum', in the pinned program and in every row, IS THE sha256 OF THE DUMP (.gsa) THAT YtmcdhldaffljnaaProg.lean LOADS. Nothing in Lean hashes anything: it is a label: what it is worth is what the hold of that sum in a sandbox is worth. -/
noncomputable def Try.pinned : Pinned := { name := "ytmcdhldaffljnaa", sum := "b17af8877b368031a897759f0410251376c901c6c0d42a3c703d6ecbcc6fb7e5", checked := Try.checked }
namespace Rows
def none {H : Type} : Left H := { results := [], args := [] }

/-- 'pagemenderlaw01.ClassLines': WHATEVER THE INPUT: true; the input reads as it did. -/
def classLinesSpec : ChangeSpec := { name := "classLines", fn := fun _ => fun
  | [d] => { results := [.lit (.bool true)], args := [d] }
  | _ => none }
def classLinesRow : OpenClaim := { program := "ytmcdhldaffljnaa", sum := "b17af8877b368031a897759f0410251376c901c6c0d42a3c703d6ecbcc6fb7e5", func := "pagemender/pagemenderlaw01.ClassLines", spec := "classLines", apart := false }
def ClassLinesSaid : Prop := classLinesRow.holds Try.pinned (OpenSpec.ofChange classLinesSpec)

/-- ITS FALSE NEIGHBOUR: 'it returns false'. Refute it at one input. -/
def classLinesWrong : ChangeSpec := { name := "classLines", fn := fun _ => fun
  | [d] => { results := [.lit (.bool false)], args := [d] }
  | _ => none }
def ClassLinesWrongFalsely : Prop := classLinesRow.holds Try.pinned (OpenSpec.ofChange classLinesWrong)

/-- 'pagemenderlaw01.ClassRemarks': WHATEVER THE INPUT: true; the input reads as it did. -/
def classRemarksSpec : ChangeSpec := { name := "classRemarks", fn := fun _ => fun
  | [d1, d2, d3] => { results := [.lit (.bool true)], args := [d1, d2, d3] }
  | _ => none }
def classRemarksRow : OpenClaim := { program := "ytmcdhldaffljnaa", sum := "b17af8877b368031a897759f0410251376c901c6c0d42a3c703d6ecbcc6fb7e5", func := "pagemender/pagemenderlaw01.ClassRemarks", spec := "classRemarks", apart := false }
def ClassRemarksSaid : Prop := classRemarksRow.holds Try.pinned (OpenSpec.ofChange classRemarksSpec)

/-- ITS FALSE NEIGHBOUR: 'it returns false'. Refute it at one input. -/
def classRemarksWrong : ChangeSpec := { name := "classRemarks", fn := fun _ => fun
  | [d1, d2, d3] => { results := [.lit (.bool false)], args := [d1, d2, d3] }
  | _ => none }
def ClassRemarksWrongFalsely : Prop := classRemarksRow.holds Try.pinned (OpenSpec.ofChange classRemarksWrong)

/-- 'pagemenderlaw01.ClassSkips': WHATEVER THE INPUT: true; the input reads as it did. -/
def classSkipsSpec : ChangeSpec := { name := "classSkips", fn := fun _ => fun
  | [d1, d2] => { results := [.lit (.bool true)], args := [d1, d2] }
  | _ => none }
def classSkipsRow : OpenClaim := { program := "ytmcdhldaffljnaa", sum := "b17af8877b368031a897759f0410251376c901c6c0d42a3c703d6ecbcc6fb7e5", func := "pagemender/pagemenderlaw01.ClassSkips", spec := "classSkips", apart := false }
def ClassSkipsSaid : Prop := classSkipsRow.holds Try.pinned (OpenSpec.ofChange classSkipsSpec)

/-- ITS FALSE NEIGHBOUR: 'it returns false'. Refute it at one input. -/
def classSkipsWrong : ChangeSpec := { name := "classSkips", fn := fun _ => fun
  | [d1, d2] => { results := [.lit (.bool false)], args := [d1, d2] }
  | _ => none }
def ClassSkipsWrongFalsely : Prop := classSkipsRow.holds Try.pinned (OpenSpec.ofChange classSkipsWrong)

/-- 'pagemenderlaw01.ClassOne': WHATEVER THE INPUT: true; the input reads as it did. -/
def classOneSpec : ChangeSpec := { name := "classOne", fn := fun _ => fun
  | [d] => { results := [.lit (.bool true)], args := [d] }
  | _ => none }
def classOneRow : OpenClaim := { program := "ytmcdhldaffljnaa", sum := "b17af8877b368031a897759f0410251376c901c6c0d42a3c703d6ecbcc6fb7e5", func := "pagemender/pagemenderlaw01.ClassOne", spec := "classOne", apart := false }
def ClassOneSaid : Prop := classOneRow.holds Try.pinned (OpenSpec.ofChange classOneSpec)

/-- ITS FALSE NEIGHBOUR: 'it returns false'. Refute it at one input. -/
def classOneWrong : ChangeSpec := { name := "classOne", fn := fun _ => fun
  | [d] => { results := [.lit (.bool false)], args := [d] }
  | _ => none }
def ClassOneWrongFalsely : Prop := classOneRow.holds Try.pinned (OpenSpec.ofChange classOneWrong)

/-- 'pagemenderlaw01.ClassNames': WHATEVER THE INPUT: true; the input reads as it did. -/
def classNamesSpec : ChangeSpec := { name := "classNames", fn := fun _ => fun
  | [] => { results := [.lit (.bool true)], args := [] }
  | _ => none }
def classNamesRow : OpenClaim := { program := "ytmcdhldaffljnaa", sum := "b17af8877b368031a897759f0410251376c901c6c0d42a3c703d6ecbcc6fb7e5", func := "pagemender/pagemenderlaw01.ClassNames", spec := "classNames", apart := false }
def ClassNamesSaid : Prop := classNamesRow.holds Try.pinned (OpenSpec.ofChange classNamesSpec)

/-- ITS FALSE NEIGHBOUR: 'it returns false'. Refute it at one input. -/
def classNamesWrong : ChangeSpec := { name := "classNames", fn := fun _ => fun
  | [] => { results := [.lit (.bool false)], args := [] }
  | _ => none }
def ClassNamesWrongFalsely : Prop := classNamesRow.holds Try.pinned (OpenSpec.ofChange classNamesWrong)

/-- 'pagemenderlaw01.ClassCalls': WHATEVER THE INPUT: true; the input reads as it did. -/
def classCallsSpec : ChangeSpec := { name := "classCalls", fn := fun _ => fun
  | [d1, d2, d3] => { results := [.lit (.bool true)], args := [d1, d2, d3] }
  | _ => none }
def classCallsRow : OpenClaim := { program := "ytmcdhldaffljnaa", sum := "b17af8877b368031a897759f0410251376c901c6c0d42a3c703d6ecbcc6fb7e5", func := "pagemender/pagemenderlaw01.ClassCalls", spec := "classCalls", apart := false }
def ClassCallsSaid : Prop := classCallsRow.holds Try.pinned (OpenSpec.ofChange classCallsSpec)

/-- ITS FALSE NEIGHBOUR: 'it returns false'. Refute it at one input. -/
def classCallsWrong : ChangeSpec := { name := "classCalls", fn := fun _ => fun
  | [d1, d2, d3] => { results := [.lit (.bool false)], args := [d1, d2, d3] }
  | _ => none }
def ClassCallsWrongFalsely : Prop := classCallsRow.holds Try.pinned (OpenSpec.ofChange classCallsWrong)

/- THE SECOND FORM. 'bulk': how many values and letters a reading holds, each counted each time it is reached (what is shared counts as often as it is met; a slice's spare places count too). A statement '..UptoSaid' is the law's where the arguments, and the package variables that the reading takes, are together of bulk at most 1048576: NARROWER than '..Said'. Prove '..Said' where nothing that the law and all that it calls make is longer than what came in: it says more and counts as full. Else prove '..UptoSaid'. A law counts once. -/
mutual
def uptoBulk {H : Type} : DataW H → Nat
  | .lit (.string bytes) => bytes.length + 1
  | .lit _ => 1
  | .nil => 1
  | .ptr d => uptoBulk d + 1
  | .slice elems spare => uptoBulkAll elems + uptoBulkAll spare + 1
  | .agg parts => uptoBulkAll parts + 1
  | .iface _ d => uptoBulk d + 1
  | .map entries => uptoBulkEntries entries + 1
  | .held _ => 1
def uptoBulkAll {H : Type} : List (DataW H) → Nat
  | [] => 0
  | d :: r => uptoBulk d + uptoBulkAll r
def uptoBulkEntries {H : Type} : List (Lit × DataW H) → Nat
  | [] => 0
  | x :: r => uptoBulkEntry x + uptoBulkEntries r
def uptoBulkEntry {H : Type} : Lit × DataW H → Nat
  | (.string bytes, d) => bytes.length + uptoBulk d + 1
  | (_, d) => uptoBulk d + 1
 end
def uptoSmall : (H : Type) → List (DataW H) → Bool := fun _ ds => decide (uptoBulkAll ds ≤ 1048576)
def OpenSpec.upto (s : _root_.Go.ChangeSpec) : _root_.Go.OpenSpec := { _root_.Go.OpenSpec.ofChange s with cond := some uptoSmall }

/-- 'pagemenderlaw01.ClassLines', WHERE WHAT IT READS IS OF BULK AT MOST 1048576: true; the input reads as it did. -/
def classLinesUptoRow : OpenClaim := { program := "ytmcdhldaffljnaa", sum := "b17af8877b368031a897759f0410251376c901c6c0d42a3c703d6ecbcc6fb7e5", func := "pagemender/pagemenderlaw01.ClassLines", spec := "classLines", apart := false, narrowed := true }
def ClassLinesUptoSaid : Prop := classLinesUptoRow.holds Try.pinned (OpenSpec.upto classLinesSpec)

/-- 'pagemenderlaw01.ClassRemarks', WHERE WHAT IT READS IS OF BULK AT MOST 1048576: true; the input reads as it did. -/
def classRemarksUptoRow : OpenClaim := { program := "ytmcdhldaffljnaa", sum := "b17af8877b368031a897759f0410251376c901c6c0d42a3c703d6ecbcc6fb7e5", func := "pagemender/pagemenderlaw01.ClassRemarks", spec := "classRemarks", apart := false, narrowed := true }
def ClassRemarksUptoSaid : Prop := classRemarksUptoRow.holds Try.pinned (OpenSpec.upto classRemarksSpec)

/-- 'pagemenderlaw01.ClassSkips', WHERE WHAT IT READS IS OF BULK AT MOST 1048576: true; the input reads as it did. -/
def classSkipsUptoRow : OpenClaim := { program := "ytmcdhldaffljnaa", sum := "b17af8877b368031a897759f0410251376c901c6c0d42a3c703d6ecbcc6fb7e5", func := "pagemender/pagemenderlaw01.ClassSkips", spec := "classSkips", apart := false, narrowed := true }
def ClassSkipsUptoSaid : Prop := classSkipsUptoRow.holds Try.pinned (OpenSpec.upto classSkipsSpec)

/-- 'pagemenderlaw01.ClassOne', WHERE WHAT IT READS IS OF BULK AT MOST 1048576: true; the input reads as it did. -/
def classOneUptoRow : OpenClaim := { program := "ytmcdhldaffljnaa", sum := "b17af8877b368031a897759f0410251376c901c6c0d42a3c703d6ecbcc6fb7e5", func := "pagemender/pagemenderlaw01.ClassOne", spec := "classOne", apart := false, narrowed := true }
def ClassOneUptoSaid : Prop := classOneUptoRow.holds Try.pinned (OpenSpec.upto classOneSpec)

/-- 'pagemenderlaw01.ClassNames', WHERE WHAT IT READS IS OF BULK AT MOST 1048576: true; the input reads as it did. -/
def classNamesUptoRow : OpenClaim := { program := "ytmcdhldaffljnaa", sum := "b17af8877b368031a897759f0410251376c901c6c0d42a3c703d6ecbcc6fb7e5", func := "pagemender/pagemenderlaw01.ClassNames", spec := "classNames", apart := false, narrowed := true }
def ClassNamesUptoSaid : Prop := classNamesUptoRow.holds Try.pinned (OpenSpec.upto classNamesSpec)

/-- 'pagemenderlaw01.ClassCalls', WHERE WHAT IT READS IS OF BULK AT MOST 1048576: true; the input reads as it did. -/
def classCallsUptoRow : OpenClaim := { program := "ytmcdhldaffljnaa", sum := "b17af8877b368031a897759f0410251376c901c6c0d42a3c703d6ecbcc6fb7e5", func := "pagemender/pagemenderlaw01.ClassCalls", spec := "classCalls", apart := false, narrowed := true }
def ClassCallsUptoSaid : Prop := classCallsUptoRow.holds Try.pinned (OpenSpec.upto classCallsSpec)

end Rows
end Go.Proofs.Ytmcdhldaffljnaa
