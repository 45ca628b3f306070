/-
  No cell of these rows narrows 'for every input' (looked for: loops, veiled, ifaces, maps, wideKeys, modest, calm, conditions, laid).
  DERIVED. THE GIVEN ROWS OF THIS SEAT. 5 by the template 'for every input the law returns true; each argument reads behind the call as it read before'; 0 by the template 'total and deterministic' (their statements: YtioildfnbcdekaaTotals.lean).
  GIVEN WITH THE SEED: the statements are not yours to turn. If you find one false, say at which input.
  Laid BY PROGRAM, IN A SANDBOX (cutbox-rows.mjs): the forced cells as the released guide's own fill.sh prints them over the translation fcb0e15aa7a5ccba… (all of the seat's roots in one cut). By AI agents, Wed Nov 11 2026. No macro, syntax, notation, axiom, sorry.
-/
import Derived.Test.YtioildfnbcdekaaChecked
import GoSem.Claim
import GoSem.ClaimJoined
import GoSem.ClaimMapViews
import Derived.JoinedTies
import Derived.KernelRfl
namespace Go.Proofs.Ytioildfnbcdekaa
/- THE CELL 'sum', in the pinned program and in every row, IS THE sha256 OF THE DUMP (.gsa) THAT YtioildfnbcdekaaProg.lean LOADS. Nothing in Lean hashes anything: it is a label: what it is worth is what the hold of that sum in a sandbox is worth. -/
noncomputable def Try.pinned : Pinned := { name := "ytioildfnbcdekaa", sum := "fcb0e15aa7a5ccbaaed80909ec29bbe72088025b45f4581ddea255932ccb102b", checked := Try.checked }
namespace Rows
def none {H : Type} : Left H := { results := [], args := [] }

/-- 'pagemenderlaw04.TextNumbers': WHATEVER THE INPUT: true; the input reads as it did. -/
def textNumbersSpec : ChangeSpec := { name := "textNumbers", fn := fun _ => fun
  | [d] => { results := [.lit (.bool true)], args := [d] }
  | _ => none }
def textNumbersRow : OpenClaim := { program := "ytioildfnbcdekaa", sum := "fcb0e15aa7a5ccbaaed80909ec29bbe72088025b45f4581ddea255932ccb102b", func := "pagemender/pagemenderlaw04.TextNumbers", spec := "textNumbers", inPlace := ["internal/abi.NoEscape"], apart := false }
def TextNumbersSaid : Prop := textNumbersRow.holds Try.pinned (OpenSpec.ofChange textNumbersSpec)

/-- ITS FALSE NEIGHBOUR: 'it returns false'. Refute it at one input. -/
def textNumbersWrong : ChangeSpec := { name := "textNumbers", fn := fun _ => fun
  | [d] => { results := [.lit (.bool false)], args := [d] }
  | _ => none }
def TextNumbersWrongFalsely : Prop := textNumbersRow.holds Try.pinned (OpenSpec.ofChange textNumbersWrong)

/-- 'pagemenderlaw04.TextPairs': WHATEVER THE INPUT: true; the input reads as it did. -/
def textPairsSpec : ChangeSpec := { name := "textPairs", fn := fun _ => fun
  | [d1, d2, d3] => { results := [.lit (.bool true)], args := [d1, d2, d3] }
  | _ => none }
def textPairsRow : OpenClaim := { program := "ytioildfnbcdekaa", sum := "fcb0e15aa7a5ccbaaed80909ec29bbe72088025b45f4581ddea255932ccb102b", func := "pagemender/pagemenderlaw04.TextPairs", spec := "textPairs", inPlace := ["internal/abi.NoEscape"], apart := false }
def TextPairsSaid : Prop := textPairsRow.holds Try.pinned (OpenSpec.ofChange textPairsSpec)

/-- ITS FALSE NEIGHBOUR: 'it returns false'. Refute it at one input. -/
def textPairsWrong : ChangeSpec := { name := "textPairs", fn := fun _ => fun
  | [d1, d2, d3] => { results := [.lit (.bool false)], args := [d1, d2, d3] }
  | _ => none }
def TextPairsWrongFalsely : Prop := textPairsRow.holds Try.pinned (OpenSpec.ofChange textPairsWrong)

/-- 'pagemenderlaw04.TextPlain': WHATEVER THE INPUT: true; the input reads as it did. -/
def textPlainSpec : ChangeSpec := { name := "textPlain", fn := fun _ => fun
  | [d1, d2, d3] => { results := [.lit (.bool true)], args := [d1, d2, d3] }
  | _ => none }
def textPlainRow : OpenClaim := { program := "ytioildfnbcdekaa", sum := "fcb0e15aa7a5ccbaaed80909ec29bbe72088025b45f4581ddea255932ccb102b", func := "pagemender/pagemenderlaw04.TextPlain", spec := "textPlain", inPlace := ["internal/abi.NoEscape"], apart := false }
def TextPlainSaid : Prop := textPlainRow.holds Try.pinned (OpenSpec.ofChange textPlainSpec)

/-- ITS FALSE NEIGHBOUR: 'it returns false'. Refute it at one input. -/
def textPlainWrong : ChangeSpec := { name := "textPlain", fn := fun _ => fun
  | [d1, d2, d3] => { results := [.lit (.bool false)], args := [d1, d2, d3] }
  | _ => none }
def TextPlainWrongFalsely : Prop := textPlainRow.holds Try.pinned (OpenSpec.ofChange textPlainWrong)

/-- 'pagemenderlaw04.TextNames': WHATEVER THE INPUT: true; the input reads as it did. -/
def textNamesSpec : ChangeSpec := { name := "textNames", fn := fun _ => fun
  | [] => { results := [.lit (.bool true)], args := [] }
  | _ => none }
def textNamesRow : OpenClaim := { program := "ytioildfnbcdekaa", sum := "fcb0e15aa7a5ccbaaed80909ec29bbe72088025b45f4581ddea255932ccb102b", func := "pagemender/pagemenderlaw04.TextNames", spec := "textNames", inPlace := ["internal/abi.NoEscape"], apart := false }
def TextNamesSaid : Prop := textNamesRow.holds Try.pinned (OpenSpec.ofChange textNamesSpec)

/-- ITS FALSE NEIGHBOUR: 'it returns false'. Refute it at one input. -/
def textNamesWrong : ChangeSpec := { name := "textNames", fn := fun _ => fun
  | [] => { results := [.lit (.bool false)], args := [] }
  | _ => none }
def TextNamesWrongFalsely : Prop := textNamesRow.holds Try.pinned (OpenSpec.ofChange textNamesWrong)

/-- 'pagemenderlaw04.TextBack': WHATEVER THE INPUT: true; the input reads as it did. -/
def textBackSpec : ChangeSpec := { name := "textBack", fn := fun _ => fun
  | [d1, d2, d3] => { results := [.lit (.bool true)], args := [d1, d2, d3] }
  | _ => none }
def textBackRow : OpenClaim := { program := "ytioildfnbcdekaa", sum := "fcb0e15aa7a5ccbaaed80909ec29bbe72088025b45f4581ddea255932ccb102b", func := "pagemender/pagemenderlaw04.TextBack", spec := "textBack", inPlace := ["internal/abi.NoEscape"], apart := false }
def TextBackSaid : Prop := textBackRow.holds Try.pinned (OpenSpec.ofChange textBackSpec)

/-- ITS FALSE NEIGHBOUR: 'it returns false'. Refute it at one input. -/
def textBackWrong : ChangeSpec := { name := "textBack", fn := fun _ => fun
  | [d1, d2, d3] => { results := [.lit (.bool false)], args := [d1, d2, d3] }
  | _ => none }
def TextBackWrongFalsely : Prop := textBackRow.holds Try.pinned (OpenSpec.ofChange textBackWrong)

/- THE SECOND FORM. 'bulk': how many values and letters a reading holds, each counted each time it is reached (what is shared counts as often as it is met; a slice's spare places count too). A statement '..UptoSaid' is the law's where the arguments, and the package variables that the reading takes, are together of bulk at most 1048576: NARROWER than '..Said'. Prove '..Said' where nothing that the law and all that it calls make is longer than what came in: it says more and counts as full. Else prove '..UptoSaid'. A law counts once. -/
mutual
def uptoBulk {H : Type} : DataW H → Nat
  | .lit (.string bytes) => bytes.length + 1
  | .lit _ => 1
  | .nil => 1
  | .ptr d => uptoBulk d + 1
  | .slice elems spare => uptoBulkAll elems + uptoBulkAll spare + 1
  | .agg parts => uptoBulkAll parts + 1
  | .iface _ d => uptoBulk d + 1
  | .map entries => uptoBulkEntries entries + 1
  | .held _ => 1
def uptoBulkAll {H : Type} : List (DataW H) → Nat
  | [] => 0
  | d :: r => uptoBulk d + uptoBulkAll r
def uptoBulkEntries {H : Type} : List (Lit × DataW H) → Nat
  | [] => 0
  | x :: r => uptoBulkEntry x + uptoBulkEntries r
def uptoBulkEntry {H : Type} : Lit × DataW H → Nat
  | (.string bytes, d) => bytes.length + uptoBulk d + 1
  | (_, d) => uptoBulk d + 1
 end
def uptoSmall : (H : Type) → List (DataW H) → Bool := fun _ ds => decide (uptoBulkAll ds ≤ 1048576)
def OpenSpec.upto (s : _root_.Go.ChangeSpec) : _root_.Go.OpenSpec := { _root_.Go.OpenSpec.ofChange s with cond := some uptoSmall }

/-- 'pagemenderlaw04.TextNumbers', WHERE WHAT IT READS IS OF BULK AT MOST 1048576: true; the input reads as it did. -/
def textNumbersUptoRow : OpenClaim := { program := "ytioildfnbcdekaa", sum := "fcb0e15aa7a5ccbaaed80909ec29bbe72088025b45f4581ddea255932ccb102b", func := "pagemender/pagemenderlaw04.TextNumbers", spec := "textNumbers", inPlace := ["internal/abi.NoEscape"], apart := false, narrowed := true }
def TextNumbersUptoSaid : Prop := textNumbersUptoRow.holds Try.pinned (OpenSpec.upto textNumbersSpec)

/-- 'pagemenderlaw04.TextPairs', WHERE WHAT IT READS IS OF BULK AT MOST 1048576: true; the input reads as it did. -/
def textPairsUptoRow : OpenClaim := { program := "ytioildfnbcdekaa", sum := "fcb0e15aa7a5ccbaaed80909ec29bbe72088025b45f4581ddea255932ccb102b", func := "pagemender/pagemenderlaw04.TextPairs", spec := "textPairs", inPlace := ["internal/abi.NoEscape"], apart := false, narrowed := true }
def TextPairsUptoSaid : Prop := textPairsUptoRow.holds Try.pinned (OpenSpec.upto textPairsSpec)

/-- 'pagemenderlaw04.TextPlain', WHERE WHAT IT READS IS OF BULK AT MOST 1048576: true; the input reads as it did. -/
def textPlainUptoRow : OpenClaim := { program := "ytioildfnbcdekaa", sum := "fcb0e15aa7a5ccbaaed80909ec29bbe72088025b45f4581ddea255932ccb102b", func := "pagemender/pagemenderlaw04.TextPlain", spec := "textPlain", inPlace := ["internal/abi.NoEscape"], apart := false, narrowed := true }
def TextPlainUptoSaid : Prop := textPlainUptoRow.holds Try.pinned (OpenSpec.upto textPlainSpec)

/-- 'pagemenderlaw04.TextNames', WHERE WHAT IT READS IS OF BULK AT MOST 1048576: true; the input reads as it did. -/
def textNamesUptoRow : OpenClaim := { program := "ytioildfnbcdekaa", sum := "fcb0e15aa7a5ccbaaed80909ec29bbe72088025b45f4581ddea255932ccb102b", func := "pagemender/pagemenderlaw04.TextNames", spec := "textNames", inPlace := ["internal/abi.NoEscape"], apart := false, narrowed := true }
def TextNamesUptoSaid : Prop := textNamesUptoRow.holds Try.pinned (OpenSpec.upto textNamesSpec)

/-- 'pagemenderlaw04.TextBack', WHERE WHAT IT READS IS OF BULK AT MOST 1048576: true; the input reads as it did. -/
def textBackUptoRow : OpenClaim := { program := "ytioildfnbcdekaa", sum := "fcb0e15aa7a5ccbaaed80909ec29bbe72088025b45f4581ddea255932ccb102b", func := "pagemender/pagemenderlaw04.TextBack", spec := "textBack", inPlace := ["internal/abi.NoEscape"], apart := false, narrowed := true }
def TextBackUptoSaid : Prop := textBackUptoRow.holds Try.pinned (OpenSpec.upto textBackSpec)

end Rows
end Go.Proofs.Ytioildfnbcdekaa
