/-
  No cell of these rows narrows 'for every input' (looked for: loops, veiled, ifaces, maps, wideKeys, modest, calm, conditions, laid).
  DERIVED. THE GIVEN ROWS OF THIS SEAT. 6 by the template 'for every input the law returns true; each argument reads behind the call as it read before'; 0 by the template 'total and deterministic' (their statements: YtpmenahlbfefmaaTotals.lean).
  GIVEN WITH THE SEED: the statements are not yours to turn. If you find one false, say at which input.
  Laid BY PROGRAM, IN A SANDBOX (cutbox-rows.mjs): the forced cells as the released guide's own fill.sh prints them over the translation f3022416659dfc37… (all of the seat's roots in one cut). By AI agents, Wed Nov 11 2026. No macro, syntax, notation, axiom, sorry.
-/
import Derived.Test.YtpmenahlbfefmaaChecked
import GoSem.Claim
import GoSem.ClaimJoined
import GoSem.ClaimMapViews
import Derived.JoinedTies
import Derived.KernelRfl
namespace Go.Proofs.Ytpmenahlbfefmaa
/- THE CELL 'sum', in the pinned program and in every row, IS THE sha256 OF THE DUMP (.gsa) THAT YtpmenahlbfefmaaProg.lean LOADS. Nothing in Lean hashes anything: it is a label: what it is worth is what the hold of that sum in a sandbox is worth. -/
noncomputable def Try.pinned : Pinned := { name := "ytpmenahlbfefmaa", sum := "f3022416659dfc37d4291b56d7b1c73a1a5dcd9dde7c277b73b6dc8c9863bfd8", checked := Try.checked }
namespace Rows
def none {H : Type} : Left H := { results := [], args := [] }

/-- 'pagemenderlaw03.NameNames': WHATEVER THE INPUT: true; the input reads as it did. -/
def nameNamesSpec : ChangeSpec := { name := "nameNames", fn := fun _ => fun
  | [] => { results := [.lit (.bool true)], args := [] }
  | _ => none }
def nameNamesRow : OpenClaim := { program := "ytpmenahlbfefmaa", sum := "f3022416659dfc37d4291b56d7b1c73a1a5dcd9dde7c277b73b6dc8c9863bfd8", func := "pagemender/pagemenderlaw03.NameNames", spec := "nameNames", inPlace := ["internal/abi.NoEscape", "internal/bytealg.IndexByteString"], apart := false }
def NameNamesSaid : Prop := nameNamesRow.holds Try.pinned (OpenSpec.ofChange nameNamesSpec)

/-- ITS FALSE NEIGHBOUR: 'it returns false'. Refute it at one input. -/
def nameNamesWrong : ChangeSpec := { name := "nameNames", fn := fun _ => fun
  | [] => { results := [.lit (.bool false)], args := [] }
  | _ => none }
def NameNamesWrongFalsely : Prop := nameNamesRow.holds Try.pinned (OpenSpec.ofChange nameNamesWrong)

/-- 'pagemenderlaw03.NameCalls': WHATEVER THE INPUT: true; the input reads as it did. -/
def nameCallsSpec : ChangeSpec := { name := "nameCalls", fn := fun _ => fun
  | [d] => { results := [.lit (.bool true)], args := [d] }
  | _ => none }
def nameCallsRow : OpenClaim := { program := "ytpmenahlbfefmaa", sum := "f3022416659dfc37d4291b56d7b1c73a1a5dcd9dde7c277b73b6dc8c9863bfd8", func := "pagemender/pagemenderlaw03.NameCalls", spec := "nameCalls", inPlace := ["internal/abi.NoEscape", "internal/bytealg.IndexByteString"], apart := false }
def NameCallsSaid : Prop := nameCallsRow.holds Try.pinned (OpenSpec.ofChange nameCallsSpec)

/-- ITS FALSE NEIGHBOUR: 'it returns false'. Refute it at one input. -/
def nameCallsWrong : ChangeSpec := { name := "nameCalls", fn := fun _ => fun
  | [d] => { results := [.lit (.bool false)], args := [d] }
  | _ => none }
def NameCallsWrongFalsely : Prop := nameCallsRow.holds Try.pinned (OpenSpec.ofChange nameCallsWrong)

/-- 'pagemenderlaw03.NameBack': WHATEVER THE INPUT: true; the input reads as it did. -/
def nameBackSpec : ChangeSpec := { name := "nameBack", fn := fun _ => fun
  | [d] => { results := [.lit (.bool true)], args := [d] }
  | _ => none }
def nameBackRow : OpenClaim := { program := "ytpmenahlbfefmaa", sum := "f3022416659dfc37d4291b56d7b1c73a1a5dcd9dde7c277b73b6dc8c9863bfd8", func := "pagemender/pagemenderlaw03.NameBack", spec := "nameBack", inPlace := ["internal/abi.NoEscape", "internal/bytealg.IndexByteString"], apart := false }
def NameBackSaid : Prop := nameBackRow.holds Try.pinned (OpenSpec.ofChange nameBackSpec)

/-- ITS FALSE NEIGHBOUR: 'it returns false'. Refute it at one input. -/
def nameBackWrong : ChangeSpec := { name := "nameBack", fn := fun _ => fun
  | [d] => { results := [.lit (.bool false)], args := [d] }
  | _ => none }
def NameBackWrongFalsely : Prop := nameBackRow.holds Try.pinned (OpenSpec.ofChange nameBackWrong)

/-- 'pagemenderlaw03.NameLoose': WHATEVER THE INPUT: true; the input reads as it did. -/
def nameLooseSpec : ChangeSpec := { name := "nameLoose", fn := fun _ => fun
  | [d1, d2] => { results := [.lit (.bool true)], args := [d1, d2] }
  | _ => none }
def nameLooseRow : OpenClaim := { program := "ytpmenahlbfefmaa", sum := "f3022416659dfc37d4291b56d7b1c73a1a5dcd9dde7c277b73b6dc8c9863bfd8", func := "pagemender/pagemenderlaw03.NameLoose", spec := "nameLoose", inPlace := ["internal/abi.NoEscape", "internal/bytealg.IndexByteString"], apart := false }
def NameLooseSaid : Prop := nameLooseRow.holds Try.pinned (OpenSpec.ofChange nameLooseSpec)

/-- ITS FALSE NEIGHBOUR: 'it returns false'. Refute it at one input. -/
def nameLooseWrong : ChangeSpec := { name := "nameLoose", fn := fun _ => fun
  | [d1, d2] => { results := [.lit (.bool false)], args := [d1, d2] }
  | _ => none }
def NameLooseWrongFalsely : Prop := nameLooseRow.holds Try.pinned (OpenSpec.ofChange nameLooseWrong)

/-- 'pagemenderlaw03.NameOne': WHATEVER THE INPUT: true; the input reads as it did. -/
def nameOneSpec : ChangeSpec := { name := "nameOne", fn := fun _ => fun
  | [d1, d2, d3] => { results := [.lit (.bool true)], args := [d1, d2, d3] }
  | _ => none }
def nameOneRow : OpenClaim := { program := "ytpmenahlbfefmaa", sum := "f3022416659dfc37d4291b56d7b1c73a1a5dcd9dde7c277b73b6dc8c9863bfd8", func := "pagemender/pagemenderlaw03.NameOne", spec := "nameOne", inPlace := ["internal/abi.NoEscape", "internal/bytealg.IndexByteString"], apart := false }
def NameOneSaid : Prop := nameOneRow.holds Try.pinned (OpenSpec.ofChange nameOneSpec)

/-- ITS FALSE NEIGHBOUR: 'it returns false'. Refute it at one input. -/
def nameOneWrong : ChangeSpec := { name := "nameOne", fn := fun _ => fun
  | [d1, d2, d3] => { results := [.lit (.bool false)], args := [d1, d2, d3] }
  | _ => none }
def NameOneWrongFalsely : Prop := nameOneRow.holds Try.pinned (OpenSpec.ofChange nameOneWrong)

/-- 'pagemenderlaw03.NameDigits': WHATEVER THE INPUT: true; the input reads as it did. -/
def nameDigitsSpec : ChangeSpec := { name := "nameDigits", fn := fun _ => fun
  | [d1, d2] => { results := [.lit (.bool true)], args := [d1, d2] }
  | _ => none }
def nameDigitsRow : OpenClaim := { program := "ytpmenahlbfefmaa", sum := "f3022416659dfc37d4291b56d7b1c73a1a5dcd9dde7c277b73b6dc8c9863bfd8", func := "pagemender/pagemenderlaw03.NameDigits", spec := "nameDigits", inPlace := ["internal/abi.NoEscape", "internal/bytealg.IndexByteString"], apart := false }
def NameDigitsSaid : Prop := nameDigitsRow.holds Try.pinned (OpenSpec.ofChange nameDigitsSpec)

/-- ITS FALSE NEIGHBOUR: 'it returns false'. Refute it at one input. -/
def nameDigitsWrong : ChangeSpec := { name := "nameDigits", fn := fun _ => fun
  | [d1, d2] => { results := [.lit (.bool false)], args := [d1, d2] }
  | _ => none }
def NameDigitsWrongFalsely : Prop := nameDigitsRow.holds Try.pinned (OpenSpec.ofChange nameDigitsWrong)

/- THE SECOND FORM. 'bulk': how many values and letters a reading holds, each counted each time it is reached (what is shared counts as often as it is met; a slice's spare places count too). A statement '..UptoSaid' is the law's where the arguments, and the package variables that the reading takes, are together of bulk at most 1048576: NARROWER than '..Said'. Prove '..Said' where nothing that the law and all that it calls make is longer than what came in: it says more and counts as full. Else prove '..UptoSaid'. A law counts once. -/
mutual
def uptoBulk {H : Type} : DataW H → Nat
  | .lit (.string bytes) => bytes.length + 1
  | .lit _ => 1
  | .nil => 1
  | .ptr d => uptoBulk d + 1
  | .slice elems spare => uptoBulkAll elems + uptoBulkAll spare + 1
  | .agg parts => uptoBulkAll parts + 1
  | .iface _ d => uptoBulk d + 1
  | .map entries => uptoBulkEntries entries + 1
  | .held _ => 1
def uptoBulkAll {H : Type} : List (DataW H) → Nat
  | [] => 0
  | d :: r => uptoBulk d + uptoBulkAll r
def uptoBulkEntries {H : Type} : List (Lit × DataW H) → Nat
  | [] => 0
  | x :: r => uptoBulkEntry x + uptoBulkEntries r
def uptoBulkEntry {H : Type} : Lit × DataW H → Nat
  | (.string bytes, d) => bytes.length + uptoBulk d + 1
  | (_, d) => uptoBulk d + 1
 end
def uptoSmall : (H : Type) → List (DataW H) → Bool := fun _ ds => decide (uptoBulkAll ds ≤ 1048576)
def OpenSpec.upto (s : _root_.Go.ChangeSpec) : _root_.Go.OpenSpec := { _root_.Go.OpenSpec.ofChange s with cond := some uptoSmall }

/-- 'pagemenderlaw03.NameNames', WHERE WHAT IT READS IS OF BULK AT MOST 1048576: true; the input reads as it did. -/
def nameNamesUptoRow : OpenClaim := { program := "ytpmenahlbfefmaa", sum := "f3022416659dfc37d4291b56d7b1c73a1a5dcd9dde7c277b73b6dc8c9863bfd8", func := "pagemender/pagemenderlaw03.NameNames", spec := "nameNames", inPlace := ["internal/abi.NoEscape", "internal/bytealg.IndexByteString"], apart := false, narrowed := true }
def NameNamesUptoSaid : Prop := nameNamesUptoRow.holds Try.pinned (OpenSpec.upto nameNamesSpec)

/-- 'pagemenderlaw03.NameCalls', WHERE WHAT IT READS IS OF BULK AT MOST 1048576: true; the input reads as it did. -/
def nameCallsUptoRow : OpenClaim := { program := "ytpmenahlbfefmaa", sum := "f3022416659dfc37d4291b56d7b1c73a1a5dcd9dde7c277b73b6dc8c9863bfd8", func := "pagemender/pagemenderlaw03.NameCalls", spec := "nameCalls", inPlace := ["internal/abi.NoEscape", "internal/bytealg.IndexByteString"], apart := false, narrowed := true }
def NameCallsUptoSaid : Prop := nameCallsUptoRow.holds Try.pinned (OpenSpec.upto nameCallsSpec)

/-- 'pagemenderlaw03.NameBack', WHERE WHAT IT READS IS OF BULK AT MOST 1048576: true; the input reads as it did. -/
def nameBackUptoRow : OpenClaim := { program := "ytpmenahlbfefmaa", sum := "f3022416659dfc37d4291b56d7b1c73a1a5dcd9dde7c277b73b6dc8c9863bfd8", func := "pagemender/pagemenderlaw03.NameBack", spec := "nameBack", inPlace := ["internal/abi.NoEscape", "internal/bytealg.IndexByteString"], apart := false, narrowed := true }
def NameBackUptoSaid : Prop := nameBackUptoRow.holds Try.pinned (OpenSpec.upto nameBackSpec)

/-- 'pagemenderlaw03.NameLoose', WHERE WHAT IT READS IS OF BULK AT MOST 1048576: true; the input reads as it did. -/
def nameLooseUptoRow : OpenClaim := { program := "ytpmenahlbfefmaa", sum := "f3022416659dfc37d4291b56d7b1c73a1a5dcd9dde7c277b73b6dc8c9863bfd8", func := "pagemender/pagemenderlaw03.NameLoose", spec := "nameLoose", inPlace := ["internal/abi.NoEscape", "internal/bytealg.IndexByteString"], apart := false, narrowed := true }
def NameLooseUptoSaid : Prop := nameLooseUptoRow.holds Try.pinned (OpenSpec.upto nameLooseSpec)

/-- 'pagemenderlaw03.NameOne', WHERE WHAT IT READS IS OF BULK AT MOST 1048576: true; the input reads as it did. -/
def nameOneUptoRow : OpenClaim := { program := "ytpmenahlbfefmaa", sum := "f3022416659dfc37d4291b56d7b1c73a1a5dcd9dde7c277b73b6dc8c9863bfd8", func := "pagemender/pagemenderlaw03.NameOne", spec := "nameOne", inPlace := ["internal/abi.NoEscape", "internal/bytealg.IndexByteString"], apart := false, narrowed := true }
def NameOneUptoSaid : Prop := nameOneUptoRow.holds Try.pinned (OpenSpec.upto nameOneSpec)

/-- 'pagemenderlaw03.NameDigits', WHERE WHAT IT READS IS OF BULK AT MOST 1048576: true; the input reads as it did. -/
def nameDigitsUptoRow : OpenClaim := { program := "ytpmenahlbfefmaa", sum := "f3022416659dfc37d4291b56d7b1c73a1a5dcd9dde7c277b73b6dc8c9863bfd8", func := "pagemender/pagemenderlaw03.NameDigits", spec := "nameDigits", inPlace := ["internal/abi.NoEscape", "internal/bytealg.IndexByteString"], apart := false, narrowed := true }
def NameDigitsUptoSaid : Prop := nameDigitsUptoRow.holds Try.pinned (OpenSpec.upto nameDigitsSpec)

end Rows
end Go.Proofs.Ytpmenahlbfefmaa
