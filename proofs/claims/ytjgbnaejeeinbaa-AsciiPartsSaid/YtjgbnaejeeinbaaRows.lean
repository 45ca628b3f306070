/-
  No cell of these rows narrows 'for every input' (looked for: loops, veiled, ifaces, maps, wideKeys, modest, calm, conditions, laid).
  DERIVED. THE GIVEN ROWS OF THIS SEAT. 5 by the template 'for every input the law returns true; each argument reads behind the call as it read before'; 0 by the template 'total and deterministic' (their statements: YtjgbnaejeeinbaaTotals.lean).
  GIVEN WITH THE SEED: the statements are not yours to turn. If you find one false, say at which input.
  Laid BY PROGRAM, IN A SANDBOX (cutbox-rows.mjs): the forced cells as the released guide's own fill.sh prints them over the translation f52b5c4755c78f84… (all of the seat's roots in one cut). By AI agents, Wed Nov 11 2026. No macro, syntax, notation, axiom, sorry.
-/
import Derived.Test.YtjgbnaejeeinbaaChecked
import GoSem.Claim
import GoSem.ClaimJoined
import GoSem.ClaimMapViews
import Derived.JoinedTies
import Derived.KernelRfl
namespace Go.Proofs.Ytjgbnaejeeinbaa
/- THE CELL 'sum', in the pinned program and in every row, IS THE sha256 OF THE DUMP (.gsa) THAT YtjgbnaejeeinbaaProg.lean LOADS. Nothing in Lean hashes anything: it is a label: what it is worth is what the hold of that sum in a sandbox is worth. -/
noncomputable def Try.pinned : Pinned := { name := "ytjgbnaejeeinbaa", sum := "f52b5c4755c78f84d994565c0374bb7334aad1914e8d970f687265b0d29ba081", checked := Try.checked }
namespace Rows
def none {H : Type} : Left H := { results := [], args := [] }

/-- 'pagemenderlaw12.AsciiPlain': WHATEVER THE INPUT: true; the input reads as it did. -/
def asciiPlainSpec : ChangeSpec := { name := "asciiPlain", fn := fun _ => fun
  | [d] => { results := [.lit (.bool true)], args := [d] }
  | _ => none }
def asciiPlainRow : OpenClaim := { program := "ytjgbnaejeeinbaa", sum := "f52b5c4755c78f84d994565c0374bb7334aad1914e8d970f687265b0d29ba081", func := "pagemender/pagemenderlaw12.AsciiPlain", spec := "asciiPlain", inPlace := ["internal/abi.NoEscape"], unfollowed := true, recurses := true, apart := false }
def AsciiPlainSaid : Prop := asciiPlainRow.holds Try.pinned (OpenSpec.ofChange asciiPlainSpec)

/-- ITS FALSE NEIGHBOUR: 'it returns false'. Refute it at one input. -/
def asciiPlainWrong : ChangeSpec := { name := "asciiPlain", fn := fun _ => fun
  | [d] => { results := [.lit (.bool false)], args := [d] }
  | _ => none }
def AsciiPlainWrongFalsely : Prop := asciiPlainRow.holds Try.pinned (OpenSpec.ofChange asciiPlainWrong)

/-- 'pagemenderlaw12.AsciiParts': WHATEVER THE INPUT: true; the input reads as it did. -/
def asciiPartsSpec : ChangeSpec := { name := "asciiParts", fn := fun _ => fun
  | [d1, d2] => { results := [.lit (.bool true)], args := [d1, d2] }
  | _ => none }
def asciiPartsRow : OpenClaim := { program := "ytjgbnaejeeinbaa", sum := "f52b5c4755c78f84d994565c0374bb7334aad1914e8d970f687265b0d29ba081", func := "pagemender/pagemenderlaw12.AsciiParts", spec := "asciiParts", inPlace := ["internal/abi.NoEscape"], unfollowed := true, recurses := true, apart := false }
def AsciiPartsSaid : Prop := asciiPartsRow.holds Try.pinned (OpenSpec.ofChange asciiPartsSpec)

/-- ITS FALSE NEIGHBOUR: 'it returns false'. Refute it at one input. -/
def asciiPartsWrong : ChangeSpec := { name := "asciiParts", fn := fun _ => fun
  | [d1, d2] => { results := [.lit (.bool false)], args := [d1, d2] }
  | _ => none }
def AsciiPartsWrongFalsely : Prop := asciiPartsRow.holds Try.pinned (OpenSpec.ofChange asciiPartsWrong)

/-- 'pagemenderlaw12.AsciiNames': WHATEVER THE INPUT: true; the input reads as it did. -/
def asciiNamesSpec : ChangeSpec := { name := "asciiNames", fn := fun _ => fun
  | [] => { results := [.lit (.bool true)], args := [] }
  | _ => none }
def asciiNamesRow : OpenClaim := { program := "ytjgbnaejeeinbaa", sum := "f52b5c4755c78f84d994565c0374bb7334aad1914e8d970f687265b0d29ba081", func := "pagemender/pagemenderlaw12.AsciiNames", spec := "asciiNames", inPlace := ["internal/abi.NoEscape"], unfollowed := true, recurses := true, apart := false }
def AsciiNamesSaid : Prop := asciiNamesRow.holds Try.pinned (OpenSpec.ofChange asciiNamesSpec)

/-- ITS FALSE NEIGHBOUR: 'it returns false'. Refute it at one input. -/
def asciiNamesWrong : ChangeSpec := { name := "asciiNames", fn := fun _ => fun
  | [] => { results := [.lit (.bool false)], args := [] }
  | _ => none }
def AsciiNamesWrongFalsely : Prop := asciiNamesRow.holds Try.pinned (OpenSpec.ofChange asciiNamesWrong)

/-- 'pagemenderlaw12.AsciiBack': WHATEVER THE INPUT: true; the input reads as it did. -/
def asciiBackSpec : ChangeSpec := { name := "asciiBack", fn := fun _ => fun
  | [d1, d2] => { results := [.lit (.bool true)], args := [d1, d2] }
  | _ => none }
def asciiBackRow : OpenClaim := { program := "ytjgbnaejeeinbaa", sum := "f52b5c4755c78f84d994565c0374bb7334aad1914e8d970f687265b0d29ba081", func := "pagemender/pagemenderlaw12.AsciiBack", spec := "asciiBack", inPlace := ["internal/abi.NoEscape"], unfollowed := true, recurses := true, apart := false }
def AsciiBackSaid : Prop := asciiBackRow.holds Try.pinned (OpenSpec.ofChange asciiBackSpec)

/-- ITS FALSE NEIGHBOUR: 'it returns false'. Refute it at one input. -/
def asciiBackWrong : ChangeSpec := { name := "asciiBack", fn := fun _ => fun
  | [d1, d2] => { results := [.lit (.bool false)], args := [d1, d2] }
  | _ => none }
def AsciiBackWrongFalsely : Prop := asciiBackRow.holds Try.pinned (OpenSpec.ofChange asciiBackWrong)

/-- 'pagemenderlaw12.AsciiBlanks': WHATEVER THE INPUT: true; the input reads as it did. -/
def asciiBlanksSpec : ChangeSpec := { name := "asciiBlanks", fn := fun _ => fun
  | [d1, d2, d3] => { results := [.lit (.bool true)], args := [d1, d2, d3] }
  | _ => none }
def asciiBlanksRow : OpenClaim := { program := "ytjgbnaejeeinbaa", sum := "f52b5c4755c78f84d994565c0374bb7334aad1914e8d970f687265b0d29ba081", func := "pagemender/pagemenderlaw12.AsciiBlanks", spec := "asciiBlanks", inPlace := ["internal/abi.NoEscape"], unfollowed := true, recurses := true, apart := false }
def AsciiBlanksSaid : Prop := asciiBlanksRow.holds Try.pinned (OpenSpec.ofChange asciiBlanksSpec)

/-- ITS FALSE NEIGHBOUR: 'it returns false'. Refute it at one input. -/
def asciiBlanksWrong : ChangeSpec := { name := "asciiBlanks", fn := fun _ => fun
  | [d1, d2, d3] => { results := [.lit (.bool false)], args := [d1, d2, d3] }
  | _ => none }
def AsciiBlanksWrongFalsely : Prop := asciiBlanksRow.holds Try.pinned (OpenSpec.ofChange asciiBlanksWrong)

/- THE SECOND FORM. 'bulk': how many values and letters a reading holds, each counted each time it is reached (what is shared counts as often as it is met; a slice's spare places count too). A statement '..UptoSaid' is the law's where the arguments, and the package variables that the reading takes, are together of bulk at most 1048576: NARROWER than '..Said'. Prove '..Said' where nothing that the law and all that it calls make is longer than what came in: it says more and counts as full. Else prove '..UptoSaid'. A law counts once. -/
mutual
def uptoBulk {H : Type} : DataW H → Nat
  | .lit (.string bytes) => bytes.length + 1
  | .lit _ => 1
  | .nil => 1
  | .ptr d => uptoBulk d + 1
  | .slice elems spare => uptoBulkAll elems + uptoBulkAll spare + 1
  | .agg parts => uptoBulkAll parts + 1
  | .iface _ d => uptoBulk d + 1
  | .map entries => uptoBulkEntries entries + 1
  | .held _ => 1
def uptoBulkAll {H : Type} : List (DataW H) → Nat
  | [] => 0
  | d :: r => uptoBulk d + uptoBulkAll r
def uptoBulkEntries {H : Type} : List (Lit × DataW H) → Nat
  | [] => 0
  | x :: r => uptoBulkEntry x + uptoBulkEntries r
def uptoBulkEntry {H : Type} : Lit × DataW H → Nat
  | (.string bytes, d) => bytes.length + uptoBulk d + 1
  | (_, d) => uptoBulk d + 1
 end
def uptoSmall : (H : Type) → List (DataW H) → Bool := fun _ ds => decide (uptoBulkAll ds ≤ 1048576)
def OpenSpec.upto (s : _root_.Go.ChangeSpec) : _root_.Go.OpenSpec := { _root_.Go.OpenSpec.ofChange s with cond := some uptoSmall }

/-- 'pagemenderlaw12.AsciiPlain', WHERE WHAT IT READS IS OF BULK AT MOST 1048576: true; the input reads as it did. -/
def asciiPlainUptoRow : OpenClaim := { program := "ytjgbnaejeeinbaa", sum := "f52b5c4755c78f84d994565c0374bb7334aad1914e8d970f687265b0d29ba081", func := "pagemender/pagemenderlaw12.AsciiPlain", spec := "asciiPlain", inPlace := ["internal/abi.NoEscape"], unfollowed := true, recurses := true, apart := false, narrowed := true }
def AsciiPlainUptoSaid : Prop := asciiPlainUptoRow.holds Try.pinned (OpenSpec.upto asciiPlainSpec)

/-- 'pagemenderlaw12.AsciiParts', WHERE WHAT IT READS IS OF BULK AT MOST 1048576: true; the input reads as it did. -/
def asciiPartsUptoRow : OpenClaim := { program := "ytjgbnaejeeinbaa", sum := "f52b5c4755c78f84d994565c0374bb7334aad1914e8d970f687265b0d29ba081", func := "pagemender/pagemenderlaw12.AsciiParts", spec := "asciiParts", inPlace := ["internal/abi.NoEscape"], unfollowed := true, recurses := true, apart := false, narrowed := true }
def AsciiPartsUptoSaid : Prop := asciiPartsUptoRow.holds Try.pinned (OpenSpec.upto asciiPartsSpec)

/-- 'pagemenderlaw12.AsciiNames', WHERE WHAT IT READS IS OF BULK AT MOST 1048576: true; the input reads as it did. -/
def asciiNamesUptoRow : OpenClaim := { program := "ytjgbnaejeeinbaa", sum := "f52b5c4755c78f84d994565c0374bb7334aad1914e8d970f687265b0d29ba081", func := "pagemender/pagemenderlaw12.AsciiNames", spec := "asciiNames", inPlace := ["internal/abi.NoEscape"], unfollowed := true, recurses := true, apart := false, narrowed := true }
def AsciiNamesUptoSaid : Prop := asciiNamesUptoRow.holds Try.pinned (OpenSpec.upto asciiNamesSpec)

/-- 'pagemenderlaw12.AsciiBack', WHERE WHAT IT READS IS OF BULK AT MOST 1048576: true; the input reads as it did. -/
def asciiBackUptoRow : OpenClaim := { program := "ytjgbnaejeeinbaa", sum := "f52b5c4755c78f84d994565c0374bb7334aad1914e8d970f687265b0d29ba081", func := "pagemender/pagemenderlaw12.AsciiBack", spec := "asciiBack", inPlace := ["internal/abi.NoEscape"], unfollowed := true, recurses := true, apart := false, narrowed := true }
def AsciiBackUptoSaid : Prop := asciiBackUptoRow.holds Try.pinned (OpenSpec.upto asciiBackSpec)

/-- 'pagemenderlaw12.AsciiBlanks', WHERE WHAT IT READS IS OF BULK AT MOST 1048576: true; the input reads as it did. -/
def asciiBlanksUptoRow : OpenClaim := { program := "ytjgbnaejeeinbaa", sum := "f52b5c4755c78f84d994565c0374bb7334aad1914e8d970f687265b0d29ba081", func := "pagemender/pagemenderlaw12.AsciiBlanks", spec := "asciiBlanks", inPlace := ["internal/abi.NoEscape"], unfollowed := true, recurses := true, apart := false, narrowed := true }
def AsciiBlanksUptoSaid : Prop := asciiBlanksUptoRow.holds Try.pinned (OpenSpec.upto asciiBlanksSpec)

end Rows
end Go.Proofs.Ytjgbnaejeeinbaa
