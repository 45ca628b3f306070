/- Printed for this seat by a program of the prover's own (over the kit's print): each function of the translation as a plain Lean function, and the proof that the code comes to its answers. -/
import Derived.Test.YtpmenahlbfefmaaProg
import Derived.Below
import Derived.Deep.Draws
import Derived.Deep.AppendLies
import Derived.Maps.AppendAt
import Derived.OwnWalk
import Derived.Laws.BytesArg
import Derived.Laws.MakeOwn
import Derived.Laws.OwnMore
import Derived.Deep.OwnRows
import Derived.Tactics
import Derived.Lib.ConvBytes
import Derived.Laws.Slices
import Derived.WalkKit
import Derived.KernelRfl
import Derived.RowKit3
import Derived.Deep.LoopGhost
import Derived.Deep.QuietTactic
import Derived.BigQuiet
import Derived.WideLaws
import Derived.Deep.DeepCutAuto
import Derived.Deep.CutBlock
import Derived.Deep.RegionHeld3
import Derived.Laws.Rows
import Derived.Lib.AppendStr
import Derived.ArgAppend
import Derived.Laws.IdiomCopy
import Derived.OrdersHeld
import Derived.Laws.BitsLemmas
import Derived.RowKit
import Derived.Test.YtpmenahlbfefmaaCr
import Derived.Test.YtpmenahlbfefmaaCk
import Derived.Test.YtpmenahlbfefmaaNs
import Derived.Test.YtpmenahlbfefmaaNt
import Derived.Test.YtpmenahlbfefmaaWWords
import Derived.Test.YtpmenahlbfefmaaWLast
import Derived.Test.YtpmenahlbfefmaaWTab
import Derived.Test.YtpmenahlbfefmaaWFour
import Derived.Test.YtpmenahlbfefmaaWQPut
import Derived.Test.YtpmenahlbfefmaaWApart
import Derived.Test.YtpmenahlbfefmaaWArr
import Derived.Test.YtpmenahlbfefmaaWZeros
import Derived.Test.YtpmenahlbfefmaaWFoot
import Derived.Test.YtpmenahlbfefmaaWKept
import Derived.Test.YtpmenahlbfefmaaWShare
import Derived.Test.YtpmenahlbfefmaaWN
import Derived.Test.YtpmenahlbfefmaaWFootNe
import Derived.Test.YtpmenahlbfefmaaWAt
import Derived.Test.YtpmenahlbfefmaaWEqStruct
import Derived.Test.YtpmenahlbfefmaaWRepsOne
import Derived.Test.YtpmenahlbfefmaaWInv
import Derived.Test.YtpmenahlbfefmaaWInvWords
import Derived.Test.YtpmenahlbfefmaaWGuard
import Derived.Test.YtpmenahlbfefmaaWNEv
import Derived.Test.YtpmenahlbfefmaaWMore
namespace Go.Proofs.Ytpmenahlbfefmaa.G
open Go.RowKit Go.Proofs.YtpmenahlbfefmaaW.PrintWords Go.Proofs.YtpmenahlbfefmaaW.PrintLast Go.Proofs.YtpmenahlbfefmaaW.PrintMore
attribute [local go_sem] max2_int min2_int max_two min_two max_three min_three max_four min_four   -- for this text's walks alone
set_option linter.unusedVariables false
set_option linter.unusedSimpArgs false



def errW : Option Int → Value
  | none => .nilIface
  | some c => .iface 0 (.int .i64 c)
theorem errW_none : errW none = .nilIface := rfl
theorem errW_some (c : Int) : errW (some c) = .iface 0 (.int .i64 c) := rfl

theorem info5 : (Try.prog.info? 5).map (fun i => (i.zero, i.size, i.bytes)) = some (some (.int .u8 0), 1, 1) := by kernel_rfl
-- the values' own types

end Go.Proofs.Ytpmenahlbfefmaa.G
