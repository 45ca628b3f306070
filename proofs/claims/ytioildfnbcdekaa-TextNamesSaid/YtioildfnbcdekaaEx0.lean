/- Printed for this seat by a program of the prover's own (over the kit's print): each function of the translation as a plain Lean function, and the proof that the code comes to its answers. -/
import Derived.Test.YtioildfnbcdekaaProg
import Derived.Below
import Derived.Deep.Draws
import Derived.Deep.AppendLies
import Derived.Maps.AppendAt
import Derived.OwnWalk
import Derived.Laws.BytesArg
import Derived.Laws.MakeOwn
import Derived.Laws.OwnMore
import Derived.Deep.OwnRows
import Derived.Tactics
import Derived.Lib.ConvBytes
import Derived.Laws.Slices
import Derived.WalkKit
import Derived.KernelRfl
import Derived.RowKit3
import Derived.Deep.LoopGhost
import Derived.Deep.QuietTactic
import Derived.BigQuiet
import Derived.WideLaws
import Derived.Deep.DeepCutAuto
import Derived.Deep.CutBlock
import Derived.Deep.RegionHeld3
import Derived.Laws.Rows
import Derived.Lib.AppendStr
import Derived.ArgAppend
import Derived.Laws.IdiomCopy
import Derived.OrdersHeld
import Derived.Laws.BitsLemmas
import Derived.RowKit
import Derived.Test.YtioildfnbcdekaaCw
import Derived.Test.YtioildfnbcdekaaWWords
import Derived.Test.YtioildfnbcdekaaWLast
import Derived.Test.YtioildfnbcdekaaWTab
import Derived.Test.YtioildfnbcdekaaWFour
import Derived.Test.YtioildfnbcdekaaWQPut
import Derived.Test.YtioildfnbcdekaaWApart
import Derived.Test.YtioildfnbcdekaaWArr
import Derived.Test.YtioildfnbcdekaaWZeros
import Derived.Test.YtioildfnbcdekaaWFoot
import Derived.Test.YtioildfnbcdekaaWKept
import Derived.Test.YtioildfnbcdekaaWShare
import Derived.Test.YtioildfnbcdekaaWN
import Derived.Test.YtioildfnbcdekaaWFootNe
import Derived.Test.YtioildfnbcdekaaWAt
import Derived.Test.YtioildfnbcdekaaWEqStruct
import Derived.Test.YtioildfnbcdekaaWRepsOne
import Derived.Test.YtioildfnbcdekaaWInv
import Derived.Test.YtioildfnbcdekaaWInvWords
import Derived.Test.YtioildfnbcdekaaWGuard
import Derived.Test.YtioildfnbcdekaaWNEv
import Derived.Test.YtioildfnbcdekaaWMore
namespace Go.Proofs.Ytioildfnbcdekaa.E
open Go.RowKit Go.Proofs.YtioildfnbcdekaaW.PrintWords Go.Proofs.YtioildfnbcdekaaW.PrintLast Go.Proofs.YtioildfnbcdekaaW.PrintMore
attribute [local go_sem] max2_int min2_int max_two min_two max_three min_three max_four min_four   -- for this text's walks alone
set_option linter.unusedVariables false
set_option linter.unusedSimpArgs false



def errW : Option Int → Value
  | none => .nilIface
  | some c => .iface 0 (.int .i64 c)
theorem errW_none : errW none = .nilIface := rfl
theorem errW_some (c : Int) : errW (some c) = .iface 0 (.int .i64 c) := rfl

-- the values' own types

end Go.Proofs.Ytioildfnbcdekaa.E
