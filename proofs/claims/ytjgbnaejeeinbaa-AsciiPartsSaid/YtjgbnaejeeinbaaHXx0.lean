/- Printed for this seat by a program of the prover's own (over the kit's print): each function of the translation as a plain Lean function, and the proof that the code comes to its answers. -/
import Derived.Test.YtjgbnaejeeinbaaProg
import Derived.Below
import Derived.Deep.Draws
import Derived.Deep.AppendLies
import Derived.Maps.AppendAt
import Derived.OwnWalk
import Derived.Laws.BytesArg
import Derived.Laws.MakeOwn
import Derived.Laws.OwnMore
import Derived.Deep.OwnRows
import Derived.Tactics
import Derived.Lib.ConvBytes
import Derived.Laws.Slices
import Derived.WalkKit
import Derived.KernelRfl
import Derived.RowKit3
import Derived.Deep.LoopGhost
import Derived.Deep.QuietTactic
import Derived.BigQuiet
import Derived.WideLaws
import Derived.Deep.DeepCutAuto
import Derived.Deep.CutBlock
import Derived.Deep.RegionHeld3
import Derived.Laws.Rows
import Derived.Lib.AppendStr
import Derived.ArgAppend
import Derived.Laws.IdiomCopy
import Derived.OrdersHeld
import Derived.Laws.BitsLemmas
import Derived.RowKit
import Derived.Test.YtjgbnaejeeinbaaCw
import Derived.Test.YtjgbnaejeeinbaaWWords
import Derived.Test.YtjgbnaejeeinbaaWLast
import Derived.Test.YtjgbnaejeeinbaaWTab
import Derived.Test.YtjgbnaejeeinbaaWFour
import Derived.Test.YtjgbnaejeeinbaaWQPut
import Derived.Test.YtjgbnaejeeinbaaWApart
import Derived.Test.YtjgbnaejeeinbaaWArr
import Derived.Test.YtjgbnaejeeinbaaWZeros
import Derived.Test.YtjgbnaejeeinbaaWFoot
import Derived.Test.YtjgbnaejeeinbaaWKept
import Derived.Test.YtjgbnaejeeinbaaWShare
import Derived.Test.YtjgbnaejeeinbaaWN
import Derived.Test.YtjgbnaejeeinbaaWFootNe
import Derived.Test.YtjgbnaejeeinbaaWAt
import Derived.Test.YtjgbnaejeeinbaaWEqStruct
import Derived.Test.YtjgbnaejeeinbaaWRepsOne
import Derived.Test.YtjgbnaejeeinbaaWInv
import Derived.Test.YtjgbnaejeeinbaaWInvWords
import Derived.Test.YtjgbnaejeeinbaaWGuard
import Derived.Test.YtjgbnaejeeinbaaWNEv
import Derived.Test.YtjgbnaejeeinbaaWMore
namespace Go.Proofs.Ytjgbnaejeeinbaa.HX
open Go.RowKit Go.Proofs.YtjgbnaejeeinbaaW.PrintWords Go.Proofs.YtjgbnaejeeinbaaW.PrintLast Go.Proofs.YtjgbnaejeeinbaaW.PrintMore
attribute [local go_sem] max2_int min2_int max_two min_two max_three min_three max_four min_four   -- for this text's walks alone
set_option linter.unusedVariables false
set_option linter.unusedSimpArgs false



def errW : Option Int → Value
  | none => .nilIface
  | some c => .iface 0 (.int .i64 c)
theorem errW_none : errW none = .nilIface := rfl
theorem errW_some (c : Int) : errW (some c) = .iface 0 (.int .i64 c) := rfl

-- the values' own types

end Go.Proofs.Ytjgbnaejeeinbaa.HX
