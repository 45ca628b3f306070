/- Printed for this seat by a program of the prover's own (over the kit's print): each function of the translation as a plain Lean function, and the proof that the code comes to its answers. -/
import Derived.Test.YtmcdhldaffljnaaProg
import Derived.Below
import Derived.Deep.Draws
import Derived.Deep.AppendLies
import Derived.Maps.AppendAt
import Derived.OwnWalk
import Derived.Laws.BytesArg
import Derived.Laws.MakeOwn
import Derived.Laws.OwnMore
import Derived.Deep.OwnRows
import Derived.Tactics
import Derived.Lib.ConvBytes
import Derived.Laws.Slices
import Derived.WalkKit
import Derived.KernelRfl
import Derived.RowKit3
import Derived.Deep.LoopGhost
import Derived.Deep.QuietTactic
import Derived.BigQuiet
import Derived.WideLaws
import Derived.Deep.DeepCutAuto
import Derived.Deep.CutBlock
import Derived.Deep.RegionHeld3
import Derived.Laws.Rows
import Derived.Lib.AppendStr
import Derived.ArgAppend
import Derived.Laws.IdiomCopy
import Derived.OrdersHeld
import Derived.Laws.BitsLemmas
import Derived.RowKit
import Derived.Test.YtmcdhldaffljnaaCw
import Derived.Test.YtmcdhldaffljnaaCd
import Derived.Test.YtmcdhldaffljnaaCr
import Derived.Test.YtmcdhldaffljnaaCe
import Derived.Test.YtmcdhldaffljnaaCs
import Derived.Test.YtmcdhldaffljnaaCk
import Derived.Test.YtmcdhldaffljnaaWWords
import Derived.Test.YtmcdhldaffljnaaWLast
import Derived.Test.YtmcdhldaffljnaaWTab
import Derived.Test.YtmcdhldaffljnaaWFour
import Derived.Test.YtmcdhldaffljnaaWQPut
import Derived.Test.YtmcdhldaffljnaaWApart
import Derived.Test.YtmcdhldaffljnaaWArr
import Derived.Test.YtmcdhldaffljnaaWZeros
import Derived.Test.YtmcdhldaffljnaaWFoot
import Derived.Test.YtmcdhldaffljnaaWKept
import Derived.Test.YtmcdhldaffljnaaWShare
import Derived.Test.YtmcdhldaffljnaaWN
import Derived.Test.YtmcdhldaffljnaaWFootNe
import Derived.Test.YtmcdhldaffljnaaWAt
import Derived.Test.YtmcdhldaffljnaaWEqStruct
import Derived.Test.YtmcdhldaffljnaaWRepsOne
import Derived.Test.YtmcdhldaffljnaaWInv
import Derived.Test.YtmcdhldaffljnaaWInvWords
import Derived.Test.YtmcdhldaffljnaaWGuard
import Derived.Test.YtmcdhldaffljnaaWNEv
import Derived.Test.YtmcdhldaffljnaaWMore
namespace Go.Proofs.Ytmcdhldaffljnaa.HC
open Go.RowKit Go.Proofs.YtmcdhldaffljnaaW.PrintWords Go.Proofs.YtmcdhldaffljnaaW.PrintLast Go.Proofs.YtmcdhldaffljnaaW.PrintMore
attribute [local go_sem] max2_int min2_int max_two min_two max_three min_three max_four min_four   -- for this text's walks alone
set_option linter.unusedVariables false
set_option linter.unusedSimpArgs false



def errW : Option Int → Value
  | none => .nilIface
  | some c => .iface 0 (.int .i64 c)
theorem errW_none : errW none = .nilIface := rfl
theorem errW_some (c : Int) : errW (some c) = .iface 0 (.int .i64 c) := rfl

-- the values' own types

end Go.Proofs.Ytmcdhldaffljnaa.HC
