-- written by the workplace's driver round the kit's printer (wip/tools/myprint.py)
import Derived.Test.YtlikgkcfkealkaaProg
import Derived.Below
import Derived.Deep.Draws
import Derived.Deep.AppendLies
import Derived.Maps.AppendAt
import Derived.OwnWalk
import Derived.Laws.BytesArg
import Derived.Laws.MakeOwn
import Derived.Laws.OwnMore
import Derived.Deep.OwnRows
import Derived.Tactics
import Derived.Lib.ConvBytes
import Derived.Laws.Slices
import Derived.WalkKit
import Derived.KernelRfl
import Derived.RowKit3
import Derived.Deep.LoopGhost
import Derived.Deep.QuietTactic
import Derived.BigQuiet
import Derived.WideLaws
import Derived.Deep.DeepCutAuto
import Derived.Deep.CutBlock
import Derived.Deep.RegionHeld3
import Derived.Laws.Rows
import Derived.Lib.AppendStr
import Derived.ArgAppend
import Derived.Laws.IdiomCopy
import Derived.OrdersHeld
import Derived.Laws.BitsLemmas
import Derived.RowKit
import Derived.Test.YtlikgkcfkealkaaWWords
import Derived.Test.YtlikgkcfkealkaaWLast
import Derived.Test.YtlikgkcfkealkaaWTab
import Derived.Test.YtlikgkcfkealkaaWFour
import Derived.Test.YtlikgkcfkealkaaWQPut
import Derived.Test.YtlikgkcfkealkaaWApart
import Derived.Test.YtlikgkcfkealkaaWArr
import Derived.Test.YtlikgkcfkealkaaWZeros
import Derived.Test.YtlikgkcfkealkaaWFoot
import Derived.Test.YtlikgkcfkealkaaWKept
import Derived.Test.YtlikgkcfkealkaaWShare
import Derived.Test.YtlikgkcfkealkaaWN
import Derived.Test.YtlikgkcfkealkaaWFootNe
import Derived.Test.YtlikgkcfkealkaaWAt
import Derived.Test.YtlikgkcfkealkaaWEqStruct
import Derived.Test.YtlikgkcfkealkaaWRepsOne
import Derived.Test.YtlikgkcfkealkaaWInv
import Derived.Test.YtlikgkcfkealkaaWInvWords
import Derived.Test.YtlikgkcfkealkaaWGuard
import Derived.Test.YtlikgkcfkealkaaWNEv
import Derived.Test.YtlikgkcfkealkaaWMore
namespace Go.Proofs.Ytlikgkcfkealkaa.PC
open Go.RowKit Go.Proofs.YtlikgkcfkealkaaW.PrintWords Go.Proofs.YtlikgkcfkealkaaW.PrintLast Go.Proofs.YtlikgkcfkealkaaW.PrintMore
attribute [local go_sem] max2_int min2_int max_two min_two max_three min_three max_four min_four   -- for this text's walks alone
set_option linter.unusedVariables false
set_option linter.unusedSimpArgs false



def errW : Option Int → Value
  | none => .nilIface
  | some c => .iface 0 (.int .i64 c)
theorem errW_none : errW none = .nilIface := rfl
theorem errW_some (c : Int) : errW (some c) = .iface 0 (.int .i64 c) := rfl

-- the values' own types

end Go.Proofs.Ytlikgkcfkealkaa.PC
