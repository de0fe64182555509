-- Written by xp.py, a program of this session, over the print of the loaded program; Lean checks it.
import Derived.Test.YtjbjkjlfikfeeaaProg
import Derived.Below
import Derived.Deep.Draws
import Derived.Deep.AppendLies
import Derived.Maps.AppendAt
import Derived.OwnWalk
import Derived.Laws.BytesArg
import Derived.Laws.MakeOwn
import Derived.Laws.OwnMore
import Derived.Deep.OwnRows
import Derived.Tactics
import Derived.Lib.ConvBytes
import Derived.Laws.Slices
import Derived.WalkKit
import Derived.KernelRfl
import Derived.RowKit3
import Derived.Deep.LoopGhost
import Derived.Deep.QuietTactic
import Derived.BigQuiet
import Derived.WideLaws
import Derived.Deep.DeepCutAuto
import Derived.Deep.CutBlock
import Derived.Deep.RegionHeld3
import Derived.Laws.Rows
import Derived.Lib.AppendStr
import Derived.ArgAppend
import Derived.Laws.IdiomCopy
import Derived.OrdersHeld
import Derived.Laws.BitsLemmas
import Derived.RowKit
import Derived.Test.YtjbjkjlfikfeeaaWWords
import Derived.Test.YtjbjkjlfikfeeaaWLast
import Derived.Test.YtjbjkjlfikfeeaaWTab
import Derived.Test.YtjbjkjlfikfeeaaWFour
import Derived.Test.YtjbjkjlfikfeeaaWQPut
import Derived.Test.YtjbjkjlfikfeeaaWApart
import Derived.Test.YtjbjkjlfikfeeaaWArr
import Derived.Test.YtjbjkjlfikfeeaaWZeros
import Derived.Test.YtjbjkjlfikfeeaaWFoot
import Derived.Test.YtjbjkjlfikfeeaaWKept
import Derived.Test.YtjbjkjlfikfeeaaWShare
import Derived.Test.YtjbjkjlfikfeeaaWN
import Derived.Test.YtjbjkjlfikfeeaaWFootNe
import Derived.Test.YtjbjkjlfikfeeaaWAt
import Derived.Test.YtjbjkjlfikfeeaaWEqStruct
import Derived.Test.YtjbjkjlfikfeeaaWRepsOne
import Derived.Test.YtjbjkjlfikfeeaaWInv
import Derived.Test.YtjbjkjlfikfeeaaWInvWords
import Derived.Test.YtjbjkjlfikfeeaaWGuard
import Derived.Test.YtjbjkjlfikfeeaaWNEv
import Derived.Test.YtjbjkjlfikfeeaaWMore
namespace Go.Proofs.Ytjbjkjlfikfeeaa.B
open Go.RowKit Go.Proofs.YtjbjkjlfikfeeaaW.PrintWords Go.Proofs.YtjbjkjlfikfeeaaW.PrintLast Go.Proofs.YtjbjkjlfikfeeaaW.PrintMore
attribute [local go_sem] max2_int min2_int max_two min_two max_three min_three max_four min_four   -- for this text's walks alone
set_option linter.unusedVariables false
set_option linter.unusedSimpArgs false



def errW : Option Int → Value
  | none => .nilIface
  | some c => .iface 0 (.int .i64 c)
theorem errW_none : errW none = .nilIface := rfl
theorem errW_some (c : Int) : errW (some c) = .iface 0 (.int .i64 c) := rfl

-- the values' own types

end Go.Proofs.Ytjbjkjlfikfeeaa.B
