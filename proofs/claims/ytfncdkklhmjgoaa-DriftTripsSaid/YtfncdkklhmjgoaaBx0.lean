-- Written by xp.py, a program of this session, over the print of the loaded program; Lean checks it.
import Derived.Test.YtfncdkklhmjgoaaProg
import Derived.Below
import Derived.Deep.Draws
import Derived.Deep.AppendLies
import Derived.Maps.AppendAt
import Derived.OwnWalk
import Derived.Laws.BytesArg
import Derived.Laws.MakeOwn
import Derived.Laws.OwnMore
import Derived.Deep.OwnRows
import Derived.Tactics
import Derived.Lib.ConvBytes
import Derived.Laws.Slices
import Derived.WalkKit
import Derived.KernelRfl
import Derived.RowKit3
import Derived.Deep.LoopGhost
import Derived.Deep.QuietTactic
import Derived.BigQuiet
import Derived.WideLaws
import Derived.Deep.DeepCutAuto
import Derived.Deep.CutBlock
import Derived.Deep.RegionHeld3
import Derived.Laws.Rows
import Derived.Lib.AppendStr
import Derived.ArgAppend
import Derived.Laws.IdiomCopy
import Derived.OrdersHeld
import Derived.Laws.BitsLemmas
import Derived.RowKit
import Derived.Test.YtfncdkklhmjgoaaWWords
import Derived.Test.YtfncdkklhmjgoaaWLast
import Derived.Test.YtfncdkklhmjgoaaWTab
import Derived.Test.YtfncdkklhmjgoaaWFour
import Derived.Test.YtfncdkklhmjgoaaWQPut
import Derived.Test.YtfncdkklhmjgoaaWApart
import Derived.Test.YtfncdkklhmjgoaaWArr
import Derived.Test.YtfncdkklhmjgoaaWZeros
import Derived.Test.YtfncdkklhmjgoaaWFoot
import Derived.Test.YtfncdkklhmjgoaaWKept
import Derived.Test.YtfncdkklhmjgoaaWShare
import Derived.Test.YtfncdkklhmjgoaaWN
import Derived.Test.YtfncdkklhmjgoaaWFootNe
import Derived.Test.YtfncdkklhmjgoaaWAt
import Derived.Test.YtfncdkklhmjgoaaWEqStruct
import Derived.Test.YtfncdkklhmjgoaaWRepsOne
import Derived.Test.YtfncdkklhmjgoaaWInv
import Derived.Test.YtfncdkklhmjgoaaWInvWords
import Derived.Test.YtfncdkklhmjgoaaWGuard
import Derived.Test.YtfncdkklhmjgoaaWNEv
import Derived.Test.YtfncdkklhmjgoaaWMore
namespace Go.Proofs.Ytfncdkklhmjgoaa.B
open Go.RowKit Go.Proofs.YtfncdkklhmjgoaaW.PrintWords Go.Proofs.YtfncdkklhmjgoaaW.PrintLast Go.Proofs.YtfncdkklhmjgoaaW.PrintMore
attribute [local go_sem] max2_int min2_int max_two min_two max_three min_three max_four min_four   -- for this text's walks alone
set_option linter.unusedVariables false
set_option linter.unusedSimpArgs false



def errW : Option Int → Value
  | none => .nilIface
  | some c => .iface 0 (.int .i64 c)
theorem errW_none : errW none = .nilIface := rfl
theorem errW_some (c : Int) : errW (some c) = .iface 0 (.int .i64 c) := rfl

-- the values' own types

end Go.Proofs.Ytfncdkklhmjgoaa.B
