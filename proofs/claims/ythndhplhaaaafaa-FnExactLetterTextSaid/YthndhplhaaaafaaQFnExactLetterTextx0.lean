/- Plain functions for the Go functions that the law FnExactLetterText reaches, and for each the proof that the call answers as the plain function says; printed by a program of this session. -/
import Derived.Test.YthndhplhaaaafaaProg
import Derived.Below
import Derived.Deep.Draws
import Derived.Deep.AppendLies
import Derived.Maps.AppendAt
import Derived.OwnWalk
import Derived.Laws.BytesArg
import Derived.Laws.MakeOwn
import Derived.Laws.OwnMore
import Derived.Deep.OwnRows
import Derived.Tactics
import Derived.Lib.ConvBytes
import Derived.Laws.Slices
import Derived.WalkKit
import Derived.KernelRfl
import Derived.RowKit3
import Derived.Deep.LoopGhost
import Derived.Deep.QuietTactic
import Derived.BigQuiet
import Derived.WideLaws
import Derived.Deep.DeepCutAuto
import Derived.Deep.CutBlock
import Derived.Deep.RegionHeld3
import Derived.Laws.Rows
import Derived.Lib.AppendStr
import Derived.ArgAppend
import Derived.Laws.IdiomCopy
import Derived.OrdersHeld
import Derived.Laws.BitsLemmas
import Derived.RowKit
import Derived.Test.YthndhplhaaaafaaWWords
import Derived.Test.YthndhplhaaaafaaWLast
import Derived.Test.YthndhplhaaaafaaWTab
import Derived.Test.YthndhplhaaaafaaWFour
import Derived.Test.YthndhplhaaaafaaWQPut
import Derived.Test.YthndhplhaaaafaaWApart
import Derived.Test.YthndhplhaaaafaaWArr
import Derived.Test.YthndhplhaaaafaaWZeros
import Derived.Test.YthndhplhaaaafaaWFoot
import Derived.Test.YthndhplhaaaafaaWKept
import Derived.Test.YthndhplhaaaafaaWShare
import Derived.Test.YthndhplhaaaafaaWN
import Derived.Test.YthndhplhaaaafaaWFootNe
import Derived.Test.YthndhplhaaaafaaWAt
import Derived.Test.YthndhplhaaaafaaWEqStruct
import Derived.Test.YthndhplhaaaafaaWRepsOne
import Derived.Test.YthndhplhaaaafaaWInv
import Derived.Test.YthndhplhaaaafaaWInvWords
import Derived.Test.YthndhplhaaaafaaWGuard
import Derived.Test.YthndhplhaaaafaaWNEv
import Derived.Test.YthndhplhaaaafaaWMore
namespace Go.Proofs.Ythndhplhaaaafaa.QFnExactLetterText
open Go.RowKit Go.Proofs.YthndhplhaaaafaaW.PrintWords Go.Proofs.YthndhplhaaaafaaW.PrintLast Go.Proofs.YthndhplhaaaafaaW.PrintMore
attribute [local go_sem] max2_int min2_int max_two min_two max_three min_three max_four min_four   -- for this text's walks alone
set_option linter.unusedVariables false
set_option linter.unusedSimpArgs false



def errW : Option Int → Value
 | none => .nilIface
 | some c => .iface 0 (.int .i64 c)
theorem errW_none : errW none = .nilIface := rfl
abbrev tt : Bool := true
abbrev ff : Bool := false

theorem errW_some (c : Int) : errW (some c) = .iface 0 (.int .i64 c) := rfl

-- the values' own types

end Go.Proofs.Ythndhplhaaaafaa.QFnExactLetterText
