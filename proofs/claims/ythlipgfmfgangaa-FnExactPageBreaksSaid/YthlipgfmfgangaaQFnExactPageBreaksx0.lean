/- Plain functions for the Go functions that the law FnExactPageBreaks reaches, and for each the proof that the call answers as the plain function says; printed by a program of this session. -/
import Derived.Test.YthlipgfmfgangaaProg
import Derived.Below
import Derived.Deep.Draws
import Derived.Deep.AppendLies
import Derived.Maps.AppendAt
import Derived.OwnWalk
import Derived.Laws.BytesArg
import Derived.Laws.MakeOwn
import Derived.Laws.OwnMore
import Derived.Deep.OwnRows
import Derived.Tactics
import Derived.Lib.ConvBytes
import Derived.Laws.Slices
import Derived.WalkKit
import Derived.KernelRfl
import Derived.RowKit3
import Derived.Deep.LoopGhost
import Derived.Deep.QuietTactic
import Derived.BigQuiet
import Derived.WideLaws
import Derived.Deep.DeepCutAuto
import Derived.Deep.CutBlock
import Derived.Deep.RegionHeld3
import Derived.Laws.Rows
import Derived.Lib.AppendStr
import Derived.ArgAppend
import Derived.Laws.IdiomCopy
import Derived.OrdersHeld
import Derived.Laws.BitsLemmas
import Derived.RowKit
import Derived.Test.YthlipgfmfgangaaWWords
import Derived.Test.YthlipgfmfgangaaWLast
import Derived.Test.YthlipgfmfgangaaWTab
import Derived.Test.YthlipgfmfgangaaWFour
import Derived.Test.YthlipgfmfgangaaWQPut
import Derived.Test.YthlipgfmfgangaaWApart
import Derived.Test.YthlipgfmfgangaaWArr
import Derived.Test.YthlipgfmfgangaaWZeros
import Derived.Test.YthlipgfmfgangaaWFoot
import Derived.Test.YthlipgfmfgangaaWKept
import Derived.Test.YthlipgfmfgangaaWShare
import Derived.Test.YthlipgfmfgangaaWN
import Derived.Test.YthlipgfmfgangaaWFootNe
import Derived.Test.YthlipgfmfgangaaWAt
import Derived.Test.YthlipgfmfgangaaWEqStruct
import Derived.Test.YthlipgfmfgangaaWRepsOne
import Derived.Test.YthlipgfmfgangaaWInv
import Derived.Test.YthlipgfmfgangaaWInvWords
import Derived.Test.YthlipgfmfgangaaWGuard
import Derived.Test.YthlipgfmfgangaaWNEv
import Derived.Test.YthlipgfmfgangaaWMore
namespace Go.Proofs.Ythlipgfmfgangaa.QFnExactPageBreaks
open Go.RowKit Go.Proofs.YthlipgfmfgangaaW.PrintWords Go.Proofs.YthlipgfmfgangaaW.PrintLast Go.Proofs.YthlipgfmfgangaaW.PrintMore
attribute [local go_sem] max2_int min2_int max_two min_two max_three min_three max_four min_four   -- for this text's walks alone
set_option linter.unusedVariables false
set_option linter.unusedSimpArgs false



def errW : Option Int → Value
 | none => .nilIface
 | some c => .iface 0 (.int .i64 c)
theorem errW_none : errW none = .nilIface := rfl
abbrev tt : Bool := true
abbrev ff : Bool := false
theorem errW_some (c : Int) : errW (some c) = .iface 0 (.int .i64 c) := rfl

theorem info3 : (Try.prog.info? 3).map (fun i => (i.zero, i.size, i.bytes)) = some (some (.int .i64 0), 1, 8) := by kernel_rfl
theorem info4 : (Try.prog.info? 4).map (fun i => (i.zero, i.size, i.bytes)) = some (some (.bool false), 1, 1) := by kernel_rfl
-- the values' own types

end Go.Proofs.Ythlipgfmfgangaa.QFnExactPageBreaks
