-- PRINTED BY print.sh 35421559b90ae4d0a3588c463048766b98c2df88dd9212a6774a882060cdf62d: not written by this session
import Derived.Test.YtmmeppkmdnjhlaaProg
import Derived.Below
import Derived.Deep.Draws
import Derived.Deep.AppendLies
import Derived.Maps.AppendAt
import Derived.OwnWalk
import Derived.Laws.BytesArg
import Derived.Laws.MakeOwn
import Derived.Laws.OwnMore
import Derived.Deep.OwnRows
import Derived.Tactics
import Derived.Lib.ConvBytes
import Derived.Laws.Slices
import Derived.WalkKit
import Derived.KernelRfl
import Derived.RowKit3
import Derived.Deep.LoopGhost
import Derived.Deep.QuietTactic
import Derived.BigQuiet
import Derived.WideLaws
import Derived.Deep.DeepCutAuto
import Derived.Deep.CutBlock
import Derived.Deep.RegionHeld3
import Derived.Laws.Rows
import Derived.Lib.AppendStr
import Derived.ArgAppend
import Derived.Laws.IdiomCopy
import Derived.OrdersHeld
import Derived.Laws.BitsLemmas
import Derived.RowKit
import Derived.Test.YtmmeppkmdnjhlaaWWords
import Derived.Test.YtmmeppkmdnjhlaaWLast
import Derived.Test.YtmmeppkmdnjhlaaWTab
import Derived.Test.YtmmeppkmdnjhlaaWFour
import Derived.Test.YtmmeppkmdnjhlaaWQPut
import Derived.Test.YtmmeppkmdnjhlaaWApart
import Derived.Test.YtmmeppkmdnjhlaaWArr
import Derived.Test.YtmmeppkmdnjhlaaWZeros
import Derived.Test.YtmmeppkmdnjhlaaWFoot
import Derived.Test.YtmmeppkmdnjhlaaWKept
import Derived.Test.YtmmeppkmdnjhlaaWShare
import Derived.Test.YtmmeppkmdnjhlaaWN
import Derived.Test.YtmmeppkmdnjhlaaWFootNe
import Derived.Test.YtmmeppkmdnjhlaaWAt
import Derived.Test.YtmmeppkmdnjhlaaWEqStruct
import Derived.Test.YtmmeppkmdnjhlaaWRepsOne
import Derived.Test.YtmmeppkmdnjhlaaWInv
import Derived.Test.YtmmeppkmdnjhlaaWInvWords
import Derived.Test.YtmmeppkmdnjhlaaWGuard
import Derived.Test.YtmmeppkmdnjhlaaWNEv
import Derived.Test.YtmmeppkmdnjhlaaWMore
namespace Go.Proofs.Ytmmeppkmdnjhlaa.PFnExactIsNewer
open Go.RowKit Go.Proofs.YtmmeppkmdnjhlaaW.PrintWords Go.Proofs.YtmmeppkmdnjhlaaW.PrintLast Go.Proofs.YtmmeppkmdnjhlaaW.PrintMore
attribute [local go_sem] max2_int min2_int max_two min_two max_three min_three max_four min_four   -- for this text's walks alone
set_option linter.unusedVariables false
set_option linter.unusedSimpArgs false



def errW : Option Int → Value
  | none => .nilIface
  | some c => .iface 0 (.int .i64 c)
theorem errW_none : errW none = .nilIface := rfl
theorem errW_some (c : Int) : errW (some c) = .iface 0 (.int .i64 c) := rfl

theorem info3 : (Try.prog.info? 3).map (fun i => (i.zero, i.size, i.bytes)) = some (some (.int .i64 0), 1, 8) := by kernel_rfl
-- the values' own types

end Go.Proofs.Ytmmeppkmdnjhlaa.PFnExactIsNewer
