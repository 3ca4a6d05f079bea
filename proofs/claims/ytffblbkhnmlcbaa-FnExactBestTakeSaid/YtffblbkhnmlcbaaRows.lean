/-
  No cell of these rows narrows 'for every input' (looked for: loops, veiled, ifaces, maps, wideKeys, modest, calm, conditions, laid).
  DERIVED. THE GIVEN ROWS OF THIS SEAT. 5 by the template 'for every input the law returns true; each argument reads behind the call as it read before'; 0 by the template 'total and deterministic' (their statements: YtffblbkhnmlcbaaTotals.lean).
  GIVEN WITH THE SEED: the statements are not yours to turn. If you find one false, say at which input.
  Laid BY PROGRAM, IN A SANDBOX (cutbox-rows.mjs): the forced cells as the released guide's own fill.sh prints them over the translation a2065e281bd8f021… (all of the seat's roots in one cut). By AI agents, Wed Nov 11 2026. No macro, syntax, notation, axiom, sorry.
-/
import Derived.Test.YtffblbkhnmlcbaaChecked
import GoSem.Claim
import GoSem.ClaimJoined
import GoSem.ClaimMapViews
import Derived.JoinedTies
import Derived.KernelRfl
namespace Go.Proofs.Ytffblbkhnmlcbaa
/- THE CELL 'sum', in the pinned program and in every row, IS THE sha256 OF THE DUMP (.gsa) THAT YtffblbkhnmlcbaaProg.lean LOADS. Nothing in Lean hashes anything: it is a label: what it is worth is what the hold of that sum in a sandbox is worth. -/
noncomputable def Try.pinned : Pinned := { name := "ytffblbkhnmlcbaa", sum := "a2065e281bd8f021e9ccbe1063cdb18d7b579baa4fc29053059efcd749836945", checked := Try.checked }
namespace Rows
def none {H : Type} : Left H := { results := [], args := [] }

/-- 'laws.FnExactCountCuts': WHATEVER THE INPUT: true; the input reads as it did. -/
def fnExactCountCutsSpec : ChangeSpec := { name := "fnExactCountCuts", fn := fun _ => fun
  | [d] => { results := [.lit (.bool true)], args := [d] }
  | _ => none }
def fnExactCountCutsRow : OpenClaim := { program := "ytffblbkhnmlcbaa", sum := "a2065e281bd8f021e9ccbe1063cdb18d7b579baa4fc29053059efcd749836945", func := "loop.example/g03004/laws.FnExactCountCuts", spec := "fnExactCountCuts", apart := false }
def FnExactCountCutsSaid : Prop := fnExactCountCutsRow.holds Try.pinned (OpenSpec.ofChange fnExactCountCutsSpec)

/-- ITS FALSE NEIGHBOUR: 'it returns false'. Refute it at one input. -/
def fnExactCountCutsWrong : ChangeSpec := { name := "fnExactCountCuts", fn := fun _ => fun
  | [d] => { results := [.lit (.bool false)], args := [d] }
  | _ => none }
def FnExactCountCutsWrongFalsely : Prop := fnExactCountCutsRow.holds Try.pinned (OpenSpec.ofChange fnExactCountCutsWrong)

/-- 'laws.FnExactAreTakes': WHATEVER THE INPUT: true; the input reads as it did. -/
def fnExactAreTakesSpec : ChangeSpec := { name := "fnExactAreTakes", fn := fun _ => fun
  | [d] => { results := [.lit (.bool true)], args := [d] }
  | _ => none }
def fnExactAreTakesRow : OpenClaim := { program := "ytffblbkhnmlcbaa", sum := "a2065e281bd8f021e9ccbe1063cdb18d7b579baa4fc29053059efcd749836945", func := "loop.example/g03004/laws.FnExactAreTakes", spec := "fnExactAreTakes", apart := false }
def FnExactAreTakesSaid : Prop := fnExactAreTakesRow.holds Try.pinned (OpenSpec.ofChange fnExactAreTakesSpec)

/-- ITS FALSE NEIGHBOUR: 'it returns false'. Refute it at one input. -/
def fnExactAreTakesWrong : ChangeSpec := { name := "fnExactAreTakes", fn := fun _ => fun
  | [d] => { results := [.lit (.bool false)], args := [d] }
  | _ => none }
def FnExactAreTakesWrongFalsely : Prop := fnExactAreTakesRow.holds Try.pinned (OpenSpec.ofChange fnExactAreTakesWrong)

/-- 'laws.FnExactSpliceCost': WHATEVER THE INPUT: true; the input reads as it did. -/
def fnExactSpliceCostSpec : ChangeSpec := { name := "fnExactSpliceCost", fn := fun _ => fun
  | [d1, d2, d3] => { results := [.lit (.bool true)], args := [d1, d2, d3] }
  | _ => none }
def fnExactSpliceCostRow : OpenClaim := { program := "ytffblbkhnmlcbaa", sum := "a2065e281bd8f021e9ccbe1063cdb18d7b579baa4fc29053059efcd749836945", func := "loop.example/g03004/laws.FnExactSpliceCost", spec := "fnExactSpliceCost", apart := false }
def FnExactSpliceCostSaid : Prop := fnExactSpliceCostRow.holds Try.pinned (OpenSpec.ofChange fnExactSpliceCostSpec)

/-- ITS FALSE NEIGHBOUR: 'it returns false'. Refute it at one input. -/
def fnExactSpliceCostWrong : ChangeSpec := { name := "fnExactSpliceCost", fn := fun _ => fun
  | [d1, d2, d3] => { results := [.lit (.bool false)], args := [d1, d2, d3] }
  | _ => none }
def FnExactSpliceCostWrongFalsely : Prop := fnExactSpliceCostRow.holds Try.pinned (OpenSpec.ofChange fnExactSpliceCostWrong)

/-- 'laws.FnExactBestTake': WHATEVER THE INPUT: true; the input reads as it did. -/
def fnExactBestTakeSpec : ChangeSpec := { name := "fnExactBestTake", fn := fun _ => fun
  | [d] => { results := [.lit (.bool true)], args := [d] }
  | _ => none }
def fnExactBestTakeRow : OpenClaim := { program := "ytffblbkhnmlcbaa", sum := "a2065e281bd8f021e9ccbe1063cdb18d7b579baa4fc29053059efcd749836945", func := "loop.example/g03004/laws.FnExactBestTake", spec := "fnExactBestTake", apart := false }
def FnExactBestTakeSaid : Prop := fnExactBestTakeRow.holds Try.pinned (OpenSpec.ofChange fnExactBestTakeSpec)

/-- ITS FALSE NEIGHBOUR: 'it returns false'. Refute it at one input. -/
def fnExactBestTakeWrong : ChangeSpec := { name := "fnExactBestTake", fn := fun _ => fun
  | [d] => { results := [.lit (.bool false)], args := [d] }
  | _ => none }
def FnExactBestTakeWrongFalsely : Prop := fnExactBestTakeRow.holds Try.pinned (OpenSpec.ofChange fnExactBestTakeWrong)

/-- 'laws.FnExactBestSplice': WHATEVER THE INPUT: true; the input reads as it did. -/
def fnExactBestSpliceSpec : ChangeSpec := { name := "fnExactBestSplice", fn := fun _ => fun
  | [d1, d2] => { results := [.lit (.bool true)], args := [d1, d2] }
  | _ => none }
def fnExactBestSpliceRow : OpenClaim := { program := "ytffblbkhnmlcbaa", sum := "a2065e281bd8f021e9ccbe1063cdb18d7b579baa4fc29053059efcd749836945", func := "loop.example/g03004/laws.FnExactBestSplice", spec := "fnExactBestSplice", unfollowed := true, recurses := true, apart := false }
def FnExactBestSpliceSaid : Prop := fnExactBestSpliceRow.holds Try.pinned (OpenSpec.ofChange fnExactBestSpliceSpec)

/-- ITS FALSE NEIGHBOUR: 'it returns false'. Refute it at one input. -/
def fnExactBestSpliceWrong : ChangeSpec := { name := "fnExactBestSplice", fn := fun _ => fun
  | [d1, d2] => { results := [.lit (.bool false)], args := [d1, d2] }
  | _ => none }
def FnExactBestSpliceWrongFalsely : Prop := fnExactBestSpliceRow.holds Try.pinned (OpenSpec.ofChange fnExactBestSpliceWrong)

/- THE SECOND FORM. 'bulk': how many values and letters a reading holds, each counted each time it is reached (what is shared counts as often as it is met; a slice's spare places count too). A statement '..UptoSaid' is the law's where the arguments, and the package variables that the reading takes, are together of bulk at most 1048576: NARROWER than '..Said'. Prove '..Said' where nothing that the law and all that it calls make is longer than what came in: it says more and counts as full. Else prove '..UptoSaid'. A law counts once. -/
mutual
def uptoBulk {H : Type} : DataW H → Nat
  | .lit (.string bytes) => bytes.length + 1
  | .lit _ => 1
  | .nil => 1
  | .ptr d => uptoBulk d + 1
  | .slice elems spare => uptoBulkAll elems + uptoBulkAll spare + 1
  | .agg parts => uptoBulkAll parts + 1
  | .iface _ d => uptoBulk d + 1
  | .map entries => uptoBulkEntries entries + 1
  | .held _ => 1
def uptoBulkAll {H : Type} : List (DataW H) → Nat
  | [] => 0
  | d :: r => uptoBulk d + uptoBulkAll r
def uptoBulkEntries {H : Type} : List (Lit × DataW H) → Nat
  | [] => 0
  | x :: r => uptoBulkEntry x + uptoBulkEntries r
def uptoBulkEntry {H : Type} : Lit × DataW H → Nat
  | (.string bytes, d) => bytes.length + uptoBulk d + 1
  | (_, d) => uptoBulk d + 1
 end
def uptoSmall : (H : Type) → List (DataW H) → Bool := fun _ ds => decide (uptoBulkAll ds ≤ 1048576)
def OpenSpec.upto (s : _root_.Go.ChangeSpec) : _root_.Go.OpenSpec := { _root_.Go.OpenSpec.ofChange s with cond := some uptoSmall }

/-- 'laws.FnExactCountCuts', WHERE WHAT IT READS IS OF BULK AT MOST 1048576: true; the input reads as it did. -/
def fnExactCountCutsUptoRow : OpenClaim := { program := "ytffblbkhnmlcbaa", sum := "a2065e281bd8f021e9ccbe1063cdb18d7b579baa4fc29053059efcd749836945", func := "loop.example/g03004/laws.FnExactCountCuts", spec := "fnExactCountCuts", apart := false, narrowed := true }
def FnExactCountCutsUptoSaid : Prop := fnExactCountCutsUptoRow.holds Try.pinned (OpenSpec.upto fnExactCountCutsSpec)

/-- 'laws.FnExactAreTakes', WHERE WHAT IT READS IS OF BULK AT MOST 1048576: true; the input reads as it did. -/
def fnExactAreTakesUptoRow : OpenClaim := { program := "ytffblbkhnmlcbaa", sum := "a2065e281bd8f021e9ccbe1063cdb18d7b579baa4fc29053059efcd749836945", func := "loop.example/g03004/laws.FnExactAreTakes", spec := "fnExactAreTakes", apart := false, narrowed := true }
def FnExactAreTakesUptoSaid : Prop := fnExactAreTakesUptoRow.holds Try.pinned (OpenSpec.upto fnExactAreTakesSpec)

/-- 'laws.FnExactSpliceCost', WHERE WHAT IT READS IS OF BULK AT MOST 1048576: true; the input reads as it did. -/
def fnExactSpliceCostUptoRow : OpenClaim := { program := "ytffblbkhnmlcbaa", sum := "a2065e281bd8f021e9ccbe1063cdb18d7b579baa4fc29053059efcd749836945", func := "loop.example/g03004/laws.FnExactSpliceCost", spec := "fnExactSpliceCost", apart := false, narrowed := true }
def FnExactSpliceCostUptoSaid : Prop := fnExactSpliceCostUptoRow.holds Try.pinned (OpenSpec.upto fnExactSpliceCostSpec)

/-- 'laws.FnExactBestTake', WHERE WHAT IT READS IS OF BULK AT MOST 1048576: true; the input reads as it did. -/
def fnExactBestTakeUptoRow : OpenClaim := { program := "ytffblbkhnmlcbaa", sum := "a2065e281bd8f021e9ccbe1063cdb18d7b579baa4fc29053059efcd749836945", func := "loop.example/g03004/laws.FnExactBestTake", spec := "fnExactBestTake", apart := false, narrowed := true }
def FnExactBestTakeUptoSaid : Prop := fnExactBestTakeUptoRow.holds Try.pinned (OpenSpec.upto fnExactBestTakeSpec)

/-- 'laws.FnExactBestSplice', WHERE WHAT IT READS IS OF BULK AT MOST 1048576: true; the input reads as it did. -/
def fnExactBestSpliceUptoRow : OpenClaim := { program := "ytffblbkhnmlcbaa", sum := "a2065e281bd8f021e9ccbe1063cdb18d7b579baa4fc29053059efcd749836945", func := "loop.example/g03004/laws.FnExactBestSplice", spec := "fnExactBestSplice", unfollowed := true, recurses := true, apart := false, narrowed := true }
def FnExactBestSpliceUptoSaid : Prop := fnExactBestSpliceUptoRow.holds Try.pinned (OpenSpec.upto fnExactBestSpliceSpec)

end Rows
end Go.Proofs.Ytffblbkhnmlcbaa
