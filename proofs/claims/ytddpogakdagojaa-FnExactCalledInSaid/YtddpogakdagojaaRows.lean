/-
  No cell of these rows narrows 'for every input' (looked for: loops, veiled, ifaces, maps, wideKeys, modest, calm, conditions, laid).
  DERIVED. THE GIVEN ROWS OF THIS SEAT. 7 by the template 'for every input the law returns true; each argument reads behind the call as it read before'; 0 by the template 'total and deterministic' (their statements: YtddpogakdagojaaTotals.lean).
  GIVEN WITH THE SEED: the statements are not yours to turn. If you find one false, say at which input.
  Laid BY PROGRAM, IN A SANDBOX (cutbox-rows.mjs): the forced cells as the released guide's own fill.sh prints them over the translation 14f7bd73f03d9354… (all of the seat's roots in one cut). By AI agents, Wed Nov 11 2026. No macro, syntax, notation, axiom, sorry.
-/
import Derived.Test.YtddpogakdagojaaChecked
import GoSem.Claim
import GoSem.ClaimJoined
import GoSem.ClaimMapViews
import Derived.JoinedTies
import Derived.KernelRfl
namespace Go.Proofs.Ytddpogakdagojaa
/- THE CELL 'sum', in the pinned program and in every row, IS THE sha256 OF THE DUMP (.gsa) THAT YtddpogakdagojaaProg.lean LOADS. Nothing in Lean hashes anything: it is a label: what it is worth is what the hold of that sum in a sandbox is worth. -/
noncomputable def Try.pinned : Pinned := { name := "ytddpogakdagojaa", sum := "14f7bd73f03d9354c350683f0e7117cfa663cf0db30ea6bf5c5e65d487fee3ae", checked := Try.checked }
namespace Rows
def none {H : Type} : Left H := { results := [], args := [] }

/-- 'laws.FnExactAreHours': WHATEVER THE INPUT: true; the input reads as it did. -/
def fnExactAreHoursSpec : ChangeSpec := { name := "fnExactAreHours", fn := fun _ => fun
  | [d] => { results := [.lit (.bool true)], args := [d] }
  | _ => none }
def fnExactAreHoursRow : OpenClaim := { program := "ytddpogakdagojaa", sum := "14f7bd73f03d9354c350683f0e7117cfa663cf0db30ea6bf5c5e65d487fee3ae", func := "loop.example/g03004/laws.FnExactAreHours", spec := "fnExactAreHours", unfollowed := true, recurses := true, apart := false }
def FnExactAreHoursSaid : Prop := fnExactAreHoursRow.holds Try.pinned (OpenSpec.ofChange fnExactAreHoursSpec)

/-- ITS FALSE NEIGHBOUR: 'it returns false'. Refute it at one input. -/
def fnExactAreHoursWrong : ChangeSpec := { name := "fnExactAreHours", fn := fun _ => fun
  | [d] => { results := [.lit (.bool false)], args := [d] }
  | _ => none }
def FnExactAreHoursWrongFalsely : Prop := fnExactAreHoursRow.holds Try.pinned (OpenSpec.ofChange fnExactAreHoursWrong)

/-- 'laws.FnExactArePassages': WHATEVER THE INPUT: true; the input reads as it did. -/
def fnExactArePassagesSpec : ChangeSpec := { name := "fnExactArePassages", fn := fun _ => fun
  | [d] => { results := [.lit (.bool true)], args := [d] }
  | _ => none }
def fnExactArePassagesRow : OpenClaim := { program := "ytddpogakdagojaa", sum := "14f7bd73f03d9354c350683f0e7117cfa663cf0db30ea6bf5c5e65d487fee3ae", func := "loop.example/g03004/laws.FnExactArePassages", spec := "fnExactArePassages", unfollowed := true, recurses := true, apart := false }
def FnExactArePassagesSaid : Prop := fnExactArePassagesRow.holds Try.pinned (OpenSpec.ofChange fnExactArePassagesSpec)

/-- ITS FALSE NEIGHBOUR: 'it returns false'. Refute it at one input. -/
def fnExactArePassagesWrong : ChangeSpec := { name := "fnExactArePassages", fn := fun _ => fun
  | [d] => { results := [.lit (.bool false)], args := [d] }
  | _ => none }
def FnExactArePassagesWrongFalsely : Prop := fnExactArePassagesRow.holds Try.pinned (OpenSpec.ofChange fnExactArePassagesWrong)

/-- 'laws.FnExactIsPlan': WHATEVER THE INPUT: true; the input reads as it did. -/
def fnExactIsPlanSpec : ChangeSpec := { name := "fnExactIsPlan", fn := fun _ => fun
  | [d1, d2, d3] => { results := [.lit (.bool true)], args := [d1, d2, d3] }
  | _ => none }
def fnExactIsPlanRow : OpenClaim := { program := "ytddpogakdagojaa", sum := "14f7bd73f03d9354c350683f0e7117cfa663cf0db30ea6bf5c5e65d487fee3ae", func := "loop.example/g03004/laws.FnExactIsPlan", spec := "fnExactIsPlan", unfollowed := true, recurses := true, apart := false }
def FnExactIsPlanSaid : Prop := fnExactIsPlanRow.holds Try.pinned (OpenSpec.ofChange fnExactIsPlanSpec)

/-- ITS FALSE NEIGHBOUR: 'it returns false'. Refute it at one input. -/
def fnExactIsPlanWrong : ChangeSpec := { name := "fnExactIsPlan", fn := fun _ => fun
  | [d1, d2, d3] => { results := [.lit (.bool false)], args := [d1, d2, d3] }
  | _ => none }
def FnExactIsPlanWrongFalsely : Prop := fnExactIsPlanRow.holds Try.pinned (OpenSpec.ofChange fnExactIsPlanWrong)

/-- 'laws.FnExactIdleMinutes': WHATEVER THE INPUT: true; the input reads as it did. -/
def fnExactIdleMinutesSpec : ChangeSpec := { name := "fnExactIdleMinutes", fn := fun _ => fun
  | [d1, d2, d3] => { results := [.lit (.bool true)], args := [d1, d2, d3] }
  | _ => none }
def fnExactIdleMinutesRow : OpenClaim := { program := "ytddpogakdagojaa", sum := "14f7bd73f03d9354c350683f0e7117cfa663cf0db30ea6bf5c5e65d487fee3ae", func := "loop.example/g03004/laws.FnExactIdleMinutes", spec := "fnExactIdleMinutes", unfollowed := true, recurses := true, apart := false }
def FnExactIdleMinutesSaid : Prop := fnExactIdleMinutesRow.holds Try.pinned (OpenSpec.ofChange fnExactIdleMinutesSpec)

/-- ITS FALSE NEIGHBOUR: 'it returns false'. Refute it at one input. -/
def fnExactIdleMinutesWrong : ChangeSpec := { name := "fnExactIdleMinutes", fn := fun _ => fun
  | [d1, d2, d3] => { results := [.lit (.bool false)], args := [d1, d2, d3] }
  | _ => none }
def FnExactIdleMinutesWrongFalsely : Prop := fnExactIdleMinutesRow.holds Try.pinned (OpenSpec.ofChange fnExactIdleMinutesWrong)

/-- 'laws.FnExactPlanHours': WHATEVER THE INPUT: true; the input reads as it did. -/
def fnExactPlanHoursSpec : ChangeSpec := { name := "fnExactPlanHours", fn := fun _ => fun
  | [d1, d2] => { results := [.lit (.bool true)], args := [d1, d2] }
  | _ => none }
def fnExactPlanHoursRow : OpenClaim := { program := "ytddpogakdagojaa", sum := "14f7bd73f03d9354c350683f0e7117cfa663cf0db30ea6bf5c5e65d487fee3ae", func := "loop.example/g03004/laws.FnExactPlanHours", spec := "fnExactPlanHours", unfollowed := true, recurses := true, apart := false }
def FnExactPlanHoursSaid : Prop := fnExactPlanHoursRow.holds Try.pinned (OpenSpec.ofChange fnExactPlanHoursSpec)

/-- ITS FALSE NEIGHBOUR: 'it returns false'. Refute it at one input. -/
def fnExactPlanHoursWrong : ChangeSpec := { name := "fnExactPlanHours", fn := fun _ => fun
  | [d1, d2] => { results := [.lit (.bool false)], args := [d1, d2] }
  | _ => none }
def FnExactPlanHoursWrongFalsely : Prop := fnExactPlanHoursRow.holds Try.pinned (OpenSpec.ofChange fnExactPlanHoursWrong)

/-- 'laws.FnExactCalledIn': WHATEVER THE INPUT: true; the input reads as it did. -/
def fnExactCalledInSpec : ChangeSpec := { name := "fnExactCalledIn", fn := fun _ => fun
  | [d1, d2, d3] => { results := [.lit (.bool true)], args := [d1, d2, d3] }
  | _ => none }
def fnExactCalledInRow : OpenClaim := { program := "ytddpogakdagojaa", sum := "14f7bd73f03d9354c350683f0e7117cfa663cf0db30ea6bf5c5e65d487fee3ae", func := "loop.example/g03004/laws.FnExactCalledIn", spec := "fnExactCalledIn", recurses := true, apart := false }
def FnExactCalledInSaid : Prop := fnExactCalledInRow.holds Try.pinned (OpenSpec.ofChange fnExactCalledInSpec)

/-- ITS FALSE NEIGHBOUR: 'it returns false'. Refute it at one input. -/
def fnExactCalledInWrong : ChangeSpec := { name := "fnExactCalledIn", fn := fun _ => fun
  | [d1, d2, d3] => { results := [.lit (.bool false)], args := [d1, d2, d3] }
  | _ => none }
def FnExactCalledInWrongFalsely : Prop := fnExactCalledInRow.holds Try.pinned (OpenSpec.ofChange fnExactCalledInWrong)

/-- 'laws.FnRehearsed': WHATEVER THE INPUT: true; the input reads as it did. -/
def fnRehearsedSpec : ChangeSpec := { name := "fnRehearsed", fn := fun _ => fun
  | [d] => { results := [.lit (.bool true)], args := [d] }
  | _ => none }
def fnRehearsedRow : OpenClaim := { program := "ytddpogakdagojaa", sum := "14f7bd73f03d9354c350683f0e7117cfa663cf0db30ea6bf5c5e65d487fee3ae", func := "loop.example/g03004/laws.FnRehearsed", spec := "fnRehearsed", unfollowed := true, recurses := true, apart := false }
def FnRehearsedSaid : Prop := fnRehearsedRow.holds Try.pinned (OpenSpec.ofChange fnRehearsedSpec)

/-- ITS FALSE NEIGHBOUR: 'it returns false'. Refute it at one input. -/
def fnRehearsedWrong : ChangeSpec := { name := "fnRehearsed", fn := fun _ => fun
  | [d] => { results := [.lit (.bool false)], args := [d] }
  | _ => none }
def FnRehearsedWrongFalsely : Prop := fnRehearsedRow.holds Try.pinned (OpenSpec.ofChange fnRehearsedWrong)

/- THE SECOND FORM. 'bulk': how many values and letters a reading holds, each counted each time it is reached (what is shared counts as often as it is met; a slice's spare places count too). A statement '..UptoSaid' is the law's where the arguments, and the package variables that the reading takes, are together of bulk at most 1048576: NARROWER than '..Said'. Prove '..Said' where nothing that the law and all that it calls make is longer than what came in: it says more and counts as full. Else prove '..UptoSaid'. A law counts once. -/
mutual
def uptoBulk {H : Type} : DataW H → Nat
  | .lit (.string bytes) => bytes.length + 1
  | .lit _ => 1
  | .nil => 1
  | .ptr d => uptoBulk d + 1
  | .slice elems spare => uptoBulkAll elems + uptoBulkAll spare + 1
  | .agg parts => uptoBulkAll parts + 1
  | .iface _ d => uptoBulk d + 1
  | .map entries => uptoBulkEntries entries + 1
  | .held _ => 1
def uptoBulkAll {H : Type} : List (DataW H) → Nat
  | [] => 0
  | d :: r => uptoBulk d + uptoBulkAll r
def uptoBulkEntries {H : Type} : List (Lit × DataW H) → Nat
  | [] => 0
  | x :: r => uptoBulkEntry x + uptoBulkEntries r
def uptoBulkEntry {H : Type} : Lit × DataW H → Nat
  | (.string bytes, d) => bytes.length + uptoBulk d + 1
  | (_, d) => uptoBulk d + 1
 end
def uptoSmall : (H : Type) → List (DataW H) → Bool := fun _ ds => decide (uptoBulkAll ds ≤ 1048576)
def OpenSpec.upto (s : _root_.Go.ChangeSpec) : _root_.Go.OpenSpec := { _root_.Go.OpenSpec.ofChange s with cond := some uptoSmall }

/-- 'laws.FnExactAreHours', WHERE WHAT IT READS IS OF BULK AT MOST 1048576: true; the input reads as it did. -/
def fnExactAreHoursUptoRow : OpenClaim := { program := "ytddpogakdagojaa", sum := "14f7bd73f03d9354c350683f0e7117cfa663cf0db30ea6bf5c5e65d487fee3ae", func := "loop.example/g03004/laws.FnExactAreHours", spec := "fnExactAreHours", unfollowed := true, recurses := true, apart := false, narrowed := true }
def FnExactAreHoursUptoSaid : Prop := fnExactAreHoursUptoRow.holds Try.pinned (OpenSpec.upto fnExactAreHoursSpec)

/-- 'laws.FnExactArePassages', WHERE WHAT IT READS IS OF BULK AT MOST 1048576: true; the input reads as it did. -/
def fnExactArePassagesUptoRow : OpenClaim := { program := "ytddpogakdagojaa", sum := "14f7bd73f03d9354c350683f0e7117cfa663cf0db30ea6bf5c5e65d487fee3ae", func := "loop.example/g03004/laws.FnExactArePassages", spec := "fnExactArePassages", unfollowed := true, recurses := true, apart := false, narrowed := true }
def FnExactArePassagesUptoSaid : Prop := fnExactArePassagesUptoRow.holds Try.pinned (OpenSpec.upto fnExactArePassagesSpec)

/-- 'laws.FnExactIsPlan', WHERE WHAT IT READS IS OF BULK AT MOST 1048576: true; the input reads as it did. -/
def fnExactIsPlanUptoRow : OpenClaim := { program := "ytddpogakdagojaa", sum := "14f7bd73f03d9354c350683f0e7117cfa663cf0db30ea6bf5c5e65d487fee3ae", func := "loop.example/g03004/laws.FnExactIsPlan", spec := "fnExactIsPlan", unfollowed := true, recurses := true, apart := false, narrowed := true }
def FnExactIsPlanUptoSaid : Prop := fnExactIsPlanUptoRow.holds Try.pinned (OpenSpec.upto fnExactIsPlanSpec)

/-- 'laws.FnExactIdleMinutes', WHERE WHAT IT READS IS OF BULK AT MOST 1048576: true; the input reads as it did. -/
def fnExactIdleMinutesUptoRow : OpenClaim := { program := "ytddpogakdagojaa", sum := "14f7bd73f03d9354c350683f0e7117cfa663cf0db30ea6bf5c5e65d487fee3ae", func := "loop.example/g03004/laws.FnExactIdleMinutes", spec := "fnExactIdleMinutes", unfollowed := true, recurses := true, apart := false, narrowed := true }
def FnExactIdleMinutesUptoSaid : Prop := fnExactIdleMinutesUptoRow.holds Try.pinned (OpenSpec.upto fnExactIdleMinutesSpec)

/-- 'laws.FnExactPlanHours', WHERE WHAT IT READS IS OF BULK AT MOST 1048576: true; the input reads as it did. -/
def fnExactPlanHoursUptoRow : OpenClaim := { program := "ytddpogakdagojaa", sum := "14f7bd73f03d9354c350683f0e7117cfa663cf0db30ea6bf5c5e65d487fee3ae", func := "loop.example/g03004/laws.FnExactPlanHours", spec := "fnExactPlanHours", unfollowed := true, recurses := true, apart := false, narrowed := true }
def FnExactPlanHoursUptoSaid : Prop := fnExactPlanHoursUptoRow.holds Try.pinned (OpenSpec.upto fnExactPlanHoursSpec)

/-- 'laws.FnExactCalledIn', WHERE WHAT IT READS IS OF BULK AT MOST 1048576: true; the input reads as it did. -/
def fnExactCalledInUptoRow : OpenClaim := { program := "ytddpogakdagojaa", sum := "14f7bd73f03d9354c350683f0e7117cfa663cf0db30ea6bf5c5e65d487fee3ae", func := "loop.example/g03004/laws.FnExactCalledIn", spec := "fnExactCalledIn", recurses := true, apart := false, narrowed := true }
def FnExactCalledInUptoSaid : Prop := fnExactCalledInUptoRow.holds Try.pinned (OpenSpec.upto fnExactCalledInSpec)

/-- 'laws.FnRehearsed', WHERE WHAT IT READS IS OF BULK AT MOST 1048576: true; the input reads as it did. -/
def fnRehearsedUptoRow : OpenClaim := { program := "ytddpogakdagojaa", sum := "14f7bd73f03d9354c350683f0e7117cfa663cf0db30ea6bf5c5e65d487fee3ae", func := "loop.example/g03004/laws.FnRehearsed", spec := "fnRehearsed", unfollowed := true, recurses := true, apart := false, narrowed := true }
def FnRehearsedUptoSaid : Prop := fnRehearsedUptoRow.holds Try.pinned (OpenSpec.upto fnRehearsedSpec)

end Rows
end Go.Proofs.Ytddpogakdagojaa
