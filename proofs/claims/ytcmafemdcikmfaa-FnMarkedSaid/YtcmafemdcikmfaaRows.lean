/-
  No cell of these rows narrows 'for every input' (looked for: loops, veiled, ifaces, maps, wideKeys, modest, calm, conditions, laid).
  DERIVED. THE GIVEN ROWS OF THIS SEAT. 7 by the template 'for every input the law returns true; each argument reads behind the call as it read before'; 0 by the template 'total and deterministic' (their statements: YtcmafemdcikmfaaTotals.lean).
  GIVEN WITH THE SEED: the statements are not yours to turn. If you find one false, say at which input.
  Laid BY PROGRAM, IN A SANDBOX (cutbox-rows.mjs): the forced cells as the released guide's own fill.sh prints them over the translation 0490301a9db594cb… (all of the seat's roots in one cut). By AI agents, Wed Nov 11 2026. No macro, syntax, notation, axiom, sorry.
-/
import Derived.Test.YtcmafemdcikmfaaChecked
import GoSem.Claim
import GoSem.ClaimJoined
import GoSem.ClaimMapViews
import Derived.JoinedTies
import Derived.KernelRfl
namespace Go.Proofs.Ytcmafemdcikmfaa
/- THE CELL 'sum', in the pinned program and in every row, IS THE sha256 OF THE DUMP (.gsa) THAT YtcmafemdcikmfaaProg.lean LOADS. Nothing in Lean hashes anything: it is a label: what it is worth is what the hold of that sum in a sandbox is worth. -/
noncomputable def Try.pinned : Pinned := { name := "ytcmafemdcikmfaa", sum := "0490301a9db594cbbbf491db09c17e3e668656ef3c2d6c91b851161ce636fd7c", checked := Try.checked }
namespace Rows
def none {H : Type} : Left H := { results := [], args := [] }

/-- 'laws.FnExactIsNewer': WHATEVER THE INPUT: true; the input reads as it did. -/
def fnExactIsNewerSpec : ChangeSpec := { name := "fnExactIsNewer", fn := fun _ => fun
  | [d1, d2] => { results := [.lit (.bool true)], args := [d1, d2] }
  | _ => none }
def fnExactIsNewerRow : OpenClaim := { program := "ytcmafemdcikmfaa", sum := "0490301a9db594cbbbf491db09c17e3e668656ef3c2d6c91b851161ce636fd7c", func := "loop.example/g03004/laws.FnExactIsNewer", spec := "fnExactIsNewer", apart := false }
def FnExactIsNewerSaid : Prop := fnExactIsNewerRow.holds Try.pinned (OpenSpec.ofChange fnExactIsNewerSpec)

/-- ITS FALSE NEIGHBOUR: 'it returns false'. Refute it at one input. -/
def fnExactIsNewerWrong : ChangeSpec := { name := "fnExactIsNewer", fn := fun _ => fun
  | [d1, d2] => { results := [.lit (.bool false)], args := [d1, d2] }
  | _ => none }
def FnExactIsNewerWrongFalsely : Prop := fnExactIsNewerRow.holds Try.pinned (OpenSpec.ofChange fnExactIsNewerWrong)

/-- 'laws.FnExactEqualMarks': WHATEVER THE INPUT: true; the input reads as it did. -/
def fnExactEqualMarksSpec : ChangeSpec := { name := "fnExactEqualMarks", fn := fun _ => fun
  | [d1, d2] => { results := [.lit (.bool true)], args := [d1, d2] }
  | _ => none }
def fnExactEqualMarksRow : OpenClaim := { program := "ytcmafemdcikmfaa", sum := "0490301a9db594cbbbf491db09c17e3e668656ef3c2d6c91b851161ce636fd7c", func := "loop.example/g03004/laws.FnExactEqualMarks", spec := "fnExactEqualMarks", apart := false }
def FnExactEqualMarksSaid : Prop := fnExactEqualMarksRow.holds Try.pinned (OpenSpec.ofChange fnExactEqualMarksSpec)

/-- ITS FALSE NEIGHBOUR: 'it returns false'. Refute it at one input. -/
def fnExactEqualMarksWrong : ChangeSpec := { name := "fnExactEqualMarks", fn := fun _ => fun
  | [d1, d2] => { results := [.lit (.bool false)], args := [d1, d2] }
  | _ => none }
def FnExactEqualMarksWrongFalsely : Prop := fnExactEqualMarksRow.holds Try.pinned (OpenSpec.ofChange fnExactEqualMarksWrong)

/-- 'laws.FnExactAreMarks': WHATEVER THE INPUT: true; the input reads as it did. -/
def fnExactAreMarksSpec : ChangeSpec := { name := "fnExactAreMarks", fn := fun _ => fun
  | [d] => { results := [.lit (.bool true)], args := [d] }
  | _ => none }
def fnExactAreMarksRow : OpenClaim := { program := "ytcmafemdcikmfaa", sum := "0490301a9db594cbbbf491db09c17e3e668656ef3c2d6c91b851161ce636fd7c", func := "loop.example/g03004/laws.FnExactAreMarks", spec := "fnExactAreMarks", apart := false }
def FnExactAreMarksSaid : Prop := fnExactAreMarksRow.holds Try.pinned (OpenSpec.ofChange fnExactAreMarksSpec)

/-- ITS FALSE NEIGHBOUR: 'it returns false'. Refute it at one input. -/
def fnExactAreMarksWrong : ChangeSpec := { name := "fnExactAreMarks", fn := fun _ => fun
  | [d] => { results := [.lit (.bool false)], args := [d] }
  | _ => none }
def FnExactAreMarksWrongFalsely : Prop := fnExactAreMarksRow.holds Try.pinned (OpenSpec.ofChange fnExactAreMarksWrong)

/-- 'laws.FnExactSetMark': WHATEVER THE INPUT: true; the input reads as it did. -/
def fnExactSetMarkSpec : ChangeSpec := { name := "fnExactSetMark", fn := fun _ => fun
  | [d1, d2] => { results := [.lit (.bool true)], args := [d1, d2] }
  | _ => none }
def fnExactSetMarkRow : OpenClaim := { program := "ytcmafemdcikmfaa", sum := "0490301a9db594cbbbf491db09c17e3e668656ef3c2d6c91b851161ce636fd7c", func := "loop.example/g03004/laws.FnExactSetMark", spec := "fnExactSetMark", inPlace := ["slices.overlaps[loop.example/g03004/impl.Mark]"], unfollowed := true, recurses := true, apart := false }
def FnExactSetMarkSaid : Prop := fnExactSetMarkRow.holds Try.pinned (OpenSpec.ofChange fnExactSetMarkSpec)

/-- ITS FALSE NEIGHBOUR: 'it returns false'. Refute it at one input. -/
def fnExactSetMarkWrong : ChangeSpec := { name := "fnExactSetMark", fn := fun _ => fun
  | [d1, d2] => { results := [.lit (.bool false)], args := [d1, d2] }
  | _ => none }
def FnExactSetMarkWrongFalsely : Prop := fnExactSetMarkRow.holds Try.pinned (OpenSpec.ofChange fnExactSetMarkWrong)

/-- 'laws.FnExactMergeMarks': WHATEVER THE INPUT: true; the input reads as it did. -/
def fnExactMergeMarksSpec : ChangeSpec := { name := "fnExactMergeMarks", fn := fun _ => fun
  | [d1, d2] => { results := [.lit (.bool true)], args := [d1, d2] }
  | _ => none }
def fnExactMergeMarksRow : OpenClaim := { program := "ytcmafemdcikmfaa", sum := "0490301a9db594cbbbf491db09c17e3e668656ef3c2d6c91b851161ce636fd7c", func := "loop.example/g03004/laws.FnExactMergeMarks", spec := "fnExactMergeMarks", inPlace := ["slices.overlaps[loop.example/g03004/impl.Mark]"], unfollowed := true, recurses := true, apart := false }
def FnExactMergeMarksSaid : Prop := fnExactMergeMarksRow.holds Try.pinned (OpenSpec.ofChange fnExactMergeMarksSpec)

/-- ITS FALSE NEIGHBOUR: 'it returns false'. Refute it at one input. -/
def fnExactMergeMarksWrong : ChangeSpec := { name := "fnExactMergeMarks", fn := fun _ => fun
  | [d1, d2] => { results := [.lit (.bool false)], args := [d1, d2] }
  | _ => none }
def FnExactMergeMarksWrongFalsely : Prop := fnExactMergeMarksRow.holds Try.pinned (OpenSpec.ofChange fnExactMergeMarksWrong)

/-- 'laws.FnExactMarkedBars': WHATEVER THE INPUT: true; the input reads as it did. -/
def fnExactMarkedBarsSpec : ChangeSpec := { name := "fnExactMarkedBars", fn := fun _ => fun
  | [d1, d2] => { results := [.lit (.bool true)], args := [d1, d2] }
  | _ => none }
def fnExactMarkedBarsRow : OpenClaim := { program := "ytcmafemdcikmfaa", sum := "0490301a9db594cbbbf491db09c17e3e668656ef3c2d6c91b851161ce636fd7c", func := "loop.example/g03004/laws.FnExactMarkedBars", spec := "fnExactMarkedBars", recurses := true, apart := false }
def FnExactMarkedBarsSaid : Prop := fnExactMarkedBarsRow.holds Try.pinned (OpenSpec.ofChange fnExactMarkedBarsSpec)

/-- ITS FALSE NEIGHBOUR: 'it returns false'. Refute it at one input. -/
def fnExactMarkedBarsWrong : ChangeSpec := { name := "fnExactMarkedBars", fn := fun _ => fun
  | [d1, d2] => { results := [.lit (.bool false)], args := [d1, d2] }
  | _ => none }
def FnExactMarkedBarsWrongFalsely : Prop := fnExactMarkedBarsRow.holds Try.pinned (OpenSpec.ofChange fnExactMarkedBarsWrong)

/-- 'laws.FnMarked': WHATEVER THE INPUT: true; the input reads as it did. -/
def fnMarkedSpec : ChangeSpec := { name := "fnMarked", fn := fun _ => fun
  | [d] => { results := [.lit (.bool true)], args := [d] }
  | _ => none }
def fnMarkedRow : OpenClaim := { program := "ytcmafemdcikmfaa", sum := "0490301a9db594cbbbf491db09c17e3e668656ef3c2d6c91b851161ce636fd7c", func := "loop.example/g03004/laws.FnMarked", spec := "fnMarked", inPlace := ["slices.overlaps[loop.example/g03004/impl.Mark]"], unfollowed := true, recurses := true, apart := false }
def FnMarkedSaid : Prop := fnMarkedRow.holds Try.pinned (OpenSpec.ofChange fnMarkedSpec)

/-- ITS FALSE NEIGHBOUR: 'it returns false'. Refute it at one input. -/
def fnMarkedWrong : ChangeSpec := { name := "fnMarked", fn := fun _ => fun
  | [d] => { results := [.lit (.bool false)], args := [d] }
  | _ => none }
def FnMarkedWrongFalsely : Prop := fnMarkedRow.holds Try.pinned (OpenSpec.ofChange fnMarkedWrong)

/- THE SECOND FORM. 'bulk': how many values and letters a reading holds, each counted each time it is reached (what is shared counts as often as it is met; a slice's spare places count too). A statement '..UptoSaid' is the law's where the arguments, and the package variables that the reading takes, are together of bulk at most 1048576: NARROWER than '..Said'. Prove '..Said' where nothing that the law and all that it calls make is longer than what came in: it says more and counts as full. Else prove '..UptoSaid'. A law counts once. -/
mutual
def uptoBulk {H : Type} : DataW H → Nat
  | .lit (.string bytes) => bytes.length + 1
  | .lit _ => 1
  | .nil => 1
  | .ptr d => uptoBulk d + 1
  | .slice elems spare => uptoBulkAll elems + uptoBulkAll spare + 1
  | .agg parts => uptoBulkAll parts + 1
  | .iface _ d => uptoBulk d + 1
  | .map entries => uptoBulkEntries entries + 1
  | .held _ => 1
def uptoBulkAll {H : Type} : List (DataW H) → Nat
  | [] => 0
  | d :: r => uptoBulk d + uptoBulkAll r
def uptoBulkEntries {H : Type} : List (Lit × DataW H) → Nat
  | [] => 0
  | x :: r => uptoBulkEntry x + uptoBulkEntries r
def uptoBulkEntry {H : Type} : Lit × DataW H → Nat
  | (.string bytes, d) => bytes.length + uptoBulk d + 1
  | (_, d) => uptoBulk d + 1
 end
def uptoSmall : (H : Type) → List (DataW H) → Bool := fun _ ds => decide (uptoBulkAll ds ≤ 1048576)
def OpenSpec.upto (s : _root_.Go.ChangeSpec) : _root_.Go.OpenSpec := { _root_.Go.OpenSpec.ofChange s with cond := some uptoSmall }

/-- 'laws.FnExactIsNewer', WHERE WHAT IT READS IS OF BULK AT MOST 1048576: true; the input reads as it did. -/
def fnExactIsNewerUptoRow : OpenClaim := { program := "ytcmafemdcikmfaa", sum := "0490301a9db594cbbbf491db09c17e3e668656ef3c2d6c91b851161ce636fd7c", func := "loop.example/g03004/laws.FnExactIsNewer", spec := "fnExactIsNewer", apart := false, narrowed := true }
def FnExactIsNewerUptoSaid : Prop := fnExactIsNewerUptoRow.holds Try.pinned (OpenSpec.upto fnExactIsNewerSpec)

/-- 'laws.FnExactEqualMarks', WHERE WHAT IT READS IS OF BULK AT MOST 1048576: true; the input reads as it did. -/
def fnExactEqualMarksUptoRow : OpenClaim := { program := "ytcmafemdcikmfaa", sum := "0490301a9db594cbbbf491db09c17e3e668656ef3c2d6c91b851161ce636fd7c", func := "loop.example/g03004/laws.FnExactEqualMarks", spec := "fnExactEqualMarks", apart := false, narrowed := true }
def FnExactEqualMarksUptoSaid : Prop := fnExactEqualMarksUptoRow.holds Try.pinned (OpenSpec.upto fnExactEqualMarksSpec)

/-- 'laws.FnExactAreMarks', WHERE WHAT IT READS IS OF BULK AT MOST 1048576: true; the input reads as it did. -/
def fnExactAreMarksUptoRow : OpenClaim := { program := "ytcmafemdcikmfaa", sum := "0490301a9db594cbbbf491db09c17e3e668656ef3c2d6c91b851161ce636fd7c", func := "loop.example/g03004/laws.FnExactAreMarks", spec := "fnExactAreMarks", apart := false, narrowed := true }
def FnExactAreMarksUptoSaid : Prop := fnExactAreMarksUptoRow.holds Try.pinned (OpenSpec.upto fnExactAreMarksSpec)

/-- 'laws.FnExactSetMark', WHERE WHAT IT READS IS OF BULK AT MOST 1048576: true; the input reads as it did. -/
def fnExactSetMarkUptoRow : OpenClaim := { program := "ytcmafemdcikmfaa", sum := "0490301a9db594cbbbf491db09c17e3e668656ef3c2d6c91b851161ce636fd7c", func := "loop.example/g03004/laws.FnExactSetMark", spec := "fnExactSetMark", inPlace := ["slices.overlaps[loop.example/g03004/impl.Mark]"], unfollowed := true, recurses := true, apart := false, narrowed := true }
def FnExactSetMarkUptoSaid : Prop := fnExactSetMarkUptoRow.holds Try.pinned (OpenSpec.upto fnExactSetMarkSpec)

/-- 'laws.FnExactMergeMarks', WHERE WHAT IT READS IS OF BULK AT MOST 1048576: true; the input reads as it did. -/
def fnExactMergeMarksUptoRow : OpenClaim := { program := "ytcmafemdcikmfaa", sum := "0490301a9db594cbbbf491db09c17e3e668656ef3c2d6c91b851161ce636fd7c", func := "loop.example/g03004/laws.FnExactMergeMarks", spec := "fnExactMergeMarks", inPlace := ["slices.overlaps[loop.example/g03004/impl.Mark]"], unfollowed := true, recurses := true, apart := false, narrowed := true }
def FnExactMergeMarksUptoSaid : Prop := fnExactMergeMarksUptoRow.holds Try.pinned (OpenSpec.upto fnExactMergeMarksSpec)

/-- 'laws.FnExactMarkedBars', WHERE WHAT IT READS IS OF BULK AT MOST 1048576: true; the input reads as it did. -/
def fnExactMarkedBarsUptoRow : OpenClaim := { program := "ytcmafemdcikmfaa", sum := "0490301a9db594cbbbf491db09c17e3e668656ef3c2d6c91b851161ce636fd7c", func := "loop.example/g03004/laws.FnExactMarkedBars", spec := "fnExactMarkedBars", recurses := true, apart := false, narrowed := true }
def FnExactMarkedBarsUptoSaid : Prop := fnExactMarkedBarsUptoRow.holds Try.pinned (OpenSpec.upto fnExactMarkedBarsSpec)

/-- 'laws.FnMarked', WHERE WHAT IT READS IS OF BULK AT MOST 1048576: true; the input reads as it did. -/
def fnMarkedUptoRow : OpenClaim := { program := "ytcmafemdcikmfaa", sum := "0490301a9db594cbbbf491db09c17e3e668656ef3c2d6c91b851161ce636fd7c", func := "loop.example/g03004/laws.FnMarked", spec := "fnMarked", inPlace := ["slices.overlaps[loop.example/g03004/impl.Mark]"], unfollowed := true, recurses := true, apart := false, narrowed := true }
def FnMarkedUptoSaid : Prop := fnMarkedUptoRow.holds Try.pinned (OpenSpec.upto fnMarkedSpec)

end Rows
end Go.Proofs.Ytcmafemdcikmfaa
