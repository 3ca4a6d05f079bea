/-
  No cell of these rows narrows 'for every input' (looked for: loops, veiled, ifaces, maps, wideKeys, modest, calm, conditions, laid).
  DERIVED. THE GIVEN ROWS OF THIS SEAT. 7 by the template 'for every input the law returns true; each argument reads behind the call as it read before'; 0 by the template 'total and deterministic' (their statements: YthndhplhaaaafaaTotals.lean).
  GIVEN WITH THE SEED: the statements are not yours to turn. If you find one false, say at which input.
  Laid BY PROGRAM, IN A SANDBOX (cutbox-rows.mjs): the forced cells as the released guide's own fill.sh prints them over the translation a12093f94ac82c0d… (all of the seat's roots in one cut). By AI agents, Wed Nov 11 2026. No macro, syntax, notation, axiom, sorry.
-/
import Derived.Test.YthndhplhaaaafaaChecked
import GoSem.Claim
import GoSem.ClaimJoined
import GoSem.ClaimMapViews
import Derived.JoinedTies
import Derived.KernelRfl
namespace Go.Proofs.Ythndhplhaaaafaa
/- THE CELL 'sum', in the pinned program and in every row, IS THE sha256 OF THE DUMP (.gsa) THAT YthndhplhaaaafaaProg.lean LOADS. Nothing in Lean hashes anything: it is a label: what it is worth is what the hold of that sum in a sandbox is worth. -/
noncomputable def Try.pinned : Pinned := { name := "ythndhplhaaaafaa", sum := "a12093f94ac82c0d7ec06e23c1e704348d63da7d1c46e866af1677d9173dff0c", checked := Try.checked }
namespace Rows
def none {H : Type} : Left H := { results := [], args := [] }

/-- 'laws.FnExactLetterText': WHATEVER THE INPUT: true; the input reads as it did. -/
def fnExactLetterTextSpec : ChangeSpec := { name := "fnExactLetterText", fn := fun _ => fun
  | [d] => { results := [.lit (.bool true)], args := [d] }
  | _ => none }
def fnExactLetterTextRow : OpenClaim := { program := "ythndhplhaaaafaa", sum := "a12093f94ac82c0d7ec06e23c1e704348d63da7d1c46e866af1677d9173dff0c", func := "loop.example/g03004/laws.FnExactLetterText", spec := "fnExactLetterText", apart := false }
def FnExactLetterTextSaid : Prop := fnExactLetterTextRow.holds Try.pinned (OpenSpec.ofChange fnExactLetterTextSpec)

/-- ITS FALSE NEIGHBOUR: 'it returns false'. Refute it at one input. -/
def fnExactLetterTextWrong : ChangeSpec := { name := "fnExactLetterText", fn := fun _ => fun
  | [d] => { results := [.lit (.bool false)], args := [d] }
  | _ => none }
def FnExactLetterTextWrongFalsely : Prop := fnExactLetterTextRow.holds Try.pinned (OpenSpec.ofChange fnExactLetterTextWrong)

/-- 'laws.FnExactAreLetters': WHATEVER THE INPUT: true; the input reads as it did. -/
def fnExactAreLettersSpec : ChangeSpec := { name := "fnExactAreLetters", fn := fun _ => fun
  | [d] => { results := [.lit (.bool true)], args := [d] }
  | _ => none }
def fnExactAreLettersRow : OpenClaim := { program := "ythndhplhaaaafaa", sum := "a12093f94ac82c0d7ec06e23c1e704348d63da7d1c46e866af1677d9173dff0c", func := "loop.example/g03004/laws.FnExactAreLetters", spec := "fnExactAreLetters", apart := false }
def FnExactAreLettersSaid : Prop := fnExactAreLettersRow.holds Try.pinned (OpenSpec.ofChange fnExactAreLettersSpec)

/-- ITS FALSE NEIGHBOUR: 'it returns false'. Refute it at one input. -/
def fnExactAreLettersWrong : ChangeSpec := { name := "fnExactAreLetters", fn := fun _ => fun
  | [d] => { results := [.lit (.bool false)], args := [d] }
  | _ => none }
def FnExactAreLettersWrongFalsely : Prop := fnExactAreLettersRow.holds Try.pinned (OpenSpec.ofChange fnExactAreLettersWrong)

/-- 'laws.FnExactLocate': WHATEVER THE INPUT: true; the input reads as it did. -/
def fnExactLocateSpec : ChangeSpec := { name := "fnExactLocate", fn := fun _ => fun
  | [d1, d2, d3] => { results := [.lit (.bool true)], args := [d1, d2, d3] }
  | _ => none }
def fnExactLocateRow : OpenClaim := { program := "ythndhplhaaaafaa", sum := "a12093f94ac82c0d7ec06e23c1e704348d63da7d1c46e866af1677d9173dff0c", func := "loop.example/g03004/laws.FnExactLocate", spec := "fnExactLocate", apart := false }
def FnExactLocateSaid : Prop := fnExactLocateRow.holds Try.pinned (OpenSpec.ofChange fnExactLocateSpec)

/-- ITS FALSE NEIGHBOUR: 'it returns false'. Refute it at one input. -/
def fnExactLocateWrong : ChangeSpec := { name := "fnExactLocate", fn := fun _ => fun
  | [d1, d2, d3] => { results := [.lit (.bool false)], args := [d1, d2, d3] }
  | _ => none }
def FnExactLocateWrongFalsely : Prop := fnExactLocateRow.holds Try.pinned (OpenSpec.ofChange fnExactLocateWrong)

/-- 'laws.FnExactNearest': WHATEVER THE INPUT: true; the input reads as it did. -/
def fnExactNearestSpec : ChangeSpec := { name := "fnExactNearest", fn := fun _ => fun
  | [d1, d2] => { results := [.lit (.bool true)], args := [d1, d2] }
  | _ => none }
def fnExactNearestRow : OpenClaim := { program := "ythndhplhaaaafaa", sum := "a12093f94ac82c0d7ec06e23c1e704348d63da7d1c46e866af1677d9173dff0c", func := "loop.example/g03004/laws.FnExactNearest", spec := "fnExactNearest", apart := false }
def FnExactNearestSaid : Prop := fnExactNearestRow.holds Try.pinned (OpenSpec.ofChange fnExactNearestSpec)

/-- ITS FALSE NEIGHBOUR: 'it returns false'. Refute it at one input. -/
def fnExactNearestWrong : ChangeSpec := { name := "fnExactNearest", fn := fun _ => fun
  | [d1, d2] => { results := [.lit (.bool false)], args := [d1, d2] }
  | _ => none }
def FnExactNearestWrongFalsely : Prop := fnExactNearestRow.holds Try.pinned (OpenSpec.ofChange fnExactNearestWrong)

/-- 'laws.FnExactInsertBars': WHATEVER THE INPUT: true; the input reads as it did. -/
def fnExactInsertBarsSpec : ChangeSpec := { name := "fnExactInsertBars", fn := fun _ => fun
  | [d1, d2, d3] => { results := [.lit (.bool true)], args := [d1, d2, d3] }
  | _ => none }
def fnExactInsertBarsRow : OpenClaim := { program := "ythndhplhaaaafaa", sum := "a12093f94ac82c0d7ec06e23c1e704348d63da7d1c46e866af1677d9173dff0c", func := "loop.example/g03004/laws.FnExactInsertBars", spec := "fnExactInsertBars", apart := false }
def FnExactInsertBarsSaid : Prop := fnExactInsertBarsRow.holds Try.pinned (OpenSpec.ofChange fnExactInsertBarsSpec)

/-- ITS FALSE NEIGHBOUR: 'it returns false'. Refute it at one input. -/
def fnExactInsertBarsWrong : ChangeSpec := { name := "fnExactInsertBars", fn := fun _ => fun
  | [d1, d2, d3] => { results := [.lit (.bool false)], args := [d1, d2, d3] }
  | _ => none }
def FnExactInsertBarsWrongFalsely : Prop := fnExactInsertBarsRow.holds Try.pinned (OpenSpec.ofChange fnExactInsertBarsWrong)

/-- 'laws.FnExactRemoveBars': WHATEVER THE INPUT: true; the input reads as it did. -/
def fnExactRemoveBarsSpec : ChangeSpec := { name := "fnExactRemoveBars", fn := fun _ => fun
  | [d1, d2, d3] => { results := [.lit (.bool true)], args := [d1, d2, d3] }
  | _ => none }
def fnExactRemoveBarsRow : OpenClaim := { program := "ythndhplhaaaafaa", sum := "a12093f94ac82c0d7ec06e23c1e704348d63da7d1c46e866af1677d9173dff0c", func := "loop.example/g03004/laws.FnExactRemoveBars", spec := "fnExactRemoveBars", apart := false }
def FnExactRemoveBarsSaid : Prop := fnExactRemoveBarsRow.holds Try.pinned (OpenSpec.ofChange fnExactRemoveBarsSpec)

/-- ITS FALSE NEIGHBOUR: 'it returns false'. Refute it at one input. -/
def fnExactRemoveBarsWrong : ChangeSpec := { name := "fnExactRemoveBars", fn := fun _ => fun
  | [d1, d2, d3] => { results := [.lit (.bool false)], args := [d1, d2, d3] }
  | _ => none }
def FnExactRemoveBarsWrongFalsely : Prop := fnExactRemoveBarsRow.holds Try.pinned (OpenSpec.ofChange fnExactRemoveBarsWrong)

/-- 'laws.FnLetters': WHATEVER THE INPUT: true; the input reads as it did. -/
def fnLettersSpec : ChangeSpec := { name := "fnLetters", fn := fun _ => fun
  | [d] => { results := [.lit (.bool true)], args := [d] }
  | _ => none }
def fnLettersRow : OpenClaim := { program := "ythndhplhaaaafaa", sum := "a12093f94ac82c0d7ec06e23c1e704348d63da7d1c46e866af1677d9173dff0c", func := "loop.example/g03004/laws.FnLetters", spec := "fnLetters", apart := false }
def FnLettersSaid : Prop := fnLettersRow.holds Try.pinned (OpenSpec.ofChange fnLettersSpec)

/-- ITS FALSE NEIGHBOUR: 'it returns false'. Refute it at one input. -/
def fnLettersWrong : ChangeSpec := { name := "fnLetters", fn := fun _ => fun
  | [d] => { results := [.lit (.bool false)], args := [d] }
  | _ => none }
def FnLettersWrongFalsely : Prop := fnLettersRow.holds Try.pinned (OpenSpec.ofChange fnLettersWrong)

/- THE SECOND FORM. 'bulk': how many values and letters a reading holds, each counted each time it is reached (what is shared counts as often as it is met; a slice's spare places count too). A statement '..UptoSaid' is the law's where the arguments, and the package variables that the reading takes, are together of bulk at most 1048576: NARROWER than '..Said'. Prove '..Said' where nothing that the law and all that it calls make is longer than what came in: it says more and counts as full. Else prove '..UptoSaid'. A law counts once. -/
mutual
def uptoBulk {H : Type} : DataW H → Nat
  | .lit (.string bytes) => bytes.length + 1
  | .lit _ => 1
  | .nil => 1
  | .ptr d => uptoBulk d + 1
  | .slice elems spare => uptoBulkAll elems + uptoBulkAll spare + 1
  | .agg parts => uptoBulkAll parts + 1
  | .iface _ d => uptoBulk d + 1
  | .map entries => uptoBulkEntries entries + 1
  | .held _ => 1
def uptoBulkAll {H : Type} : List (DataW H) → Nat
  | [] => 0
  | d :: r => uptoBulk d + uptoBulkAll r
def uptoBulkEntries {H : Type} : List (Lit × DataW H) → Nat
  | [] => 0
  | x :: r => uptoBulkEntry x + uptoBulkEntries r
def uptoBulkEntry {H : Type} : Lit × DataW H → Nat
  | (.string bytes, d) => bytes.length + uptoBulk d + 1
  | (_, d) => uptoBulk d + 1
 end
def uptoSmall : (H : Type) → List (DataW H) → Bool := fun _ ds => decide (uptoBulkAll ds ≤ 1048576)
def OpenSpec.upto (s : _root_.Go.ChangeSpec) : _root_.Go.OpenSpec := { _root_.Go.OpenSpec.ofChange s with cond := some uptoSmall }

/-- 'laws.FnExactLetterText', WHERE WHAT IT READS IS OF BULK AT MOST 1048576: true; the input reads as it did. -/
def fnExactLetterTextUptoRow : OpenClaim := { program := "ythndhplhaaaafaa", sum := "a12093f94ac82c0d7ec06e23c1e704348d63da7d1c46e866af1677d9173dff0c", func := "loop.example/g03004/laws.FnExactLetterText", spec := "fnExactLetterText", apart := false, narrowed := true }
def FnExactLetterTextUptoSaid : Prop := fnExactLetterTextUptoRow.holds Try.pinned (OpenSpec.upto fnExactLetterTextSpec)

/-- 'laws.FnExactAreLetters', WHERE WHAT IT READS IS OF BULK AT MOST 1048576: true; the input reads as it did. -/
def fnExactAreLettersUptoRow : OpenClaim := { program := "ythndhplhaaaafaa", sum := "a12093f94ac82c0d7ec06e23c1e704348d63da7d1c46e866af1677d9173dff0c", func := "loop.example/g03004/laws.FnExactAreLetters", spec := "fnExactAreLetters", apart := false, narrowed := true }
def FnExactAreLettersUptoSaid : Prop := fnExactAreLettersUptoRow.holds Try.pinned (OpenSpec.upto fnExactAreLettersSpec)

/-- 'laws.FnExactLocate', WHERE WHAT IT READS IS OF BULK AT MOST 1048576: true; the input reads as it did. -/
def fnExactLocateUptoRow : OpenClaim := { program := "ythndhplhaaaafaa", sum := "a12093f94ac82c0d7ec06e23c1e704348d63da7d1c46e866af1677d9173dff0c", func := "loop.example/g03004/laws.FnExactLocate", spec := "fnExactLocate", apart := false, narrowed := true }
def FnExactLocateUptoSaid : Prop := fnExactLocateUptoRow.holds Try.pinned (OpenSpec.upto fnExactLocateSpec)

/-- 'laws.FnExactNearest', WHERE WHAT IT READS IS OF BULK AT MOST 1048576: true; the input reads as it did. -/
def fnExactNearestUptoRow : OpenClaim := { program := "ythndhplhaaaafaa", sum := "a12093f94ac82c0d7ec06e23c1e704348d63da7d1c46e866af1677d9173dff0c", func := "loop.example/g03004/laws.FnExactNearest", spec := "fnExactNearest", apart := false, narrowed := true }
def FnExactNearestUptoSaid : Prop := fnExactNearestUptoRow.holds Try.pinned (OpenSpec.upto fnExactNearestSpec)

/-- 'laws.FnExactInsertBars', WHERE WHAT IT READS IS OF BULK AT MOST 1048576: true; the input reads as it did. -/
def fnExactInsertBarsUptoRow : OpenClaim := { program := "ythndhplhaaaafaa", sum := "a12093f94ac82c0d7ec06e23c1e704348d63da7d1c46e866af1677d9173dff0c", func := "loop.example/g03004/laws.FnExactInsertBars", spec := "fnExactInsertBars", apart := false, narrowed := true }
def FnExactInsertBarsUptoSaid : Prop := fnExactInsertBarsUptoRow.holds Try.pinned (OpenSpec.upto fnExactInsertBarsSpec)

/-- 'laws.FnExactRemoveBars', WHERE WHAT IT READS IS OF BULK AT MOST 1048576: true; the input reads as it did. -/
def fnExactRemoveBarsUptoRow : OpenClaim := { program := "ythndhplhaaaafaa", sum := "a12093f94ac82c0d7ec06e23c1e704348d63da7d1c46e866af1677d9173dff0c", func := "loop.example/g03004/laws.FnExactRemoveBars", spec := "fnExactRemoveBars", apart := false, narrowed := true }
def FnExactRemoveBarsUptoSaid : Prop := fnExactRemoveBarsUptoRow.holds Try.pinned (OpenSpec.upto fnExactRemoveBarsSpec)

/-- 'laws.FnLetters', WHERE WHAT IT READS IS OF BULK AT MOST 1048576: true; the input reads as it did. -/
def fnLettersUptoRow : OpenClaim := { program := "ythndhplhaaaafaa", sum := "a12093f94ac82c0d7ec06e23c1e704348d63da7d1c46e866af1677d9173dff0c", func := "loop.example/g03004/laws.FnLetters", spec := "fnLetters", apart := false, narrowed := true }
def FnLettersUptoSaid : Prop := fnLettersUptoRow.holds Try.pinned (OpenSpec.upto fnLettersSpec)

end Rows
end Go.Proofs.Ythndhplhaaaafaa
