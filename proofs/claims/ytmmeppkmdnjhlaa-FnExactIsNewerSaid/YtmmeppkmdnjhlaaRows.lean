/-
  No cell of these rows narrows 'for every input' (looked for: loops, veiled, ifaces, maps, wideKeys, modest, calm, conditions, laid).
  DERIVED. THE GIVEN ROWS OF THIS SEAT. 6 by the template 'for every input the law returns true; each argument reads behind the call as it read before'; 0 by the template 'total and deterministic' (their statements: YtmmeppkmdnjhlaaTotals.lean).
  GIVEN WITH THE SEED: the statements are not yours to turn. If you find one false, say at which input.
  Laid BY PROGRAM, IN A SANDBOX (cutbox-rows.mjs): the forced cells as the released guide's own fill.sh prints them over the translation a50bbce236591a3e… (all of the seat's roots in one cut). By AI agents, Wed Nov 11 2026. No macro, syntax, notation, axiom, sorry.
-/
import Derived.Test.YtmmeppkmdnjhlaaChecked
import GoSem.Claim
import GoSem.ClaimJoined
import GoSem.ClaimMapViews
import Derived.JoinedTies
import Derived.KernelRfl
namespace Go.Proofs.Ytmmeppkmdnjhlaa
/- THE CELL 'sum', in the pinned program and in every row, IS THE sha256 OF THE DUMP (.gsa) THAT YtmmeppkmdnjhlaaProg.lean LOADS. Nothing in Lean hashes anything: it is a label: what it is worth is what the hold of that sum in a sandbox is worth. -/
noncomputable def Try.pinned : Pinned := { name := "ytmmeppkmdnjhlaa", sum := "a50bbce236591a3e7f57ebcad17ddf2c7addbd37a46d8e7ab32674fa54d971c4", checked := Try.checked }
namespace Rows
def none {H : Type} : Left H := { results := [], args := [] }

/-- 'laws.FnExactLetterText': WHATEVER THE INPUT: true; the input reads as it did. -/
def fnExactLetterTextSpec : ChangeSpec := { name := "fnExactLetterText", fn := fun _ => fun
  | [d] => { results := [.lit (.bool true)], args := [d] }
  | _ => none }
def fnExactLetterTextRow : OpenClaim := { program := "ytmmeppkmdnjhlaa", sum := "a50bbce236591a3e7f57ebcad17ddf2c7addbd37a46d8e7ab32674fa54d971c4", func := "loop.example/g03004/laws.FnExactLetterText", spec := "fnExactLetterText", apart := false }
def FnExactLetterTextSaid : Prop := fnExactLetterTextRow.holds Try.pinned (OpenSpec.ofChange fnExactLetterTextSpec)

/-- ITS FALSE NEIGHBOUR: 'it returns false'. Refute it at one input. -/
def fnExactLetterTextWrong : ChangeSpec := { name := "fnExactLetterText", fn := fun _ => fun
  | [d] => { results := [.lit (.bool false)], args := [d] }
  | _ => none }
def FnExactLetterTextWrongFalsely : Prop := fnExactLetterTextRow.holds Try.pinned (OpenSpec.ofChange fnExactLetterTextWrong)

/-- 'laws.FnExactIsPing': WHATEVER THE INPUT: true; the input reads as it did. -/
def fnExactIsPingSpec : ChangeSpec := { name := "fnExactIsPing", fn := fun _ => fun
  | [d] => { results := [.lit (.bool true)], args := [d] }
  | _ => none }
def fnExactIsPingRow : OpenClaim := { program := "ytmmeppkmdnjhlaa", sum := "a50bbce236591a3e7f57ebcad17ddf2c7addbd37a46d8e7ab32674fa54d971c4", func := "loop.example/g03004/laws.FnExactIsPing", spec := "fnExactIsPing", apart := false }
def FnExactIsPingSaid : Prop := fnExactIsPingRow.holds Try.pinned (OpenSpec.ofChange fnExactIsPingSpec)

/-- ITS FALSE NEIGHBOUR: 'it returns false'. Refute it at one input. -/
def fnExactIsPingWrong : ChangeSpec := { name := "fnExactIsPing", fn := fun _ => fun
  | [d] => { results := [.lit (.bool false)], args := [d] }
  | _ => none }
def FnExactIsPingWrongFalsely : Prop := fnExactIsPingRow.holds Try.pinned (OpenSpec.ofChange fnExactIsPingWrong)

/-- 'laws.FnExactOffsetBounds': WHATEVER THE INPUT: true; the input reads as it did. -/
def fnExactOffsetBoundsSpec : ChangeSpec := { name := "fnExactOffsetBounds", fn := fun _ => fun
  | [d] => { results := [.lit (.bool true)], args := [d] }
  | _ => none }
def fnExactOffsetBoundsRow : OpenClaim := { program := "ytmmeppkmdnjhlaa", sum := "a50bbce236591a3e7f57ebcad17ddf2c7addbd37a46d8e7ab32674fa54d971c4", func := "loop.example/g03004/laws.FnExactOffsetBounds", spec := "fnExactOffsetBounds", apart := false }
def FnExactOffsetBoundsSaid : Prop := fnExactOffsetBoundsRow.holds Try.pinned (OpenSpec.ofChange fnExactOffsetBoundsSpec)

/-- ITS FALSE NEIGHBOUR: 'it returns false'. Refute it at one input. -/
def fnExactOffsetBoundsWrong : ChangeSpec := { name := "fnExactOffsetBounds", fn := fun _ => fun
  | [d] => { results := [.lit (.bool false)], args := [d] }
  | _ => none }
def FnExactOffsetBoundsWrongFalsely : Prop := fnExactOffsetBoundsRow.holds Try.pinned (OpenSpec.ofChange fnExactOffsetBoundsWrong)

/-- 'laws.FnExactPageOf': WHATEVER THE INPUT: true; the input reads as it did. -/
def fnExactPageOfSpec : ChangeSpec := { name := "fnExactPageOf", fn := fun _ => fun
  | [d1, d2] => { results := [.lit (.bool true)], args := [d1, d2] }
  | _ => none }
def fnExactPageOfRow : OpenClaim := { program := "ytmmeppkmdnjhlaa", sum := "a50bbce236591a3e7f57ebcad17ddf2c7addbd37a46d8e7ab32674fa54d971c4", func := "loop.example/g03004/laws.FnExactPageOf", spec := "fnExactPageOf", apart := false }
def FnExactPageOfSaid : Prop := fnExactPageOfRow.holds Try.pinned (OpenSpec.ofChange fnExactPageOfSpec)

/-- ITS FALSE NEIGHBOUR: 'it returns false'. Refute it at one input. -/
def fnExactPageOfWrong : ChangeSpec := { name := "fnExactPageOf", fn := fun _ => fun
  | [d1, d2] => { results := [.lit (.bool false)], args := [d1, d2] }
  | _ => none }
def FnExactPageOfWrongFalsely : Prop := fnExactPageOfRow.holds Try.pinned (OpenSpec.ofChange fnExactPageOfWrong)

/-- 'laws.FnExactCountCuts': WHATEVER THE INPUT: true; the input reads as it did. -/
def fnExactCountCutsSpec : ChangeSpec := { name := "fnExactCountCuts", fn := fun _ => fun
  | [d] => { results := [.lit (.bool true)], args := [d] }
  | _ => none }
def fnExactCountCutsRow : OpenClaim := { program := "ytmmeppkmdnjhlaa", sum := "a50bbce236591a3e7f57ebcad17ddf2c7addbd37a46d8e7ab32674fa54d971c4", func := "loop.example/g03004/laws.FnExactCountCuts", spec := "fnExactCountCuts", apart := false }
def FnExactCountCutsSaid : Prop := fnExactCountCutsRow.holds Try.pinned (OpenSpec.ofChange fnExactCountCutsSpec)

/-- ITS FALSE NEIGHBOUR: 'it returns false'. Refute it at one input. -/
def fnExactCountCutsWrong : ChangeSpec := { name := "fnExactCountCuts", fn := fun _ => fun
  | [d] => { results := [.lit (.bool false)], args := [d] }
  | _ => none }
def FnExactCountCutsWrongFalsely : Prop := fnExactCountCutsRow.holds Try.pinned (OpenSpec.ofChange fnExactCountCutsWrong)

/-- 'laws.FnExactIsNewer': WHATEVER THE INPUT: true; the input reads as it did. -/
def fnExactIsNewerSpec : ChangeSpec := { name := "fnExactIsNewer", fn := fun _ => fun
  | [d1, d2] => { results := [.lit (.bool true)], args := [d1, d2] }
  | _ => none }
def fnExactIsNewerRow : OpenClaim := { program := "ytmmeppkmdnjhlaa", sum := "a50bbce236591a3e7f57ebcad17ddf2c7addbd37a46d8e7ab32674fa54d971c4", func := "loop.example/g03004/laws.FnExactIsNewer", spec := "fnExactIsNewer", apart := false }
def FnExactIsNewerSaid : Prop := fnExactIsNewerRow.holds Try.pinned (OpenSpec.ofChange fnExactIsNewerSpec)

/-- ITS FALSE NEIGHBOUR: 'it returns false'. Refute it at one input. -/
def fnExactIsNewerWrong : ChangeSpec := { name := "fnExactIsNewer", fn := fun _ => fun
  | [d1, d2] => { results := [.lit (.bool false)], args := [d1, d2] }
  | _ => none }
def FnExactIsNewerWrongFalsely : Prop := fnExactIsNewerRow.holds Try.pinned (OpenSpec.ofChange fnExactIsNewerWrong)

/- THE SECOND FORM. 'bulk': how many values and letters a reading holds, each counted each time it is reached (what is shared counts as often as it is met; a slice's spare places count too). A statement '..UptoSaid' is the law's where the arguments, and the package variables that the reading takes, are together of bulk at most 1048576: NARROWER than '..Said'. Prove '..Said' where nothing that the law and all that it calls make is longer than what came in: it says more and counts as full. Else prove '..UptoSaid'. A law counts once. -/
mutual
def uptoBulk {H : Type} : DataW H → Nat
  | .lit (.string bytes) => bytes.length + 1
  | .lit _ => 1
  | .nil => 1
  | .ptr d => uptoBulk d + 1
  | .slice elems spare => uptoBulkAll elems + uptoBulkAll spare + 1
  | .agg parts => uptoBulkAll parts + 1
  | .iface _ d => uptoBulk d + 1
  | .map entries => uptoBulkEntries entries + 1
  | .held _ => 1
def uptoBulkAll {H : Type} : List (DataW H) → Nat
  | [] => 0
  | d :: r => uptoBulk d + uptoBulkAll r
def uptoBulkEntries {H : Type} : List (Lit × DataW H) → Nat
  | [] => 0
  | x :: r => uptoBulkEntry x + uptoBulkEntries r
def uptoBulkEntry {H : Type} : Lit × DataW H → Nat
  | (.string bytes, d) => bytes.length + uptoBulk d + 1
  | (_, d) => uptoBulk d + 1
 end
def uptoSmall : (H : Type) → List (DataW H) → Bool := fun _ ds => decide (uptoBulkAll ds ≤ 1048576)
def OpenSpec.upto (s : _root_.Go.ChangeSpec) : _root_.Go.OpenSpec := { _root_.Go.OpenSpec.ofChange s with cond := some uptoSmall }

/-- 'laws.FnExactLetterText', WHERE WHAT IT READS IS OF BULK AT MOST 1048576: true; the input reads as it did. -/
def fnExactLetterTextUptoRow : OpenClaim := { program := "ytmmeppkmdnjhlaa", sum := "a50bbce236591a3e7f57ebcad17ddf2c7addbd37a46d8e7ab32674fa54d971c4", func := "loop.example/g03004/laws.FnExactLetterText", spec := "fnExactLetterText", apart := false, narrowed := true }
def FnExactLetterTextUptoSaid : Prop := fnExactLetterTextUptoRow.holds Try.pinned (OpenSpec.upto fnExactLetterTextSpec)

/-- 'laws.FnExactIsPing', WHERE WHAT IT READS IS OF BULK AT MOST 1048576: true; the input reads as it did. -/
def fnExactIsPingUptoRow : OpenClaim := { program := "ytmmeppkmdnjhlaa", sum := "a50bbce236591a3e7f57ebcad17ddf2c7addbd37a46d8e7ab32674fa54d971c4", func := "loop.example/g03004/laws.FnExactIsPing", spec := "fnExactIsPing", apart := false, narrowed := true }
def FnExactIsPingUptoSaid : Prop := fnExactIsPingUptoRow.holds Try.pinned (OpenSpec.upto fnExactIsPingSpec)

/-- 'laws.FnExactOffsetBounds', WHERE WHAT IT READS IS OF BULK AT MOST 1048576: true; the input reads as it did. -/
def fnExactOffsetBoundsUptoRow : OpenClaim := { program := "ytmmeppkmdnjhlaa", sum := "a50bbce236591a3e7f57ebcad17ddf2c7addbd37a46d8e7ab32674fa54d971c4", func := "loop.example/g03004/laws.FnExactOffsetBounds", spec := "fnExactOffsetBounds", apart := false, narrowed := true }
def FnExactOffsetBoundsUptoSaid : Prop := fnExactOffsetBoundsUptoRow.holds Try.pinned (OpenSpec.upto fnExactOffsetBoundsSpec)

/-- 'laws.FnExactPageOf', WHERE WHAT IT READS IS OF BULK AT MOST 1048576: true; the input reads as it did. -/
def fnExactPageOfUptoRow : OpenClaim := { program := "ytmmeppkmdnjhlaa", sum := "a50bbce236591a3e7f57ebcad17ddf2c7addbd37a46d8e7ab32674fa54d971c4", func := "loop.example/g03004/laws.FnExactPageOf", spec := "fnExactPageOf", apart := false, narrowed := true }
def FnExactPageOfUptoSaid : Prop := fnExactPageOfUptoRow.holds Try.pinned (OpenSpec.upto fnExactPageOfSpec)

/-- 'laws.FnExactCountCuts', WHERE WHAT IT READS IS OF BULK AT MOST 1048576: true; the input reads as it did. -/
def fnExactCountCutsUptoRow : OpenClaim := { program := "ytmmeppkmdnjhlaa", sum := "a50bbce236591a3e7f57ebcad17ddf2c7addbd37a46d8e7ab32674fa54d971c4", func := "loop.example/g03004/laws.FnExactCountCuts", spec := "fnExactCountCuts", apart := false, narrowed := true }
def FnExactCountCutsUptoSaid : Prop := fnExactCountCutsUptoRow.holds Try.pinned (OpenSpec.upto fnExactCountCutsSpec)

/-- 'laws.FnExactIsNewer', WHERE WHAT IT READS IS OF BULK AT MOST 1048576: true; the input reads as it did. -/
def fnExactIsNewerUptoRow : OpenClaim := { program := "ytmmeppkmdnjhlaa", sum := "a50bbce236591a3e7f57ebcad17ddf2c7addbd37a46d8e7ab32674fa54d971c4", func := "loop.example/g03004/laws.FnExactIsNewer", spec := "fnExactIsNewer", apart := false, narrowed := true }
def FnExactIsNewerUptoSaid : Prop := fnExactIsNewerUptoRow.holds Try.pinned (OpenSpec.upto fnExactIsNewerSpec)

end Rows
end Go.Proofs.Ytmmeppkmdnjhlaa
