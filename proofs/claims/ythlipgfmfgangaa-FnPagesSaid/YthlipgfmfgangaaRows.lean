/-
  No cell of these rows narrows 'for every input' (looked for: loops, veiled, ifaces, maps, wideKeys, modest, calm, conditions, laid).
  DERIVED. THE GIVEN ROWS OF THIS SEAT. 5 by the template 'for every input the law returns true; each argument reads behind the call as it read before'; 0 by the template 'total and deterministic' (their statements: YthlipgfmfgangaaTotals.lean).
  GIVEN WITH THE SEED: the statements are not yours to turn. If you find one false, say at which input.
  Laid BY PROGRAM, IN A SANDBOX (cutbox-rows.mjs): the forced cells as the released guide's own fill.sh prints them over the translation d25d1b9cde9f53c7… (all of the seat's roots in one cut). By AI agents, Wed Nov 11 2026. No macro, syntax, notation, axiom, sorry.
-/
import Derived.Test.YthlipgfmfgangaaChecked
import GoSem.Claim
import GoSem.ClaimJoined
import GoSem.ClaimMapViews
import Derived.JoinedTies
import Derived.KernelRfl
namespace Go.Proofs.Ythlipgfmfgangaa
/- THE CELL 'sum', in the pinned program and in every row, IS THE sha256 OF THE DUMP (.gsa) THAT YthlipgfmfgangaaProg.lean LOADS. Nothing in Lean hashes anything: it is a label: what it is worth is what the hold of that sum in a sandbox is worth. -/
noncomputable def Try.pinned : Pinned := { name := "ythlipgfmfgangaa", sum := "d25d1b9cde9f53c74844db2973cefdfb7e058ae36b0018db001683b855c24c26", checked := Try.checked }
namespace Rows
def none {H : Type} : Left H := { results := [], args := [] }

/-- 'laws.FnExactPageOf': WHATEVER THE INPUT: true; the input reads as it did. -/
def fnExactPageOfSpec : ChangeSpec := { name := "fnExactPageOf", fn := fun _ => fun
  | [d1, d2] => { results := [.lit (.bool true)], args := [d1, d2] }
  | _ => none }
def fnExactPageOfRow : OpenClaim := { program := "ythlipgfmfgangaa", sum := "d25d1b9cde9f53c74844db2973cefdfb7e058ae36b0018db001683b855c24c26", func := "loop.example/g03004/laws.FnExactPageOf", spec := "fnExactPageOf", apart := false }
def FnExactPageOfSaid : Prop := fnExactPageOfRow.holds Try.pinned (OpenSpec.ofChange fnExactPageOfSpec)

/-- ITS FALSE NEIGHBOUR: 'it returns false'. Refute it at one input. -/
def fnExactPageOfWrong : ChangeSpec := { name := "fnExactPageOf", fn := fun _ => fun
  | [d1, d2] => { results := [.lit (.bool false)], args := [d1, d2] }
  | _ => none }
def FnExactPageOfWrongFalsely : Prop := fnExactPageOfRow.holds Try.pinned (OpenSpec.ofChange fnExactPageOfWrong)

/-- 'laws.FnExactAreBreaks': WHATEVER THE INPUT: true; the input reads as it did. -/
def fnExactAreBreaksSpec : ChangeSpec := { name := "fnExactAreBreaks", fn := fun _ => fun
  | [d1, d2, d3] => { results := [.lit (.bool true)], args := [d1, d2, d3] }
  | _ => none }
def fnExactAreBreaksRow : OpenClaim := { program := "ythlipgfmfgangaa", sum := "d25d1b9cde9f53c74844db2973cefdfb7e058ae36b0018db001683b855c24c26", func := "loop.example/g03004/laws.FnExactAreBreaks", spec := "fnExactAreBreaks", apart := false }
def FnExactAreBreaksSaid : Prop := fnExactAreBreaksRow.holds Try.pinned (OpenSpec.ofChange fnExactAreBreaksSpec)

/-- ITS FALSE NEIGHBOUR: 'it returns false'. Refute it at one input. -/
def fnExactAreBreaksWrong : ChangeSpec := { name := "fnExactAreBreaks", fn := fun _ => fun
  | [d1, d2, d3] => { results := [.lit (.bool false)], args := [d1, d2, d3] }
  | _ => none }
def FnExactAreBreaksWrongFalsely : Prop := fnExactAreBreaksRow.holds Try.pinned (OpenSpec.ofChange fnExactAreBreaksWrong)

/-- 'laws.FnExactPageBreaks': WHATEVER THE INPUT: true; the input reads as it did. -/
def fnExactPageBreaksSpec : ChangeSpec := { name := "fnExactPageBreaks", fn := fun _ => fun
  | [d1, d2] => { results := [.lit (.bool true)], args := [d1, d2] }
  | _ => none }
def fnExactPageBreaksRow : OpenClaim := { program := "ythlipgfmfgangaa", sum := "d25d1b9cde9f53c74844db2973cefdfb7e058ae36b0018db001683b855c24c26", func := "loop.example/g03004/laws.FnExactPageBreaks", spec := "fnExactPageBreaks", apart := false }
def FnExactPageBreaksSaid : Prop := fnExactPageBreaksRow.holds Try.pinned (OpenSpec.ofChange fnExactPageBreaksSpec)

/-- ITS FALSE NEIGHBOUR: 'it returns false'. Refute it at one input. -/
def fnExactPageBreaksWrong : ChangeSpec := { name := "fnExactPageBreaks", fn := fun _ => fun
  | [d1, d2] => { results := [.lit (.bool false)], args := [d1, d2] }
  | _ => none }
def FnExactPageBreaksWrongFalsely : Prop := fnExactPageBreaksRow.holds Try.pinned (OpenSpec.ofChange fnExactPageBreaksWrong)

/-- 'laws.FnExactFreeBars': WHATEVER THE INPUT: true; the input reads as it did. -/
def fnExactFreeBarsSpec : ChangeSpec := { name := "fnExactFreeBars", fn := fun _ => fun
  | [d1, d2, d3] => { results := [.lit (.bool true)], args := [d1, d2, d3] }
  | _ => none }
def fnExactFreeBarsRow : OpenClaim := { program := "ythlipgfmfgangaa", sum := "d25d1b9cde9f53c74844db2973cefdfb7e058ae36b0018db001683b855c24c26", func := "loop.example/g03004/laws.FnExactFreeBars", spec := "fnExactFreeBars", apart := false }
def FnExactFreeBarsSaid : Prop := fnExactFreeBarsRow.holds Try.pinned (OpenSpec.ofChange fnExactFreeBarsSpec)

/-- ITS FALSE NEIGHBOUR: 'it returns false'. Refute it at one input. -/
def fnExactFreeBarsWrong : ChangeSpec := { name := "fnExactFreeBars", fn := fun _ => fun
  | [d1, d2, d3] => { results := [.lit (.bool false)], args := [d1, d2, d3] }
  | _ => none }
def FnExactFreeBarsWrongFalsely : Prop := fnExactFreeBarsRow.holds Try.pinned (OpenSpec.ofChange fnExactFreeBarsWrong)

/-- 'laws.FnPages': WHATEVER THE INPUT: true; the input reads as it did. -/
def fnPagesSpec : ChangeSpec := { name := "fnPages", fn := fun _ => fun
  | [d] => { results := [.lit (.bool true)], args := [d] }
  | _ => none }
def fnPagesRow : OpenClaim := { program := "ythlipgfmfgangaa", sum := "d25d1b9cde9f53c74844db2973cefdfb7e058ae36b0018db001683b855c24c26", func := "loop.example/g03004/laws.FnPages", spec := "fnPages", apart := false }
def FnPagesSaid : Prop := fnPagesRow.holds Try.pinned (OpenSpec.ofChange fnPagesSpec)

/-- ITS FALSE NEIGHBOUR: 'it returns false'. Refute it at one input. -/
def fnPagesWrong : ChangeSpec := { name := "fnPages", fn := fun _ => fun
  | [d] => { results := [.lit (.bool false)], args := [d] }
  | _ => none }
def FnPagesWrongFalsely : Prop := fnPagesRow.holds Try.pinned (OpenSpec.ofChange fnPagesWrong)

/- THE SECOND FORM. 'bulk': how many values and letters a reading holds, each counted each time it is reached (what is shared counts as often as it is met; a slice's spare places count too). A statement '..UptoSaid' is the law's where the arguments, and the package variables that the reading takes, are together of bulk at most 1048576: NARROWER than '..Said'. Prove '..Said' where nothing that the law and all that it calls make is longer than what came in: it says more and counts as full. Else prove '..UptoSaid'. A law counts once. -/
mutual
def uptoBulk {H : Type} : DataW H → Nat
  | .lit (.string bytes) => bytes.length + 1
  | .lit _ => 1
  | .nil => 1
  | .ptr d => uptoBulk d + 1
  | .slice elems spare => uptoBulkAll elems + uptoBulkAll spare + 1
  | .agg parts => uptoBulkAll parts + 1
  | .iface _ d => uptoBulk d + 1
  | .map entries => uptoBulkEntries entries + 1
  | .held _ => 1
def uptoBulkAll {H : Type} : List (DataW H) → Nat
  | [] => 0
  | d :: r => uptoBulk d + uptoBulkAll r
def uptoBulkEntries {H : Type} : List (Lit × DataW H) → Nat
  | [] => 0
  | x :: r => uptoBulkEntry x + uptoBulkEntries r
def uptoBulkEntry {H : Type} : Lit × DataW H → Nat
  | (.string bytes, d) => bytes.length + uptoBulk d + 1
  | (_, d) => uptoBulk d + 1
 end
def uptoSmall : (H : Type) → List (DataW H) → Bool := fun _ ds => decide (uptoBulkAll ds ≤ 1048576)
def OpenSpec.upto (s : _root_.Go.ChangeSpec) : _root_.Go.OpenSpec := { _root_.Go.OpenSpec.ofChange s with cond := some uptoSmall }

/-- 'laws.FnExactPageOf', WHERE WHAT IT READS IS OF BULK AT MOST 1048576: true; the input reads as it did. -/
def fnExactPageOfUptoRow : OpenClaim := { program := "ythlipgfmfgangaa", sum := "d25d1b9cde9f53c74844db2973cefdfb7e058ae36b0018db001683b855c24c26", func := "loop.example/g03004/laws.FnExactPageOf", spec := "fnExactPageOf", apart := false, narrowed := true }
def FnExactPageOfUptoSaid : Prop := fnExactPageOfUptoRow.holds Try.pinned (OpenSpec.upto fnExactPageOfSpec)

/-- 'laws.FnExactAreBreaks', WHERE WHAT IT READS IS OF BULK AT MOST 1048576: true; the input reads as it did. -/
def fnExactAreBreaksUptoRow : OpenClaim := { program := "ythlipgfmfgangaa", sum := "d25d1b9cde9f53c74844db2973cefdfb7e058ae36b0018db001683b855c24c26", func := "loop.example/g03004/laws.FnExactAreBreaks", spec := "fnExactAreBreaks", apart := false, narrowed := true }
def FnExactAreBreaksUptoSaid : Prop := fnExactAreBreaksUptoRow.holds Try.pinned (OpenSpec.upto fnExactAreBreaksSpec)

/-- 'laws.FnExactPageBreaks', WHERE WHAT IT READS IS OF BULK AT MOST 1048576: true; the input reads as it did. -/
def fnExactPageBreaksUptoRow : OpenClaim := { program := "ythlipgfmfgangaa", sum := "d25d1b9cde9f53c74844db2973cefdfb7e058ae36b0018db001683b855c24c26", func := "loop.example/g03004/laws.FnExactPageBreaks", spec := "fnExactPageBreaks", apart := false, narrowed := true }
def FnExactPageBreaksUptoSaid : Prop := fnExactPageBreaksUptoRow.holds Try.pinned (OpenSpec.upto fnExactPageBreaksSpec)

/-- 'laws.FnExactFreeBars', WHERE WHAT IT READS IS OF BULK AT MOST 1048576: true; the input reads as it did. -/
def fnExactFreeBarsUptoRow : OpenClaim := { program := "ythlipgfmfgangaa", sum := "d25d1b9cde9f53c74844db2973cefdfb7e058ae36b0018db001683b855c24c26", func := "loop.example/g03004/laws.FnExactFreeBars", spec := "fnExactFreeBars", apart := false, narrowed := true }
def FnExactFreeBarsUptoSaid : Prop := fnExactFreeBarsUptoRow.holds Try.pinned (OpenSpec.upto fnExactFreeBarsSpec)

/-- 'laws.FnPages', WHERE WHAT IT READS IS OF BULK AT MOST 1048576: true; the input reads as it did. -/
def fnPagesUptoRow : OpenClaim := { program := "ythlipgfmfgangaa", sum := "d25d1b9cde9f53c74844db2973cefdfb7e058ae36b0018db001683b855c24c26", func := "loop.example/g03004/laws.FnPages", spec := "fnPages", apart := false, narrowed := true }
def FnPagesUptoSaid : Prop := fnPagesUptoRow.holds Try.pinned (OpenSpec.upto fnPagesSpec)

end Rows
end Go.Proofs.Ythlipgfmfgangaa
