/-
  No cell of these rows narrows 'for every input' (looked for: loops, veiled, ifaces, maps, wideKeys, modest, calm, conditions, laid).
  DERIVED. THE GIVEN ROWS OF THIS SEAT. 6 by the template 'for every input the law returns true; each argument reads behind the call as it read before'; 0 by the template 'total and deterministic' (their statements: YtmdeggbhdipnmaaTotals.lean).
  GIVEN WITH THE SEED: the statements are not yours to turn. If you find one false, say at which input.
  Laid BY PROGRAM, IN A SANDBOX (cutbox-rows.mjs): the forced cells as the released guide's own fill.sh prints them over the translation d9584ec759f745fd… (all of the seat's roots in one cut). By AI agents, Wed Nov 11 2026. No macro, syntax, notation, axiom, sorry.
-/
import Derived.Test.YtmdeggbhdipnmaaChecked
import GoSem.Claim
import GoSem.ClaimJoined
import GoSem.ClaimMapViews
import Derived.JoinedTies
import Derived.KernelRfl
namespace Go.Proofs.Ytmdeggbhdipnmaa
/- THE CELL 'sum', in the pinned program and in every row, IS THE sha256 OF THE DUMP (.gsa) THAT YtmdeggbhdipnmaaProg.lean LOADS. Nothing in Lean hashes anything: it is a label: what it is worth is what the hold of that sum in a sandbox is worth. -/
noncomputable def Try.pinned : Pinned := { name := "ytmdeggbhdipnmaa", sum := "d9584ec759f745fdd6275766fd0f09624ecdceab1654b5f51164cf972e2dec2e", checked := Try.checked }
namespace Rows
def none {H : Type} : Left H := { results := [], args := [] }

/-- 'laws.FnExactIsPing': WHATEVER THE INPUT: true; the input reads as it did. -/
def fnExactIsPingSpec : ChangeSpec := { name := "fnExactIsPing", fn := fun _ => fun
  | [d] => { results := [.lit (.bool true)], args := [d] }
  | _ => none }
def fnExactIsPingRow : OpenClaim := { program := "ytmdeggbhdipnmaa", sum := "d9584ec759f745fdd6275766fd0f09624ecdceab1654b5f51164cf972e2dec2e", func := "loop.example/g03004/laws.FnExactIsPing", spec := "fnExactIsPing", apart := false }
def FnExactIsPingSaid : Prop := fnExactIsPingRow.holds Try.pinned (OpenSpec.ofChange fnExactIsPingSpec)

/-- ITS FALSE NEIGHBOUR: 'it returns false'. Refute it at one input. -/
def fnExactIsPingWrong : ChangeSpec := { name := "fnExactIsPing", fn := fun _ => fun
  | [d] => { results := [.lit (.bool false)], args := [d] }
  | _ => none }
def FnExactIsPingWrongFalsely : Prop := fnExactIsPingRow.holds Try.pinned (OpenSpec.ofChange fnExactIsPingWrong)

/-- 'laws.FnExactOffsetBounds': WHATEVER THE INPUT: true; the input reads as it did. -/
def fnExactOffsetBoundsSpec : ChangeSpec := { name := "fnExactOffsetBounds", fn := fun _ => fun
  | [d] => { results := [.lit (.bool true)], args := [d] }
  | _ => none }
def fnExactOffsetBoundsRow : OpenClaim := { program := "ytmdeggbhdipnmaa", sum := "d9584ec759f745fdd6275766fd0f09624ecdceab1654b5f51164cf972e2dec2e", func := "loop.example/g03004/laws.FnExactOffsetBounds", spec := "fnExactOffsetBounds", apart := false }
def FnExactOffsetBoundsSaid : Prop := fnExactOffsetBoundsRow.holds Try.pinned (OpenSpec.ofChange fnExactOffsetBoundsSpec)

/-- ITS FALSE NEIGHBOUR: 'it returns false'. Refute it at one input. -/
def fnExactOffsetBoundsWrong : ChangeSpec := { name := "fnExactOffsetBounds", fn := fun _ => fun
  | [d] => { results := [.lit (.bool false)], args := [d] }
  | _ => none }
def FnExactOffsetBoundsWrongFalsely : Prop := fnExactOffsetBoundsRow.holds Try.pinned (OpenSpec.ofChange fnExactOffsetBoundsWrong)

/-- 'laws.FnExactMeetBounds': WHATEVER THE INPUT: true; the input reads as it did. -/
def fnExactMeetBoundsSpec : ChangeSpec := { name := "fnExactMeetBounds", fn := fun _ => fun
  | [d] => { results := [.lit (.bool true)], args := [d] }
  | _ => none }
def fnExactMeetBoundsRow : OpenClaim := { program := "ytmdeggbhdipnmaa", sum := "d9584ec759f745fdd6275766fd0f09624ecdceab1654b5f51164cf972e2dec2e", func := "loop.example/g03004/laws.FnExactMeetBounds", spec := "fnExactMeetBounds", apart := false }
def FnExactMeetBoundsSaid : Prop := fnExactMeetBoundsRow.holds Try.pinned (OpenSpec.ofChange fnExactMeetBoundsSpec)

/-- ITS FALSE NEIGHBOUR: 'it returns false'. Refute it at one input. -/
def fnExactMeetBoundsWrong : ChangeSpec := { name := "fnExactMeetBounds", fn := fun _ => fun
  | [d] => { results := [.lit (.bool false)], args := [d] }
  | _ => none }
def FnExactMeetBoundsWrongFalsely : Prop := fnExactMeetBoundsRow.holds Try.pinned (OpenSpec.ofChange fnExactMeetBoundsWrong)

/-- 'laws.FnExactErrorOf': WHATEVER THE INPUT: true; the input reads as it did. -/
def fnExactErrorOfSpec : ChangeSpec := { name := "fnExactErrorOf", fn := fun _ => fun
  | [d] => { results := [.lit (.bool true)], args := [d] }
  | _ => none }
def fnExactErrorOfRow : OpenClaim := { program := "ytmdeggbhdipnmaa", sum := "d9584ec759f745fdd6275766fd0f09624ecdceab1654b5f51164cf972e2dec2e", func := "loop.example/g03004/laws.FnExactErrorOf", spec := "fnExactErrorOf", apart := false }
def FnExactErrorOfSaid : Prop := fnExactErrorOfRow.holds Try.pinned (OpenSpec.ofChange fnExactErrorOfSpec)

/-- ITS FALSE NEIGHBOUR: 'it returns false'. Refute it at one input. -/
def fnExactErrorOfWrong : ChangeSpec := { name := "fnExactErrorOf", fn := fun _ => fun
  | [d] => { results := [.lit (.bool false)], args := [d] }
  | _ => none }
def FnExactErrorOfWrongFalsely : Prop := fnExactErrorOfRow.holds Try.pinned (OpenSpec.ofChange fnExactErrorOfWrong)

/-- 'laws.FnExactStartFor': WHATEVER THE INPUT: true; the input reads as it did. -/
def fnExactStartForSpec : ChangeSpec := { name := "fnExactStartFor", fn := fun _ => fun
  | [d1, d2] => { results := [.lit (.bool true)], args := [d1, d2] }
  | _ => none }
def fnExactStartForRow : OpenClaim := { program := "ytmdeggbhdipnmaa", sum := "d9584ec759f745fdd6275766fd0f09624ecdceab1654b5f51164cf972e2dec2e", func := "loop.example/g03004/laws.FnExactStartFor", spec := "fnExactStartFor", apart := false }
def FnExactStartForSaid : Prop := fnExactStartForRow.holds Try.pinned (OpenSpec.ofChange fnExactStartForSpec)

/-- ITS FALSE NEIGHBOUR: 'it returns false'. Refute it at one input. -/
def fnExactStartForWrong : ChangeSpec := { name := "fnExactStartFor", fn := fun _ => fun
  | [d1, d2] => { results := [.lit (.bool false)], args := [d1, d2] }
  | _ => none }
def FnExactStartForWrongFalsely : Prop := fnExactStartForRow.holds Try.pinned (OpenSpec.ofChange fnExactStartForWrong)

/-- 'laws.FnClocks': WHATEVER THE INPUT: true; the input reads as it did. -/
def fnClocksSpec : ChangeSpec := { name := "fnClocks", fn := fun _ => fun
  | [d] => { results := [.lit (.bool true)], args := [d] }
  | _ => none }
def fnClocksRow : OpenClaim := { program := "ytmdeggbhdipnmaa", sum := "d9584ec759f745fdd6275766fd0f09624ecdceab1654b5f51164cf972e2dec2e", func := "loop.example/g03004/laws.FnClocks", spec := "fnClocks", apart := false }
def FnClocksSaid : Prop := fnClocksRow.holds Try.pinned (OpenSpec.ofChange fnClocksSpec)

/-- ITS FALSE NEIGHBOUR: 'it returns false'. Refute it at one input. -/
def fnClocksWrong : ChangeSpec := { name := "fnClocks", fn := fun _ => fun
  | [d] => { results := [.lit (.bool false)], args := [d] }
  | _ => none }
def FnClocksWrongFalsely : Prop := fnClocksRow.holds Try.pinned (OpenSpec.ofChange fnClocksWrong)

/- THE SECOND FORM. 'bulk': how many values and letters a reading holds, each counted each time it is reached (what is shared counts as often as it is met; a slice's spare places count too). A statement '..UptoSaid' is the law's where the arguments, and the package variables that the reading takes, are together of bulk at most 1048576: NARROWER than '..Said'. Prove '..Said' where nothing that the law and all that it calls make is longer than what came in: it says more and counts as full. Else prove '..UptoSaid'. A law counts once. -/
mutual
def uptoBulk {H : Type} : DataW H → Nat
  | .lit (.string bytes) => bytes.length + 1
  | .lit _ => 1
  | .nil => 1
  | .ptr d => uptoBulk d + 1
  | .slice elems spare => uptoBulkAll elems + uptoBulkAll spare + 1
  | .agg parts => uptoBulkAll parts + 1
  | .iface _ d => uptoBulk d + 1
  | .map entries => uptoBulkEntries entries + 1
  | .held _ => 1
def uptoBulkAll {H : Type} : List (DataW H) → Nat
  | [] => 0
  | d :: r => uptoBulk d + uptoBulkAll r
def uptoBulkEntries {H : Type} : List (Lit × DataW H) → Nat
  | [] => 0
  | x :: r => uptoBulkEntry x + uptoBulkEntries r
def uptoBulkEntry {H : Type} : Lit × DataW H → Nat
  | (.string bytes, d) => bytes.length + uptoBulk d + 1
  | (_, d) => uptoBulk d + 1
 end
def uptoSmall : (H : Type) → List (DataW H) → Bool := fun _ ds => decide (uptoBulkAll ds ≤ 1048576)
def OpenSpec.upto (s : _root_.Go.ChangeSpec) : _root_.Go.OpenSpec := { _root_.Go.OpenSpec.ofChange s with cond := some uptoSmall }

/-- 'laws.FnExactIsPing', WHERE WHAT IT READS IS OF BULK AT MOST 1048576: true; the input reads as it did. -/
def fnExactIsPingUptoRow : OpenClaim := { program := "ytmdeggbhdipnmaa", sum := "d9584ec759f745fdd6275766fd0f09624ecdceab1654b5f51164cf972e2dec2e", func := "loop.example/g03004/laws.FnExactIsPing", spec := "fnExactIsPing", apart := false, narrowed := true }
def FnExactIsPingUptoSaid : Prop := fnExactIsPingUptoRow.holds Try.pinned (OpenSpec.upto fnExactIsPingSpec)

/-- 'laws.FnExactOffsetBounds', WHERE WHAT IT READS IS OF BULK AT MOST 1048576: true; the input reads as it did. -/
def fnExactOffsetBoundsUptoRow : OpenClaim := { program := "ytmdeggbhdipnmaa", sum := "d9584ec759f745fdd6275766fd0f09624ecdceab1654b5f51164cf972e2dec2e", func := "loop.example/g03004/laws.FnExactOffsetBounds", spec := "fnExactOffsetBounds", apart := false, narrowed := true }
def FnExactOffsetBoundsUptoSaid : Prop := fnExactOffsetBoundsUptoRow.holds Try.pinned (OpenSpec.upto fnExactOffsetBoundsSpec)

/-- 'laws.FnExactMeetBounds', WHERE WHAT IT READS IS OF BULK AT MOST 1048576: true; the input reads as it did. -/
def fnExactMeetBoundsUptoRow : OpenClaim := { program := "ytmdeggbhdipnmaa", sum := "d9584ec759f745fdd6275766fd0f09624ecdceab1654b5f51164cf972e2dec2e", func := "loop.example/g03004/laws.FnExactMeetBounds", spec := "fnExactMeetBounds", apart := false, narrowed := true }
def FnExactMeetBoundsUptoSaid : Prop := fnExactMeetBoundsUptoRow.holds Try.pinned (OpenSpec.upto fnExactMeetBoundsSpec)

/-- 'laws.FnExactErrorOf', WHERE WHAT IT READS IS OF BULK AT MOST 1048576: true; the input reads as it did. -/
def fnExactErrorOfUptoRow : OpenClaim := { program := "ytmdeggbhdipnmaa", sum := "d9584ec759f745fdd6275766fd0f09624ecdceab1654b5f51164cf972e2dec2e", func := "loop.example/g03004/laws.FnExactErrorOf", spec := "fnExactErrorOf", apart := false, narrowed := true }
def FnExactErrorOfUptoSaid : Prop := fnExactErrorOfUptoRow.holds Try.pinned (OpenSpec.upto fnExactErrorOfSpec)

/-- 'laws.FnExactStartFor', WHERE WHAT IT READS IS OF BULK AT MOST 1048576: true; the input reads as it did. -/
def fnExactStartForUptoRow : OpenClaim := { program := "ytmdeggbhdipnmaa", sum := "d9584ec759f745fdd6275766fd0f09624ecdceab1654b5f51164cf972e2dec2e", func := "loop.example/g03004/laws.FnExactStartFor", spec := "fnExactStartFor", apart := false, narrowed := true }
def FnExactStartForUptoSaid : Prop := fnExactStartForUptoRow.holds Try.pinned (OpenSpec.upto fnExactStartForSpec)

/-- 'laws.FnClocks', WHERE WHAT IT READS IS OF BULK AT MOST 1048576: true; the input reads as it did. -/
def fnClocksUptoRow : OpenClaim := { program := "ytmdeggbhdipnmaa", sum := "d9584ec759f745fdd6275766fd0f09624ecdceab1654b5f51164cf972e2dec2e", func := "loop.example/g03004/laws.FnClocks", spec := "fnClocks", apart := false, narrowed := true }
def FnClocksUptoSaid : Prop := fnClocksUptoRow.holds Try.pinned (OpenSpec.upto fnClocksSpec)

end Rows
end Go.Proofs.Ytmdeggbhdipnmaa
