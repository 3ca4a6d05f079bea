/-
  No cell of these rows narrows 'for every input' (looked for: loops, veiled, ifaces, maps, wideKeys, modest, calm, conditions, laid).
  DERIVED. THE GIVEN ROWS OF THIS SEAT. 6 by the template 'for every input the law returns true; each argument reads behind the call as it read before'; 0 by the template 'total and deterministic' (their statements: YtoihniinekiknaaTotals.lean).
  GIVEN WITH THE SEED: the statements are not yours to turn. If you find one false, say at which input.
  Laid BY PROGRAM, IN A SANDBOX (cutbox-rows.mjs): the forced cells as the released guide's own fill.sh prints them over the translation 2cf6b0ecdba33e5f… (all of the seat's roots in one cut). By AI agents, Wed Nov 11 2026. No macro, syntax, notation, axiom, sorry.
-/
import Derived.Test.YtoihniinekiknaaChecked
import GoSem.Claim
import GoSem.ClaimJoined
import GoSem.ClaimMapViews
import Derived.JoinedTies
import Derived.KernelRfl
namespace Go.Proofs.Ytoihniinekiknaa
/- THE CELL 'sum', in the pinned program and in every row, IS THE sha256 OF THE DUMP (.gsa) THAT YtoihniinekiknaaProg.lean LOADS. Nothing in Lean hashes anything: it is a label: what it is worth is what the hold of that sum in a sandbox is worth. -/
noncomputable def Try.pinned : Pinned := { name := "ytoihniinekiknaa", sum := "2cf6b0ecdba33e5f072a5222914f4103bd2d402a7c44f91da8cebdfa3a3f9f14", checked := Try.checked }
namespace Rows
def none {H : Type} : Left H := { results := [], args := [] }

/-- 'laws.FnExactBarEvents': WHATEVER THE INPUT: true; the input reads as it did. -/
def fnExactBarEventsSpec : ChangeSpec := { name := "fnExactBarEvents", fn := fun _ => fun
  | [d1, d2, d3] => { results := [.lit (.bool true)], args := [d1, d2, d3] }
  | _ => none }
def fnExactBarEventsRow : OpenClaim := { program := "ytoihniinekiknaa", sum := "2cf6b0ecdba33e5f072a5222914f4103bd2d402a7c44f91da8cebdfa3a3f9f14", func := "loop.example/g03004/laws.FnExactBarEvents", spec := "fnExactBarEvents", apart := false }
def FnExactBarEventsSaid : Prop := fnExactBarEventsRow.holds Try.pinned (OpenSpec.ofChange fnExactBarEventsSpec)

/-- ITS FALSE NEIGHBOUR: 'it returns false'. Refute it at one input. -/
def fnExactBarEventsWrong : ChangeSpec := { name := "fnExactBarEvents", fn := fun _ => fun
  | [d1, d2, d3] => { results := [.lit (.bool false)], args := [d1, d2, d3] }
  | _ => none }
def FnExactBarEventsWrongFalsely : Prop := fnExactBarEventsRow.holds Try.pinned (OpenSpec.ofChange fnExactBarEventsWrong)

/-- 'laws.FnExactBarDigest': WHATEVER THE INPUT: true; the input reads as it did. -/
def fnExactBarDigestSpec : ChangeSpec := { name := "fnExactBarDigest", fn := fun _ => fun
  | [d1, d2, d3] => { results := [.lit (.bool true)], args := [d1, d2, d3] }
  | _ => none }
def fnExactBarDigestRow : OpenClaim := { program := "ytoihniinekiknaa", sum := "2cf6b0ecdba33e5f072a5222914f4103bd2d402a7c44f91da8cebdfa3a3f9f14", func := "loop.example/g03004/laws.FnExactBarDigest", spec := "fnExactBarDigest", apart := false }
def FnExactBarDigestSaid : Prop := fnExactBarDigestRow.holds Try.pinned (OpenSpec.ofChange fnExactBarDigestSpec)

/-- ITS FALSE NEIGHBOUR: 'it returns false'. Refute it at one input. -/
def fnExactBarDigestWrong : ChangeSpec := { name := "fnExactBarDigest", fn := fun _ => fun
  | [d1, d2, d3] => { results := [.lit (.bool false)], args := [d1, d2, d3] }
  | _ => none }
def FnExactBarDigestWrongFalsely : Prop := fnExactBarDigestRow.holds Try.pinned (OpenSpec.ofChange fnExactBarDigestWrong)

/-- 'laws.FnExactChangedBars': WHATEVER THE INPUT: true; the input reads as it did. -/
def fnExactChangedBarsSpec : ChangeSpec := { name := "fnExactChangedBars", fn := fun _ => fun
  | [d1, d2, d3] => { results := [.lit (.bool true)], args := [d1, d2, d3] }
  | _ => none }
def fnExactChangedBarsRow : OpenClaim := { program := "ytoihniinekiknaa", sum := "2cf6b0ecdba33e5f072a5222914f4103bd2d402a7c44f91da8cebdfa3a3f9f14", func := "loop.example/g03004/laws.FnExactChangedBars", spec := "fnExactChangedBars", apart := false }
def FnExactChangedBarsSaid : Prop := fnExactChangedBarsRow.holds Try.pinned (OpenSpec.ofChange fnExactChangedBarsSpec)

/-- ITS FALSE NEIGHBOUR: 'it returns false'. Refute it at one input. -/
def fnExactChangedBarsWrong : ChangeSpec := { name := "fnExactChangedBars", fn := fun _ => fun
  | [d1, d2, d3] => { results := [.lit (.bool false)], args := [d1, d2, d3] }
  | _ => none }
def FnExactChangedBarsWrongFalsely : Prop := fnExactChangedBarsRow.holds Try.pinned (OpenSpec.ofChange fnExactChangedBarsWrong)

/-- 'laws.FnExactSameDigests': WHATEVER THE INPUT: true; the input reads as it did. -/
def fnExactSameDigestsSpec : ChangeSpec := { name := "fnExactSameDigests", fn := fun _ => fun
  | [d1, d2, d3] => { results := [.lit (.bool true)], args := [d1, d2, d3] }
  | _ => none }
def fnExactSameDigestsRow : OpenClaim := { program := "ytoihniinekiknaa", sum := "2cf6b0ecdba33e5f072a5222914f4103bd2d402a7c44f91da8cebdfa3a3f9f14", func := "loop.example/g03004/laws.FnExactSameDigests", spec := "fnExactSameDigests", apart := false }
def FnExactSameDigestsSaid : Prop := fnExactSameDigestsRow.holds Try.pinned (OpenSpec.ofChange fnExactSameDigestsSpec)

/-- ITS FALSE NEIGHBOUR: 'it returns false'. Refute it at one input. -/
def fnExactSameDigestsWrong : ChangeSpec := { name := "fnExactSameDigests", fn := fun _ => fun
  | [d1, d2, d3] => { results := [.lit (.bool false)], args := [d1, d2, d3] }
  | _ => none }
def FnExactSameDigestsWrongFalsely : Prop := fnExactSameDigestsRow.holds Try.pinned (OpenSpec.ofChange fnExactSameDigestsWrong)

/-- 'laws.FnExactTakeBars': WHATEVER THE INPUT: true; the input reads as it did. -/
def fnExactTakeBarsSpec : ChangeSpec := { name := "fnExactTakeBars", fn := fun _ => fun
  | [d1, d2, d3, d4] => { results := [.lit (.bool true)], args := [d1, d2, d3, d4] }
  | _ => none }
def fnExactTakeBarsRow : OpenClaim := { program := "ytoihniinekiknaa", sum := "2cf6b0ecdba33e5f072a5222914f4103bd2d402a7c44f91da8cebdfa3a3f9f14", func := "loop.example/g03004/laws.FnExactTakeBars", spec := "fnExactTakeBars", unfollowed := true, recurses := true, apart := false }
def FnExactTakeBarsSaid : Prop := fnExactTakeBarsRow.holds Try.pinned (OpenSpec.ofChange fnExactTakeBarsSpec)

/-- ITS FALSE NEIGHBOUR: 'it returns false'. Refute it at one input. -/
def fnExactTakeBarsWrong : ChangeSpec := { name := "fnExactTakeBars", fn := fun _ => fun
  | [d1, d2, d3, d4] => { results := [.lit (.bool false)], args := [d1, d2, d3, d4] }
  | _ => none }
def FnExactTakeBarsWrongFalsely : Prop := fnExactTakeBarsRow.holds Try.pinned (OpenSpec.ofChange fnExactTakeBarsWrong)

/-- 'laws.FnEditions': WHATEVER THE INPUT: true; the input reads as it did. -/
def fnEditionsSpec : ChangeSpec := { name := "fnEditions", fn := fun _ => fun
  | [d] => { results := [.lit (.bool true)], args := [d] }
  | _ => none }
def fnEditionsRow : OpenClaim := { program := "ytoihniinekiknaa", sum := "2cf6b0ecdba33e5f072a5222914f4103bd2d402a7c44f91da8cebdfa3a3f9f14", func := "loop.example/g03004/laws.FnEditions", spec := "fnEditions", unfollowed := true, recurses := true, apart := false }
def FnEditionsSaid : Prop := fnEditionsRow.holds Try.pinned (OpenSpec.ofChange fnEditionsSpec)

/-- ITS FALSE NEIGHBOUR: 'it returns false'. Refute it at one input. -/
def fnEditionsWrong : ChangeSpec := { name := "fnEditions", fn := fun _ => fun
  | [d] => { results := [.lit (.bool false)], args := [d] }
  | _ => none }
def FnEditionsWrongFalsely : Prop := fnEditionsRow.holds Try.pinned (OpenSpec.ofChange fnEditionsWrong)

/- THE SECOND FORM. 'bulk': how many values and letters a reading holds, each counted each time it is reached (what is shared counts as often as it is met; a slice's spare places count too). A statement '..UptoSaid' is the law's where the arguments, and the package variables that the reading takes, are together of bulk at most 1048576: NARROWER than '..Said'. Prove '..Said' where nothing that the law and all that it calls make is longer than what came in: it says more and counts as full. Else prove '..UptoSaid'. A law counts once. -/
mutual
def uptoBulk {H : Type} : DataW H → Nat
  | .lit (.string bytes) => bytes.length + 1
  | .lit _ => 1
  | .nil => 1
  | .ptr d => uptoBulk d + 1
  | .slice elems spare => uptoBulkAll elems + uptoBulkAll spare + 1
  | .agg parts => uptoBulkAll parts + 1
  | .iface _ d => uptoBulk d + 1
  | .map entries => uptoBulkEntries entries + 1
  | .held _ => 1
def uptoBulkAll {H : Type} : List (DataW H) → Nat
  | [] => 0
  | d :: r => uptoBulk d + uptoBulkAll r
def uptoBulkEntries {H : Type} : List (Lit × DataW H) → Nat
  | [] => 0
  | x :: r => uptoBulkEntry x + uptoBulkEntries r
def uptoBulkEntry {H : Type} : Lit × DataW H → Nat
  | (.string bytes, d) => bytes.length + uptoBulk d + 1
  | (_, d) => uptoBulk d + 1
 end
def uptoSmall : (H : Type) → List (DataW H) → Bool := fun _ ds => decide (uptoBulkAll ds ≤ 1048576)
def OpenSpec.upto (s : _root_.Go.ChangeSpec) : _root_.Go.OpenSpec := { _root_.Go.OpenSpec.ofChange s with cond := some uptoSmall }

/-- 'laws.FnExactBarEvents', WHERE WHAT IT READS IS OF BULK AT MOST 1048576: true; the input reads as it did. -/
def fnExactBarEventsUptoRow : OpenClaim := { program := "ytoihniinekiknaa", sum := "2cf6b0ecdba33e5f072a5222914f4103bd2d402a7c44f91da8cebdfa3a3f9f14", func := "loop.example/g03004/laws.FnExactBarEvents", spec := "fnExactBarEvents", apart := false, narrowed := true }
def FnExactBarEventsUptoSaid : Prop := fnExactBarEventsUptoRow.holds Try.pinned (OpenSpec.upto fnExactBarEventsSpec)

/-- 'laws.FnExactBarDigest', WHERE WHAT IT READS IS OF BULK AT MOST 1048576: true; the input reads as it did. -/
def fnExactBarDigestUptoRow : OpenClaim := { program := "ytoihniinekiknaa", sum := "2cf6b0ecdba33e5f072a5222914f4103bd2d402a7c44f91da8cebdfa3a3f9f14", func := "loop.example/g03004/laws.FnExactBarDigest", spec := "fnExactBarDigest", apart := false, narrowed := true }
def FnExactBarDigestUptoSaid : Prop := fnExactBarDigestUptoRow.holds Try.pinned (OpenSpec.upto fnExactBarDigestSpec)

/-- 'laws.FnExactChangedBars', WHERE WHAT IT READS IS OF BULK AT MOST 1048576: true; the input reads as it did. -/
def fnExactChangedBarsUptoRow : OpenClaim := { program := "ytoihniinekiknaa", sum := "2cf6b0ecdba33e5f072a5222914f4103bd2d402a7c44f91da8cebdfa3a3f9f14", func := "loop.example/g03004/laws.FnExactChangedBars", spec := "fnExactChangedBars", apart := false, narrowed := true }
def FnExactChangedBarsUptoSaid : Prop := fnExactChangedBarsUptoRow.holds Try.pinned (OpenSpec.upto fnExactChangedBarsSpec)

/-- 'laws.FnExactSameDigests', WHERE WHAT IT READS IS OF BULK AT MOST 1048576: true; the input reads as it did. -/
def fnExactSameDigestsUptoRow : OpenClaim := { program := "ytoihniinekiknaa", sum := "2cf6b0ecdba33e5f072a5222914f4103bd2d402a7c44f91da8cebdfa3a3f9f14", func := "loop.example/g03004/laws.FnExactSameDigests", spec := "fnExactSameDigests", apart := false, narrowed := true }
def FnExactSameDigestsUptoSaid : Prop := fnExactSameDigestsUptoRow.holds Try.pinned (OpenSpec.upto fnExactSameDigestsSpec)

/-- 'laws.FnExactTakeBars', WHERE WHAT IT READS IS OF BULK AT MOST 1048576: true; the input reads as it did. -/
def fnExactTakeBarsUptoRow : OpenClaim := { program := "ytoihniinekiknaa", sum := "2cf6b0ecdba33e5f072a5222914f4103bd2d402a7c44f91da8cebdfa3a3f9f14", func := "loop.example/g03004/laws.FnExactTakeBars", spec := "fnExactTakeBars", unfollowed := true, recurses := true, apart := false, narrowed := true }
def FnExactTakeBarsUptoSaid : Prop := fnExactTakeBarsUptoRow.holds Try.pinned (OpenSpec.upto fnExactTakeBarsSpec)

/-- 'laws.FnEditions', WHERE WHAT IT READS IS OF BULK AT MOST 1048576: true; the input reads as it did. -/
def fnEditionsUptoRow : OpenClaim := { program := "ytoihniinekiknaa", sum := "2cf6b0ecdba33e5f072a5222914f4103bd2d402a7c44f91da8cebdfa3a3f9f14", func := "loop.example/g03004/laws.FnEditions", spec := "fnEditions", unfollowed := true, recurses := true, apart := false, narrowed := true }
def FnEditionsUptoSaid : Prop := fnEditionsUptoRow.holds Try.pinned (OpenSpec.upto fnEditionsSpec)

end Rows
end Go.Proofs.Ytoihniinekiknaa
