/-
  No cell of these rows narrows 'for every input' (looked for: loops, veiled, ifaces, maps, wideKeys, modest, calm, conditions, laid).
  DERIVED. THE GIVEN ROWS OF THIS SEAT. 7 by the template 'for every input the law returns true; each argument reads behind the call as it read before'; 0 by the template 'total and deterministic' (their statements: YtkonalnohdplnaaTotals.lean).
  GIVEN WITH THE SEED: the statements are not yours to turn. If you find one false, say at which input.
  Laid BY PROGRAM, IN A SANDBOX (cutbox-rows.mjs): the forced cells as the released guide's own fill.sh prints them over the translation f33a766537dc0adc… (all of the seat's roots in one cut). By AI agents, Wed Nov 11 2026. No macro, syntax, notation, axiom, sorry.
-/
import Derived.Test.YtkonalnohdplnaaChecked
import GoSem.Claim
import GoSem.ClaimJoined
import GoSem.ClaimMapViews
import Derived.JoinedTies
import Derived.KernelRfl
namespace Go.Proofs.Ytkonalnohdplnaa
/- THE CELL 'sum', in the pinned program and in every row, IS THE sha256 OF THE DUMP (.gsa) THAT YtkonalnohdplnaaProg.lean LOADS. Nothing in Lean hashes anything: it is a label: what it is worth is what the hold of that sum in a sandbox is worth. -/
noncomputable def Try.pinned : Pinned := { name := "ytkonalnohdplnaa", sum := "f33a766537dc0adc7ba644fac68264461c374d84c5702c623b284ea53281f51f", checked := Try.checked }
namespace Rows
def none {H : Type} : Left H := { results := [], args := [] }

/-- 'laws.FnExactArePlayers': WHATEVER THE INPUT: true; the input reads as it did. -/
def fnExactArePlayersSpec : ChangeSpec := { name := "fnExactArePlayers", fn := fun _ => fun
  | [d] => { results := [.lit (.bool true)], args := [d] }
  | _ => none }
def fnExactArePlayersRow : OpenClaim := { program := "ytkonalnohdplnaa", sum := "f33a766537dc0adc7ba644fac68264461c374d84c5702c623b284ea53281f51f", func := "loop.example/g03004/laws.FnExactArePlayers", spec := "fnExactArePlayers", apart := false }
def FnExactArePlayersSaid : Prop := fnExactArePlayersRow.holds Try.pinned (OpenSpec.ofChange fnExactArePlayersSpec)

/-- ITS FALSE NEIGHBOUR: 'it returns false'. Refute it at one input. -/
def fnExactArePlayersWrong : ChangeSpec := { name := "fnExactArePlayers", fn := fun _ => fun
  | [d] => { results := [.lit (.bool false)], args := [d] }
  | _ => none }
def FnExactArePlayersWrongFalsely : Prop := fnExactArePlayersRow.holds Try.pinned (OpenSpec.ofChange fnExactArePlayersWrong)

/-- 'laws.FnExactCanPlay': WHATEVER THE INPUT: true; the input reads as it did. -/
def fnExactCanPlaySpec : ChangeSpec := { name := "fnExactCanPlay", fn := fun _ => fun
  | [d1, d2, d3] => { results := [.lit (.bool true)], args := [d1, d2, d3] }
  | _ => none }
def fnExactCanPlayRow : OpenClaim := { program := "ytkonalnohdplnaa", sum := "f33a766537dc0adc7ba644fac68264461c374d84c5702c623b284ea53281f51f", func := "loop.example/g03004/laws.FnExactCanPlay", spec := "fnExactCanPlay", unfollowed := true, recurses := true, apart := false }
def FnExactCanPlaySaid : Prop := fnExactCanPlayRow.holds Try.pinned (OpenSpec.ofChange fnExactCanPlaySpec)

/-- ITS FALSE NEIGHBOUR: 'it returns false'. Refute it at one input. -/
def fnExactCanPlayWrong : ChangeSpec := { name := "fnExactCanPlay", fn := fun _ => fun
  | [d1, d2, d3] => { results := [.lit (.bool false)], args := [d1, d2, d3] }
  | _ => none }
def FnExactCanPlayWrongFalsely : Prop := fnExactCanPlayRow.holds Try.pinned (OpenSpec.ofChange fnExactCanPlayWrong)

/-- 'laws.FnExactIsSeating': WHATEVER THE INPUT: true; the input reads as it did. -/
def fnExactIsSeatingSpec : ChangeSpec := { name := "fnExactIsSeating", fn := fun _ => fun
  | [d1, d2, d3] => { results := [.lit (.bool true)], args := [d1, d2, d3] }
  | _ => none }
def fnExactIsSeatingRow : OpenClaim := { program := "ytkonalnohdplnaa", sum := "f33a766537dc0adc7ba644fac68264461c374d84c5702c623b284ea53281f51f", func := "loop.example/g03004/laws.FnExactIsSeating", spec := "fnExactIsSeating", unfollowed := true, recurses := true, apart := false }
def FnExactIsSeatingSaid : Prop := fnExactIsSeatingRow.holds Try.pinned (OpenSpec.ofChange fnExactIsSeatingSpec)

/-- ITS FALSE NEIGHBOUR: 'it returns false'. Refute it at one input. -/
def fnExactIsSeatingWrong : ChangeSpec := { name := "fnExactIsSeating", fn := fun _ => fun
  | [d1, d2, d3] => { results := [.lit (.bool false)], args := [d1, d2, d3] }
  | _ => none }
def FnExactIsSeatingWrongFalsely : Prop := fnExactIsSeatingRow.holds Try.pinned (OpenSpec.ofChange fnExactIsSeatingWrong)

/-- 'laws.FnExactSpare': WHATEVER THE INPUT: true; the input reads as it did. -/
def fnExactSpareSpec : ChangeSpec := { name := "fnExactSpare", fn := fun _ => fun
  | [d1, d2] => { results := [.lit (.bool true)], args := [d1, d2] }
  | _ => none }
def fnExactSpareRow : OpenClaim := { program := "ytkonalnohdplnaa", sum := "f33a766537dc0adc7ba644fac68264461c374d84c5702c623b284ea53281f51f", func := "loop.example/g03004/laws.FnExactSpare", spec := "fnExactSpare", apart := false }
def FnExactSpareSaid : Prop := fnExactSpareRow.holds Try.pinned (OpenSpec.ofChange fnExactSpareSpec)

/-- ITS FALSE NEIGHBOUR: 'it returns false'. Refute it at one input. -/
def fnExactSpareWrong : ChangeSpec := { name := "fnExactSpare", fn := fun _ => fun
  | [d1, d2] => { results := [.lit (.bool false)], args := [d1, d2] }
  | _ => none }
def FnExactSpareWrongFalsely : Prop := fnExactSpareRow.holds Try.pinned (OpenSpec.ofChange fnExactSpareWrong)

/-- 'laws.FnExactSubstitute': WHATEVER THE INPUT: true; the input reads as it did. -/
def fnExactSubstituteSpec : ChangeSpec := { name := "fnExactSubstitute", fn := fun _ => fun
  | [d1, d2, d3, d4] => { results := [.lit (.bool true)], args := [d1, d2, d3, d4] }
  | _ => none }
def fnExactSubstituteRow : OpenClaim := { program := "ytkonalnohdplnaa", sum := "f33a766537dc0adc7ba644fac68264461c374d84c5702c623b284ea53281f51f", func := "loop.example/g03004/laws.FnExactSubstitute", spec := "fnExactSubstitute", unfollowed := true, recurses := true, apart := false }
def FnExactSubstituteSaid : Prop := fnExactSubstituteRow.holds Try.pinned (OpenSpec.ofChange fnExactSubstituteSpec)

/-- ITS FALSE NEIGHBOUR: 'it returns false'. Refute it at one input. -/
def fnExactSubstituteWrong : ChangeSpec := { name := "fnExactSubstitute", fn := fun _ => fun
  | [d1, d2, d3, d4] => { results := [.lit (.bool false)], args := [d1, d2, d3, d4] }
  | _ => none }
def FnExactSubstituteWrongFalsely : Prop := fnExactSubstituteRow.holds Try.pinned (OpenSpec.ofChange fnExactSubstituteWrong)

/-- 'laws.FnExactSeatPlayers': WHATEVER THE INPUT: true; the input reads as it did. -/
def fnExactSeatPlayersSpec : ChangeSpec := { name := "fnExactSeatPlayers", fn := fun _ => fun
  | [d1, d2, d3] => { results := [.lit (.bool true)], args := [d1, d2, d3] }
  | _ => none }
def fnExactSeatPlayersRow : OpenClaim := { program := "ytkonalnohdplnaa", sum := "f33a766537dc0adc7ba644fac68264461c374d84c5702c623b284ea53281f51f", func := "loop.example/g03004/laws.FnExactSeatPlayers", spec := "fnExactSeatPlayers", unfollowed := true, recurses := true, apart := false }
def FnExactSeatPlayersSaid : Prop := fnExactSeatPlayersRow.holds Try.pinned (OpenSpec.ofChange fnExactSeatPlayersSpec)

/-- ITS FALSE NEIGHBOUR: 'it returns false'. Refute it at one input. -/
def fnExactSeatPlayersWrong : ChangeSpec := { name := "fnExactSeatPlayers", fn := fun _ => fun
  | [d1, d2, d3] => { results := [.lit (.bool false)], args := [d1, d2, d3] }
  | _ => none }
def FnExactSeatPlayersWrongFalsely : Prop := fnExactSeatPlayersRow.holds Try.pinned (OpenSpec.ofChange fnExactSeatPlayersWrong)

/-- 'laws.FnSeated': WHATEVER THE INPUT: true; the input reads as it did. -/
def fnSeatedSpec : ChangeSpec := { name := "fnSeated", fn := fun _ => fun
  | [d] => { results := [.lit (.bool true)], args := [d] }
  | _ => none }
def fnSeatedRow : OpenClaim := { program := "ytkonalnohdplnaa", sum := "f33a766537dc0adc7ba644fac68264461c374d84c5702c623b284ea53281f51f", func := "loop.example/g03004/laws.FnSeated", spec := "fnSeated", unfollowed := true, recurses := true, apart := false }
def FnSeatedSaid : Prop := fnSeatedRow.holds Try.pinned (OpenSpec.ofChange fnSeatedSpec)

/-- ITS FALSE NEIGHBOUR: 'it returns false'. Refute it at one input. -/
def fnSeatedWrong : ChangeSpec := { name := "fnSeated", fn := fun _ => fun
  | [d] => { results := [.lit (.bool false)], args := [d] }
  | _ => none }
def FnSeatedWrongFalsely : Prop := fnSeatedRow.holds Try.pinned (OpenSpec.ofChange fnSeatedWrong)

/- THE SECOND FORM. 'bulk': how many values and letters a reading holds, each counted each time it is reached (what is shared counts as often as it is met; a slice's spare places count too). A statement '..UptoSaid' is the law's where the arguments, and the package variables that the reading takes, are together of bulk at most 1048576: NARROWER than '..Said'. Prove '..Said' where nothing that the law and all that it calls make is longer than what came in: it says more and counts as full. Else prove '..UptoSaid'. A law counts once. -/
mutual
def uptoBulk {H : Type} : DataW H → Nat
  | .lit (.string bytes) => bytes.length + 1
  | .lit _ => 1
  | .nil => 1
  | .ptr d => uptoBulk d + 1
  | .slice elems spare => uptoBulkAll elems + uptoBulkAll spare + 1
  | .agg parts => uptoBulkAll parts + 1
  | .iface _ d => uptoBulk d + 1
  | .map entries => uptoBulkEntries entries + 1
  | .held _ => 1
def uptoBulkAll {H : Type} : List (DataW H) → Nat
  | [] => 0
  | d :: r => uptoBulk d + uptoBulkAll r
def uptoBulkEntries {H : Type} : List (Lit × DataW H) → Nat
  | [] => 0
  | x :: r => uptoBulkEntry x + uptoBulkEntries r
def uptoBulkEntry {H : Type} : Lit × DataW H → Nat
  | (.string bytes, d) => bytes.length + uptoBulk d + 1
  | (_, d) => uptoBulk d + 1
 end
def uptoSmall : (H : Type) → List (DataW H) → Bool := fun _ ds => decide (uptoBulkAll ds ≤ 1048576)
def OpenSpec.upto (s : _root_.Go.ChangeSpec) : _root_.Go.OpenSpec := { _root_.Go.OpenSpec.ofChange s with cond := some uptoSmall }

/-- 'laws.FnExactArePlayers', WHERE WHAT IT READS IS OF BULK AT MOST 1048576: true; the input reads as it did. -/
def fnExactArePlayersUptoRow : OpenClaim := { program := "ytkonalnohdplnaa", sum := "f33a766537dc0adc7ba644fac68264461c374d84c5702c623b284ea53281f51f", func := "loop.example/g03004/laws.FnExactArePlayers", spec := "fnExactArePlayers", apart := false, narrowed := true }
def FnExactArePlayersUptoSaid : Prop := fnExactArePlayersUptoRow.holds Try.pinned (OpenSpec.upto fnExactArePlayersSpec)

/-- 'laws.FnExactCanPlay', WHERE WHAT IT READS IS OF BULK AT MOST 1048576: true; the input reads as it did. -/
def fnExactCanPlayUptoRow : OpenClaim := { program := "ytkonalnohdplnaa", sum := "f33a766537dc0adc7ba644fac68264461c374d84c5702c623b284ea53281f51f", func := "loop.example/g03004/laws.FnExactCanPlay", spec := "fnExactCanPlay", unfollowed := true, recurses := true, apart := false, narrowed := true }
def FnExactCanPlayUptoSaid : Prop := fnExactCanPlayUptoRow.holds Try.pinned (OpenSpec.upto fnExactCanPlaySpec)

/-- 'laws.FnExactIsSeating', WHERE WHAT IT READS IS OF BULK AT MOST 1048576: true; the input reads as it did. -/
def fnExactIsSeatingUptoRow : OpenClaim := { program := "ytkonalnohdplnaa", sum := "f33a766537dc0adc7ba644fac68264461c374d84c5702c623b284ea53281f51f", func := "loop.example/g03004/laws.FnExactIsSeating", spec := "fnExactIsSeating", unfollowed := true, recurses := true, apart := false, narrowed := true }
def FnExactIsSeatingUptoSaid : Prop := fnExactIsSeatingUptoRow.holds Try.pinned (OpenSpec.upto fnExactIsSeatingSpec)

/-- 'laws.FnExactSpare', WHERE WHAT IT READS IS OF BULK AT MOST 1048576: true; the input reads as it did. -/
def fnExactSpareUptoRow : OpenClaim := { program := "ytkonalnohdplnaa", sum := "f33a766537dc0adc7ba644fac68264461c374d84c5702c623b284ea53281f51f", func := "loop.example/g03004/laws.FnExactSpare", spec := "fnExactSpare", apart := false, narrowed := true }
def FnExactSpareUptoSaid : Prop := fnExactSpareUptoRow.holds Try.pinned (OpenSpec.upto fnExactSpareSpec)

/-- 'laws.FnExactSubstitute', WHERE WHAT IT READS IS OF BULK AT MOST 1048576: true; the input reads as it did. -/
def fnExactSubstituteUptoRow : OpenClaim := { program := "ytkonalnohdplnaa", sum := "f33a766537dc0adc7ba644fac68264461c374d84c5702c623b284ea53281f51f", func := "loop.example/g03004/laws.FnExactSubstitute", spec := "fnExactSubstitute", unfollowed := true, recurses := true, apart := false, narrowed := true }
def FnExactSubstituteUptoSaid : Prop := fnExactSubstituteUptoRow.holds Try.pinned (OpenSpec.upto fnExactSubstituteSpec)

/-- 'laws.FnExactSeatPlayers', WHERE WHAT IT READS IS OF BULK AT MOST 1048576: true; the input reads as it did. -/
def fnExactSeatPlayersUptoRow : OpenClaim := { program := "ytkonalnohdplnaa", sum := "f33a766537dc0adc7ba644fac68264461c374d84c5702c623b284ea53281f51f", func := "loop.example/g03004/laws.FnExactSeatPlayers", spec := "fnExactSeatPlayers", unfollowed := true, recurses := true, apart := false, narrowed := true }
def FnExactSeatPlayersUptoSaid : Prop := fnExactSeatPlayersUptoRow.holds Try.pinned (OpenSpec.upto fnExactSeatPlayersSpec)

/-- 'laws.FnSeated', WHERE WHAT IT READS IS OF BULK AT MOST 1048576: true; the input reads as it did. -/
def fnSeatedUptoRow : OpenClaim := { program := "ytkonalnohdplnaa", sum := "f33a766537dc0adc7ba644fac68264461c374d84c5702c623b284ea53281f51f", func := "loop.example/g03004/laws.FnSeated", spec := "fnSeated", unfollowed := true, recurses := true, apart := false, narrowed := true }
def FnSeatedUptoSaid : Prop := fnSeatedUptoRow.holds Try.pinned (OpenSpec.upto fnSeatedSpec)

end Rows
end Go.Proofs.Ytkonalnohdplnaa
