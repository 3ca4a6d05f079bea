/- The row of the law FnExactAreBreaks: for every input it returns true; out of the plain statement (YthlipgfmfgangaaPureFnExactAreBreaks) and the printed contract; no conditions. -/
import Derived.Test.YthlipgfmfgangaaRows
import Derived.Test.YthlipgfmfgangaaOp
import Derived.Test.YthlipgfmfgangaaPFnExactAreBreaksx2
import Derived.Test.YthlipgfmfgangaaPureFnExactAreBreaks
import Derived.WalkKit
import Derived.ProofKit
import Derived.OpenShut
import Derived.ShutString
import Derived.ChangeOld
import Derived.Below
import Derived.SizedLaws
namespace Go.Proofs.Ythlipgfmfgangaa.fnExactAreBreaks
open Go.ChangeShapes Go.WideShapes Go.ChangeAt Go.RowKit
open Go.ChangeMaps (open_string shut_string)
open Go.Proofs.YthlipgfmfgangaaW.PrintWords Go.Proofs.Ythlipgfmfgangaa.PFnExactAreBreaks
set_option linter.unusedVariables false
theorem own : ownKnob Try.prog.godebug = none := by kernel_rfl
theorem laidOut : laidOutB Try.prog = true := by kernel_rfl
theorem op4 : Op.Opens Try.prog 4 Kd.bool (fun _ => True) := Op.opens_bool Try.underlying4
theorem op27 : Op.Opens Try.prog 27 (Kd.slice 4 Kd.bool) (fun x => x.length ≤ maxLen ∧ x.length * 1 ≤ 140737488351232 ∧ ∀ x' ∈ x, True) := (Op.opens_slice (d := Kd.bool) (B := 1) Try.underlying27 (by kernel_rfl) (by kernel_rfl) op4).imp (fun y h => h)
theorem op3 : Op.Opens Try.prog 3 (Kd.int .i64) (fun x => (Lit.int .i64 x).wf = true) := Op.opens_int Try.underlying3
theorem op22 : Op.Opens Try.prog 22 (Kd.slice 3 (Kd.int .i64)) (fun x => x.length ≤ maxLen ∧ x.length * 8 ≤ 140737488351232 ∧ ∀ x' ∈ x, (Lit.int .i64 x').wf = true) := (Op.opens_slice (d := (Kd.int .i64)) (B := 8) Try.underlying22 (by kernel_rfl) (by kernel_rfl) op3).imp (fun y h => h)
set_option maxRecDepth 100000 in
theorem lifted (os : Os) (started : os.Started) (H : Type) (enc : TypeId × Value → H) :
    ReturnsInHanded {} Try.checked os 4 .any (Rows.fnExactAreBreaksSpec.pre6 enc Try.prog Try.f4 Rows.fnExactAreBreaksRow.domain false) (Rows.fnExactAreBreaksSpec.post enc Try.prog Try.f4 false true false false) := by
  refine returnsInHanded_of_change_sized (C := Try.checked) own started (by kernel_rfl) Try.func4
    (ChangeSpec.witness6 (enc := enc) (C := Try.checked) false ⟨#[], #[.slice none 0 0, .int .i64 0, .slice none 0 0], []⟩ 8 (by kernel_rfl) (by kernel_rfl) (by kernel_rfl) (by kernel_rfl)) ?_
  intro W base args ds gs before hval0 hW hcnd hsz0 _
  have hsz : (DataW.weightsEach Try.prog (Try.f4.params.toList ++ Rows.fnExactAreBreaksSpec.plain.varTypes Try.prog) (ds ++ gs)).all (· ≤ reachBytes) = true := hsz0
  have hval : ∀ (j : Nat) t v, Try.f4.params[j]? = some t → args[j]? = some v → Value.okWide Try.prog W .any base t v := hval0
  have hW' := hW
  obtain ⟨p, q, hA0, hV, rfl, hfz, hnd⟩ := hW
  have hA : DataW.TrodAll enc Try.prog W 0 (fun _ => true) true Try.f4.params.toList args.toList ds p := hA0
  rw [Try.params4] at hA hval hsz
  obtain ⟨v0, vs0, d0, ds0, p0, q0, hargs, rfl, rfl, h0, r0⟩ := trodAll_cons hA
  obtain ⟨v1, vs1, d1, ds1, p1, q1, rfl, rfl, rfl, h1, r1⟩ := trodAll_cons r0
  obtain ⟨v2, vs2, d2, ds2, p2, q2, rfl, rfl, rfl, h2, r2⟩ := trodAll_cons r1
  obtain ⟨rfl, rfl, rfl⟩ := trodAll_nil r2
  obtain rfl : args = #[v0, v1, v2] := by cases args; simp_all
  obtain ⟨rfl, rfl⟩ := trodVars_none hV
  have k0 := h0
  have lt0 : ∀ x ∈ p0, x.block < W.heap.size := by obtain ⟨m, hm⟩ := k0; exact DataW.trod_lt m _ _ _ hm
  obtain ⟨A0, l0, c0, rfl, hc0, hr0, ok0⟩ := (op27).slice_arg Try.underlying27 hsz (j := 0) (t := 27) rfl rfl (hval 0 27 v0 rfl rfl) h0
  obtain ⟨a1, rfl, rfl, rfl, w1⟩ := open_int Try.underlying3 (hval 1 3 v1 rfl rfl) h1
  have k2 := h2
  have lt2 : ∀ x ∈ p2, x.block < W.heap.size := by obtain ⟨m, hm⟩ := k2; exact DataW.trod_lt m _ _ _ hm
  obtain ⟨A2, l2, c2, rfl, hc2, hr2, ok2⟩ := (op22).slice_arg Try.underlying22 hsz (j := 2) (t := 22) rfl rfl (hval 2 22 v2 rfl rfl) h2
  clear hA0 hval0 hsz0 hsz
  obtain ⟨k, h⟩ := Pure.FnExactAreBreaks l0 a1 l2 ok0 w1 ok2
  refine (PFnExactAreBreaks.laws_FnExactAreBreaks.calls k A0 c0 l0 a1 A2 c2 l2 true W hr0 hc0 hr2 hc2 h).mono fun e W' ⟨he, bel0⟩ => ?_
  have bel : Below W.heap.size W W' := bel0
  subst he
  exact ⟨_, rfl, _, _, _, [], _, [], hW', trodAll_mk1 (shut_bool Try.underlying4 _), (trodAll_cons_mk (Below.trod laidOut (by kernel_rfl) (of_decide_eq_true (by kernel_rfl)) k0 bel lt0) (trodAll_cons_mk (shut_int Try.underlying3 w1) (trodAll_cons_mk (Below.trod laidOut (by kernel_rfl) (of_decide_eq_true (by kernel_rfl)) k2 bel lt2) trodAll_mk0))), rfl, bel.frame _, fun h => by cases h⟩
theorem over : Rows.fnExactAreBreaksRow.holds Try.pinned (OpenSpec.ofChange Rows.fnExactAreBreaksSpec) :=
  OpenClaim.holds_of_wide 4 Try.f4 rfl rfl rfl rfl rfl rfl rfl ⟨rfl, rfl, rfl, rfl, rfl⟩ rfl rfl rfl rfl rfl (by kernel_rfl) Try.func4 (by kernel_rfl)
    (of_decide_eq_true (by kernel_rfl)) (by unfold Func.isWrapper; first | (rw [if_pos (by decide +kernel)]; kernel_rfl) | (rw [if_neg (by decide +kernel)]; exact ⟨rfl, rfl⟩))
    (fun os started H enc _ => lifted os started H enc)
theorem proved : Rows.FnExactAreBreaksSaid := over
#print axioms proved
end Go.Proofs.Ythlipgfmfgangaa.fnExactAreBreaks
namespace Go.Proofs.Ythlipgfmfgangaa
/-- The row, under a short name, for the claim. -/
theorem fnExactAreBreaks_holds : Rows.FnExactAreBreaksSaid := fnExactAreBreaks.proved
end Go.Proofs.Ythlipgfmfgangaa
