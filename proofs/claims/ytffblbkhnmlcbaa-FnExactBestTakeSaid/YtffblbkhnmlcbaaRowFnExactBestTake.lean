/- The row of the law FnExactBestTake: for every input it returns true; out of the plain statement (YtffblbkhnmlcbaaPureFnExactBestTake) and the printed contract; no conditions. -/
import Derived.Test.YtffblbkhnmlcbaaRows
import Derived.Test.YtffblbkhnmlcbaaOp
import Derived.Test.YtffblbkhnmlcbaaQFnExactBestTakex3
import Derived.Test.YtffblbkhnmlcbaaPureFnExactBestTake
import Derived.WalkKit
import Derived.ProofKit
import Derived.OpenShut
import Derived.ShutString
import Derived.ChangeOld
import Derived.Below
import Derived.SizedLaws
namespace Go.Proofs.Ytffblbkhnmlcbaa.fnExactBestTake
open Go.ChangeShapes Go.WideShapes Go.ChangeAt Go.RowKit
open Go.ChangeMaps (open_string shut_string)
open Go.Proofs.YtffblbkhnmlcbaaW.PrintWords Go.Proofs.Ytffblbkhnmlcbaa.QFnExactBestTake
set_option linter.unusedVariables false
theorem own : ownKnob Try.prog.godebug = none := by kernel_rfl
theorem laidOut : laidOutB Try.prog = true := by kernel_rfl
theorem op3 : Op.Opens Try.prog 3 (Kd.int .i64) (fun x => (Lit.int .i64 x).wf = true) := Op.opens_int Try.underlying3
theorem op22 : Op.Opens Try.prog 22 (Kd.slice 3 (Kd.int .i64)) (fun x => x.length ≤ maxLen ∧ x.length * 8 ≤ 140737488351232 ∧ ∀ x' ∈ x, (Lit.int .i64 x').wf = true) := (Op.opens_slice (d := (Kd.int .i64)) (B := 8) Try.underlying22 (by kernel_rfl) (by kernel_rfl) op3).imp (fun y h => h)
theorem op27 : Op.Opens Try.prog 27 (Kd.slice 22 (Kd.slice 3 (Kd.int .i64))) (fun x => x.length ≤ maxLen ∧ x.length * 24 ≤ 140737488351232 ∧ ∀ x' ∈ x, x'.length ≤ maxLen ∧ x'.length * 8 ≤ 140737488351232 ∧ ∀ x'' ∈ x', (Lit.int .i64 x'').wf = true) := (Op.opens_slice (d := (Kd.slice 3 (Kd.int .i64))) (B := 24) Try.underlying27 (by kernel_rfl) (by kernel_rfl) op22).imp (fun y h => h)
set_option maxRecDepth 100000 in
theorem lifted (os : Os) (started : os.Started) (H : Type) (enc : TypeId × Value → H) :
    ReturnsInHanded {} Try.checked os 6 .any (Rows.fnExactBestTakeSpec.pre6 enc Try.prog Try.f6 Rows.fnExactBestTakeRow.domain false) (Rows.fnExactBestTakeSpec.post enc Try.prog Try.f6 false true false false) := by
  refine returnsInHanded_of_change_sized (C := Try.checked) own started (by kernel_rfl) Try.func6
    (ChangeSpec.witness6 (enc := enc) (C := Try.checked) false ⟨#[], #[.slice none 0 0], []⟩ 8 (by kernel_rfl) (by kernel_rfl) (by kernel_rfl) (by kernel_rfl)) ?_
  intro W base args ds gs before hval0 hW hcnd hsz0 _
  have hsz : (DataW.weightsEach Try.prog (Try.f6.params.toList ++ Rows.fnExactBestTakeSpec.plain.varTypes Try.prog) (ds ++ gs)).all (· ≤ reachBytes) = true := hsz0
  have hval : ∀ (j : Nat) t v, Try.f6.params[j]? = some t → args[j]? = some v → Value.okWide Try.prog W .any base t v := hval0
  have hW' := hW
  obtain ⟨p, q, hA0, hV, rfl, hfz, hnd⟩ := hW
  have hA : DataW.TrodAll enc Try.prog W 0 (fun _ => true) true Try.f6.params.toList args.toList ds p := hA0
  rw [Try.params6] at hA hval hsz
  obtain ⟨v0, vs0, d0, ds0, p0, q0, hargs, rfl, rfl, h0, r0⟩ := trodAll_cons hA
  obtain ⟨rfl, rfl, rfl⟩ := trodAll_nil r0
  obtain rfl : args = #[v0] := by cases args; simp_all
  obtain ⟨rfl, rfl⟩ := trodVars_none hV
  have k0 := h0
  have lt0 : ∀ x ∈ p0, x.block < W.heap.size := by obtain ⟨m, hm⟩ := k0; exact DataW.trod_lt m _ _ _ hm
  obtain ⟨A0, l0, c0, rfl, hc0, hr0, ok0⟩ := (op27).slice_arg Try.underlying27 hsz (j := 0) (t := 27) rfl rfl (hval 0 27 v0 rfl rfl) h0
  clear hA0 hval0 hsz0 hsz
  obtain ⟨k, h⟩ := Pure.FnExactBestTake l0 ok0
  refine (QFnExactBestTake.laws_FnExactBestTake.calls k A0 c0 l0 true W hr0 hc0 h).mono fun e W' ⟨he, bel0⟩ => ?_
  have bel : Below W.heap.size W W' := bel0
  subst he
  exact ⟨_, rfl, _, _, _, [], _, [], hW', trodAll_mk1 (shut_bool Try.underlying4 _), (trodAll_cons_mk (Below.trod laidOut (by kernel_rfl) (of_decide_eq_true (by kernel_rfl)) k0 bel lt0) trodAll_mk0), rfl, bel.frame _, fun h => by cases h⟩
theorem over : Rows.fnExactBestTakeRow.holds Try.pinned (OpenSpec.ofChange Rows.fnExactBestTakeSpec) :=
  OpenClaim.holds_of_wide 6 Try.f6 rfl rfl rfl rfl rfl rfl rfl ⟨rfl, rfl, rfl, rfl, rfl⟩ rfl rfl rfl rfl rfl (by kernel_rfl) Try.func6 (by kernel_rfl)
    (of_decide_eq_true (by kernel_rfl)) (by unfold Func.isWrapper; first | (rw [if_pos (by decide +kernel)]; kernel_rfl) | (rw [if_neg (by decide +kernel)]; exact ⟨rfl, rfl⟩))
    (fun os started H enc _ => lifted os started H enc)
theorem proved : Rows.FnExactBestTakeSaid := over
#print axioms proved
end Go.Proofs.Ytffblbkhnmlcbaa.fnExactBestTake
namespace Go.Proofs.Ytffblbkhnmlcbaa
/-- The row, under a short name, for the claim. -/
theorem fnExactBestTake_holds : Rows.FnExactBestTakeSaid := fnExactBestTake.proved
end Go.Proofs.Ytffblbkhnmlcbaa
