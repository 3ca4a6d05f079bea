/- The row of the law FnExactArePassages: for every input it returns true; out of the plain statement (YtddpogakdagojaaPureFnExactArePassages) and the printed contract; no conditions. -/
import Derived.Test.YtddpogakdagojaaRows
import Derived.Test.YtddpogakdagojaaOp
import Derived.Test.YtddpogakdagojaaQFnExactArePassagesx3
import Derived.Test.YtddpogakdagojaaPureFnExactArePassages
import Derived.WalkKit
import Derived.ProofKit
import Derived.OpenShut
import Derived.ShutString
import Derived.ChangeOld
import Derived.Below
import Derived.SizedLaws
namespace Go.Proofs.Ytddpogakdagojaa.fnExactArePassages
open Go.ChangeShapes Go.WideShapes Go.ChangeAt Go.RowKit
open Go.ChangeMaps (open_string shut_string)
open Go.Proofs.YtddpogakdagojaaW.PrintWords Go.Proofs.Ytddpogakdagojaa.QFnExactArePassages
set_option linter.unusedVariables false
theorem own : ownKnob Try.prog.godebug = none := by kernel_rfl
theorem laidOut : laidOutB Try.prog = true := by kernel_rfl
theorem op3 : Op.Opens Try.prog 3 (Kd.int .i64) (fun x => (Lit.int .i64 x).wf = true) := Op.opens_int Try.underlying3
theorem op36 : Op.Opens Try.prog 36 (Kd.slice 3 (Kd.int .i64)) (fun x => x.length ≤ maxLen ∧ x.length * 8 ≤ 140737488351232 ∧ ∀ x' ∈ x, (Lit.int .i64 x').wf = true) := (Op.opens_slice (d := (Kd.int .i64)) (B := 8) Try.underlying36 (by kernel_rfl) (by kernel_rfl) op3).imp (fun y h => h)
theorem op70 : Op.Opens Try.prog 70 k70 (fun x => ((Lit.int .i64 x.f0).wf = true) ∧ (x.f1.length ≤ maxLen ∧ x.f1.length * 8 ≤ 140737488351232 ∧ ∀ x_f1' ∈ x.f1, (Lit.int .i64 x_f1').wf = true)) := (Op.opens_struct (d := _) Try.underlying70 (by kernel_rfl) _ (fun y => ⟨y.1, y.2⟩) (fun _ => rfl) (Op.OpensAt.cons _ rfl rfl (by kernel_rfl) op3 (Op.OpensAt.last _ rfl rfl (by kernel_rfl) op36))).imp (fun y h => h)
theorem op29 : Op.Opens Try.prog 29 (Kd.slice 70 k70) (fun x => x.length ≤ maxLen ∧ x.length * 32 ≤ 140737488351232 ∧ ∀ x' ∈ x, ((Lit.int .i64 x'.f0).wf = true) ∧ (x'.f1.length ≤ maxLen ∧ x'.f1.length * 8 ≤ 140737488351232 ∧ ∀ x'_f1' ∈ x'.f1, (Lit.int .i64 x'_f1').wf = true)) := (Op.opens_slice (d := k70) (B := 32) Try.underlying29 (by kernel_rfl) (by kernel_rfl) op70).imp (fun y h => h)
set_option maxRecDepth 100000 in
theorem lifted (os : Os) (started : os.Started) (H : Type) (enc : TypeId × Value → H) :
    ReturnsInHanded {} Try.checked os 4 .any (Rows.fnExactArePassagesSpec.pre6 enc Try.prog Try.f4 Rows.fnExactArePassagesRow.domain false) (Rows.fnExactArePassagesSpec.post enc Try.prog Try.f4 false true false false) := by
  refine returnsInHanded_of_change_sized (C := Try.checked) own started (by kernel_rfl) Try.func4
    (ChangeSpec.witness6 (enc := enc) (C := Try.checked) false ⟨#[], #[.slice none 0 0], []⟩ 8 (by kernel_rfl) (by kernel_rfl) (by kernel_rfl) (by kernel_rfl)) ?_
  intro W base args ds gs before hval0 hW hcnd hsz0 _
  have hsz : (DataW.weightsEach Try.prog (Try.f4.params.toList ++ Rows.fnExactArePassagesSpec.plain.varTypes Try.prog) (ds ++ gs)).all (· ≤ reachBytes) = true := hsz0
  have hval : ∀ (j : Nat) t v, Try.f4.params[j]? = some t → args[j]? = some v → Value.okWide Try.prog W .any base t v := hval0
  have hW' := hW
  obtain ⟨p, q, hA0, hV, rfl, hfz, hnd⟩ := hW
  have hA : DataW.TrodAll enc Try.prog W 0 (fun _ => true) true Try.f4.params.toList args.toList ds p := hA0
  rw [Try.params4] at hA hval hsz
  obtain ⟨v0, vs0, d0, ds0, p0, q0, hargs, rfl, rfl, h0, r0⟩ := trodAll_cons hA
  obtain ⟨rfl, rfl, rfl⟩ := trodAll_nil r0
  obtain rfl : args = #[v0] := by cases args; simp_all
  obtain ⟨rfl, rfl⟩ := trodVars_none hV
  have k0 := h0
  have lt0 : ∀ x ∈ p0, x.block < W.heap.size := by obtain ⟨m, hm⟩ := k0; exact DataW.trod_lt m _ _ _ hm
  obtain ⟨A0, l0, c0, rfl, hc0, hr0, ok0⟩ := (op29).slice_arg Try.underlying29 hsz (j := 0) (t := 29) rfl rfl (hval 0 29 v0 rfl rfl) h0
  clear hA0 hval0 hsz0 hsz
  obtain ⟨k, h⟩ := Pure.FnExactArePassages l0 ok0
  refine (QFnExactArePassages.laws_FnExactArePassages.calls k A0 c0 l0 true W hr0 hc0 h).mono fun e W' ⟨he, bel0⟩ => ?_
  have bel : Below W.heap.size W W' := bel0
  subst he
  exact ⟨_, rfl, _, _, _, [], _, [], hW', trodAll_mk1 (shut_bool Try.underlying4 _), (trodAll_cons_mk (Below.trod laidOut (by kernel_rfl) (of_decide_eq_true (by kernel_rfl)) k0 bel lt0) trodAll_mk0), rfl, bel.frame _, fun h => by cases h⟩
theorem over : Rows.fnExactArePassagesRow.holds Try.pinned (OpenSpec.ofChange Rows.fnExactArePassagesSpec) :=
  OpenClaim.holds_of_wide 4 Try.f4 rfl rfl rfl rfl rfl rfl rfl ⟨rfl, rfl, rfl, rfl, rfl⟩ rfl rfl rfl rfl rfl (by kernel_rfl) Try.func4 (by kernel_rfl)
    (of_decide_eq_true (by kernel_rfl)) (by unfold Func.isWrapper; first | (rw [if_pos (by decide +kernel)]; kernel_rfl) | (rw [if_neg (by decide +kernel)]; exact ⟨rfl, rfl⟩))
    (fun os started H enc _ => lifted os started H enc)
theorem proved : Rows.FnExactArePassagesSaid := over
#print axioms proved
end Go.Proofs.Ytddpogakdagojaa.fnExactArePassages
namespace Go.Proofs.Ytddpogakdagojaa
/-- The row, under a short name, for the claim. -/
theorem fnExactArePassages_holds : Rows.FnExactArePassagesSaid := fnExactArePassages.proved
end Go.Proofs.Ytddpogakdagojaa
