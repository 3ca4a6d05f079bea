/- The row of the law FnExactCalledIn: for every input it returns true; out of the plain statement (YtddpogakdagojaaPureFnExactCalledIn) and the printed contract; no conditions. -/
import Derived.Test.YtddpogakdagojaaRows
import Derived.Test.YtddpogakdagojaaOFnExactCalledIn
import Derived.Test.YtddpogakdagojaaQFnExactCalledInx5
import Derived.Test.YtddpogakdagojaaPureFnExactCalledIn
import Derived.WalkKit
import Derived.ProofKit
import Derived.OpenShut
import Derived.ShutString
import Derived.ChangeOld
import Derived.Below
import Derived.SizedLaws
namespace Go.Proofs.Ytddpogakdagojaa.fnExactCalledIn
open Go.ChangeShapes Go.WideShapes Go.ChangeAt Go.RowKit
open Go.ChangeMaps (open_string shut_string)
open Go.Proofs.YtddpogakdagojaaW.PrintWords Go.Proofs.Ytddpogakdagojaa.QFnExactCalledIn
set_option linter.unusedVariables false
theorem own : ownKnob Try.prog.godebug = none := by kernel_rfl
theorem laidOut : laidOutB Try.prog = true := by kernel_rfl
theorem op3 : Op.Opens Try.prog 3 (Kd.int .i64) (fun x => (Lit.int .i64 x).wf = true) := Op.opens_int Try.underlying3
theorem op36 : Op.Opens Try.prog 36 (Kd.slice 3 (Kd.int .i64)) (fun x => x.length ≤ maxLen ∧ x.length * 8 ≤ 140737488351232 ∧ ∀ x' ∈ x, (Lit.int .i64 x').wf = true) := (Op.opens_slice (d := (Kd.int .i64)) (B := 8) Try.underlying36 (by kernel_rfl) (by kernel_rfl) op3).imp (fun y h => h)
theorem op70 : Op.Opens Try.prog 70 k70 (fun x => ((Lit.int .i64 x.f0).wf = true) ∧ (x.f1.length ≤ maxLen ∧ x.f1.length * 8 ≤ 140737488351232 ∧ ∀ x_f1' ∈ x.f1, (Lit.int .i64 x_f1').wf = true)) := (Op.opens_struct (d := _) Try.underlying70 (by kernel_rfl) _ (fun y => ⟨y.1, y.2⟩) (fun _ => rfl) (Op.OpensAt.cons _ rfl rfl (by kernel_rfl) op3 (Op.OpensAt.last _ rfl rfl (by kernel_rfl) op36))).imp (fun y h => h)
theorem op29 : Op.Opens Try.prog 29 (Kd.slice 70 k70) (fun x => x.length ≤ maxLen ∧ x.length * 32 ≤ 140737488351232 ∧ ∀ x' ∈ x, ((Lit.int .i64 x'.f0).wf = true) ∧ (x'.f1.length ≤ maxLen ∧ x'.f1.length * 8 ≤ 140737488351232 ∧ ∀ x'_f1' ∈ x'.f1, (Lit.int .i64 x'_f1').wf = true)) := (Op.opens_slice (d := k70) (B := 32) Try.underlying29 (by kernel_rfl) (by kernel_rfl) op70).imp (fun y h => h)
set_option maxRecDepth 100000 in
theorem lifted (os : Os) (started : os.Started) (H : Type) (enc : TypeId × Value → H) :
    ReturnsInHanded {} Try.checked os 8 .any (Rows.fnExactCalledInSpec.pre6 enc Try.prog Try.f8 Rows.fnExactCalledInRow.domain false) (Rows.fnExactCalledInSpec.post enc Try.prog Try.f8 false true false false) := by
  refine returnsInHanded_of_change_sized (C := Try.checked) own started (by kernel_rfl) Try.func8
    (ChangeSpec.witness6 (enc := enc) (C := Try.checked) false ⟨#[], #[.slice none 0 0, .slice none 0 0, .int .i64 0], []⟩ 8 (by kernel_rfl) (by kernel_rfl) (by kernel_rfl) (by kernel_rfl)) ?_
  intro W base args ds gs before hval0 hW hcnd hsz0 _
  have hsz : (DataW.weightsEach Try.prog (Try.f8.params.toList ++ Rows.fnExactCalledInSpec.plain.varTypes Try.prog) (ds ++ gs)).all (· ≤ reachBytes) = true := hsz0
  have hval : ∀ (j : Nat) t v, Try.f8.params[j]? = some t → args[j]? = some v → Value.okWide Try.prog W .any base t v := hval0
  have hW' := hW
  obtain ⟨p, q, hA0, hV, rfl, hfz, hnd⟩ := hW
  have hA : DataW.TrodAll enc Try.prog W 0 (fun _ => true) true Try.f8.params.toList args.toList ds p := hA0
  rw [Try.params8] at hA hval hsz
  obtain ⟨v0, vs0, d0, ds0, p0, q0, hargs, rfl, rfl, h0, r0⟩ := trodAll_cons hA
  obtain ⟨v1, vs1, d1, ds1, p1, q1, rfl, rfl, rfl, h1, r1⟩ := trodAll_cons r0
  obtain ⟨v2, vs2, d2, ds2, p2, q2, rfl, rfl, rfl, h2, r2⟩ := trodAll_cons r1
  obtain ⟨rfl, rfl, rfl⟩ := trodAll_nil r2
  obtain rfl : args = #[v0, v1, v2] := by cases args; simp_all
  obtain ⟨rfl, rfl⟩ := trodVars_none hV
  have k0 := h0
  have lt0 : ∀ x ∈ p0, x.block < W.heap.size := by obtain ⟨m, hm⟩ := k0; exact DataW.trod_lt m _ _ _ hm
  obtain ⟨A0, l0, c0, rfl, hc0, hr0, ok0⟩ := (op29).slice_arg Try.underlying29 hsz (j := 0) (t := 29) rfl rfl (hval 0 29 v0 rfl rfl) h0
  have k1 := h1
  have lt1 : ∀ x ∈ p1, x.block < W.heap.size := by obtain ⟨m, hm⟩ := k1; exact DataW.trod_lt m _ _ _ hm
  obtain ⟨A1, l1, c1, rfl, hc1, hr1, ok1⟩ := (op36).slice_arg Try.underlying36 hsz (j := 1) (t := 36) rfl rfl (hval 1 36 v1 rfl rfl) h1
  obtain ⟨a2, rfl, rfl, rfl, w2⟩ := open_int Try.underlying3 (hval 2 3 v2 rfl rfl) h2
  clear hA0 hval0 hsz0 hsz
  obtain ⟨k, h⟩ := Pure.FnExactCalledIn l0 l1 a2 ok0 ok1 w2
  refine (QFnExactCalledIn.laws_FnExactCalledIn.calls k A0 c0 l0 A1 c1 l1 a2 true W hr0 hc0 hr1 hc1 h).mono fun e W' ⟨he, bel0⟩ => ?_
  have bel : Below W.heap.size W W' := bel0
  subst he
  exact ⟨_, rfl, _, _, _, [], _, [], hW', trodAll_mk1 (shut_bool Try.underlying4 _), (trodAll_cons_mk (Below.trod laidOut (by kernel_rfl) (of_decide_eq_true (by kernel_rfl)) k0 bel lt0) (trodAll_cons_mk (Below.trod laidOut (by kernel_rfl) (of_decide_eq_true (by kernel_rfl)) k1 bel lt1) (trodAll_cons_mk (shut_int Try.underlying3 w2) trodAll_mk0))), rfl, bel.frame _, fun h => by cases h⟩
theorem over : Rows.fnExactCalledInRow.holds Try.pinned (OpenSpec.ofChange Rows.fnExactCalledInSpec) :=
  OpenClaim.holds_of_wide 8 Try.f8 rfl rfl rfl rfl rfl rfl rfl ⟨rfl, rfl, rfl, rfl, rfl⟩ rfl rfl rfl rfl rfl (by kernel_rfl) Try.func8 (by kernel_rfl)
    (of_decide_eq_true (by kernel_rfl)) (by unfold Func.isWrapper; first | (rw [if_pos (by decide +kernel)]; kernel_rfl) | (rw [if_neg (by decide +kernel)]; exact ⟨rfl, rfl⟩))
    (fun os started H enc _ => lifted os started H enc)
theorem proved : Rows.FnExactCalledInSaid := over
#print axioms proved
end Go.Proofs.Ytddpogakdagojaa.fnExactCalledIn
namespace Go.Proofs.Ytddpogakdagojaa
/-- The row, under a short name, for the claim. -/
theorem fnExactCalledIn_holds : Rows.FnExactCalledInSaid := fnExactCalledIn.proved
end Go.Proofs.Ytddpogakdagojaa
