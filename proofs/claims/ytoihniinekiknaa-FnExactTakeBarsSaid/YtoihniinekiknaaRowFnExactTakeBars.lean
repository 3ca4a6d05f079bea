/- The row of the law FnExactTakeBars: for every input it returns true; out of the plain statement (YtoihniinekiknaaPureFnExactTakeBars) and the printed contract; no conditions. -/
import Derived.Test.YtoihniinekiknaaRows
import Derived.Test.YtoihniinekiknaaOFnExactTakeBars
import Derived.Test.YtoihniinekiknaaQFnExactTakeBarsx12
import Derived.Test.YtoihniinekiknaaPureFnExactTakeBars
import Derived.WalkKit
import Derived.ProofKit
import Derived.OpenShut
import Derived.ShutString
import Derived.ChangeOld
import Derived.Below
import Derived.SizedLaws
namespace Go.Proofs.Ytoihniinekiknaa.fnExactTakeBars
open Go.ChangeShapes Go.WideShapes Go.ChangeAt Go.RowKit
open Go.ChangeMaps (open_string shut_string)
open Go.Proofs.YtoihniinekiknaaW.PrintWords Go.Proofs.Ytoihniinekiknaa.QFnExactTakeBars
set_option linter.unusedVariables false
theorem own : ownKnob Try.prog.godebug = none := by kernel_rfl
theorem laidOut : laidOutB Try.prog = true := by kernel_rfl
theorem op3 : Op.Opens Try.prog 3 (Kd.int .i64) (fun x => (Lit.int .i64 x).wf = true) := Op.opens_int Try.underlying3
theorem op62 : Op.Opens Try.prog 62 k62 (fun x => ((Lit.int .i64 x.f0).wf = true) ∧ ((Lit.int .i64 x.f1).wf = true) ∧ ((Lit.int .i64 x.f2).wf = true) ∧ ((Lit.int .i64 x.f3).wf = true)) := (Op.opens_struct (d := _) Try.underlying62 (by kernel_rfl) _ (fun y => ⟨y.1, y.2.1, y.2.2.1, y.2.2.2⟩) (fun _ => rfl) (Op.OpensAt.cons _ rfl rfl (by kernel_rfl) op3 (Op.OpensAt.cons _ rfl rfl (by kernel_rfl) op3 (Op.OpensAt.cons _ rfl rfl (by kernel_rfl) op3 (Op.OpensAt.last _ rfl rfl (by kernel_rfl) op3))))).imp (fun y h => h)
theorem op22 : Op.Opens Try.prog 22 (Kd.slice 62 k62) (fun x => x.length ≤ maxLen ∧ x.length * 32 ≤ 140737488351232 ∧ ∀ x' ∈ x, ((Lit.int .i64 x'.f0).wf = true) ∧ ((Lit.int .i64 x'.f1).wf = true) ∧ ((Lit.int .i64 x'.f2).wf = true) ∧ ((Lit.int .i64 x'.f3).wf = true)) := (Op.opens_slice (d := k62) (B := 32) Try.underlying22 (by kernel_rfl) (by kernel_rfl) op62).imp (fun y h => h)
theorem opv24 : Op.Opens Try.prog 24 (Kd.iso (Kd.pair (Kd.int .i64) (Kd.int .i64)) (fun x => x)) (fun x => ((Lit.int .i64 x.1).wf = true) ∧ ((Lit.int .i64 x.2).wf = true)) := (Op.opens_struct (d := _) Try.underlying24 (by kernel_rfl) (fun x => x) (fun x => x) (fun _ => rfl) (Op.OpensAt.cons _ rfl rfl (by kernel_rfl) op3 (Op.OpensAt.last _ rfl rfl (by kernel_rfl) op3))).imp (fun y h => h)
theorem op35 : Op.Opens Try.prog 35 (Kd.slice 3 (Kd.int .i64)) (fun x => x.length ≤ maxLen ∧ x.length * 8 ≤ 140737488351232 ∧ ∀ x' ∈ x, (Lit.int .i64 x').wf = true) := (Op.opens_slice (d := (Kd.int .i64)) (B := 8) Try.underlying35 (by kernel_rfl) (by kernel_rfl) op3).imp (fun y h => h)
set_option maxRecDepth 100000 in
theorem lifted (os : Os) (started : os.Started) (H : Type) (enc : TypeId × Value → H) :
    ReturnsInHanded {} Try.checked os 7 .any (Rows.fnExactTakeBarsSpec.pre6 enc Try.prog Try.f7 Rows.fnExactTakeBarsRow.domain false) (Rows.fnExactTakeBarsSpec.post enc Try.prog Try.f7 false true false false) := by
  refine returnsInHanded_of_change_sized (C := Try.checked) own started (by kernel_rfl) Try.func7
    (ChangeSpec.witness6 (enc := enc) (C := Try.checked) false ⟨#[], #[.slice none 0 0, .slice none 0 0, .agg #[.int .i64 0, .int .i64 0], .slice none 0 0], []⟩ 8 (by kernel_rfl) (by kernel_rfl) (by kernel_rfl) (by kernel_rfl)) ?_
  intro W base args ds gs before hval0 hW hcnd hsz0 _
  have hsz : (DataW.weightsEach Try.prog (Try.f7.params.toList ++ Rows.fnExactTakeBarsSpec.plain.varTypes Try.prog) (ds ++ gs)).all (· ≤ reachBytes) = true := hsz0
  have hval : ∀ (j : Nat) t v, Try.f7.params[j]? = some t → args[j]? = some v → Value.okWide Try.prog W .any base t v := hval0
  have hW' := hW
  obtain ⟨p, q, hA0, hV, rfl, hfz, hnd⟩ := hW
  have hA : DataW.TrodAll enc Try.prog W 0 (fun _ => true) true Try.f7.params.toList args.toList ds p := hA0
  rw [Try.params7] at hA hval hsz
  obtain ⟨v0, vs0, d0, ds0, p0, q0, hargs, rfl, rfl, h0, r0⟩ := trodAll_cons hA
  obtain ⟨v1, vs1, d1, ds1, p1, q1, rfl, rfl, rfl, h1, r1⟩ := trodAll_cons r0
  obtain ⟨v2, vs2, d2, ds2, p2, q2, rfl, rfl, rfl, h2, r2⟩ := trodAll_cons r1
  obtain ⟨v3, vs3, d3, ds3, p3, q3, rfl, rfl, rfl, h3, r3⟩ := trodAll_cons r2
  obtain ⟨rfl, rfl, rfl⟩ := trodAll_nil r3
  obtain rfl : args = #[v0, v1, v2, v3] := by cases args; simp_all
  obtain ⟨rfl, rfl⟩ := trodVars_none hV
  have k0 := h0
  have lt0 : ∀ x ∈ p0, x.block < W.heap.size := by obtain ⟨m, hm⟩ := k0; exact DataW.trod_lt m _ _ _ hm
  obtain ⟨A0, l0, c0, rfl, hc0, hr0, ok0⟩ := (op22).slice_arg Try.underlying22 hsz (j := 0) (t := 22) rfl rfl (hval 0 22 v0 rfl rfl) h0
  have k1 := h1
  have lt1 : ∀ x ∈ p1, x.block < W.heap.size := by obtain ⟨m, hm⟩ := k1; exact DataW.trod_lt m _ _ _ hm
  obtain ⟨A1, l1, c1, rfl, hc1, hr1, ok1⟩ := (op22).slice_arg Try.underlying22 hsz (j := 1) (t := 22) rfl rfl (hval 1 22 v1 rfl rfl) h1
  have k2 := h2
  have lt2 : ∀ x ∈ p2, x.block < W.heap.size := by obtain ⟨m, hm⟩ := k2; exact DataW.trod_lt m _ _ _ hm
  obtain ⟨⟨a2_0, a2_1⟩, cs2, rfl, hK2, ⟨o2_0, o2_1⟩⟩ := (opv24).agg_arg Try.underlying24 hsz (j := 2) (t := 24) rfl rfl (hval 2 24 v2 rfl rfl) h2
  obtain ⟨_, _, rfl, rfl, rfl⟩ := hK2
  have k3 := h3
  have lt3 : ∀ x ∈ p3, x.block < W.heap.size := by obtain ⟨m, hm⟩ := k3; exact DataW.trod_lt m _ _ _ hm
  obtain ⟨A3, l3, c3, rfl, hc3, hr3, ok3⟩ := (op35).slice_arg Try.underlying35 hsz (j := 3) (t := 35) rfl rfl (hval 3 35 v3 rfl rfl) h3
  clear hA0 hval0 hsz0 hsz
  obtain ⟨k, h⟩ := Pure.FnExactTakeBars l0 l1 a2_0 a2_1 l3 ok0 ok1 o2_0 o2_1 ok3
  refine (QFnExactTakeBars.laws_FnExactTakeBars.calls k A0 c0 l0 A1 c1 l1 a2_0 a2_1 A3 c3 l3 true W hr0 hc0 hr1 hc1 hr3 hc3 h).mono fun e W' ⟨he, bel0⟩ => ?_
  have bel : Below W.heap.size W W' := bel0
  subst he
  exact ⟨_, rfl, _, _, _, [], _, [], hW', trodAll_mk1 (shut_bool Try.underlying4 _), (trodAll_cons_mk (Below.trod laidOut (by kernel_rfl) (of_decide_eq_true (by kernel_rfl)) k0 bel lt0) (trodAll_cons_mk (Below.trod laidOut (by kernel_rfl) (of_decide_eq_true (by kernel_rfl)) k1 bel lt1) (trodAll_cons_mk (Below.trod laidOut (by kernel_rfl) (of_decide_eq_true (by kernel_rfl)) k2 bel lt2) (trodAll_cons_mk (Below.trod laidOut (by kernel_rfl) (of_decide_eq_true (by kernel_rfl)) k3 bel lt3) trodAll_mk0)))), rfl, bel.frame _, fun h => by cases h⟩
theorem over : Rows.fnExactTakeBarsRow.holds Try.pinned (OpenSpec.ofChange Rows.fnExactTakeBarsSpec) :=
  OpenClaim.holds_of_wide 7 Try.f7 rfl rfl rfl rfl rfl rfl rfl ⟨rfl, rfl, rfl, rfl, rfl⟩ rfl rfl rfl rfl rfl (by kernel_rfl) Try.func7 (by kernel_rfl)
    (of_decide_eq_true (by kernel_rfl)) (by unfold Func.isWrapper; first | (rw [if_pos (by decide +kernel)]; kernel_rfl) | (rw [if_neg (by decide +kernel)]; exact ⟨rfl, rfl⟩))
    (fun os started H enc _ => lifted os started H enc)
theorem proved : Rows.FnExactTakeBarsSaid := over
#print axioms proved
end Go.Proofs.Ytoihniinekiknaa.fnExactTakeBars
namespace Go.Proofs.Ytoihniinekiknaa
/-- The row, under a short name, for the claim. -/
theorem fnExactTakeBars_holds : Rows.FnExactTakeBarsSaid := fnExactTakeBars.proved
end Go.Proofs.Ytoihniinekiknaa
