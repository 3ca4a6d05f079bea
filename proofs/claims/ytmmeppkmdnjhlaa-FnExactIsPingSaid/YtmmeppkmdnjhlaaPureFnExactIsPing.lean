/- The plain statement of the law FnExactIsPing: what its printed function answers; no conditions but that the numbers are Go's ints. -/
import Derived.Test.YtmmeppkmdnjhlaaPFnExactIsPingx1
namespace Go.Proofs.Ytmmeppkmdnjhlaa.Pure
open Go.RowKit Go.Proofs.Ytmmeppkmdnjhlaa.PFnExactIsPing Go.Proofs.YtmmeppkmdnjhlaaW.PrintWords Go.Proofs.YtmmeppkmdnjhlaaW.PrintLast

theorem l1In_eq (a b c : Int) : spec_l1In.f a b c = some (decide (b ≤ a ∧ a ≤ c)) := by
  unfold spec_l1In.f
  split <;> simp <;> omega

theorem inRange_eq (a b c : Int) : impl_InRange.f a b c = some (decide (b ≤ a ∧ a ≤ c)) := by
  unfold impl_InRange.f
  split <;> simp <;> omega

theorem FnExactIsPing : ∀ (a0_0 : Int) (a0_1 : Int) (a0_2 : Int), ((Lit.int .i64 a0_0).wf = true) → ((Lit.int .i64 a0_1).wf = true) → ((Lit.int .i64 a0_2).wf = true) → laws_FnExactIsPing.f a0_0 a0_1 a0_2 = some true := by
  intro a b c _ _ _
  simp only [laws_FnExactIsPing.f, laws_toPing.f, spec_IsPing.f, impl_IsPing.f, l1In_eq, inRange_eq, Option.bind_some, decide_eq_true_eq]
  repeat' split
  all_goals (simp_all <;> omega)

end Go.Proofs.Ytmmeppkmdnjhlaa.Pure
