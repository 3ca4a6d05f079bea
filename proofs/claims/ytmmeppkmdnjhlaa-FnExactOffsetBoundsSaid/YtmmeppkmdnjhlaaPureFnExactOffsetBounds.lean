/- The plain statement of the law FnExactOffsetBounds: what its printed function answers; no conditions but that the numbers are Go's ints and the slices no longer than memory. -/
import Derived.Test.YtmmeppkmdnjhlaaPFnExactOffsetBoundsx1
set_option linter.unusedVariables false
set_option linter.unusedSimpArgs false
namespace Go.Proofs.Ytmmeppkmdnjhlaa.Pure
open Go.RowKit Go.Proofs.Ytmmeppkmdnjhlaa.PFnExactOffsetBounds Go.Proofs.YtmmeppkmdnjhlaaW.PrintWords Go.Proofs.YtmmeppkmdnjhlaaW.PrintLast Go.Proofs.YtmmeppkmdnjhlaaW.PrintMore

theorem wf64 {x : Int} (h : (Lit.int .i64 x).wf = true) : -9223372036854775808 ≤ x ∧ x ≤ 9223372036854775807 := by
  simp only [Lit.wf, IntKind.min, IntKind.max, IntKind.signed, IntKind.bits, Bool.and_eq_true, decide_eq_true_eq, if_true] at h
  omega

theorem w64 {x : Int} (h1 : -9223372036854775808 ≤ x) (h2 : x ≤ 9223372036854775807) : wrap64 x = x := by
  unfold wrap64
  omega

theorem w64_nat (i : Nat) (h : i ≤ 9223372036854775806) : wrap64 ((i : Int) + 1) = ((i + 1 : Nat) : Int) := by
  unfold wrap64
  omega

theorem drop_cons {α : Type} (l : List α) (i : Nat) (h : i < l.length) : l.drop i = l[i] :: l.drop (i + 1) := List.drop_eq_getElem_cons h

theorem set_take {β : Type} (x : List β) (i : Nat) (v : β) (h : i < x.length) : (x.set i v).take (i + 1) = x.take i ++ [v] := by
  apply List.ext_getElem?
  intro j
  rcases Nat.lt_trichotomy j i with hj | hj | hj
  · rw [List.getElem?_take_of_lt (by omega), List.getElem?_set_ne (by omega), List.getElem?_append_left (by simp; omega), List.getElem?_take_of_lt (by omega)]
  · subst hj
    rw [List.getElem?_take_of_lt (by omega), List.getElem?_set_self (by omega), List.getElem?_append_right (by simp; omega)]
    simp [Nat.min_eq_left (Nat.le_of_lt h)]
  · rw [List.getElem?_take_eq_none (by omega), List.getElem?_append_right (by simp; omega)]
    simp
    omega

theorem copyLoop {α β : Type} (F : Nat → List β → Int → Option (List β)) (x0 : List α) (cv : α → β)
    (h1 : ∀ (x3 : List β) (i : Nat) (r : List β) (hi : i < x0.length), x3.length = x0.length → Ev (fun k => F k (x3.set i (cv x0[i])) ((i + 1 : Nat) : Int)) r → Ev (fun k => F k x3 (i : Int)) r)
    (h2 : ∀ x3 : List β, Ev (fun k => F k x3 (x0.length : Int)) x3) (init : List β) (hl : init.length = x0.length) : Ev (fun k => F k init 0) (x0.map cv) := by
  have key : ∀ (d i : Nat) (x3 : List β), i + d = x0.length → x3.length = x0.length → x3.take i = (x0.map cv).take i → Ev (fun k => F k x3 (i : Int)) (x0.map cv) := by
    intro d
    induction d with
    | zero =>
      intro i x3 hi hx ht
      obtain rfl : i = x0.length := by omega
      have e : x3 = x0.map cv := by
        rw [← hx, List.take_length] at ht
        rw [ht, hx]
        exact List.take_of_length_le (by simp)
      have := h2 x3
      rw [e] at this
      rw [e]
      exact this
    | succ d ih =>
      intro i x3 hi hx ht
      have hlt : i < x0.length := by omega
      refine h1 x3 i _ hlt hx (ih (i + 1) _ (by omega) (by rw [List.length_set]; exact hx) ?_)
      rw [set_take x3 i _ (by omega), ht]
      rw [List.take_succ_eq_append_getElem (by simpa using hlt)]
      simp
  have := key x0.length 0 init (by omega) hl (by simp)
  exact this

theorem eqLoop {α : Type} (F : Nat → Int → Option Bool) (x0 : List α)
    (h1 : ∀ (i : Nat) (r : Bool) (_ : i < x0.length), Ev (fun k => F k ((i + 1 : Nat) : Int)) r → Ev (fun k => F k (i : Int)) r)
    (h2 : Ev (fun k => F k (x0.length : Int)) true) : Ev (fun k => F k 0) true := by
  have key : ∀ (d i : Nat), i + d = x0.length → Ev (fun k => F k (i : Int)) true := by
    intro d
    induction d with
    | zero =>
      intro i hi
      obtain rfl : i = x0.length := by omega
      exact h2
    | succ d ih =>
      intro i hi
      exact h1 i true (by omega) (ih (i + 1) (by omega))
  exact key x0.length 0 (by omega)

theorem ite_eq_of {α : Type} {p : Prop} [Decidable p] {a b : α} (h : p) : (if p then a else b) = a := if_pos h

theorem Ev.one {α : Type} {g : Nat → Option α} {r : α} (h : ∀ k, g (k + 1) = some r) : Ev g r := Ev.step (f := fun _ => some r) h (Ev.now r)

theorem l1In_eq (a b c : Int) : spec_l1In.f a b c = some (decide (b ≤ a ∧ a ≤ c)) := by
  unfold spec_l1In.f
  split <;> simp <;> omega

theorem inRange_eq (a b c : Int) : impl_InRange.f a b c = some (decide (b ≤ a ∧ a ≤ c)) := by
  unfold impl_InRange.f
  split <;> simp <;> omega

def pingOk (a b c : Int) : Bool := decide (0 ≤ a ∧ a ≤ c ∧ c ≤ 10000000 ∧ 0 ≤ b ∧ b ≤ 10000000)

theorem pingOk_iff {a b c : Int} (h : pingOk a b c = true) : 0 ≤ a ∧ a ≤ c ∧ c ≤ 10000000 ∧ 0 ≤ b ∧ b ≤ 10000000 := by
  simpa [pingOk] using h

theorem spec_isPing (a b c : Int) : spec_IsPing.f a b c = some (pingOk a b c) := by
  simp only [spec_IsPing.f, l1In_eq, Option.bind_some, decide_eq_true_eq, pingOk]
  repeat' split
  all_goals (simp only [Option.some.injEq, decide_eq_decide, Bool.false_eq, decide_eq_false_iff_not] <;> omega)

theorem impl_isPing (a b c : Int) : impl_IsPing.f a b c = some (pingOk a b c) := by
  simp only [impl_IsPing.f, inRange_eq, Option.bind_some, decide_eq_true_eq, pingOk]
  repeat' split
  all_goals (simp only [Option.some.injEq, decide_eq_decide, Bool.false_eq, decide_eq_false_iff_not] <;> omega)

theorem spec_offset (a b c : Int) : spec_OffsetBounds.f a b c = some (if pingOk a b c = true then (b - c, b - a) else (1, 0)) := by
  simp only [spec_OffsetBounds.f, spec_isPing, Option.bind_some]
  split
  · rename_i h
    have := pingOk_iff h
    rw [w64 (by omega) (by omega), w64 (by omega) (by omega)]
  · rfl

theorem impl_offset (a b c : Int) : impl_OffsetBounds.f a b c = some (if pingOk a b c = true then (b - c, b - a) else (1, 0)) := by
  simp only [impl_OffsetBounds.f, impl_isPing, Option.bind_some]
  split
  · rename_i h
    have := pingOk_iff h
    rw [w64 (by omega) (by omega), w64 (by omega) (by omega)]
  · rfl

theorem FnExactOffsetBounds : ∀ (a0_0 : Int) (a0_1 : Int) (a0_2 : Int), ((Lit.int .i64 a0_0).wf = true) → ((Lit.int .i64 a0_1).wf = true) → ((Lit.int .i64 a0_2).wf = true) → laws_FnExactOffsetBounds.f a0_0 a0_1 a0_2 = some true := by
  intro a b c _ _ _
  simp only [laws_FnExactOffsetBounds.f, laws_toPing.f, spec_offset, impl_offset, Option.bind_some, if_true]

end Go.Proofs.Ytmmeppkmdnjhlaa.Pure
