/- The plain statement of the law FnExactEqualMarks: what its printed function answers; no conditions but that the numbers are Go's ints and the slices no longer than memory. -/
import Derived.Test.YtcmafemdcikmfaaPFnExactEqualMarksx3
set_option linter.unusedVariables false
set_option linter.unusedSimpArgs false
namespace Go.Proofs.Ytcmafemdcikmfaa.Pure
open Go.RowKit Go.Proofs.Ytcmafemdcikmfaa.PFnExactEqualMarks Go.Proofs.YtcmafemdcikmfaaW.PrintWords Go.Proofs.YtcmafemdcikmfaaW.PrintLast Go.Proofs.YtcmafemdcikmfaaW.PrintMore

theorem wf64 {x : Int} (h : (Lit.int .i64 x).wf = true) : -9223372036854775808 ≤ x ∧ x ≤ 9223372036854775807 := by
  simp only [Lit.wf, IntKind.min, IntKind.max, IntKind.signed, IntKind.bits, Bool.and_eq_true, decide_eq_true_eq, if_true] at h
  omega

theorem w64 {x : Int} (h1 : -9223372036854775808 ≤ x) (h2 : x ≤ 9223372036854775807) : wrap64 x = x := by
  unfold wrap64
  omega

theorem w64_nat (i : Nat) (h : i ≤ 9223372036854775806) : wrap64 ((i : Int) + 1) = ((i + 1 : Nat) : Int) := by
  unfold wrap64
  omega

theorem drop_cons {α : Type} (l : List α) (i : Nat) (h : i < l.length) : l.drop i = l[i] :: l.drop (i + 1) := List.drop_eq_getElem_cons h

theorem set_take {β : Type} (x : List β) (i : Nat) (v : β) (h : i < x.length) : (x.set i v).take (i + 1) = x.take i ++ [v] := by
  apply List.ext_getElem?
  intro j
  rcases Nat.lt_trichotomy j i with hj | hj | hj
  · rw [List.getElem?_take_of_lt (by omega), List.getElem?_set_ne (by omega), List.getElem?_append_left (by simp; omega), List.getElem?_take_of_lt (by omega)]
  · subst hj
    rw [List.getElem?_take_of_lt (by omega), List.getElem?_set_self (by omega), List.getElem?_append_right (by simp; omega)]
    simp [Nat.min_eq_left (Nat.le_of_lt h)]
  · rw [List.getElem?_take_eq_none (by omega), List.getElem?_append_right (by simp; omega)]
    simp
    omega

theorem copyLoop {α β : Type} (F : Nat → List β → Int → Option (List β)) (x0 : List α) (cv : α → β)
    (h1 : ∀ (x3 : List β) (i : Nat) (r : List β) (hi : i < x0.length), x3.length = x0.length → Ev (fun k => F k (x3.set i (cv x0[i])) ((i + 1 : Nat) : Int)) r → Ev (fun k => F k x3 (i : Int)) r)
    (h2 : ∀ x3 : List β, Ev (fun k => F k x3 (x0.length : Int)) x3) (init : List β) (hl : init.length = x0.length) : Ev (fun k => F k init 0) (x0.map cv) := by
  have key : ∀ (d i : Nat) (x3 : List β), i + d = x0.length → x3.length = x0.length → x3.take i = (x0.map cv).take i → Ev (fun k => F k x3 (i : Int)) (x0.map cv) := by
    intro d
    induction d with
    | zero =>
      intro i x3 hi hx ht
      obtain rfl : i = x0.length := by omega
      have e : x3 = x0.map cv := by
        rw [← hx, List.take_length] at ht
        rw [ht, hx]
        exact List.take_of_length_le (by simp)
      have := h2 x3
      rw [e] at this
      rw [e]
      exact this
    | succ d ih =>
      intro i x3 hi hx ht
      have hlt : i < x0.length := by omega
      refine h1 x3 i _ hlt hx (ih (i + 1) _ (by omega) (by rw [List.length_set]; exact hx) ?_)
      rw [set_take x3 i _ (by omega), ht]
      rw [List.take_succ_eq_append_getElem (by simpa using hlt)]
      simp
  have := key x0.length 0 init (by omega) hl (by simp)
  exact this

theorem eqLoop {α : Type} (F : Nat → Int → Option Bool) (x0 : List α)
    (h1 : ∀ (i : Nat) (r : Bool) (_ : i < x0.length), Ev (fun k => F k ((i + 1 : Nat) : Int)) r → Ev (fun k => F k (i : Int)) r)
    (h2 : Ev (fun k => F k (x0.length : Int)) true) : Ev (fun k => F k 0) true := by
  have key : ∀ (d i : Nat), i + d = x0.length → Ev (fun k => F k (i : Int)) true := by
    intro d
    induction d with
    | zero =>
      intro i hi
      obtain rfl : i = x0.length := by omega
      exact h2
    | succ d ih =>
      intro i hi
      exact h1 i true (by omega) (ih (i + 1) (by omega))
  exact key x0.length 0 (by omega)

theorem ite_eq_of {α : Type} {p : Prop} [Decidable p] {a b : α} (h : p) : (if p then a else b) = a := if_pos h

theorem Ev.one {α : Type} {g : Nat → Option α} {r : α} (h : ∀ k, g (k + 1) = some r) : Ev g r := Ev.step (f := fun _ => some r) h (Ev.now r)

theorem rdMark_get (l : List S25) (i : Nat) (h : i < l.length) : rd_T25 l (i : Int) = l[i] := by
  simp [rd_T25, List.getD, List.getElem?_eq_getElem h]

theorem rdlMark_get (l : List S23) (i : Nat) (h : i < l.length) : rd_T23 l (i : Int) = l[i] := by
  simp [rd_T23, List.getD, List.getElem?_eq_getElem h]

def cvMark (x : S23) : S25 := ⟨x.f0, x.f1, x.f2, x.f3, x.f4⟩

theorem toMarkS_ev (l : List S23) (hl : l.length ≤ 1048576) : Ev (fun k => laws_toMarkS.f k l) (l.map cvMark) := by
  have key := copyLoop (fun k x3 i => laws_toMarkS.l0 k l x3 i) l cvMark (by
    intro x3 i r hi hx h
    refine Ev.step (fun k => ?_) h
    simp only [laws_toMarkS.l0, laws_toMark.f, Option.bind_some]
    rw [if_pos (by omega), if_pos (by omega), if_pos (by omega), rdlMark_get l i hi, w64_nat i (by omega), Int.toNat_natCast]
    rfl) (by
    intro x3
    refine Ev.one (fun k => ?_)
    simp only [laws_toMarkS.l0]
    rw [if_neg (by omega)]) (List.replicate l.length z25) (by simp)
  refine Ev.congr (fun k => ?_) key
  simp only [laws_toMarkS.f, Int.toNat_natCast]
  rw [if_pos (by omega), if_pos (by omega)]

theorem eqMarkS_ev (l : List S25) (hl : l.length ≤ 140737488355328) : Ev (fun k => laws_eqMarkS.f k l l) true := by
  have key := eqLoop (fun k i => laws_eqMarkS.l0 k l l i) l (by
    intro i r hi h
    refine Ev.step (fun k => ?_) h
    simp only [laws_eqMarkS.l0, laws_eqMark.f, if_true, Option.bind_some]
    rw [if_pos (by omega), if_pos (by omega), if_pos (by omega), w64_nat i (by omega)]) (by
    refine Ev.one (fun k => ?_)
    simp only [laws_eqMarkS.l0]
    rw [if_neg (by omega)])
  refine Ev.congr (fun k => ?_) key
  simp only [laws_eqMarkS.f, if_true]

theorem szMarkS_ev (l : List S23) (b : Int) (hb : 0 ≤ b) (hb2 : b ≤ 1048576) (h0 : l.length ≤ 9223372036854775807) : laws_szMarkS.f l b = some (if b < (l.length : Int) then -1 else b - (l.length : Int)) := by
  simp only [laws_szMarkS.f]
  rw [w64 (by omega) (by omega)]
  split
  · rw [if_pos (by omega)]
  · rw [if_neg (by omega)]

def eqm (x y : S25) : Bool := x.f0 == y.f0 && x.f1 == y.f1 && x.f2 == y.f2 && x.f3 == y.f3 && x.f4 == y.f4

def eqms : List S25 → List S25 → Bool
  | [], [] => true
  | x :: a, y :: b => eqm x y && eqms a b
  | _, _ => false

theorem neq_eqm (x y : S25) : (!(x.f0 == y.f0) || (!(x.f1 == y.f1) || (!(x.f2 == y.f2) || (!(x.f3 == y.f3) || (!(x.f4 == y.f4)))))) = !(eqm x y) := by
  simp only [eqm, Bool.not_and, Bool.or_assoc]

theorem eqms_len (a : List S25) : ∀ b, a.length ≠ b.length → eqms a b = false := by
  induction a with
  | nil => intro b h; cases b with
    | nil => simp at h
    | cons y b => rfl
  | cons x a ih => intro b h; cases b with
    | nil => rfl
    | cons y b => rw [eqms, ih b (by simpa using h), Bool.and_false]

theorem spec_eqm_ev (a b : List S25) (hl : a.length = b.length) (hm : a.length ≤ 1048576) (d : Nat) : ∀ i : Nat, i + d = a.length → Ev (fun k => spec_EqualMarks.l0 k a b (i : Int)) (eqms (a.drop i) (b.drop i)) := by
  induction d with
  | zero =>
    intro i hi
    rw [List.drop_of_length_le (by omega), List.drop_of_length_le (by omega)]
    refine Ev.one (fun k => ?_)
    simp only [spec_EqualMarks.l0]
    rw [if_neg (by omega)]
    rfl
  | succ d ih =>
    intro i hi
    have h1 : i < a.length := by omega
    have h2 : i < b.length := by omega
    rw [drop_cons a i h1, drop_cons b i h2, eqms]
    by_cases hc : eqm a[i] b[i] = true
    · refine Ev.step (fun k => ?_) (by rw [hc, Bool.true_and]; exact ih (i + 1) (by omega))
      simp only [spec_EqualMarks.l0]
      rw [if_pos (by omega), if_pos (by omega), if_pos (by omega), rdMark_get a i h1, rdMark_get b i h2, neq_eqm, hc, if_neg (by simp), w64_nat i (by omega)]
    · rw [Bool.not_eq_true] at hc
      rw [hc, Bool.false_and]
      refine Ev.one (fun k => ?_)
      simp only [spec_EqualMarks.l0]
      rw [if_pos (by omega), if_pos (by omega), if_pos (by omega), rdMark_get a i h1, rdMark_get b i h2, neq_eqm, hc, if_pos (by simp)]

theorem impl_eqm_ev (a b : List S25) (hl : a.length = b.length) (hm : a.length ≤ 1048576) (d : Nat) : ∀ i : Nat, i + d = a.length → Ev (fun k => impl_Mark.l0 k a b (a.length : Int) (i : Int)) (eqms (a.drop i) (b.drop i)) := by
  induction d with
  | zero =>
    intro i hi
    rw [List.drop_of_length_le (by omega), List.drop_of_length_le (by omega)]
    refine Ev.one (fun k => ?_)
    simp only [impl_Mark.l0]
    rw [if_neg (by omega)]
    rfl
  | succ d ih =>
    intro i hi
    have h1 : i < a.length := by omega
    have h2 : i < b.length := by omega
    rw [drop_cons a i h1, drop_cons b i h2, eqms]
    by_cases hc : eqm a[i] b[i] = true
    · refine Ev.step (fun k => ?_) (by rw [hc, Bool.true_and]; exact ih (i + 1) (by omega))
      simp only [impl_Mark.l0]
      rw [if_pos (by omega), if_pos (by omega), if_pos (by omega), if_pos (by omega), rdMark_get a i h1, rdMark_get b i h2, neq_eqm, hc, if_neg (by simp), w64_nat i (by omega)]
    · rw [Bool.not_eq_true] at hc
      rw [hc, Bool.false_and]
      refine Ev.one (fun k => ?_)
      simp only [impl_Mark.l0]
      rw [if_pos (by omega), if_pos (by omega), if_pos (by omega), if_pos (by omega), rdMark_get a i h1, rdMark_get b i h2, neq_eqm, hc, if_pos (by simp)]

theorem spec_eqms (a b : List S25) (hm : a.length ≤ 1048576) : Ev (fun k => spec_EqualMarks.f k a b) (eqms a b) := by
  by_cases hl : a.length = b.length
  · refine Ev.congr (fun k => ?_) (spec_eqm_ev a b hl hm a.length 0 (by omega))
    simp only [spec_EqualMarks.f]
    rw [if_pos (by omega)]
    rfl
  · rw [eqms_len a b hl]
    refine Ev.one (fun k => ?_)
    simp only [spec_EqualMarks.f]
    rw [if_neg (by omega)]

theorem impl_eqms (a b : List S25) (hm : a.length ≤ 1048576) : Ev (fun k => impl_EqualMarks.f k a b) (eqms a b) := by
  have key : Ev (fun k => impl_Mark.f k a b) (eqms a b) := by
    by_cases hl : a.length = b.length
    · refine Ev.congr (fun k => ?_) (impl_eqm_ev a b hl hm a.length 0 (by omega))
      simp only [impl_Mark.f]
      rw [if_pos (by omega)]
      rfl
    · rw [eqms_len a b hl]
      refine Ev.one (fun k => ?_)
      simp only [impl_Mark.f]
      rw [if_neg (by omega)]
  simp only [impl_EqualMarks.f]
  exact Ev.bind key (Ev.now _)

theorem FnExactEqualMarks : ∀ (l0 : List (S23)) (l1 : List (S23)), (l0.length ≤ maxLen ∧ l0.length * 40 ≤ 140737488351232 ∧ ∀ l0' ∈ l0, ((Lit.int .i64 l0'.f0).wf = true) ∧ ((Lit.int .i64 l0'.f1).wf = true) ∧ ((Lit.int .i64 l0'.f2).wf = true) ∧ ((Lit.int .i64 l0'.f3).wf = true) ∧ ((Lit.int .i64 l0'.f4).wf = true)) → (l1.length ≤ maxLen ∧ l1.length * 40 ≤ 140737488351232 ∧ ∀ l1' ∈ l1, ((Lit.int .i64 l1'.f0).wf = true) ∧ ((Lit.int .i64 l1'.f1).wf = true) ∧ ((Lit.int .i64 l1'.f2).wf = true) ∧ ((Lit.int .i64 l1'.f3).wf = true) ∧ ((Lit.int .i64 l1'.f4).wf = true)) → ∃ k, laws_FnExactEqualMarks.f k l0 l1 = some true := by
  intro a b ha hb
  have hma : a.length ≤ 9223372036854775807 := ha.1
  have hmb : b.length ≤ 9223372036854775807 := hb.1
  refine Ev.rounds (g := fun k => laws_FnExactEqualMarks.f k a b) ?_
  simp only [laws_FnExactEqualMarks.f, szMarkS_ev a 1048576 (by omega) (by omega) hma, Option.bind_some]
  by_cases h1 : (1048576 : Int) < (a.length : Int)
  · simp only [h1, if_true]
    exact Ev.now true
  · have h1' : ¬ (1048576 - (a.length : Int) < 0) := by omega
    simp only [h1, h1', if_false]
    simp only [szMarkS_ev b (1048576 - (a.length : Int)) (by omega) (by omega) hmb, Option.bind_some]
    by_cases h2 : 1048576 - (a.length : Int) < (b.length : Int)
    · simp only [h2, if_true]
      exact Ev.now true
    · have h2' : ¬ (1048576 - (a.length : Int) - (b.length : Int) < 0) := by omega
      simp only [h2, h2', if_false]
      have ta := toMarkS_ev a (by omega)
      have tb := toMarkS_ev b (by omega)
      have ea := eqMarkS_ev (a.map cvMark) (by simp; omega)
      have eb := eqMarkS_ev (b.map cvMark) (by simp; omega)
      have hs := spec_eqms (a.map cvMark) (b.map cvMark) (by simp; omega)
      have hi := impl_eqms (a.map cvMark) (b.map cvMark) (by simp; omega)
      refine Ev.bind ta ?_
      refine Ev.bind tb ?_
      refine Ev.bind hs ?_
      refine Ev.bind ta ?_
      refine Ev.bind tb ?_
      refine Ev.bind hi ?_
      simp only [bne_self_eq_false, Bool.false_eq_true, if_false]
      refine Ev.bind ta ?_
      refine Ev.bind ea ?_
      simp only [if_true]
      refine Ev.bind tb ?_
      refine Ev.bind eb ?_
      simp only [if_true]
      exact Ev.now true

end Go.Proofs.Ytcmafemdcikmfaa.Pure
