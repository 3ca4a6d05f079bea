/- The plain statement of the law FnExactMergeMarks: what its printed function answers; no conditions but that the numbers are Go's ints and the slices no longer than memory. -/
import Derived.Test.YtcmafemdcikmfaaQFnExactMergeMarksx11
set_option linter.unusedVariables false
set_option linter.unusedSimpArgs false
namespace Go.Proofs.Ytcmafemdcikmfaa.Pure
open Go.RowKit Go.Proofs.Ytcmafemdcikmfaa.QFnExactMergeMarks Go.Proofs.YtcmafemdcikmfaaW.PrintWords Go.Proofs.YtcmafemdcikmfaaW.PrintLast Go.Proofs.YtcmafemdcikmfaaW.PrintMore

theorem wf64 {x : Int} (h : (Lit.int .i64 x).wf = true) : -9223372036854775808 ≤ x ∧ x ≤ 9223372036854775807 := by
  simp only [Lit.wf, IntKind.min, IntKind.max, IntKind.signed, IntKind.bits, Bool.and_eq_true, decide_eq_true_eq, if_true] at h
  omega

theorem w64 {x : Int} (h1 : -9223372036854775808 ≤ x) (h2 : x ≤ 9223372036854775807) : wrap64 x = x := by
  unfold wrap64
  omega

theorem w64_nat (i : Nat) (h : i ≤ 9223372036854775806) : wrap64 ((i : Int) + 1) = ((i + 1 : Nat) : Int) := by
  unfold wrap64
  omega

theorem drop_cons {α : Type} (l : List α) (i : Nat) (h : i < l.length) : l.drop i = l[i] :: l.drop (i + 1) := List.drop_eq_getElem_cons h

theorem set_take {β : Type} (x : List β) (i : Nat) (v : β) (h : i < x.length) : (x.set i v).take (i + 1) = x.take i ++ [v] := by
  apply List.ext_getElem?
  intro j
  rcases Nat.lt_trichotomy j i with hj | hj | hj
  · rw [List.getElem?_take_of_lt (by omega), List.getElem?_set_ne (by omega), List.getElem?_append_left (by simp; omega), List.getElem?_take_of_lt (by omega)]
  · subst hj
    rw [List.getElem?_take_of_lt (by omega), List.getElem?_set_self (by omega), List.getElem?_append_right (by simp; omega)]
    simp [Nat.min_eq_left (Nat.le_of_lt h)]
  · rw [List.getElem?_take_eq_none (by omega), List.getElem?_append_right (by simp; omega)]
    simp
    omega

theorem copyLoop {α β : Type} (F : Nat → List β → Int → Option (List β)) (x0 : List α) (cv : α → β)
    (h1 : ∀ (x3 : List β) (i : Nat) (r : List β) (hi : i < x0.length), x3.length = x0.length → Ev (fun k => F k (x3.set i (cv x0[i])) ((i + 1 : Nat) : Int)) r → Ev (fun k => F k x3 (i : Int)) r)
    (h2 : ∀ x3 : List β, Ev (fun k => F k x3 (x0.length : Int)) x3) (init : List β) (hl : init.length = x0.length) : Ev (fun k => F k init 0) (x0.map cv) := by
  have key : ∀ (d i : Nat) (x3 : List β), i + d = x0.length → x3.length = x0.length → x3.take i = (x0.map cv).take i → Ev (fun k => F k x3 (i : Int)) (x0.map cv) := by
    intro d
    induction d with
    | zero =>
      intro i x3 hi hx ht
      obtain rfl : i = x0.length := by omega
      have e : x3 = x0.map cv := by
        rw [← hx, List.take_length] at ht
        rw [ht, hx]
        exact List.take_of_length_le (by simp)
      have := h2 x3
      rw [e] at this
      rw [e]
      exact this
    | succ d ih =>
      intro i x3 hi hx ht
      have hlt : i < x0.length := by omega
      refine h1 x3 i _ hlt hx (ih (i + 1) _ (by omega) (by rw [List.length_set]; exact hx) ?_)
      rw [set_take x3 i _ (by omega), ht]
      rw [List.take_succ_eq_append_getElem (by simpa using hlt)]
      simp
  have := key x0.length 0 init (by omega) hl (by simp)
  exact this

theorem eqLoop {α : Type} (F : Nat → Int → Option Bool) (x0 : List α)
    (h1 : ∀ (i : Nat) (r : Bool) (_ : i < x0.length), Ev (fun k => F k ((i + 1 : Nat) : Int)) r → Ev (fun k => F k (i : Int)) r)
    (h2 : Ev (fun k => F k (x0.length : Int)) true) : Ev (fun k => F k 0) true := by
  have key : ∀ (d i : Nat), i + d = x0.length → Ev (fun k => F k (i : Int)) true := by
    intro d
    induction d with
    | zero =>
      intro i hi
      obtain rfl : i = x0.length := by omega
      exact h2
    | succ d ih =>
      intro i hi
      exact h1 i true (by omega) (ih (i + 1) (by omega))
  exact key x0.length 0 (by omega)

theorem ite_eq_of {α : Type} {p : Prop} [Decidable p] {a b : α} (h : p) : (if p then a else b) = a := if_pos h

theorem Ev.one {α : Type} {g : Nat → Option α} {r : α} (h : ∀ k, g (k + 1) = some r) : Ev g r := Ev.step (f := fun _ => some r) h (Ev.now r)

theorem rdMark_get (l : List S25) (i : Nat) (h : i < l.length) : rd_T25 l (i : Int) = l[i] := by
  simp [rd_T25, List.getD, List.getElem?_eq_getElem h]

def mkOk (x : S25) : Bool := decide ((1 ≤ x.f0 ∧ x.f0 ≤ 100) ∧ (1 ≤ x.f1 ∧ x.f1 ≤ 4) ∧ (0 ≤ x.f2 ∧ x.f2 ≤ 9) ∧ (0 ≤ x.f3 ∧ x.f3 ≤ 100000) ∧ (1 ≤ x.f4 ∧ x.f4 ≤ 99))
/-- By bar and kind. -/
def mkLt (a b : S25) : Bool := if a.f0 < b.f0 then true else if a.f0 = b.f0 then decide (a.f1 < b.f1) else false
def mkNext (p : Option S25) (x : S25) : Bool := match p with
  | none => true
  | some y => mkLt y x
def mkL : Option S25 → List S25 → Bool
  | _, [] => true
  | p, x :: l => (mkOk x && mkNext p x) && mkL (some x) l
def areMarks (l : List S25) : Bool := mkL none l && decide (l.length ≤ 30)

theorem areMarks_iff {l : List S25} : areMarks l = true ↔ mkL none l = true ∧ l.length ≤ 30 := by
  simp [areMarks]

theorem l1In_eq (a b c : Int) : spec_l1In.f a b c = some (decide (b ≤ a ∧ a ≤ c)) := by
  unfold spec_l1In.f
  split <;> simp <;> omega

theorem spec_mbefore (a b : S25) : spec_l25Before.f a.f0 a.f1 a.f2 a.f3 a.f4 b.f0 b.f1 b.f2 b.f3 b.f4 = some (mkLt a b) := by
  unfold spec_l25Before.f mkLt
  repeat' split
  all_goals rfl

theorem spec_marks_ev (l : List S25) (hl : l.length ≤ 2097152) (d : Nat) : ∀ (i : Nat) (p : Option S25), i + d = l.length → (i = 0 ∧ p = none ∨ ∃ h : i - 1 < l.length, 0 < i ∧ p = some l[i - 1]) →
    Ev (fun k => spec_AreMarks.l0 k l (i : Int)) (mkL p (l.drop i) && decide (l.length ≤ 30)) := by
  induction d with
  | zero =>
    intro i p hi hp
    rw [List.drop_of_length_le (by omega)]
    refine Ev.one (fun k => ?_)
    simp only [spec_AreMarks.l0, mkL, Bool.true_and]
    rw [if_neg (by omega)]
    refine congrArg some (decide_eq_decide.2 ?_)
    omega
  | succ d ih =>
    intro i p hi hp
    have hlt : i < l.length := by omega
    rw [drop_cons l i hlt]
    have next := ih (i + 1) (some l[i]) (by omega) (.inr ⟨by omega, by omega, rfl⟩)
    by_cases h0 : mkOk l[i] = true
    · have hx : (1 ≤ l[i].f0 ∧ l[i].f0 ≤ 100) ∧ (1 ≤ l[i].f1 ∧ l[i].f1 ≤ 4) ∧ (0 ≤ l[i].f2 ∧ l[i].f2 ≤ 9) ∧ (0 ≤ l[i].f3 ∧ l[i].f3 ≤ 100000) ∧ (1 ≤ l[i].f4 ∧ l[i].f4 ≤ 99) := by simpa only [mkOk, decide_eq_true_eq] using h0
      rcases hp with ⟨rfl, rfl⟩ | ⟨hi1, hpos, rfl⟩
      · refine Ev.step (f := fun k => spec_AreMarks.l0 k l ((0 + 1 : Nat) : Int)) (fun k => ?_) ?_
        · simp only [spec_AreMarks.l0, l1In_eq, Option.bind_some]
          rw [if_pos (by omega), if_pos (by omega), rdMark_get l 0 hlt, if_pos (decide_eq_true hx.1), if_pos (decide_eq_true hx.2.1), if_pos (decide_eq_true hx.2.2.1), if_pos (decide_eq_true hx.2.2.2.1), if_pos (decide_eq_true hx.2.2.2.2), if_neg (by omega), w64_nat 0 (by omega)]
        · rw [mkL, h0, mkNext, Bool.true_and, Bool.true_and]
          exact next
      · have hw : wrap64 ((i : Int) - 1) = ((i - 1 : Nat) : Int) := by unfold wrap64; omega
        by_cases h2 : mkLt l[i - 1] l[i] = true
        · rw [mkL, h0, mkNext, h2, Bool.true_and, Bool.true_and]
          refine Ev.step (fun k => ?_) next
          simp only [spec_AreMarks.l0, l1In_eq, Option.bind_some]
          rw [if_pos (by omega), if_pos (by omega), rdMark_get l i hlt, if_pos (decide_eq_true hx.1), if_pos (decide_eq_true hx.2.1), if_pos (decide_eq_true hx.2.2.1), if_pos (decide_eq_true hx.2.2.2.1), if_pos (decide_eq_true hx.2.2.2.2), if_pos (by omega), hw, if_pos (by omega), if_pos (by omega), rdMark_get l (i - 1) hi1, spec_mbefore, Option.bind_some, if_pos h2, w64_nat i (by omega)]
        · rw [Bool.not_eq_true] at h2
          rw [mkL, h0, mkNext, h2, Bool.and_false, Bool.false_and, Bool.false_and]
          refine Ev.one (fun k => ?_)
          simp only [spec_AreMarks.l0, l1In_eq, Option.bind_some]
          rw [if_pos (by omega), if_pos (by omega), rdMark_get l i hlt, if_pos (decide_eq_true hx.1), if_pos (decide_eq_true hx.2.1), if_pos (decide_eq_true hx.2.2.1), if_pos (decide_eq_true hx.2.2.2.1), if_pos (decide_eq_true hx.2.2.2.2), if_pos (by omega), hw, if_pos (by omega), if_pos (by omega), rdMark_get l (i - 1) hi1, spec_mbefore, Option.bind_some, h2]
          rfl
    · have hx : ¬ ((1 ≤ l[i].f0 ∧ l[i].f0 ≤ 100) ∧ (1 ≤ l[i].f1 ∧ l[i].f1 ≤ 4) ∧ (0 ≤ l[i].f2 ∧ l[i].f2 ≤ 9) ∧ (0 ≤ l[i].f3 ∧ l[i].f3 ≤ 100000) ∧ (1 ≤ l[i].f4 ∧ l[i].f4 ≤ 99)) := by simpa only [mkOk, decide_eq_true_eq] using h0
      rw [Bool.not_eq_true] at h0
      rw [mkL, h0, Bool.false_and, Bool.false_and, Bool.false_and]
      refine Ev.one (fun k => ?_)
      simp only [spec_AreMarks.l0, l1In_eq, Option.bind_some]
      rw [if_pos (by omega), if_pos (by omega), rdMark_get l i hlt]
      by_cases g0 : 1 ≤ l[i].f0 ∧ l[i].f0 ≤ 100
      · rw [if_pos (decide_eq_true g0)]
        by_cases g1 : 1 ≤ l[i].f1 ∧ l[i].f1 ≤ 4
        · rw [if_pos (decide_eq_true g1)]
          by_cases g2 : 0 ≤ l[i].f2 ∧ l[i].f2 ≤ 9
          · rw [if_pos (decide_eq_true g2)]
            by_cases g3 : 0 ≤ l[i].f3 ∧ l[i].f3 ≤ 100000
            · rw [if_pos (decide_eq_true g3)]
              by_cases g4 : 1 ≤ l[i].f4 ∧ l[i].f4 ≤ 99
              · rw [if_pos (decide_eq_true g4)]
                exact absurd ⟨g0, g1, g2, g3, g4⟩ hx
              · rw [if_neg (by simpa using g4)]
            · rw [if_neg (by simpa using g3)]
          · rw [if_neg (by simpa using g2)]
        · rw [if_neg (by simpa using g1)]
      · rw [if_neg (by simpa using g0)]

theorem spec_marks (l : List S25) (hl : l.length ≤ 2097152) : Ev (fun k => spec_AreMarks.f k l) (areMarks l) := spec_marks_ev l hl l.length 0 none (by omega) (.inl ⟨rfl, rfl⟩)

theorem inRange_eq (a b c : Int) : impl_InRange.f a b c = some (decide (b ≤ a ∧ a ≤ c)) := by
  unfold impl_InRange.f
  split <;> simp <;> omega

theorem rd_get (l : List Int) (i : Nat) (h : i < l.length) : rd l (i : Int) = l[i] := by
  simp [rd, List.getD, List.getElem?_eq_getElem h]

def cmp3 (a b : Int) : Int := if a < b then -1 else if a > b then 1 else 0

theorem compare_eq (a b : Int) : cmp_Compare_int.f a b = some (cmp3 a b) := by
  have h : ∀ x : Int, (x != x) = false := fun x => by simp
  simp only [cmp_Compare_int.f, cmp_isNaN_int.f, Option.bind_some, h, cmp3]
  simp only [Bool.false_eq_true, if_false]
  split
  · rfl
  · split <;> rfl

theorem or_step (l : List Int) (i : Nat) (r : Int) (hl : l.length ≤ 1048576) (hi : i < l.length) (h : l[i] = 0) (he : Ev (fun k => cmp_Or_int.l0 k 0 l (l.length : Int) ((i + 1 : Nat) : Int)) r) : Ev (fun k => cmp_Or_int.l0 k 0 l (l.length : Int) (i : Int)) r := by
  refine Ev.step (fun k => ?_) he
  simp only [cmp_Or_int.l0]
  rw [if_pos (by omega), if_pos (by omega), if_pos (by omega), rd_get l i hi, if_pos h, w64_nat i (by omega)]

theorem or_hit (l : List Int) (i : Nat) (hi : i < l.length) (h : ¬ l[i] = 0) : Ev (fun k => cmp_Or_int.l0 k 0 l (l.length : Int) (i : Int)) l[i] := by
  refine Ev.one (fun k => ?_)
  simp only [cmp_Or_int.l0]
  rw [if_pos (by omega), if_pos (by omega), if_pos (by omega), rd_get l i hi, if_neg h]

theorem or_end (l : List Int) : Ev (fun k => cmp_Or_int.l0 k 0 l (l.length : Int) ((l.length : Nat) : Int)) 0 := by
  refine Ev.one (fun k => ?_)
  simp only [cmp_Or_int.l0]
  rw [if_neg (by omega)]

theorem or2_ev (a b : Int) : Ev (fun k => cmp_Or_int.f k [a, b]) (if a = 0 then b else a) := by
  show Ev (fun k => cmp_Or_int.l0 k 0 [a, b] (([a, b] : List Int).length : Int) ((0 : Nat) : Int)) _
  by_cases ha : a = 0
  · rw [if_pos ha]
    refine or_step [a, b] 0 b (by simp) (by simp) ha ?_
    by_cases hb : b = 0
    · rw [hb]
      exact or_step [a, 0] 1 0 (by simp) (by simp) rfl (or_end _)
    · exact or_hit [a, b] 1 (by simp) hb
  · rw [if_neg ha]
    exact or_hit [a, b] 0 (by simp) ha

theorem or3_ev (a b c : Int) : Ev (fun k => cmp_Or_int.f k [a, b, c]) (if a = 0 then (if b = 0 then c else b) else a) := by
  show Ev (fun k => cmp_Or_int.l0 k 0 [a, b, c] (([a, b, c] : List Int).length : Int) ((0 : Nat) : Int)) _
  by_cases ha : a = 0
  · rw [if_pos ha]
    refine or_step [a, b, c] 0 _ (by simp) (by simp) ha ?_
    by_cases hb : b = 0
    · rw [if_pos hb]
      refine or_step [a, b, c] 1 _ (by simp) (by simp) hb ?_
      by_cases hc : c = 0
      · rw [hc]
        exact or_step [a, b, 0] 2 0 (by simp) (by simp) rfl (or_end _)
      · exact or_hit [a, b, c] 2 (by simp) hc
    · rw [if_neg hb]
      exact or_hit [a, b, c] 1 (by simp) hb
  · rw [if_neg ha]
    exact or_hit [a, b, c] 0 (by simp) ha

theorem impl_morder (a b : S25) : Ev (fun k => impl_markOrder.f k a.f0 a.f1 a.f2 a.f3 a.f4 b.f0 b.f1 b.f2 b.f3 b.f4) (if cmp3 a.f0 b.f0 = 0 then cmp3 a.f1 b.f1 else cmp3 a.f0 b.f0) := by
  simp only [impl_markOrder.f, compare_eq, Option.bind_some]
  exact Ev.bind (or2_ev _ _) (Ev.now _)

theorem morder_lt (a b : S25) : ((if cmp3 a.f0 b.f0 = 0 then cmp3 a.f1 b.f1 else cmp3 a.f0 b.f0) ≥ 0) ↔ ¬ mkLt a b = true := by
  unfold cmp3 mkLt
  repeat' split
  all_goals (simp <;> omega)

theorem impl_marks_ev (l : List S25) (hl : l.length ≤ 2097152) (d : Nat) : ∀ (i : Nat) (p : Option S25), i + d = l.length → (i = 0 ∧ p = none ∨ ∃ h : i - 1 < l.length, 0 < i ∧ p = some l[i - 1]) →
    Ev (fun k => impl_AreMarks.l0 k l l (l.length : Int) (i : Int)) (mkL p (l.drop i) && decide (l.length ≤ 30)) := by
  induction d with
  | zero =>
    intro i p hi hp
    rw [List.drop_of_length_le (by omega)]
    refine Ev.one (fun k => ?_)
    simp only [impl_AreMarks.l0, mkL, Bool.true_and]
    rw [if_neg (by omega)]
    refine congrArg some (decide_eq_decide.2 ?_)
    omega
  | succ d ih =>
    intro i p hi hp
    have hlt : i < l.length := by omega
    rw [drop_cons l i hlt]
    have next := ih (i + 1) (some l[i]) (by omega) (.inr ⟨by omega, by omega, rfl⟩)
    by_cases h0 : mkOk l[i] = true
    · have hx : (1 ≤ l[i].f0 ∧ l[i].f0 ≤ 100) ∧ (1 ≤ l[i].f1 ∧ l[i].f1 ≤ 4) ∧ (0 ≤ l[i].f2 ∧ l[i].f2 ≤ 9) ∧ (0 ≤ l[i].f3 ∧ l[i].f3 ≤ 100000) ∧ (1 ≤ l[i].f4 ∧ l[i].f4 ≤ 99) := by simpa only [mkOk, decide_eq_true_eq] using h0
      rcases hp with ⟨rfl, rfl⟩ | ⟨hi1, hpos, rfl⟩
      · refine Ev.step (f := fun k => impl_AreMarks.l0 k l l (l.length : Int) ((0 + 1 : Nat) : Int)) (fun k => ?_) ?_
        · simp only [impl_AreMarks.l0, inRange_eq, Option.bind_some]
          rw [if_pos (by omega), if_pos (by omega), if_pos (by omega), rdMark_get l 0 hlt, if_pos (decide_eq_true hx.1), if_pos (decide_eq_true hx.2.1), if_pos (decide_eq_true hx.2.2.1), if_pos (decide_eq_true hx.2.2.2.1), if_pos (decide_eq_true hx.2.2.2.2), if_neg (by omega), w64_nat 0 (by omega)]
        · rw [mkL, h0, mkNext, Bool.true_and, Bool.true_and]
          exact next
      · have hw : wrap64 ((i : Int) - 1) = ((i - 1 : Nat) : Int) := by unfold wrap64; omega
        refine Ev.step (f := fun k => (impl_markOrder.f k l[i - 1].f0 l[i - 1].f1 l[i - 1].f2 l[i - 1].f3 l[i - 1].f4 l[i].f0 l[i].f1 l[i].f2 l[i].f3 l[i].f4).bind fun t => if t ≥ 0 then some false else impl_AreMarks.l0 k l l (l.length : Int) ((i + 1 : Nat) : Int)) (fun k => ?_) ?_
        · simp only [impl_AreMarks.l0, inRange_eq, Option.bind_some]
          rw [if_pos (by omega), if_pos (by omega), if_pos (by omega), rdMark_get l i hlt, if_pos (decide_eq_true hx.1), if_pos (decide_eq_true hx.2.1), if_pos (decide_eq_true hx.2.2.1), if_pos (decide_eq_true hx.2.2.2.1), if_pos (decide_eq_true hx.2.2.2.2), if_pos (by omega), hw, if_pos (by omega), if_pos (by omega), rdMark_get l (i - 1) hi1, w64_nat i (by omega)]
        · refine Ev.bind (impl_morder _ _) ?_
          by_cases h2 : mkLt l[i - 1] l[i] = true
          · simp only [if_neg (fun h => (morder_lt _ _).1 h h2)]
            rw [mkL, h0, mkNext, h2, Bool.true_and, Bool.true_and]
            exact next
          · simp only [if_pos ((morder_lt _ _).2 h2)]
            rw [Bool.not_eq_true] at h2
            rw [mkL, h0, mkNext, h2, Bool.and_false, Bool.false_and, Bool.false_and]
            exact Ev.now _
    · have hx : ¬ ((1 ≤ l[i].f0 ∧ l[i].f0 ≤ 100) ∧ (1 ≤ l[i].f1 ∧ l[i].f1 ≤ 4) ∧ (0 ≤ l[i].f2 ∧ l[i].f2 ≤ 9) ∧ (0 ≤ l[i].f3 ∧ l[i].f3 ≤ 100000) ∧ (1 ≤ l[i].f4 ∧ l[i].f4 ≤ 99)) := by simpa only [mkOk, decide_eq_true_eq] using h0
      rw [Bool.not_eq_true] at h0
      rw [mkL, h0, Bool.false_and, Bool.false_and, Bool.false_and]
      refine Ev.one (fun k => ?_)
      simp only [impl_AreMarks.l0, inRange_eq, Option.bind_some]
      rw [if_pos (by omega), if_pos (by omega), if_pos (by omega), rdMark_get l i hlt]
      by_cases g0 : 1 ≤ l[i].f0 ∧ l[i].f0 ≤ 100
      · rw [if_pos (decide_eq_true g0)]
        by_cases g1 : 1 ≤ l[i].f1 ∧ l[i].f1 ≤ 4
        · rw [if_pos (decide_eq_true g1)]
          by_cases g2 : 0 ≤ l[i].f2 ∧ l[i].f2 ≤ 9
          · rw [if_pos (decide_eq_true g2)]
            by_cases g3 : 0 ≤ l[i].f3 ∧ l[i].f3 ≤ 100000
            · rw [if_pos (decide_eq_true g3)]
              by_cases g4 : 1 ≤ l[i].f4 ∧ l[i].f4 ≤ 99
              · rw [if_pos (decide_eq_true g4)]
                exact absurd ⟨g0, g1, g2, g3, g4⟩ hx
              · rw [if_neg (by simpa using g4)]
            · rw [if_neg (by simpa using g3)]
          · rw [if_neg (by simpa using g2)]
        · rw [if_neg (by simpa using g1)]
      · rw [if_neg (by simpa using g0)]

theorem impl_marks (l : List S25) (hl : l.length ≤ 2097152) : Ev (fun k => impl_AreMarks.f k l) (areMarks l) := impl_marks_ev l hl l.length 0 none (by omega) (.inl ⟨rfl, rfl⟩)

def newer (v t w v' t' w' : Int) : Bool := if t = t' then (if w = w' then decide (v > v') else decide (w > w')) else decide (t > t')

theorem spec_newer (a0 a1 a2 a3 a4 b0 b1 b2 b3 b4 : Int) : spec_IsNewer.f a0 a1 a2 a3 a4 b0 b1 b2 b3 b4 = some (newer a2 a3 a4 b2 b3 b4) := by
  unfold spec_IsNewer.f newer
  repeat' split
  all_goals rfl

theorem impl_newer (a0 a1 a2 a3 a4 b0 b1 b2 b3 b4 : Int) : Ev (fun k => impl_IsNewer.f k a0 a1 a2 a3 a4 b0 b1 b2 b3 b4) (newer a2 a3 a4 b2 b3 b4) := by
  simp only [impl_IsNewer.f, compare_eq, Option.bind_some]
  refine Ev.bind (or3_ev _ _ _) ?_
  have e : decide ((if cmp3 a3 b3 = 0 then if cmp3 a4 b4 = 0 then cmp3 a2 b2 else cmp3 a4 b4 else cmp3 a3 b3) > 0) = newer a2 a3 a4 b2 b3 b4 := by
    unfold newer cmp3
    repeat' split
    all_goals (simp <;> omega)
  rw [← e]
  exact Ev.now _

/-- How many stand ahead of x. -/
def ahead (x : S25) (l : List S25) : Nat := (l.takeWhile (fun y => mkLt y x)).length
def sameP (x y : S25) : Bool := decide (y.f0 = x.f0) && decide (y.f1 = x.f1)
def newerM (x y : S25) : Bool := newer x.f2 x.f3 x.f4 y.f2 y.f3 y.f4
def setM (l : List S25) (x : S25) : List S25 := match l.drop (ahead x l) with
  | [] => l.take (ahead x l) ++ [x]
  | y :: r => if sameP x y = true then (if newerM x y = true then l.take (ahead x l) ++ [x] ++ r else l) else l.take (ahead x l) ++ [x] ++ (y :: r)

theorem ahead_le (x : S25) (l : List S25) : ahead x l ≤ l.length := by
  induction l with
  | nil => simp [ahead]
  | cons y l ih =>
    simp only [ahead, List.takeWhile_cons] at ih ⊢
    split
    · simpa using ih
    · simp
theorem ahead_lt (x : S25) (l : List S25) : ∀ (i : Nat) (h : i < l.length), i < ahead x l → mkLt l[i] x = true := by
  induction l with
  | nil => intro i h; simp at h
  | cons y l ih =>
    intro i h hi
    simp only [ahead, List.takeWhile_cons] at hi
    by_cases hy : mkLt y x = true
    · rw [if_pos hy] at hi
      cases i with
      | zero => exact hy
      | succ i => exact ih i (by simpa using h) (by simpa [ahead] using hi)
    · rw [if_neg hy] at hi
      simp at hi
theorem ahead_at (x : S25) (l : List S25) : ∀ (h : ahead x l < l.length), mkLt l[ahead x l] x = false := by
  induction l with
  | nil => intro h; simp at h
  | cons y l ih =>
    intro h
    by_cases hy : mkLt y x = true
    · have e : ahead x (y :: l) = ahead x l + 1 := by simp [ahead, List.takeWhile_cons, hy]
      have h' : ahead x l < l.length := by rw [e] at h; simpa using h
      have := ih h'
      simp only [e, List.getElem_cons_succ]
      exact this
    · have e : ahead x (y :: l) = 0 := by simp [ahead, List.takeWhile_cons, hy]
      simp only [e, List.getElem_cons_zero]
      exact Bool.not_eq_true _ ▸ hy
theorem mkLt_trans {a b c : S25} (h1 : mkLt a b = true) (h2 : mkLt b c = true) : mkLt a c = true := by
  unfold mkLt at *
  repeat' split at h1
  all_goals (repeat' split at h2)
  all_goals (repeat' split)
  all_goals (simp at * <;> omega)
theorem mkL_next (l : List S25) : ∀ p, mkL p l = true → ∀ (i j : Nat) (hj : j < l.length) (hij : i < j), mkLt (l[i]'(by omega)) l[j] = true := by
  induction l with
  | nil => intro p _ i j hj; simp at hj
  | cons y l ih =>
    intro p h i j hj hij
    rw [mkL, Bool.and_eq_true] at h
    have h2 := h.2
    cases j with
    | zero => omega
    | succ j =>
      cases i with
      | succ i => exact ih _ h2 i j (by simpa using hj) (by omega)
      | zero =>
        simp only [List.getElem_cons_zero, List.getElem_cons_succ]
        have hj' : j < l.length := by simpa using hj
        have hy0 : mkLt y (l[0]'(by omega)) = true := by
          cases l with
          | nil => simp at hj'
          | cons z l =>
            rw [mkL, Bool.and_eq_true, Bool.and_eq_true] at h2
            exact h2.1.2
        rcases Nat.eq_zero_or_pos j with rfl | hp
        · exact hy0
        · exact mkLt_trans hy0 (ih _ h2 0 j hj' hp)
/-- In an ordered list the ones ahead are the ones ahead. -/
theorem ahead_iff (x : S25) (l : List S25) (hs : mkL none l = true) (i : Nat) (h : i < l.length) : mkLt l[i] x = true ↔ i < ahead x l := by
  refine ⟨fun hx => ?_, ahead_lt x l i h⟩
  refine Classical.byContradiction fun hn => ?_
  have hk : ahead x l < l.length := by omega
  have h0 := ahead_at x l hk
  rcases Nat.lt_or_ge (ahead x l) i with hlt | hge
  · rw [mkLt_trans (mkL_next l none hs _ i h hlt) hx] at h0
    cases h0
  · have e : i = ahead x l := by omega
    subst e
    rw [hx] at h0
    cases h0

theorem spec_before (a b : S25) : spec_l25Before.f a.f0 a.f1 a.f2 a.f3 a.f4 b.f0 b.f1 b.f2 b.f3 b.f4 = some (mkLt a b) := by
  unfold spec_l25Before.f mkLt
  repeat' split
  all_goals rfl
theorem spec_set_tail (l : List S25) (x : S25) (hl : l.length ≤ 2097152) : Ev (fun k => spec_l25Set.j1 k l ((ahead x l : Nat) : Int) x.f0 x.f1 x.f2 x.f3 x.f4) (setM l x) := by
  have hk := ahead_le x l
  have ht : (l.take (ahead x l)).length = ahead x l := by rw [List.length_take]; omega
  have hput : ∀ (k : Nat) (R : List S25), R.length ≤ 2097152 → (if 0 ≤ ((ahead x l : Nat) : Int) then (if ((ahead x l : Nat) : Int) ≤ (l.length : Int) then (if ([] : List S25).length + (l.take (((ahead x l : Nat) : Int) : Int).toNat).length < 3518437208883 then (if (([] : List S25) ++ (l.take (((ahead x l : Nat) : Int) : Int).toNat)).length + [(⟨x.f0, x.f1, x.f2, x.f3, x.f4⟩ : S25)].length < 3518437208883 then (if (([] : List S25) ++ (l.take (((ahead x l : Nat) : Int) : Int).toNat) ++ [(⟨x.f0, x.f1, x.f2, x.f3, x.f4⟩ : S25)]).length + R.length < 3518437208883 then some (([] : List S25) ++ (l.take (((ahead x l : Nat) : Int) : Int).toNat) ++ [(⟨x.f0, x.f1, x.f2, x.f3, x.f4⟩ : S25)] ++ R) else none) else none) else none) else none) else none) = some (l.take (ahead x l) ++ [x] ++ R) := by
    intro k R hR
    rw [if_pos (by omega), if_pos (by omega)]
    simp only [Int.toNat_natCast, List.nil_append, List.length_nil, Nat.zero_add, ht, List.length_append, List.length_cons]
    rw [if_pos (by omega), if_pos (by omega), if_pos (by omega)]
  cases hd : l.drop (ahead x l) with
  | nil =>
    rw [setM, hd]
    refine Ev.step (f := fun k => spec_l25Set.j2 k l ((ahead x l : Nat) : Int) [] false x.f0 x.f1 x.f2 x.f3 x.f4) (fun k => ?_) (Ev.one (fun k => ?_))
    · simp only [spec_l25Set.j1, Int.toNat_natCast, hd, Option.bind_some]
      rw [if_pos (by omega), if_pos (by omega)]
      rfl
    · simp only [spec_l25Set.j2, Bool.false_eq_true, if_false, Option.bind_some]
      exact (hput k [] (by simp)).trans (by rw [List.append_nil])
  | cons y r =>
    have hyr : (y :: r).length ≤ 2097152 := by rw [← hd, List.length_drop]; omega
    have hrd : rd_T25 (y :: r) 0 = y := rfl
    rw [setM, hd]
    refine Ev.step (f := fun k => spec_l25Set.j2 k l ((ahead x l : Nat) : Int) (y :: r) (sameP x y) x.f0 x.f1 x.f2 x.f3 x.f4) (fun k => ?_) ?_
    · simp only [spec_l25Set.j1, Int.toNat_natCast, hd, Option.bind_some, hrd]
      rw [if_pos (by omega), if_pos (by omega), if_pos (by simp), if_pos (by simp)]
      simp only [sameP]
      by_cases h0 : y.f0 = x.f0
      · rw [if_pos h0, decide_eq_true h0, Bool.true_and]
        rfl
      · rw [if_neg h0, decide_eq_false h0, Bool.false_and]
    · refine Ev.one (fun k => ?_)
      cases hs : sameP x y
      · simp only [spec_l25Set.j2, hs, Bool.false_eq_true, if_false, Option.bind_some]
        exact hput k (y :: r) hyr
      · simp only [spec_l25Set.j2, hs, if_true, hrd, spec_newer, Option.bind_some]
        rw [if_pos (by simp)]
        cases hw : newer x.f2 x.f3 x.f4 y.f2 y.f3 y.f4
        · have : newerM x y = false := hw
          rw [this]
          simp only [Bool.false_eq_true, if_false, List.nil_append, List.length_nil, Nat.zero_add]
          rw [if_pos (by omega)]
        · have : newerM x y = true := hw
          rw [this]
          simp only [if_true, List.drop_succ_cons, List.drop_zero]
          rw [if_pos (by simp; omega)]
          exact hput k r (by simp at hyr; omega)
theorem spec_set_loop (l : List S25) (x : S25) (hl : l.length ≤ 2097152) (d : Nat) : ∀ i : Nat, i + d = ahead x l → Ev (fun k => spec_l25Set.l0 k l (i : Int) x.f0 x.f1 x.f2 x.f3 x.f4) (setM l x) := by
  have hk := ahead_le x l
  induction d with
  | zero =>
    intro i h
    obtain rfl : i = ahead x l := by omega
    refine Ev.step (fun k => ?_) (spec_set_tail l x hl)
    simp only [spec_l25Set.l0]
    by_cases hlt : ahead x l < l.length
    · rw [if_pos (by omega), if_pos (by omega), rdMark_get l _ hlt, spec_before, ahead_at x l hlt]
      rfl
    · rw [if_neg (by omega)]
  | succ d ih =>
    intro i h
    have hlt : i < l.length := by omega
    refine Ev.step (fun k => ?_) (ih (i + 1) (by omega))
    simp only [spec_l25Set.l0]
    rw [if_pos (by omega), if_pos (by omega), rdMark_get l i hlt, spec_before, ahead_lt x l i hlt (by omega), w64_nat i (by omega)]
    rfl
theorem spec_set (l : List S25) (x : S25) (hl : l.length ≤ 2097152) : Ev (fun k => spec_l25Set.f k l x.f0 x.f1 x.f2 x.f3 x.f4) (setM l x) := spec_set_loop l x hl (ahead x l) 0 (by omega)

theorem mid_eq (i j : Nat) (h : i + j ≤ 4194304) : wrap64 ((IntKind.u64.wrap (wrap64 ((i : Int) + (j : Int)))) / 2) = (((i + j) / 2 : Nat) : Int) := by
  have e1 : wrap64 ((i : Int) + (j : Int)) = ((i + j : Nat) : Int) := by rw [w64 (by omega) (by omega)]; omega
  have e2 : IntKind.u64.wrap ((i + j : Nat) : Int) = ((i + j : Nat) : Int) := by
    have := IntKind.wrap_u64 ((i + j : Nat) : Int)
    rw [this]
    omega
  rw [e1, e2, w64 (by omega) (by omega)]
  omega
theorem search_loop (l : List S25) (x : S25) (hl : l.length ≤ 2097152) (hs : mkL none l = true) (d : Nat) : ∀ i j : Nat, j - i ≤ d → i ≤ ahead x l → ahead x l ≤ j → j ≤ l.length →
    Ev (fun k => slices_BinarySearchFunc_at43.l0 k l (l.length : Int) (i : Int) (j : Int) x.f0 x.f1 x.f2 x.f3 x.f4) (((ahead x l : Nat) : Int), if h : ahead x l < l.length then sameP x l[ahead x l] else false) := by
  have stop : ∀ i : Nat, i = ahead x l → Ev (fun k => slices_BinarySearchFunc_at43.l0 k l (l.length : Int) (i : Int) (i : Int) x.f0 x.f1 x.f2 x.f3 x.f4) (((ahead x l : Nat) : Int), if h : ahead x l < l.length then sameP x l[ahead x l] else false) := by
    intro i hi
    subst hi
    have hk := ahead_le x l
    by_cases hlt : ahead x l < l.length
    · rw [dif_pos hlt]
      refine Ev.step (f := fun k => (impl_markOrder.f k l[ahead x l].f0 l[ahead x l].f1 l[ahead x l].f2 l[ahead x l].f3 l[ahead x l].f4 x.f0 x.f1 x.f2 x.f3 x.f4).bind fun t => some (((ahead x l : Nat) : Int), t == 0)) (fun k => ?_) (Ev.bind (impl_morder l[ahead x l] x) ?_)
      · simp only [slices_BinarySearchFunc_at43.l0]
        rw [if_neg (by omega), if_pos (by omega), if_pos (by omega), if_pos (by omega), rdMark_get l _ hlt]
      · have e : ((if cmp3 l[ahead x l].f0 x.f0 = 0 then cmp3 l[ahead x l].f1 x.f1 else cmp3 l[ahead x l].f0 x.f0) == 0) = sameP x l[ahead x l] := by
          unfold cmp3 sameP
          rw [Bool.eq_iff_iff]
          simp only [beq_iff_eq, Bool.and_eq_true, decide_eq_true_eq]
          repeat' split
          all_goals (simp at * <;> omega)
        rw [e]
        exact Ev.now _
    · rw [dif_neg hlt]
      refine Ev.one (fun k => ?_)
      simp only [slices_BinarySearchFunc_at43.l0]
      rw [if_neg (by omega), if_neg (by omega)]
  induction d with
  | zero =>
    intro i j hd hi hj hjl
    obtain rfl : i = j := by omega
    exact stop i (by omega)
  | succ d ih =>
    intro i j hd hi hj hjl
    rcases Nat.lt_or_ge i j with hij | hij
    · have hm : (i + j) / 2 < l.length := by omega
      have em := mid_eq i j (by omega)
      have hmo := impl_morder l[(i + j) / 2] x
      by_cases hc : mkLt l[(i + j) / 2] x = true
      · have h1 : (i + j) / 2 < ahead x l := (ahead_iff x l hs _ hm).1 hc
        have hneg : (if cmp3 l[(i + j) / 2].f0 x.f0 = 0 then cmp3 l[(i + j) / 2].f1 x.f1 else cmp3 l[(i + j) / 2].f0 x.f0) < 0 := by
          refine Classical.byContradiction fun hn => ?_
          exact (morder_lt l[(i + j) / 2] x).1 (by omega) hc
        refine Ev.step (f := fun k => (impl_markOrder.f k l[(i + j) / 2].f0 l[(i + j) / 2].f1 l[(i + j) / 2].f2 l[(i + j) / 2].f3 l[(i + j) / 2].f4 x.f0 x.f1 x.f2 x.f3 x.f4).bind fun t => if t < 0 then slices_BinarySearchFunc_at43.l0 k l (l.length : Int) (((i + j) / 2 + 1 : Nat) : Int) (j : Int) x.f0 x.f1 x.f2 x.f3 x.f4 else slices_BinarySearchFunc_at43.l0 k l (l.length : Int) (i : Int) (((i + j) / 2 : Nat) : Int) x.f0 x.f1 x.f2 x.f3 x.f4) (fun k => ?_) (Ev.bind hmo ?_)
        · simp only [slices_BinarySearchFunc_at43.l0, em]
          rw [if_pos (by omega), if_pos (by omega), if_pos (by omega), rdMark_get l _ hm, w64_nat ((i + j) / 2) (by omega)]
        · simp only [hneg, if_true]
          exact ih ((i + j) / 2 + 1) j (by omega) (by omega) hj hjl
      · have h1 : ahead x l ≤ (i + j) / 2 := by
          refine Classical.byContradiction fun hn => ?_
          exact hc ((ahead_iff x l hs _ hm).2 (by omega))
        have hneg : ¬ (if cmp3 l[(i + j) / 2].f0 x.f0 = 0 then cmp3 l[(i + j) / 2].f1 x.f1 else cmp3 l[(i + j) / 2].f0 x.f0) < 0 := by
          have := (morder_lt l[(i + j) / 2] x).2 hc
          omega
        refine Ev.step (f := fun k => (impl_markOrder.f k l[(i + j) / 2].f0 l[(i + j) / 2].f1 l[(i + j) / 2].f2 l[(i + j) / 2].f3 l[(i + j) / 2].f4 x.f0 x.f1 x.f2 x.f3 x.f4).bind fun t => if t < 0 then slices_BinarySearchFunc_at43.l0 k l (l.length : Int) (((i + j) / 2 + 1 : Nat) : Int) (j : Int) x.f0 x.f1 x.f2 x.f3 x.f4 else slices_BinarySearchFunc_at43.l0 k l (l.length : Int) (i : Int) (((i + j) / 2 : Nat) : Int) x.f0 x.f1 x.f2 x.f3 x.f4) (fun k => ?_) (Ev.bind hmo ?_)
        · simp only [slices_BinarySearchFunc_at43.l0, em]
          rw [if_pos (by omega), if_pos (by omega), if_pos (by omega), rdMark_get l _ hm, w64_nat ((i + j) / 2) (by omega)]
        · simp only [hneg, if_false]
          exact ih i ((i + j) / 2) (by omega) hi h1 (by omega)
    · obtain rfl : i = j := by omega
      exact stop i (by omega)
theorem put_ev (l : List S25) (x : S25) (hl : l.length ≤ 100000) (hs : mkL none l = true) : Ev (fun k => impl_put.f k l x.f0 x.f1 x.f2 x.f3 x.f4) (setM l x) := by
  have hk := ahead_le x l
  have hb := search_loop l x (by omega) hs l.length 0 l.length (by omega) (by omega) hk (by omega)
  simp only [impl_put.f, slices_BinarySearchFunc_at43.f]
  refine Ev.bind hb ?_
  cases hd : l.drop (ahead x l) with
  | nil =>
    have hge : ¬ ahead x l < l.length := by
      have := congrArg List.length hd
      rw [List.length_drop] at this
      simp at this
      omega
    simp only [hge, dif_neg, not_false_iff, Bool.false_eq_true, if_false]
    rw [setM, hd]
    simp only [impl_Mark_57.f, Int.toNat_natCast, hd, List.append_nil]
    rw [if_pos ⟨by omega, by omega, by simp, by simp; omega⟩]
    exact Ev.now _
  | cons y r =>
    have hlt : ahead x l < l.length := by
      have := congrArg List.length hd
      rw [List.length_drop] at this
      simp at this
      omega
    have hy : l[ahead x l] = y ∧ l.drop (ahead x l + 1) = r := by
      have := drop_cons l _ hlt
      rw [hd] at this
      injection this with h1 h2
      exact ⟨h1.symm, h2.symm⟩
    simp only [hlt, dif_pos, hy.1]
    rw [setM, hd]
    cases hsm : sameP x y
    · simp only [hsm, Bool.false_eq_true, if_false]
      simp only [impl_Mark_57.f, Int.toNat_natCast, hd]
      rw [if_pos ⟨by omega, by omega, by simp, by simp; omega⟩]
      exact Ev.now _
    · simp only [hsm, if_true]
      have h1 : (0 : Int) ≤ ((ahead x l : Nat) : Int) := by omega
      have h2 : ((ahead x l : Nat) : Int) < (l.length : Int) := by omega
      simp only [h1, h2, if_true, rdMark_get l _ hlt, hy.1, Int.toNat_natCast]
      refine Ev.bind (impl_newer x.f0 x.f1 x.f2 x.f3 x.f4 y.f0 y.f1 y.f2 y.f3 y.f4) ?_
      have e : newer x.f2 x.f3 x.f4 y.f2 y.f3 y.f4 = newerM x y := rfl
      rw [e]
      cases hnw : newerM x y
      · simp only [hnw, Bool.false_eq_true, if_false]
        exact Ev.now _
      · simp only [hnw, if_true]
        have : l.set (ahead x l) x = l.take (ahead x l) ++ [x] ++ r := by
          rw [List.set_eq_take_append_cons_drop, if_pos hlt, hy.2]
          simp
        rw [this]
        exact Ev.now _

theorem clone_eq (l : List S25) (hl : l.length ≤ 2097152) : impl_Mark_46.f l = some l := by
  simp only [impl_Mark_46.f, Option.bind_some, List.nil_append]
  rw [if_pos (by simp; omega)]

def insM (x : S25) : List S25 → List S25
  | [] => [x]
  | y :: r => if mkLt y x = true then y :: insM x r else if sameP x y = true then (if newerM x y = true then x :: r else y :: r) else x :: y :: r
theorem setM_ins (x : S25) (l : List S25) : setM l x = insM x l := by
  induction l with
  | nil => rfl
  | cons y r ih =>
    rw [insM]
    by_cases hy : mkLt y x = true
    · rw [if_pos hy, ← ih]
      have e : ahead x (y :: r) = ahead x r + 1 := by simp [ahead, List.takeWhile_cons, hy]
      have e2 : (y :: r).drop (ahead x (y :: r)) = r.drop (ahead x r) := by rw [e]; rfl
      have e3 : (y :: r).take (ahead x (y :: r)) = y :: r.take (ahead x r) := by rw [e]; rfl
      cases hd : r.drop (ahead x r) with
      | nil => rw [setM, e2, hd, setM, hd, e3]; rfl
      | cons z q =>
        rw [setM, e2, hd, setM, hd, e3]
        simp only
        split
        · split <;> rfl
        · rfl
    · rw [if_neg hy]
      have e : ahead x (y :: r) = 0 := by simp [ahead, List.takeWhile_cons, hy]
      rw [setM, e]
      rfl
theorem mkLt_total (x y : S25) (h : ¬ mkLt y x = true) (hs : ¬ sameP x y = true) : mkLt x y = true := by
  unfold mkLt sameP at *
  repeat' split at h
  all_goals (repeat' split)
  all_goals (simp at * <;> omega)
theorem sameP_iff {x y : S25} (h : sameP x y = true) : y.f0 = x.f0 ∧ y.f1 = x.f1 := by
  simpa [sameP] using h
theorem mkLt_same1 {x y z : S25} (h : sameP x y = true) : mkLt x z = mkLt y z := by
  obtain ⟨h0, h1⟩ := sameP_iff h
  simp only [mkLt, h0, h1]
theorem mkLt_same2 {x y z : S25} (h : sameP x y = true) : mkLt z x = mkLt z y := by
  obtain ⟨h0, h1⟩ := sameP_iff h
  simp only [mkLt, h0, h1]
theorem insM_valid (x : S25) (hx : mkOk x = true) (l : List S25) : ∀ p, mkL p l = true → mkNext p x = true → mkL p (insM x l) = true := by
  induction l with
  | nil =>
    intro p _ hp
    simp [insM, mkL, hx, hp]
  | cons y r ih =>
    intro p h hp
    rw [mkL, Bool.and_eq_true, Bool.and_eq_true] at h
    obtain ⟨⟨hy, hpy⟩, hr⟩ := h
    rw [insM]
    by_cases h1 : mkLt y x = true
    · rw [if_pos h1, mkL, hy, hpy, ih (some y) hr h1]
      rfl
    · rw [if_neg h1]
      by_cases h2 : sameP x y = true
      · rw [if_pos h2]
        split
        · have e : mkL (some x) r = mkL (some y) r := by
            cases r with
            | nil => rfl
            | cons z q =>
              rw [mkL, mkL]
              have : mkNext (some x) z = mkNext (some y) z := mkLt_same1 h2
              rw [this]
          rw [mkL, hx, hp, e, hr]
          rfl
        · rw [mkL, hy, hpy, hr]
          rfl
      · rw [if_neg h2, mkL, hx, hp, mkL, hy, hr]
        have : mkNext (some x) y = true := mkLt_total x y h1 h2
        rw [this]
        rfl
theorem insM_len (x : S25) (l : List S25) : (insM x l).length ≤ l.length + 1 := by
  induction l with
  | nil => simp [insM]
  | cons y r ih =>
    rw [insM]
    split
    · simp only [List.length_cons]; omega
    · split
      · split <;> simp
      · simp
def mergeL (o : List S25) (b : List S25) : List S25 := b.foldl setM o
def mergeR (a b : List S25) : List S25 := if areMarks a = true ∧ areMarks b = true then (if areMarks (mergeL a b) = true then mergeL a b else a) else a
theorem mergeL_valid (b : List S25) : ∀ (o : List S25), mkL none o = true → (∀ x ∈ b, mkOk x = true) → mkL none (mergeL o b) = true := by
  induction b with
  | nil => intro o h _; exact h
  | cons x b ih =>
    intro o h hb
    refine ih (setM o x) ?_ (fun y hy => hb y (List.mem_cons_of_mem _ hy))
    rw [setM_ins]
    exact insM_valid x (hb x List.mem_cons_self) o none h rfl
theorem mkL_ok (l : List S25) : ∀ p, mkL p l = true → ∀ x ∈ l, mkOk x = true := by
  induction l with
  | nil => intro p _ x hx; simp at hx
  | cons y l ih =>
    intro p h x hx
    rw [mkL, Bool.and_eq_true, Bool.and_eq_true] at h
    rcases List.mem_cons.1 hx with rfl | hx
    · exact h.1.1
    · exact ih _ h.2 x hx
def spec_MergeMarks.q (k : Nat) (a o : List S25) : Option (List S25) := (spec_AreMarks.f k o).bind fun t => (if t = true then (some o) else ((some (([] : List S25) : List S25)).bind fun y => (if y.length + a.length < 3518437208883 then (some (y ++ a)) else (none))))
theorem impl_merge_loop (a b : List S25) (ha : a.length ≤ 1048576) (hb : b.length ≤ 30) (hok : ∀ x ∈ b, mkOk x = true) (d : Nat) : ∀ (i : Nat) (o : List S25), i + d = b.length → o.length ≤ 30 + i → mkL none o = true →
    Ev (fun k => impl_MergeMarks.l0 k a o b (b.length : Int) (i : Int)) (if areMarks (mergeL o (b.drop i)) = true then mergeL o (b.drop i) else a) := by
  induction d with
  | zero =>
    intro i o hi ho hv
    rw [List.drop_of_length_le (by omega), show mergeL o [] = o from rfl]
    refine Ev.one (fun k => ?_)
    simp only [impl_MergeMarks.l0, clone_eq a (by omega), Option.bind_some]
    rw [if_neg (by omega)]
    by_cases h : o.length ≤ 30
    · rw [if_neg (by omega), if_pos (areMarks_iff.2 ⟨hv, h⟩)]
    · rw [if_pos (by omega), if_neg (fun h2 => h (areMarks_iff.1 h2).2)]
  | succ d ih =>
    intro i o hi ho hv
    have hlt : i < b.length := by omega
    rw [drop_cons b i hlt]
    have hs := setM_ins b[i] o
    have hl := insM_len b[i] o
    have hv2 := insM_valid b[i] (hok _ (List.getElem_mem hlt)) o none hv rfl
    rw [← hs] at hl hv2
    refine Ev.step (f := fun k => (impl_put.f k o b[i].f0 b[i].f1 b[i].f2 b[i].f3 b[i].f4).bind fun t => impl_MergeMarks.l0 k a t b (b.length : Int) ((i + 1 : Nat) : Int)) (fun k => ?_) (Ev.bind (put_ev o b[i] (by omega) hv) (ih (i + 1) (setM o b[i]) (by omega) (by omega) hv2))
    simp only [impl_MergeMarks.l0]
    rw [if_pos (by omega), if_pos (by omega), if_pos (by omega), rdMark_get b i hlt, w64_nat i (by omega)]
theorem impl_merge (a b : List S25) (ha : a.length ≤ 1048576) (hb : b.length ≤ 1048576) : Ev (fun k => impl_MergeMarks.f k a b) (mergeR a b) := by
  have hbad : Ev (fun k => impl_MergeMarks.j0 k a b true) a := Ev.one (fun k => by simp only [impl_MergeMarks.j0, if_true, clone_eq a (by omega), Option.bind_some])
  simp only [impl_MergeMarks.f, mergeR]
  refine Ev.bind (impl_marks a (by omega)) ?_
  by_cases h1 : areMarks a = true
  · simp only [h1, if_true, true_and]
    refine Ev.bind (impl_marks b (by omega)) ?_
    by_cases h2 : areMarks b = true
    · simp only [h2, if_true, Bool.not_true]
      have g1 := areMarks_iff.1 h1
      have g2 := areMarks_iff.1 h2
      refine Ev.step (fun k => ?_) (impl_merge_loop a b ha g2.2 (mkL_ok b none g2.1) b.length 0 a (by omega) (by omega) g1.1)
      simp only [impl_MergeMarks.j0, Bool.false_eq_true, if_false, clone_eq a (by omega), Option.bind_some]
      rfl
    · rw [Bool.not_eq_true] at h2
      simp only [h2, Bool.not_false, Bool.false_eq_true, if_false]
      exact hbad
  · simp only [h1, if_false, false_and]
    exact hbad
theorem spec_merge_loop (a b : List S25) (ha : a.length ≤ 1048576) (hb : b.length ≤ 30) (h1 : areMarks a = true) (h2 : areMarks b = true) (d : Nat) : ∀ (i : Nat) (o : List S25), i + d = b.length → o.length ≤ 30 + i →
    Ev (fun k => spec_MergeMarks.l0 k a b o (i : Int)) (if areMarks (mergeL o (b.drop i)) = true then mergeL o (b.drop i) else a) := by
  induction d with
  | zero =>
    intro i o hi ho
    rw [List.drop_of_length_le (by omega), show mergeL o [] = o from rfl]
    refine Ev.step (f := fun k => (spec_AreMarks.f k o).bind fun t => if t = true then some o else (some (([] : List S25) : List S25)).bind fun y => (if y.length + a.length < 3518437208883 then (some (y ++ a)) else (none))) (fun k => ?_) (Ev.bind (spec_marks o (by omega)) ?_)
    · simp only [spec_MergeMarks.l0]
      rw [if_neg (by omega)]
    · by_cases h : areMarks o = true
      · simp only [h, if_true]
        exact Ev.now _
      · simp only [h, Bool.false_eq_true, if_false]
        refine Ev.one (fun k => ?_)
        simp only [Option.bind_some, List.length_nil, List.nil_append, Nat.zero_add]
        rw [if_pos (by omega)]
  | succ d ih =>
    intro i o hi ho
    have hlt : i < b.length := by omega
    rw [drop_cons b i hlt]
    have hl := insM_len b[i] o
    rw [← setM_ins b[i] o] at hl
    refine Ev.step (f := fun k => (spec_AreMarks.f k a).bind fun t => if t = true then ((spec_AreMarks.f k b).bind fun t => if t = true then ((spec_l25Set.f k o b[i].f0 b[i].f1 b[i].f2 b[i].f3 b[i].f4).bind fun t => spec_MergeMarks.l0 k a b t ((i + 1 : Nat) : Int)) else spec_MergeMarks.q k a o) else spec_MergeMarks.q k a o) (fun k => ?_) (Ev.bind (spec_marks a (by omega)) ?_)
    · simp only [spec_MergeMarks.l0, spec_MergeMarks.q]
      rw [if_pos (by omega), if_pos (by omega), rdMark_get b i hlt, w64_nat i (by omega)]
    · simp only [h1, if_true]
      refine Ev.bind (spec_marks b (by omega)) ?_
      simp only [h2, if_true]
      exact Ev.bind (spec_set o b[i] (by omega)) (ih (i + 1) (setM o b[i]) (by omega) (by omega))
theorem spec_merge (a b : List S25) (ha : a.length ≤ 1048576) (hb : b.length ≤ 1048576) : Ev (fun k => spec_MergeMarks.f k a b) (mergeR a b) := by
  simp only [spec_MergeMarks.f, mergeR, Option.bind_some, List.length_nil, List.nil_append, Nat.zero_add]
  have hlim : a.length < 3518437208883 := by omega
  simp only [hlim, if_true]
  have hend : Ev (fun k => spec_MergeMarks.q k a a) a := by
    simp only [spec_MergeMarks.q]
    refine Ev.bind (spec_marks a (by omega)) ?_
    split
    · exact Ev.now _
    · refine Ev.one (fun k => ?_)
      simp only [Option.bind_some, List.length_nil, List.nil_append, Nat.zero_add]
      rw [if_pos (by omega)]
  by_cases h : areMarks a = true ∧ areMarks b = true
  · rw [if_pos h]
    have g2 := areMarks_iff.1 h.2
    have g1 := areMarks_iff.1 h.1
    exact spec_merge_loop a b ha g2.2 h.1 h.2 b.length 0 a (by omega) (by omega)
  · rw [if_neg h]
    by_cases h0 : 0 < b.length
    · refine Ev.step (f := fun k => (spec_AreMarks.f k a).bind fun t => if t = true then ((spec_AreMarks.f k b).bind fun t => if t = true then ((spec_l25Set.f k a b[0].f0 b[0].f1 b[0].f2 b[0].f3 b[0].f4).bind fun t => spec_MergeMarks.l0 k a b t ((0 + 1 : Nat) : Int)) else spec_MergeMarks.q k a a) else spec_MergeMarks.q k a a) (fun k => ?_) (Ev.bind (spec_marks a (by omega)) ?_)
      · have := rdMark_get b 0 h0
        simp only [spec_MergeMarks.l0, spec_MergeMarks.q]
        rw [if_pos (by omega), if_pos (by omega)]
        rw [show (0 : Int) = ((0 : Nat) : Int) from rfl, rdMark_get b 0 h0, w64_nat 0 (by omega)]
      · by_cases h1 : areMarks a = true
        · simp only [h1, if_true]
          refine Ev.bind (spec_marks b (by omega)) ?_
          have h2 : ¬ areMarks b = true := fun h2 => h ⟨h1, h2⟩
          simp only [h2, if_false]
          exact hend
        · simp only [h1, if_false]
          exact hend
    · refine Ev.step (f := fun k => spec_MergeMarks.q k a a) (fun k => ?_) hend
      simp only [spec_MergeMarks.l0, spec_MergeMarks.q]
      rw [if_neg (by omega)]

theorem markLoop {β : Type} (C : Nat → Nat) (mkv : Nat → β) (F : Nat → List β → Int → Int → Option (Int × List β)) (n : Nat)
    (h1 : ∀ (x3 : List β) (i : Nat) (r : Int × List β), i < n → x3.length = n → Ev (fun k => F k (x3.set i (mkv i)) ((C (i + 1) : Nat) : Int) ((i + 1 : Nat) : Int)) r → Ev (fun k => F k x3 ((C i : Nat) : Int) (i : Int)) r)
    (h2 : ∀ x3 : List β, x3.length = n → Ev (fun k => F k x3 ((C n : Nat) : Int) (n : Int)) (((C n : Nat) : Int), x3)) (init : List β) (hl : init.length = n) :
    Ev (fun k => F k init ((C 0 : Nat) : Int) ((0 : Nat) : Int)) (((C n : Nat) : Int), (List.range n).map mkv) := by
  have key : ∀ (d i : Nat) (x3 : List β), i + d = n → x3.length = n → x3.take i = (List.range i).map mkv → Ev (fun k => F k x3 ((C i : Nat) : Int) (i : Int)) (((C n : Nat) : Int), (List.range n).map mkv) := by
    intro d
    induction d with
    | zero =>
      intro i x3 hi hx ht
      obtain rfl : i = n := by omega
      have e : x3 = (List.range i).map mkv := by
        rw [← ht, ← hx, List.take_length]
      have := h2 x3 hx
      rw [← e]
      exact this
    | succ d ih =>
      intro i x3 hi hx ht
      refine h1 x3 i _ (by omega) hx (ih (i + 1) _ (by omega) (by rw [List.length_set]; exact hx) ?_)
      rw [set_take x3 i _ (by omega), ht, List.range_succ, List.map_append]
      rfl
  exact key n 0 init (by omega) hl (by simp)

theorem heldLoop (C : Nat → Nat) (F : Nat → Int → Int → Option Int) (n : Nat)
    (h1 : ∀ (i : Nat) (r : Int), i < n → Ev (fun k => F k ((C (i + 1) : Nat) : Int) ((i + 1 : Nat) : Int)) r → Ev (fun k => F k ((C i : Nat) : Int) (i : Int)) r)
    (h2 : Ev (fun k => F k ((C n : Nat) : Int) (n : Int)) ((C n : Nat) : Int)) : Ev (fun k => F k ((C 0 : Nat) : Int) ((0 : Nat) : Int)) ((C n : Nat) : Int) := by
  have key : ∀ (d i : Nat), i + d = n → Ev (fun k => F k ((C i : Nat) : Int) (i : Int)) ((C n : Nat) : Int) := by
    intro d
    induction d with
    | zero =>
      intro i hi
      obtain rfl : i = n := by omega
      exact h2
    | succ d ih =>
      intro i hi
      exact h1 i _ (by omega) (ih (i + 1) (by omega))
  exact key n 0 (by omega)

theorem rdlMark_get (l : List S23) (i : Nat) (h : i < l.length) : rd_T23 l (i : Int) = l[i] := by
  simp [rd_T23, List.getD, List.getElem?_eq_getElem h]

def cvMark (x : S23) : S25 := ⟨x.f0, x.f1, x.f2, x.f3, x.f4⟩

theorem toMarkS_ev (l : List S23) (hl : l.length ≤ 1048576) : Ev (fun k => laws_toMarkS.f k l) (l.map cvMark) := by
  have key := copyLoop (fun k x3 i => laws_toMarkS.l0 k l x3 i) l cvMark (by
    intro x3 i r hi hx h
    refine Ev.step (fun k => ?_) h
    simp only [laws_toMarkS.l0, laws_toMark.f, Option.bind_some]
    rw [if_pos (by omega), if_pos (by omega), if_pos (by omega), rdlMark_get l i hi, w64_nat i (by omega), Int.toNat_natCast]
    rfl) (by
    intro x3
    refine Ev.one (fun k => ?_)
    simp only [laws_toMarkS.l0]
    rw [if_neg (by omega)]) (List.replicate l.length z25) (by simp)
  refine Ev.congr (fun k => ?_) key
  simp only [laws_toMarkS.f, Int.toNat_natCast]
  rw [if_pos (by omega), if_pos (by omega)]

theorem eqMarkS_ev (l : List S25) (hl : l.length ≤ 140737488355328) : Ev (fun k => laws_eqMarkS.f k l l) true := by
  have key := eqLoop (fun k i => laws_eqMarkS.l0 k l l i) l (by
    intro i r hi h
    refine Ev.step (fun k => ?_) h
    simp only [laws_eqMarkS.l0, laws_eqMark.f, if_true, Option.bind_some]
    rw [if_pos (by omega), if_pos (by omega), if_pos (by omega), w64_nat i (by omega)]) (by
    refine Ev.one (fun k => ?_)
    simp only [laws_eqMarkS.l0]
    rw [if_neg (by omega)])
  refine Ev.congr (fun k => ?_) key
  simp only [laws_eqMarkS.f, if_true]

theorem szMarkS_ev (l : List S23) (b : Int) (hb : 0 ≤ b) (hb2 : b ≤ 1048576) (h0 : l.length ≤ 9223372036854775807) : laws_szMarkS.f l b = some (if b < (l.length : Int) then -1 else b - (l.length : Int)) := by
  simp only [laws_szMarkS.f]
  rw [w64 (by omega) (by omega)]
  split
  · rw [if_pos (by omega)]
  · rw [if_neg (by omega)]

def mkMark (q : Nat) : S25 := ⟨((1 + 5 * q : Nat) : Int), ((1 + 5 * q + 1 : Nat) : Int), ((1 + 5 * q + 1 + 1 : Nat) : Int), ((1 + 5 * q + 1 + 1 + 1 : Nat) : Int), ((1 + 5 * q + 1 + 1 + 1 + 1 : Nat) : Int)⟩

theorem rdMark_set (l : List S25) (i : Nat) (h : i < l.length) (v : S25) : rd_T25 (l.set i v) (i : Int) = v := by
  simp [rd_T25, List.getD, List.getElem?_set_self h]

theorem markMarkS_ev (l : List S25) (hl : l.length ≤ 1048576) : Ev (fun k => laws_markMarkS.f k l 1) (((1 + 5 * l.length : Nat) : Int), (List.range l.length).map mkMark) := by
  have key := markLoop (fun i => 1 + 5 * i) mkMark (fun k x c i => laws_markMarkS.l0 k x c i) l.length (by
    intro x3 i r hi hx h
    simp only [show 1 + 5 * (i + 1) = 1 + 5 * i + 1 + 1 + 1 + 1 + 1 by omega] at h
    refine Ev.step (fun k => ?_) h
    have hx' : i < x3.length := by omega
    simp only [laws_markMarkS.l0, Option.bind_some, Int.toNat_natCast]
    rw [if_pos (by omega), if_pos (by omega), w64_nat (1 + 5 * i) (by omega), w64_nat (1 + 5 * i + 1) (by omega), w64_nat (1 + 5 * i + 1 + 1) (by omega), w64_nat (1 + 5 * i + 1 + 1 + 1) (by omega), w64_nat (1 + 5 * i + 1 + 1 + 1 + 1) (by omega), w64_nat i (by omega)]
    simp only [rdMark_set, List.length_set, hx', List.set_set, mkMark]) (by
    intro x3 hx
    refine Ev.one (fun k => ?_)
    simp only [laws_markMarkS.l0]
    rw [if_neg (by omega)]) l rfl
  exact key

theorem heldMarkS_ev (n : Nat) (hl : n ≤ 1048576) : Ev (fun k => laws_heldMarkS.f k ((List.range n).map mkMark) 1) ((1 + 5 * n : Nat) : Int) := by
  have key := heldLoop (fun i => 1 + 5 * i) (fun k c i => laws_heldMarkS.l0 k ((List.range n).map mkMark) c i) n (by
    intro i r hi h
    simp only [show 1 + 5 * (i + 1) = 1 + 5 * i + 1 + 1 + 1 + 1 + 1 by omega] at h
    refine Ev.step (fun k => ?_) h
    simp only [laws_heldMarkS.l0, List.length_map, List.length_range]
    rw [if_pos (by omega), if_pos (by omega), rdMark_get _ i (by simpa using hi), w64_nat (1 + 5 * i) (by omega), w64_nat (1 + 5 * i + 1) (by omega), w64_nat (1 + 5 * i + 1 + 1) (by omega), w64_nat (1 + 5 * i + 1 + 1 + 1) (by omega), w64_nat (1 + 5 * i + 1 + 1 + 1 + 1) (by omega), w64_nat i (by omega)]
    simp only [List.getElem_map, List.getElem_range, mkMark, if_true]) (by
    refine Ev.one (fun k => ?_)
    simp only [laws_heldMarkS.l0, List.length_map, List.length_range]
    rw [if_neg (by omega)])
  exact key

theorem markFrom_ev (l : List S25) (hl : l.length ≤ 1048576) (c : Nat) (hc : c ≤ 100000000) : ∃ r, Ev (fun k => laws_markMarkS.f k l (c : Int)) (((c + 5 * l.length : Nat) : Int), r) := by
  have key : ∀ (d i : Nat) (x3 : List S25), i + d = l.length → x3.length = l.length → ∃ r, Ev (fun k => laws_markMarkS.l0 k x3 ((c + 5 * i : Nat) : Int) (i : Int)) (((c + 5 * l.length : Nat) : Int), r) := by
    intro d
    induction d with
    | zero =>
      intro i x3 hi hx
      obtain rfl : i = l.length := by omega
      refine ⟨x3, Ev.one (fun k => ?_)⟩
      simp only [laws_markMarkS.l0]
      rw [if_neg (by omega)]
    | succ d ih =>
      intro i x3 hi hx
      obtain ⟨r, hr⟩ := ih (i + 1) (x3.set i ⟨((c + 5 * i : Nat) : Int), ((c + 5 * i + 1 : Nat) : Int), ((c + 5 * i + 1 + 1 : Nat) : Int), ((c + 5 * i + 1 + 1 + 1 : Nat) : Int), ((c + 5 * i + 1 + 1 + 1 + 1 : Nat) : Int)⟩) (by omega) (by rw [List.length_set]; exact hx)
      rw [show c + 5 * (i + 1) = c + 5 * i + 1 + 1 + 1 + 1 + 1 by omega] at hr
      refine ⟨r, Ev.step (fun k => ?_) hr⟩
      have hx' : i < x3.length := by omega
      simp only [laws_markMarkS.l0, Option.bind_some, Int.toNat_natCast]
      rw [if_pos (by omega), if_pos (by omega), w64_nat (c + 5 * i) (by omega), w64_nat (c + 5 * i + 1) (by omega), w64_nat (c + 5 * i + 1 + 1) (by omega), w64_nat (c + 5 * i + 1 + 1 + 1) (by omega), w64_nat (c + 5 * i + 1 + 1 + 1 + 1) (by omega), w64_nat i (by omega)]
      simp only [rdMark_set, List.length_set, hx', List.set_set]
  exact key l.length 0 l (by omega) rfl
theorem FnExactMergeMarks : ∀ (l0 : List (S23)) (l1 : List (S23)), (l0.length ≤ maxLen ∧ l0.length * 40 ≤ 140737488351232 ∧ ∀ l0' ∈ l0, ((Lit.int .i64 l0'.f0).wf = true) ∧ ((Lit.int .i64 l0'.f1).wf = true) ∧ ((Lit.int .i64 l0'.f2).wf = true) ∧ ((Lit.int .i64 l0'.f3).wf = true) ∧ ((Lit.int .i64 l0'.f4).wf = true)) → (l1.length ≤ maxLen ∧ l1.length * 40 ≤ 140737488351232 ∧ ∀ l1' ∈ l1, ((Lit.int .i64 l1'.f0).wf = true) ∧ ((Lit.int .i64 l1'.f1).wf = true) ∧ ((Lit.int .i64 l1'.f2).wf = true) ∧ ((Lit.int .i64 l1'.f3).wf = true) ∧ ((Lit.int .i64 l1'.f4).wf = true)) → ∃ k, laws_FnExactMergeMarks.f k l0 l1 = some true := by
  intro l0 l1 h0 h1
  have hm0 : l0.length ≤ 9223372036854775807 := h0.1
  have hm1 : l1.length ≤ 9223372036854775807 := h1.1
  refine Ev.rounds (g := fun k => laws_FnExactMergeMarks.f k l0 l1) ?_
  simp only [laws_FnExactMergeMarks.f, szMarkS_ev l0 1048576 (by omega) (by omega) hm0, Option.bind_some]
  by_cases hb : (1048576 : Int) < (l0.length : Int)
  · simp only [hb, if_true]
    exact Ev.now true
  · have hn : ¬ (1048576 - (l0.length : Int) < 0) := by omega
    simp only [hb, hn, if_false]
    simp only [szMarkS_ev l1 (1048576 - (l0.length : Int)) (by omega) (by omega) hm1, Option.bind_some]
    by_cases hb1 : 1048576 - (l0.length : Int) < (l1.length : Int)
    · simp only [hb1, if_true]
      exact Ev.now true
    · have hn1 : ¬ (1048576 - (l0.length : Int) - (l1.length : Int) < 0) := by omega
      simp only [hb1, hn1, if_false]
      have hneg : ∀ q : Nat, ¬ ((q : Int) < 0) := fun q => by omega
      have hl0 : (l0.map cvMark).length = l0.length := List.length_map _
      have hl1 : (l1.map cvMark).length = l1.length := List.length_map _
      have hs := spec_merge (l0.map cvMark) (l1.map cvMark) (by omega) (by omega)
      have hi := impl_merge (l0.map cvMark) (l1.map cvMark) (by omega) (by omega)
      have hlen : (mergeR (l0.map cvMark) (l1.map cvMark)).length ≤ 1048576 := by
        unfold mergeR
        split
        · split
          · rename_i h
            have := (areMarks_iff.1 h).2
            omega
          · omega
        · omega
      have t0 := toMarkS_ev l0 (by omega)
      have t1 := toMarkS_ev l1 (by omega)
      have e0 := eqMarkS_ev (l0.map cvMark) (by omega)
      have e1 := eqMarkS_ev (l1.map cvMark) (by omega)
      have hr := eqMarkS_ev (mergeR (l0.map cvMark) (l1.map cvMark)) (by omega)
      obtain ⟨r0, hma⟩ := markFrom_ev (l0.map cvMark) (by omega) 1 (by omega)
      obtain ⟨r1, hmb⟩ := markFrom_ev (l1.map cvMark) (by omega) (1 + 5 * (l0.map cvMark).length) (by omega)
      have hmr := markMarkS_ev (mergeR (l0.map cvMark) (l1.map cvMark)) (by omega)
      have hhe := heldMarkS_ev (mergeR (l0.map cvMark) (l1.map cvMark)).length (by omega)
      refine Ev.bind t0 ?_
      refine Ev.bind t1 ?_
      refine Ev.bind hs ?_
      refine Ev.bind t0 ?_
      refine Ev.bind t1 ?_
      refine Ev.bind hi ?_
      refine Ev.bind hr ?_
      simp only [if_true]
      refine Ev.bind t0 ?_
      refine Ev.bind e0 ?_
      simp only [if_true]
      refine Ev.bind t1 ?_
      refine Ev.bind e1 ?_
      simp only [if_true]
      refine Ev.bind hma ?_
      refine Ev.bind hmb ?_
      simp only [hneg, if_false]
      refine Ev.bind hr ?_
      simp only [Bool.not_true]
      refine Ev.step (fun k => by simp only [laws_FnExactMergeMarks.j0, Bool.false_eq_true, if_false]; rfl) ?_
      refine Ev.bind hmr ?_
      refine Ev.bind hhe ?_
      simp only [hneg, if_false, if_true]
      refine Ev.bind t0 ?_
      refine Ev.bind t1 ?_
      refine Ev.bind hi ?_
      refine Ev.bind hr ?_
      simp only [if_true]
      refine Ev.bind hhe ?_
      simp only [hneg, if_false, if_true]
      exact Ev.now true

end Go.Proofs.Ytcmafemdcikmfaa.Pure
