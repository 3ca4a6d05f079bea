/- The plain statement of the law FnExactAreMarks: what its printed function answers; no conditions but that the numbers are Go's ints and the slices no longer than memory. -/
import Derived.Test.YtcmafemdcikmfaaQFnExactAreMarksx5
set_option linter.unusedVariables false
set_option linter.unusedSimpArgs false
namespace Go.Proofs.Ytcmafemdcikmfaa.Pure
open Go.RowKit Go.Proofs.Ytcmafemdcikmfaa.QFnExactAreMarks Go.Proofs.YtcmafemdcikmfaaW.PrintWords Go.Proofs.YtcmafemdcikmfaaW.PrintLast Go.Proofs.YtcmafemdcikmfaaW.PrintMore

theorem wf64 {x : Int} (h : (Lit.int .i64 x).wf = true) : -9223372036854775808 ≤ x ∧ x ≤ 9223372036854775807 := by
  simp only [Lit.wf, IntKind.min, IntKind.max, IntKind.signed, IntKind.bits, Bool.and_eq_true, decide_eq_true_eq, if_true] at h
  omega

theorem w64 {x : Int} (h1 : -9223372036854775808 ≤ x) (h2 : x ≤ 9223372036854775807) : wrap64 x = x := by
  unfold wrap64
  omega

theorem w64_nat (i : Nat) (h : i ≤ 9223372036854775806) : wrap64 ((i : Int) + 1) = ((i + 1 : Nat) : Int) := by
  unfold wrap64
  omega

theorem drop_cons {α : Type} (l : List α) (i : Nat) (h : i < l.length) : l.drop i = l[i] :: l.drop (i + 1) := List.drop_eq_getElem_cons h

theorem set_take {β : Type} (x : List β) (i : Nat) (v : β) (h : i < x.length) : (x.set i v).take (i + 1) = x.take i ++ [v] := by
  apply List.ext_getElem?
  intro j
  rcases Nat.lt_trichotomy j i with hj | hj | hj
  · rw [List.getElem?_take_of_lt (by omega), List.getElem?_set_ne (by omega), List.getElem?_append_left (by simp; omega), List.getElem?_take_of_lt (by omega)]
  · subst hj
    rw [List.getElem?_take_of_lt (by omega), List.getElem?_set_self (by omega), List.getElem?_append_right (by simp; omega)]
    simp [Nat.min_eq_left (Nat.le_of_lt h)]
  · rw [List.getElem?_take_eq_none (by omega), List.getElem?_append_right (by simp; omega)]
    simp
    omega

theorem copyLoop {α β : Type} (F : Nat → List β → Int → Option (List β)) (x0 : List α) (cv : α → β)
    (h1 : ∀ (x3 : List β) (i : Nat) (r : List β) (hi : i < x0.length), x3.length = x0.length → Ev (fun k => F k (x3.set i (cv x0[i])) ((i + 1 : Nat) : Int)) r → Ev (fun k => F k x3 (i : Int)) r)
    (h2 : ∀ x3 : List β, Ev (fun k => F k x3 (x0.length : Int)) x3) (init : List β) (hl : init.length = x0.length) : Ev (fun k => F k init 0) (x0.map cv) := by
  have key : ∀ (d i : Nat) (x3 : List β), i + d = x0.length → x3.length = x0.length → x3.take i = (x0.map cv).take i → Ev (fun k => F k x3 (i : Int)) (x0.map cv) := by
    intro d
    induction d with
    | zero =>
      intro i x3 hi hx ht
      obtain rfl : i = x0.length := by omega
      have e : x3 = x0.map cv := by
        rw [← hx, List.take_length] at ht
        rw [ht, hx]
        exact List.take_of_length_le (by simp)
      have := h2 x3
      rw [e] at this
      rw [e]
      exact this
    | succ d ih =>
      intro i x3 hi hx ht
      have hlt : i < x0.length := by omega
      refine h1 x3 i _ hlt hx (ih (i + 1) _ (by omega) (by rw [List.length_set]; exact hx) ?_)
      rw [set_take x3 i _ (by omega), ht]
      rw [List.take_succ_eq_append_getElem (by simpa using hlt)]
      simp
  have := key x0.length 0 init (by omega) hl (by simp)
  exact this

theorem eqLoop {α : Type} (F : Nat → Int → Option Bool) (x0 : List α)
    (h1 : ∀ (i : Nat) (r : Bool) (_ : i < x0.length), Ev (fun k => F k ((i + 1 : Nat) : Int)) r → Ev (fun k => F k (i : Int)) r)
    (h2 : Ev (fun k => F k (x0.length : Int)) true) : Ev (fun k => F k 0) true := by
  have key : ∀ (d i : Nat), i + d = x0.length → Ev (fun k => F k (i : Int)) true := by
    intro d
    induction d with
    | zero =>
      intro i hi
      obtain rfl : i = x0.length := by omega
      exact h2
    | succ d ih =>
      intro i hi
      exact h1 i true (by omega) (ih (i + 1) (by omega))
  exact key x0.length 0 (by omega)

theorem ite_eq_of {α : Type} {p : Prop} [Decidable p] {a b : α} (h : p) : (if p then a else b) = a := if_pos h

theorem Ev.one {α : Type} {g : Nat → Option α} {r : α} (h : ∀ k, g (k + 1) = some r) : Ev g r := Ev.step (f := fun _ => some r) h (Ev.now r)

theorem rdMark_get (l : List S25) (i : Nat) (h : i < l.length) : rd_T25 l (i : Int) = l[i] := by
  simp [rd_T25, List.getD, List.getElem?_eq_getElem h]

def mkOk (x : S25) : Bool := decide ((1 ≤ x.f0 ∧ x.f0 ≤ 100) ∧ (1 ≤ x.f1 ∧ x.f1 ≤ 4) ∧ (0 ≤ x.f2 ∧ x.f2 ≤ 9) ∧ (0 ≤ x.f3 ∧ x.f3 ≤ 100000) ∧ (1 ≤ x.f4 ∧ x.f4 ≤ 99))
/-- By bar and kind. -/
def mkLt (a b : S25) : Bool := if a.f0 < b.f0 then true else if a.f0 = b.f0 then decide (a.f1 < b.f1) else false
def mkNext (p : Option S25) (x : S25) : Bool := match p with
  | none => true
  | some y => mkLt y x
def mkL : Option S25 → List S25 → Bool
  | _, [] => true
  | p, x :: l => (mkOk x && mkNext p x) && mkL (some x) l
def areMarks (l : List S25) : Bool := mkL none l && decide (l.length ≤ 30)

theorem areMarks_iff {l : List S25} : areMarks l = true ↔ mkL none l = true ∧ l.length ≤ 30 := by
  simp [areMarks]

theorem l1In_eq (a b c : Int) : spec_l1In.f a b c = some (decide (b ≤ a ∧ a ≤ c)) := by
  unfold spec_l1In.f
  split <;> simp <;> omega

theorem spec_mbefore (a b : S25) : spec_l25Before.f a.f0 a.f1 a.f2 a.f3 a.f4 b.f0 b.f1 b.f2 b.f3 b.f4 = some (mkLt a b) := by
  unfold spec_l25Before.f mkLt
  repeat' split
  all_goals rfl

theorem spec_marks_ev (l : List S25) (hl : l.length ≤ 1048576) (d : Nat) : ∀ (i : Nat) (p : Option S25), i + d = l.length → (i = 0 ∧ p = none ∨ ∃ h : i - 1 < l.length, 0 < i ∧ p = some l[i - 1]) →
    Ev (fun k => spec_AreMarks.l0 k l (i : Int)) (mkL p (l.drop i) && decide (l.length ≤ 30)) := by
  induction d with
  | zero =>
    intro i p hi hp
    rw [List.drop_of_length_le (by omega)]
    refine Ev.one (fun k => ?_)
    simp only [spec_AreMarks.l0, mkL, Bool.true_and]
    rw [if_neg (by omega)]
    refine congrArg some (decide_eq_decide.2 ?_)
    omega
  | succ d ih =>
    intro i p hi hp
    have hlt : i < l.length := by omega
    rw [drop_cons l i hlt]
    have next := ih (i + 1) (some l[i]) (by omega) (.inr ⟨by omega, by omega, rfl⟩)
    by_cases h0 : mkOk l[i] = true
    · have hx : (1 ≤ l[i].f0 ∧ l[i].f0 ≤ 100) ∧ (1 ≤ l[i].f1 ∧ l[i].f1 ≤ 4) ∧ (0 ≤ l[i].f2 ∧ l[i].f2 ≤ 9) ∧ (0 ≤ l[i].f3 ∧ l[i].f3 ≤ 100000) ∧ (1 ≤ l[i].f4 ∧ l[i].f4 ≤ 99) := by simpa only [mkOk, decide_eq_true_eq] using h0
      rcases hp with ⟨rfl, rfl⟩ | ⟨hi1, hpos, rfl⟩
      · refine Ev.step (f := fun k => spec_AreMarks.l0 k l ((0 + 1 : Nat) : Int)) (fun k => ?_) ?_
        · simp only [spec_AreMarks.l0, l1In_eq, Option.bind_some]
          rw [if_pos (by omega), if_pos (by omega), rdMark_get l 0 hlt, if_pos (decide_eq_true hx.1), if_pos (decide_eq_true hx.2.1), if_pos (decide_eq_true hx.2.2.1), if_pos (decide_eq_true hx.2.2.2.1), if_pos (decide_eq_true hx.2.2.2.2), if_neg (by omega), w64_nat 0 (by omega)]
        · rw [mkL, h0, mkNext, Bool.true_and, Bool.true_and]
          exact next
      · have hw : wrap64 ((i : Int) - 1) = ((i - 1 : Nat) : Int) := by unfold wrap64; omega
        by_cases h2 : mkLt l[i - 1] l[i] = true
        · rw [mkL, h0, mkNext, h2, Bool.true_and, Bool.true_and]
          refine Ev.step (fun k => ?_) next
          simp only [spec_AreMarks.l0, l1In_eq, Option.bind_some]
          rw [if_pos (by omega), if_pos (by omega), rdMark_get l i hlt, if_pos (decide_eq_true hx.1), if_pos (decide_eq_true hx.2.1), if_pos (decide_eq_true hx.2.2.1), if_pos (decide_eq_true hx.2.2.2.1), if_pos (decide_eq_true hx.2.2.2.2), if_pos (by omega), hw, if_pos (by omega), if_pos (by omega), rdMark_get l (i - 1) hi1, spec_mbefore, Option.bind_some, if_pos h2, w64_nat i (by omega)]
        · rw [Bool.not_eq_true] at h2
          rw [mkL, h0, mkNext, h2, Bool.and_false, Bool.false_and, Bool.false_and]
          refine Ev.one (fun k => ?_)
          simp only [spec_AreMarks.l0, l1In_eq, Option.bind_some]
          rw [if_pos (by omega), if_pos (by omega), rdMark_get l i hlt, if_pos (decide_eq_true hx.1), if_pos (decide_eq_true hx.2.1), if_pos (decide_eq_true hx.2.2.1), if_pos (decide_eq_true hx.2.2.2.1), if_pos (decide_eq_true hx.2.2.2.2), if_pos (by omega), hw, if_pos (by omega), if_pos (by omega), rdMark_get l (i - 1) hi1, spec_mbefore, Option.bind_some, h2]
          rfl
    · have hx : ¬ ((1 ≤ l[i].f0 ∧ l[i].f0 ≤ 100) ∧ (1 ≤ l[i].f1 ∧ l[i].f1 ≤ 4) ∧ (0 ≤ l[i].f2 ∧ l[i].f2 ≤ 9) ∧ (0 ≤ l[i].f3 ∧ l[i].f3 ≤ 100000) ∧ (1 ≤ l[i].f4 ∧ l[i].f4 ≤ 99)) := by simpa only [mkOk, decide_eq_true_eq] using h0
      rw [Bool.not_eq_true] at h0
      rw [mkL, h0, Bool.false_and, Bool.false_and, Bool.false_and]
      refine Ev.one (fun k => ?_)
      simp only [spec_AreMarks.l0, l1In_eq, Option.bind_some]
      rw [if_pos (by omega), if_pos (by omega), rdMark_get l i hlt]
      by_cases g0 : 1 ≤ l[i].f0 ∧ l[i].f0 ≤ 100
      · rw [if_pos (decide_eq_true g0)]
        by_cases g1 : 1 ≤ l[i].f1 ∧ l[i].f1 ≤ 4
        · rw [if_pos (decide_eq_true g1)]
          by_cases g2 : 0 ≤ l[i].f2 ∧ l[i].f2 ≤ 9
          · rw [if_pos (decide_eq_true g2)]
            by_cases g3 : 0 ≤ l[i].f3 ∧ l[i].f3 ≤ 100000
            · rw [if_pos (decide_eq_true g3)]
              by_cases g4 : 1 ≤ l[i].f4 ∧ l[i].f4 ≤ 99
              · rw [if_pos (decide_eq_true g4)]
                exact absurd ⟨g0, g1, g2, g3, g4⟩ hx
              · rw [if_neg (by simpa using g4)]
            · rw [if_neg (by simpa using g3)]
          · rw [if_neg (by simpa using g2)]
        · rw [if_neg (by simpa using g1)]
      · rw [if_neg (by simpa using g0)]

theorem spec_marks (l : List S25) (hl : l.length ≤ 1048576) : Ev (fun k => spec_AreMarks.f k l) (areMarks l) := spec_marks_ev l hl l.length 0 none (by omega) (.inl ⟨rfl, rfl⟩)

theorem inRange_eq (a b c : Int) : impl_InRange.f a b c = some (decide (b ≤ a ∧ a ≤ c)) := by
  unfold impl_InRange.f
  split <;> simp <;> omega

theorem rd_get (l : List Int) (i : Nat) (h : i < l.length) : rd l (i : Int) = l[i] := by
  simp [rd, List.getD, List.getElem?_eq_getElem h]

def cmp3 (a b : Int) : Int := if a < b then -1 else if a > b then 1 else 0

theorem compare_eq (a b : Int) : cmp_Compare_int.f a b = some (cmp3 a b) := by
  have h : ∀ x : Int, (x != x) = false := fun x => by simp
  simp only [cmp_Compare_int.f, cmp_isNaN_int.f, Option.bind_some, h, cmp3]
  simp only [Bool.false_eq_true, if_false]
  split
  · rfl
  · split <;> rfl

theorem or_step (l : List Int) (i : Nat) (r : Int) (hl : l.length ≤ 1048576) (hi : i < l.length) (h : l[i] = 0) (he : Ev (fun k => cmp_Or_int.l0 k 0 l (l.length : Int) ((i + 1 : Nat) : Int)) r) : Ev (fun k => cmp_Or_int.l0 k 0 l (l.length : Int) (i : Int)) r := by
  refine Ev.step (fun k => ?_) he
  simp only [cmp_Or_int.l0]
  rw [if_pos (by omega), if_pos (by omega), if_pos (by omega), rd_get l i hi, if_pos h, w64_nat i (by omega)]

theorem or_hit (l : List Int) (i : Nat) (hi : i < l.length) (h : ¬ l[i] = 0) : Ev (fun k => cmp_Or_int.l0 k 0 l (l.length : Int) (i : Int)) l[i] := by
  refine Ev.one (fun k => ?_)
  simp only [cmp_Or_int.l0]
  rw [if_pos (by omega), if_pos (by omega), if_pos (by omega), rd_get l i hi, if_neg h]

theorem or_end (l : List Int) : Ev (fun k => cmp_Or_int.l0 k 0 l (l.length : Int) ((l.length : Nat) : Int)) 0 := by
  refine Ev.one (fun k => ?_)
  simp only [cmp_Or_int.l0]
  rw [if_neg (by omega)]

theorem or2_ev (a b : Int) : Ev (fun k => cmp_Or_int.f k [a, b]) (if a = 0 then b else a) := by
  show Ev (fun k => cmp_Or_int.l0 k 0 [a, b] (([a, b] : List Int).length : Int) ((0 : Nat) : Int)) _
  by_cases ha : a = 0
  · rw [if_pos ha]
    refine or_step [a, b] 0 b (by simp) (by simp) ha ?_
    by_cases hb : b = 0
    · rw [hb]
      exact or_step [a, 0] 1 0 (by simp) (by simp) rfl (or_end _)
    · exact or_hit [a, b] 1 (by simp) hb
  · rw [if_neg ha]
    exact or_hit [a, b] 0 (by simp) ha

theorem or3_ev (a b c : Int) : Ev (fun k => cmp_Or_int.f k [a, b, c]) (if a = 0 then (if b = 0 then c else b) else a) := by
  show Ev (fun k => cmp_Or_int.l0 k 0 [a, b, c] (([a, b, c] : List Int).length : Int) ((0 : Nat) : Int)) _
  by_cases ha : a = 0
  · rw [if_pos ha]
    refine or_step [a, b, c] 0 _ (by simp) (by simp) ha ?_
    by_cases hb : b = 0
    · rw [if_pos hb]
      refine or_step [a, b, c] 1 _ (by simp) (by simp) hb ?_
      by_cases hc : c = 0
      · rw [hc]
        exact or_step [a, b, 0] 2 0 (by simp) (by simp) rfl (or_end _)
      · exact or_hit [a, b, c] 2 (by simp) hc
    · rw [if_neg hb]
      exact or_hit [a, b, c] 1 (by simp) hb
  · rw [if_neg ha]
    exact or_hit [a, b, c] 0 (by simp) ha

theorem impl_morder (a b : S25) : Ev (fun k => impl_markOrder.f k a.f0 a.f1 a.f2 a.f3 a.f4 b.f0 b.f1 b.f2 b.f3 b.f4) (if cmp3 a.f0 b.f0 = 0 then cmp3 a.f1 b.f1 else cmp3 a.f0 b.f0) := by
  simp only [impl_markOrder.f, compare_eq, Option.bind_some]
  exact Ev.bind (or2_ev _ _) (Ev.now _)

theorem morder_lt (a b : S25) : ((if cmp3 a.f0 b.f0 = 0 then cmp3 a.f1 b.f1 else cmp3 a.f0 b.f0) ≥ 0) ↔ ¬ mkLt a b = true := by
  unfold cmp3 mkLt
  repeat' split
  all_goals (simp <;> omega)

theorem impl_marks_ev (l : List S25) (hl : l.length ≤ 1048576) (d : Nat) : ∀ (i : Nat) (p : Option S25), i + d = l.length → (i = 0 ∧ p = none ∨ ∃ h : i - 1 < l.length, 0 < i ∧ p = some l[i - 1]) →
    Ev (fun k => impl_AreMarks.l0 k l l (l.length : Int) (i : Int)) (mkL p (l.drop i) && decide (l.length ≤ 30)) := by
  induction d with
  | zero =>
    intro i p hi hp
    rw [List.drop_of_length_le (by omega)]
    refine Ev.one (fun k => ?_)
    simp only [impl_AreMarks.l0, mkL, Bool.true_and]
    rw [if_neg (by omega)]
    refine congrArg some (decide_eq_decide.2 ?_)
    omega
  | succ d ih =>
    intro i p hi hp
    have hlt : i < l.length := by omega
    rw [drop_cons l i hlt]
    have next := ih (i + 1) (some l[i]) (by omega) (.inr ⟨by omega, by omega, rfl⟩)
    by_cases h0 : mkOk l[i] = true
    · have hx : (1 ≤ l[i].f0 ∧ l[i].f0 ≤ 100) ∧ (1 ≤ l[i].f1 ∧ l[i].f1 ≤ 4) ∧ (0 ≤ l[i].f2 ∧ l[i].f2 ≤ 9) ∧ (0 ≤ l[i].f3 ∧ l[i].f3 ≤ 100000) ∧ (1 ≤ l[i].f4 ∧ l[i].f4 ≤ 99) := by simpa only [mkOk, decide_eq_true_eq] using h0
      rcases hp with ⟨rfl, rfl⟩ | ⟨hi1, hpos, rfl⟩
      · refine Ev.step (f := fun k => impl_AreMarks.l0 k l l (l.length : Int) ((0 + 1 : Nat) : Int)) (fun k => ?_) ?_
        · simp only [impl_AreMarks.l0, inRange_eq, Option.bind_some]
          rw [if_pos (by omega), if_pos (by omega), if_pos (by omega), rdMark_get l 0 hlt, if_pos (decide_eq_true hx.1), if_pos (decide_eq_true hx.2.1), if_pos (decide_eq_true hx.2.2.1), if_pos (decide_eq_true hx.2.2.2.1), if_pos (decide_eq_true hx.2.2.2.2), if_neg (by omega), w64_nat 0 (by omega)]
        · rw [mkL, h0, mkNext, Bool.true_and, Bool.true_and]
          exact next
      · have hw : wrap64 ((i : Int) - 1) = ((i - 1 : Nat) : Int) := by unfold wrap64; omega
        refine Ev.step (f := fun k => (impl_markOrder.f k l[i - 1].f0 l[i - 1].f1 l[i - 1].f2 l[i - 1].f3 l[i - 1].f4 l[i].f0 l[i].f1 l[i].f2 l[i].f3 l[i].f4).bind fun t => if t ≥ 0 then some false else impl_AreMarks.l0 k l l (l.length : Int) ((i + 1 : Nat) : Int)) (fun k => ?_) ?_
        · simp only [impl_AreMarks.l0, inRange_eq, Option.bind_some]
          rw [if_pos (by omega), if_pos (by omega), if_pos (by omega), rdMark_get l i hlt, if_pos (decide_eq_true hx.1), if_pos (decide_eq_true hx.2.1), if_pos (decide_eq_true hx.2.2.1), if_pos (decide_eq_true hx.2.2.2.1), if_pos (decide_eq_true hx.2.2.2.2), if_pos (by omega), hw, if_pos (by omega), if_pos (by omega), rdMark_get l (i - 1) hi1, w64_nat i (by omega)]
        · refine Ev.bind (impl_morder _ _) ?_
          by_cases h2 : mkLt l[i - 1] l[i] = true
          · simp only [if_neg (fun h => (morder_lt _ _).1 h h2)]
            rw [mkL, h0, mkNext, h2, Bool.true_and, Bool.true_and]
            exact next
          · simp only [if_pos ((morder_lt _ _).2 h2)]
            rw [Bool.not_eq_true] at h2
            rw [mkL, h0, mkNext, h2, Bool.and_false, Bool.false_and, Bool.false_and]
            exact Ev.now _
    · have hx : ¬ ((1 ≤ l[i].f0 ∧ l[i].f0 ≤ 100) ∧ (1 ≤ l[i].f1 ∧ l[i].f1 ≤ 4) ∧ (0 ≤ l[i].f2 ∧ l[i].f2 ≤ 9) ∧ (0 ≤ l[i].f3 ∧ l[i].f3 ≤ 100000) ∧ (1 ≤ l[i].f4 ∧ l[i].f4 ≤ 99)) := by simpa only [mkOk, decide_eq_true_eq] using h0
      rw [Bool.not_eq_true] at h0
      rw [mkL, h0, Bool.false_and, Bool.false_and, Bool.false_and]
      refine Ev.one (fun k => ?_)
      simp only [impl_AreMarks.l0, inRange_eq, Option.bind_some]
      rw [if_pos (by omega), if_pos (by omega), if_pos (by omega), rdMark_get l i hlt]
      by_cases g0 : 1 ≤ l[i].f0 ∧ l[i].f0 ≤ 100
      · rw [if_pos (decide_eq_true g0)]
        by_cases g1 : 1 ≤ l[i].f1 ∧ l[i].f1 ≤ 4
        · rw [if_pos (decide_eq_true g1)]
          by_cases g2 : 0 ≤ l[i].f2 ∧ l[i].f2 ≤ 9
          · rw [if_pos (decide_eq_true g2)]
            by_cases g3 : 0 ≤ l[i].f3 ∧ l[i].f3 ≤ 100000
            · rw [if_pos (decide_eq_true g3)]
              by_cases g4 : 1 ≤ l[i].f4 ∧ l[i].f4 ≤ 99
              · rw [if_pos (decide_eq_true g4)]
                exact absurd ⟨g0, g1, g2, g3, g4⟩ hx
              · rw [if_neg (by simpa using g4)]
            · rw [if_neg (by simpa using g3)]
          · rw [if_neg (by simpa using g2)]
        · rw [if_neg (by simpa using g1)]
      · rw [if_neg (by simpa using g0)]

theorem impl_marks (l : List S25) (hl : l.length ≤ 1048576) : Ev (fun k => impl_AreMarks.f k l) (areMarks l) := impl_marks_ev l hl l.length 0 none (by omega) (.inl ⟨rfl, rfl⟩)

theorem rdlMark_get (l : List S23) (i : Nat) (h : i < l.length) : rd_T23 l (i : Int) = l[i] := by
  simp [rd_T23, List.getD, List.getElem?_eq_getElem h]

def cvMark (x : S23) : S25 := ⟨x.f0, x.f1, x.f2, x.f3, x.f4⟩

theorem toMarkS_ev (l : List S23) (hl : l.length ≤ 1048576) : Ev (fun k => laws_toMarkS.f k l) (l.map cvMark) := by
  have key := copyLoop (fun k x3 i => laws_toMarkS.l0 k l x3 i) l cvMark (by
    intro x3 i r hi hx h
    refine Ev.step (fun k => ?_) h
    simp only [laws_toMarkS.l0, laws_toMark.f, Option.bind_some]
    rw [if_pos (by omega), if_pos (by omega), if_pos (by omega), rdlMark_get l i hi, w64_nat i (by omega), Int.toNat_natCast]
    rfl) (by
    intro x3
    refine Ev.one (fun k => ?_)
    simp only [laws_toMarkS.l0]
    rw [if_neg (by omega)]) (List.replicate l.length z25) (by simp)
  refine Ev.congr (fun k => ?_) key
  simp only [laws_toMarkS.f, Int.toNat_natCast]
  rw [if_pos (by omega), if_pos (by omega)]

theorem eqMarkS_ev (l : List S25) (hl : l.length ≤ 140737488355328) : Ev (fun k => laws_eqMarkS.f k l l) true := by
  have key := eqLoop (fun k i => laws_eqMarkS.l0 k l l i) l (by
    intro i r hi h
    refine Ev.step (fun k => ?_) h
    simp only [laws_eqMarkS.l0, laws_eqMark.f, if_true, Option.bind_some]
    rw [if_pos (by omega), if_pos (by omega), if_pos (by omega), w64_nat i (by omega)]) (by
    refine Ev.one (fun k => ?_)
    simp only [laws_eqMarkS.l0]
    rw [if_neg (by omega)])
  refine Ev.congr (fun k => ?_) key
  simp only [laws_eqMarkS.f, if_true]

theorem szMarkS_ev (l : List S23) (b : Int) (hb : 0 ≤ b) (hb2 : b ≤ 1048576) (h0 : l.length ≤ 9223372036854775807) : laws_szMarkS.f l b = some (if b < (l.length : Int) then -1 else b - (l.length : Int)) := by
  simp only [laws_szMarkS.f]
  rw [w64 (by omega) (by omega)]
  split
  · rw [if_pos (by omega)]
  · rw [if_neg (by omega)]

theorem FnExactAreMarks : ∀ (l0 : List (S23)), (l0.length ≤ maxLen ∧ l0.length * 40 ≤ 140737488351232 ∧ ∀ l0' ∈ l0, ((Lit.int .i64 l0'.f0).wf = true) ∧ ((Lit.int .i64 l0'.f1).wf = true) ∧ ((Lit.int .i64 l0'.f2).wf = true) ∧ ((Lit.int .i64 l0'.f3).wf = true) ∧ ((Lit.int .i64 l0'.f4).wf = true)) → ∃ k, laws_FnExactAreMarks.f k l0 = some true := by
  intro l0 h0
  have hm : l0.length ≤ 9223372036854775807 := h0.1
  refine Ev.rounds (g := fun k => laws_FnExactAreMarks.f k l0) ?_
  simp only [laws_FnExactAreMarks.f, szMarkS_ev l0 1048576 (by omega) (by omega) hm, Option.bind_some]
  by_cases hb : (1048576 : Int) < (l0.length : Int)
  · simp only [hb, if_true]
    exact Ev.now true
  · have hs := spec_marks (l0.map cvMark) (by simp; omega)
    have hi := impl_marks (l0.map cvMark) (by simp; omega)
    have ht := toMarkS_ev l0 (by omega)
    have he := eqMarkS_ev (l0.map cvMark) (by simp; omega)
    have hn : ¬ (1048576 - (l0.length : Int) < 0) := by omega
    simp only [hb, hn, if_false]
    refine Ev.bind ht ?_
    refine Ev.bind hs ?_
    refine Ev.bind ht ?_
    refine Ev.bind hi ?_
    simp only [bne_self_eq_false, Bool.false_eq_true, if_false]
    refine Ev.bind ht ?_
    refine Ev.bind he ?_
    simp only [if_true]
    exact Ev.now true

end Go.Proofs.Ytcmafemdcikmfaa.Pure
