/- The plain statement of the law FnMarked: what its printed function answers; no conditions but that the numbers are Go's ints and the slices no longer than memory. -/
import Derived.Test.YtcmafemdcikmfaaQFnMarkedx12
set_option linter.unusedVariables false
set_option linter.unusedSimpArgs false
namespace Go.Proofs.Ytcmafemdcikmfaa.Pure
open Go.RowKit Go.Proofs.Ytcmafemdcikmfaa.QFnMarked Go.Proofs.YtcmafemdcikmfaaW.PrintWords Go.Proofs.YtcmafemdcikmfaaW.PrintLast Go.Proofs.YtcmafemdcikmfaaW.PrintMore
theorem w64 {x : Int} (h1 : -9223372036854775808 ≤ x) (h2 : x ≤ 9223372036854775807) : wrap64 x = x := by
 unfold wrap64
 omega
theorem w64_nat (i : Nat) (h : i ≤ 9223372036854775806) : wrap64 ((i : Int) + 1) = ((i + 1 : Nat) : Int) := by
 unfold wrap64
 omega
theorem drop_cons {α : Type} (l : List α) (i : Nat) (h : i < l.length) : l.drop i = l[i] :: l.drop (i + 1) := List.drop_eq_getElem_cons h
theorem Ev.one {α : Type} {g : Nat → Option α} {r : α} (h : ∀ k, g (k + 1) = some r) : Ev g r := Ev.step (f := fun _ => some r) h (Ev.now r)
theorem rdMark_get (l : List S25) (i : Nat) (h : i < l.length) : rd_T25 l (i : Int) = l[i] := by
 simp [rd_T25, List.getD, List.getElem?_eq_getElem h]
def mkOk (x : S25) : Bool := decide ((1 ≤ x.f0 ∧ x.f0 ≤ 100) ∧ (1 ≤ x.f1 ∧ x.f1 ≤ 4) ∧ (0 ≤ x.f2 ∧ x.f2 ≤ 9) ∧ (0 ≤ x.f3 ∧ x.f3 ≤ 100000) ∧ (1 ≤ x.f4 ∧ x.f4 ≤ 99))
def mkLt (a b : S25) : Bool := if a.f0 < b.f0 then true else if a.f0 = b.f0 then decide (a.f1 < b.f1) else false
def mkNext (p : Option S25) (x : S25) : Bool := match p with
 | none => true
 | some y => mkLt y x
def mkL : Option S25 → List S25 → Bool
 | _, [] => true
 | p, x :: l => (mkOk x && mkNext p x) && mkL (some x) l
def areMarks (l : List S25) : Bool := mkL none l && decide (l.length ≤ 30)
theorem areMarks_iff {l : List S25} : areMarks l = true ↔ mkL none l = true ∧ l.length ≤ 30 := by
 simp [areMarks]
theorem l1In_eq (a b c : Int) : spec_l1In.f a b c = some (decide (b ≤ a ∧ a ≤ c)) := by
 unfold spec_l1In.f
 split <;> simp <;> omega
theorem spec_mbefore (a b : S25) : spec_l25Before.f a.f0 a.f1 a.f2 a.f3 a.f4 b.f0 b.f1 b.f2 b.f3 b.f4 = some (mkLt a b) := by
 unfold spec_l25Before.f mkLt
 repeat' split
 all_goals rfl
theorem spec_marks_ev (l : List S25) (hl : l.length ≤ 2097152) (d : Nat) : ∀ (i : Nat) (p : Option S25), i + d = l.length → (i = 0 ∧ p = none ∨ ∃ h : i - 1 < l.length, 0 < i ∧ p = some l[i - 1]) →
  Ev (fun k => spec_AreMarks.l0 k l (i : Int)) (mkL p (l.drop i) && decide (l.length ≤ 30)) := by
 induction d with
 | zero =>
  intro i p hi hp
  rw [List.drop_of_length_le (by omega)]
  refine Ev.one (fun k => ?_)
  simp only [spec_AreMarks.l0, mkL, Bool.true_and]
  rw [if_neg (by omega)]
  refine congrArg some (decide_eq_decide.2 ?_)
  omega
 | succ d ih =>
  intro i p hi hp
  have hlt : i < l.length := by omega
  rw [drop_cons l i hlt]
  have next := ih (i + 1) (some l[i]) (by omega) (.inr ⟨by omega, by omega, rfl⟩)
  by_cases h0 : mkOk l[i] = true
  ·have hx : (1 ≤ l[i].f0 ∧ l[i].f0 ≤ 100) ∧ (1 ≤ l[i].f1 ∧ l[i].f1 ≤ 4) ∧ (0 ≤ l[i].f2 ∧ l[i].f2 ≤ 9) ∧ (0 ≤ l[i].f3 ∧ l[i].f3 ≤ 100000) ∧ (1 ≤ l[i].f4 ∧ l[i].f4 ≤ 99) := by simpa only [mkOk, decide_eq_true_eq] using h0
   rcases hp with ⟨rfl, rfl⟩ | ⟨hi1, hpos, rfl⟩
   ·refine Ev.step (f := fun k => spec_AreMarks.l0 k l ((0 + 1 : Nat) : Int)) (fun k => ?_) ?_
    ·simp only [spec_AreMarks.l0, l1In_eq, Option.bind_some]
     rw [if_pos (by omega), if_pos (by omega), rdMark_get l 0 hlt, if_pos (decide_eq_true hx.1), if_pos (decide_eq_true hx.2.1), if_pos (decide_eq_true hx.2.2.1), if_pos (decide_eq_true hx.2.2.2.1), if_pos (decide_eq_true hx.2.2.2.2), if_neg (by omega), w64_nat 0 (by omega)]
    ·rw [mkL, h0, mkNext, Bool.true_and, Bool.true_and]
     exact next
   ·have hw : wrap64 ((i : Int) - 1) = ((i - 1 : Nat) : Int) := by unfold wrap64; omega
    by_cases h2 : mkLt l[i - 1] l[i] = true
    ·rw [mkL, h0, mkNext, h2, Bool.true_and, Bool.true_and]
     refine Ev.step (fun k => ?_) next
     simp only [spec_AreMarks.l0, l1In_eq, Option.bind_some]
     rw [if_pos (by omega), if_pos (by omega), rdMark_get l i hlt, if_pos (decide_eq_true hx.1), if_pos (decide_eq_true hx.2.1), if_pos (decide_eq_true hx.2.2.1), if_pos (decide_eq_true hx.2.2.2.1), if_pos (decide_eq_true hx.2.2.2.2), if_pos (by omega), hw, if_pos (by omega), if_pos (by omega), rdMark_get l (i - 1) hi1, spec_mbefore, Option.bind_some, if_pos h2, w64_nat i (by omega)]
    ·rw [Bool.not_eq_true] at h2
     rw [mkL, h0, mkNext, h2, Bool.and_false, Bool.false_and, Bool.false_and]
     refine Ev.one (fun k => ?_)
     simp only [spec_AreMarks.l0, l1In_eq, Option.bind_some]
     rw [if_pos (by omega), if_pos (by omega), rdMark_get l i hlt, if_pos (decide_eq_true hx.1), if_pos (decide_eq_true hx.2.1), if_pos (decide_eq_true hx.2.2.1), if_pos (decide_eq_true hx.2.2.2.1), if_pos (decide_eq_true hx.2.2.2.2), if_pos (by omega), hw, if_pos (by omega), if_pos (by omega), rdMark_get l (i - 1) hi1, spec_mbefore, Option.bind_some, h2]
     rfl
  ·have hx : ¬ ((1 ≤ l[i].f0 ∧ l[i].f0 ≤ 100) ∧ (1 ≤ l[i].f1 ∧ l[i].f1 ≤ 4) ∧ (0 ≤ l[i].f2 ∧ l[i].f2 ≤ 9) ∧ (0 ≤ l[i].f3 ∧ l[i].f3 ≤ 100000) ∧ (1 ≤ l[i].f4 ∧ l[i].f4 ≤ 99)) := by simpa only [mkOk, decide_eq_true_eq] using h0
   rw [Bool.not_eq_true] at h0
   rw [mkL, h0, Bool.false_and, Bool.false_and, Bool.false_and]
   refine Ev.one (fun k => ?_)
   simp only [spec_AreMarks.l0, l1In_eq, Option.bind_some]
   rw [if_pos (by omega), if_pos (by omega), rdMark_get l i hlt]
   by_cases g0 : 1 ≤ l[i].f0 ∧ l[i].f0 ≤ 100
   ·rw [if_pos (decide_eq_true g0)]
    by_cases g1 : 1 ≤ l[i].f1 ∧ l[i].f1 ≤ 4
    ·rw [if_pos (decide_eq_true g1)]
     by_cases g2 : 0 ≤ l[i].f2 ∧ l[i].f2 ≤ 9
     ·rw [if_pos (decide_eq_true g2)]
      by_cases g3 : 0 ≤ l[i].f3 ∧ l[i].f3 ≤ 100000
      ·rw [if_pos (decide_eq_true g3)]
       by_cases g4 : 1 ≤ l[i].f4 ∧ l[i].f4 ≤ 99
       ·rw [if_pos (decide_eq_true g4)]
        exact absurd ⟨g0, g1, g2, g3, g4⟩ hx
       ·rw [if_neg (by simpa using g4)]
      ·rw [if_neg (by simpa using g3)]
     ·rw [if_neg (by simpa using g2)]
    ·rw [if_neg (by simpa using g1)]
   ·rw [if_neg (by simpa using g0)]
theorem spec_marks (l : List S25) (hl : l.length ≤ 2097152) : Ev (fun k => spec_AreMarks.f k l) (areMarks l) := spec_marks_ev l hl l.length 0 none (by omega) (.inl ⟨rfl, rfl⟩)
theorem inRange_eq (a b c : Int) : impl_InRange.f a b c = some (decide (b ≤ a ∧ a ≤ c)) := by
 unfold impl_InRange.f
 split <;> simp <;> omega
theorem rd_get (l : List Int) (i : Nat) (h : i < l.length) : rd l (i : Int) = l[i] := by
 simp [rd, List.getD, List.getElem?_eq_getElem h]
def cmp3 (a b : Int) : Int := if a < b then -1 else if a > b then 1 else 0
theorem compare_eq (a b : Int) : cmp_Compare_int.f a b = some (cmp3 a b) := by
 have h : ∀ x : Int, (x != x) = false := fun x => by simp
 simp only [cmp_Compare_int.f, cmp_isNaN_int.f, Option.bind_some, h, cmp3]
 simp only [Bool.false_eq_true, if_false]
 split
 ·rfl
 ·split <;> rfl
theorem or_step (l : List Int) (i : Nat) (r : Int) (hl : l.length ≤ 1048576) (hi : i < l.length) (h : l[i] = 0) (he : Ev (fun k => cmp_Or_int.l0 k 0 l (l.length : Int) ((i + 1 : Nat) : Int)) r) : Ev (fun k => cmp_Or_int.l0 k 0 l (l.length : Int) (i : Int)) r := by
 refine Ev.step (fun k => ?_) he
 simp only [cmp_Or_int.l0]
 rw [if_pos (by omega), if_pos (by omega), if_pos (by omega), rd_get l i hi, if_pos h, w64_nat i (by omega)]
theorem or_hit (l : List Int) (i : Nat) (hi : i < l.length) (h : ¬ l[i] = 0) : Ev (fun k => cmp_Or_int.l0 k 0 l (l.length : Int) (i : Int)) l[i] := by
 refine Ev.one (fun k => ?_)
 simp only [cmp_Or_int.l0]
 rw [if_pos (by omega), if_pos (by omega), if_pos (by omega), rd_get l i hi, if_neg h]
theorem or_end (l : List Int) : Ev (fun k => cmp_Or_int.l0 k 0 l (l.length : Int) ((l.length : Nat) : Int)) 0 := by
 refine Ev.one (fun k => ?_)
 simp only [cmp_Or_int.l0]
 rw [if_neg (by omega)]
theorem or2_ev (a b : Int) : Ev (fun k => cmp_Or_int.f k [a, b]) (if a = 0 then b else a) := by
 show Ev (fun k => cmp_Or_int.l0 k 0 [a, b] (([a, b] : List Int).length : Int) ((0 : Nat) : Int)) _
 by_cases ha : a = 0
 ·rw [if_pos ha]
  refine or_step [a, b] 0 b (by simp) (by simp) ha ?_
  by_cases hb : b = 0
  ·rw [hb]
   exact or_step [a, 0] 1 0 (by simp) (by simp) rfl (or_end _)
  ·exact or_hit [a, b] 1 (by simp) hb
 ·rw [if_neg ha]
  exact or_hit [a, b] 0 (by simp) ha
theorem or3_ev (a b c : Int) : Ev (fun k => cmp_Or_int.f k [a, b, c]) (if a = 0 then (if b = 0 then c else b) else a) := by
 show Ev (fun k => cmp_Or_int.l0 k 0 [a, b, c] (([a, b, c] : List Int).length : Int) ((0 : Nat) : Int)) _
 by_cases ha : a = 0
 ·rw [if_pos ha]
  refine or_step [a, b, c] 0 _ (by simp) (by simp) ha ?_
  by_cases hb : b = 0
  ·rw [if_pos hb]
   refine or_step [a, b, c] 1 _ (by simp) (by simp) hb ?_
   by_cases hc : c = 0
   ·rw [hc]
    exact or_step [a, b, 0] 2 0 (by simp) (by simp) rfl (or_end _)
   ·exact or_hit [a, b, c] 2 (by simp) hc
  ·rw [if_neg hb]
   exact or_hit [a, b, c] 1 (by simp) hb
 ·rw [if_neg ha]
  exact or_hit [a, b, c] 0 (by simp) ha
theorem impl_morder (a b : S25) : Ev (fun k => impl_markOrder.f k a.f0 a.f1 a.f2 a.f3 a.f4 b.f0 b.f1 b.f2 b.f3 b.f4) (if cmp3 a.f0 b.f0 = 0 then cmp3 a.f1 b.f1 else cmp3 a.f0 b.f0) := by
 simp only [impl_markOrder.f, compare_eq, Option.bind_some]
 exact Ev.bind (or2_ev _ _) (Ev.now _)
theorem morder_lt (a b : S25) : ((if cmp3 a.f0 b.f0 = 0 then cmp3 a.f1 b.f1 else cmp3 a.f0 b.f0) ≥ 0) ↔ ¬ mkLt a b = true := by
 unfold cmp3 mkLt
 repeat' split
 all_goals (simp <;> omega)
theorem impl_marks_ev (l : List S25) (hl : l.length ≤ 2097152) (d : Nat) : ∀ (i : Nat) (p : Option S25), i + d = l.length → (i = 0 ∧ p = none ∨ ∃ h : i - 1 < l.length, 0 < i ∧ p = some l[i - 1]) →
  Ev (fun k => impl_AreMarks.l0 k l l (l.length : Int) (i : Int)) (mkL p (l.drop i) && decide (l.length ≤ 30)) := by
 induction d with
 | zero =>
  intro i p hi hp
  rw [List.drop_of_length_le (by omega)]
  refine Ev.one (fun k => ?_)
  simp only [impl_AreMarks.l0, mkL, Bool.true_and]
  rw [if_neg (by omega)]
  refine congrArg some (decide_eq_decide.2 ?_)
  omega
 | succ d ih =>
  intro i p hi hp
  have hlt : i < l.length := by omega
  rw [drop_cons l i hlt]
  have next := ih (i + 1) (some l[i]) (by omega) (.inr ⟨by omega, by omega, rfl⟩)
  by_cases h0 : mkOk l[i] = true
  ·have hx : (1 ≤ l[i].f0 ∧ l[i].f0 ≤ 100) ∧ (1 ≤ l[i].f1 ∧ l[i].f1 ≤ 4) ∧ (0 ≤ l[i].f2 ∧ l[i].f2 ≤ 9) ∧ (0 ≤ l[i].f3 ∧ l[i].f3 ≤ 100000) ∧ (1 ≤ l[i].f4 ∧ l[i].f4 ≤ 99) := by simpa only [mkOk, decide_eq_true_eq] using h0
   rcases hp with ⟨rfl, rfl⟩ | ⟨hi1, hpos, rfl⟩
   ·refine Ev.step (f := fun k => impl_AreMarks.l0 k l l (l.length : Int) ((0 + 1 : Nat) : Int)) (fun k => ?_) ?_
    ·simp only [impl_AreMarks.l0, inRange_eq, Option.bind_some]
     rw [if_pos (by omega), if_pos (by omega), if_pos (by omega), rdMark_get l 0 hlt, if_pos (decide_eq_true hx.1), if_pos (decide_eq_true hx.2.1), if_pos (decide_eq_true hx.2.2.1), if_pos (decide_eq_true hx.2.2.2.1), if_pos (decide_eq_true hx.2.2.2.2), if_neg (by omega), w64_nat 0 (by omega)]
    ·rw [mkL, h0, mkNext, Bool.true_and, Bool.true_and]
     exact next
   ·have hw : wrap64 ((i : Int) - 1) = ((i - 1 : Nat) : Int) := by unfold wrap64; omega
    refine Ev.step (f := fun k => (impl_markOrder.f k l[i - 1].f0 l[i - 1].f1 l[i - 1].f2 l[i - 1].f3 l[i - 1].f4 l[i].f0 l[i].f1 l[i].f2 l[i].f3 l[i].f4).bind fun t => if t ≥ 0 then some false else impl_AreMarks.l0 k l l (l.length : Int) ((i + 1 : Nat) : Int)) (fun k => ?_) ?_
    ·simp only [impl_AreMarks.l0, inRange_eq, Option.bind_some]
     rw [if_pos (by omega), if_pos (by omega), if_pos (by omega), rdMark_get l i hlt, if_pos (decide_eq_true hx.1), if_pos (decide_eq_true hx.2.1), if_pos (decide_eq_true hx.2.2.1), if_pos (decide_eq_true hx.2.2.2.1), if_pos (decide_eq_true hx.2.2.2.2), if_pos (by omega), hw, if_pos (by omega), if_pos (by omega), rdMark_get l (i - 1) hi1, w64_nat i (by omega)]
    ·refine Ev.bind (impl_morder _ _) ?_
     by_cases h2 : mkLt l[i - 1] l[i] = true
     ·simp only [if_neg (fun h => (morder_lt _ _).1 h h2)]
      rw [mkL, h0, mkNext, h2, Bool.true_and, Bool.true_and]
      exact next
     ·simp only [if_pos ((morder_lt _ _).2 h2)]
      rw [Bool.not_eq_true] at h2
      rw [mkL, h0, mkNext, h2, Bool.and_false, Bool.false_and, Bool.false_and]
      exact Ev.now _
  ·have hx : ¬ ((1 ≤ l[i].f0 ∧ l[i].f0 ≤ 100) ∧ (1 ≤ l[i].f1 ∧ l[i].f1 ≤ 4) ∧ (0 ≤ l[i].f2 ∧ l[i].f2 ≤ 9) ∧ (0 ≤ l[i].f3 ∧ l[i].f3 ≤ 100000) ∧ (1 ≤ l[i].f4 ∧ l[i].f4 ≤ 99)) := by simpa only [mkOk, decide_eq_true_eq] using h0
   rw [Bool.not_eq_true] at h0
   rw [mkL, h0, Bool.false_and, Bool.false_and, Bool.false_and]
   refine Ev.one (fun k => ?_)
   simp only [impl_AreMarks.l0, inRange_eq, Option.bind_some]
   rw [if_pos (by omega), if_pos (by omega), if_pos (by omega), rdMark_get l i hlt]
   by_cases g0 : 1 ≤ l[i].f0 ∧ l[i].f0 ≤ 100
   ·rw [if_pos (decide_eq_true g0)]
    by_cases g1 : 1 ≤ l[i].f1 ∧ l[i].f1 ≤ 4
    ·rw [if_pos (decide_eq_true g1)]
     by_cases g2 : 0 ≤ l[i].f2 ∧ l[i].f2 ≤ 9
     ·rw [if_pos (decide_eq_true g2)]
      by_cases g3 : 0 ≤ l[i].f3 ∧ l[i].f3 ≤ 100000
      ·rw [if_pos (decide_eq_true g3)]
       by_cases g4 : 1 ≤ l[i].f4 ∧ l[i].f4 ≤ 99
       ·rw [if_pos (decide_eq_true g4)]
        exact absurd ⟨g0, g1, g2, g3, g4⟩ hx
       ·rw [if_neg (by simpa using g4)]
      ·rw [if_neg (by simpa using g3)]
     ·rw [if_neg (by simpa using g2)]
    ·rw [if_neg (by simpa using g1)]
   ·rw [if_neg (by simpa using g0)]
theorem impl_marks (l : List S25) (hl : l.length ≤ 2097152) : Ev (fun k => impl_AreMarks.f k l) (areMarks l) := impl_marks_ev l hl l.length 0 none (by omega) (.inl ⟨rfl, rfl⟩)
def newer (v t w v' t' w' : Int) : Bool := if t = t' then (if w = w' then decide (v > v') else decide (w > w')) else decide (t > t')
theorem spec_newer (a0 a1 a2 a3 a4 b0 b1 b2 b3 b4 : Int) : spec_IsNewer.f a0 a1 a2 a3 a4 b0 b1 b2 b3 b4 = some (newer a2 a3 a4 b2 b3 b4) := by
 unfold spec_IsNewer.f newer
 repeat' split
 all_goals rfl
theorem impl_newer (a0 a1 a2 a3 a4 b0 b1 b2 b3 b4 : Int) : Ev (fun k => impl_IsNewer.f k a0 a1 a2 a3 a4 b0 b1 b2 b3 b4) (newer a2 a3 a4 b2 b3 b4) := by
 simp only [impl_IsNewer.f, compare_eq, Option.bind_some]
 refine Ev.bind (or3_ev _ _ _) ?_
 have e : decide ((if cmp3 a3 b3 = 0 then if cmp3 a4 b4 = 0 then cmp3 a2 b2 else cmp3 a4 b4 else cmp3 a3 b3) > 0) = newer a2 a3 a4 b2 b3 b4 := by
  unfold newer cmp3
  repeat' split
  all_goals (simp <;> omega)
 rw [← e]
 exact Ev.now _
def ahead (x : S25) (l : List S25) : Nat := (l.takeWhile (fun y => mkLt y x)).length
def sameP (x y : S25) : Bool := decide (y.f0 = x.f0) && decide (y.f1 = x.f1)
def newerM (x y : S25) : Bool := newer x.f2 x.f3 x.f4 y.f2 y.f3 y.f4
def setM (l : List S25) (x : S25) : List S25 := match l.drop (ahead x l) with
 | [] => l.take (ahead x l) ++ [x]
 | y :: r => if sameP x y = true then (if newerM x y = true then l.take (ahead x l) ++ [x] ++ r else l) else l.take (ahead x l) ++ [x] ++ (y :: r)
theorem ahead_le (x : S25) (l : List S25) : ahead x l ≤ l.length := by
 induction l with
 | nil => simp [ahead]
 | cons y l ih =>
  simp only [ahead, List.takeWhile_cons] at ih ⊢
  split
  ·simpa using ih
  ·simp
theorem ahead_lt (x : S25) (l : List S25) : ∀ (i : Nat) (h : i < l.length), i < ahead x l → mkLt l[i] x = true := by
 induction l with
 | nil => intro i h; simp at h
 | cons y l ih =>
  intro i h hi
  simp only [ahead, List.takeWhile_cons] at hi
  by_cases hy : mkLt y x = true
  ·rw [if_pos hy] at hi
   cases i with
   | zero => exact hy
   | succ i => exact ih i (by simpa using h) (by simpa [ahead] using hi)
  ·rw [if_neg hy] at hi
   simp at hi
theorem ahead_at (x : S25) (l : List S25) : ∀ (h : ahead x l < l.length), mkLt l[ahead x l] x = false := by
 induction l with
 | nil => intro h; simp at h
 | cons y l ih =>
  intro h
  by_cases hy : mkLt y x = true
  ·have e : ahead x (y :: l) = ahead x l + 1 := by simp [ahead, List.takeWhile_cons, hy]
   have h' : ahead x l < l.length := by rw [e] at h; simpa using h
   have := ih h'
   simp only [e, List.getElem_cons_succ]
   exact this
  ·have e : ahead x (y :: l) = 0 := by simp [ahead, List.takeWhile_cons, hy]
   simp only [e, List.getElem_cons_zero]
   exact Bool.not_eq_true _ ▸ hy
theorem mkLt_trans {a b c : S25} (h1 : mkLt a b = true) (h2 : mkLt b c = true) : mkLt a c = true := by
 unfold mkLt at *
 repeat' split at h1
 all_goals (repeat' split at h2)
 all_goals (repeat' split)
 all_goals (simp at * <;> omega)
theorem mkL_next (l : List S25) : ∀ p, mkL p l = true → ∀ (i j : Nat) (hj : j < l.length) (hij : i < j), mkLt (l[i]'(by omega)) l[j] = true := by
 induction l with
 | nil => intro p _ i j hj; simp at hj
 | cons y l ih =>
  intro p h i j hj hij
  rw [mkL, Bool.and_eq_true] at h
  have h2 := h.2
  cases j with
  | zero => omega
  | succ j =>
   cases i with
   | succ i => exact ih _ h2 i j (by simpa using hj) (by omega)
   | zero =>
    simp only [List.getElem_cons_zero, List.getElem_cons_succ]
    have hj' : j < l.length := by simpa using hj
    have hy0 : mkLt y (l[0]'(by omega)) = true := by
     cases l with
     | nil => simp at hj'
     | cons z l =>
      rw [mkL, Bool.and_eq_true, Bool.and_eq_true] at h2
      exact h2.1.2
    rcases Nat.eq_zero_or_pos j with rfl | hp
    ·exact hy0
    ·exact mkLt_trans hy0 (ih _ h2 0 j hj' hp)
theorem ahead_iff (x : S25) (l : List S25) (hs : mkL none l = true) (i : Nat) (h : i < l.length) : mkLt l[i] x = true ↔ i < ahead x l := by
 refine ⟨fun hx => ?_, ahead_lt x l i h⟩
 refine Classical.byContradiction fun hn => ?_
 have hk : ahead x l < l.length := by omega
 have h0 := ahead_at x l hk
 rcases Nat.lt_or_ge (ahead x l) i with hlt | hge
 ·rw [mkLt_trans (mkL_next l none hs _ i h hlt) hx] at h0
  cases h0
 ·have e : i = ahead x l := by omega
  subst e
  rw [hx] at h0
  cases h0
theorem spec_before (a b : S25) : spec_l25Before.f a.f0 a.f1 a.f2 a.f3 a.f4 b.f0 b.f1 b.f2 b.f3 b.f4 = some (mkLt a b) := by
 unfold spec_l25Before.f mkLt
 repeat' split
 all_goals rfl
theorem spec_set_tail (l : List S25) (x : S25) (hl : l.length ≤ 2097152) : Ev (fun k => spec_l25Set.j1 k l ((ahead x l : Nat) : Int) x.f0 x.f1 x.f2 x.f3 x.f4) (setM l x) := by
 have hk := ahead_le x l
 have ht : (l.take (ahead x l)).length = ahead x l := by rw [List.length_take]; omega
 have hput : ∀ (k : Nat) (R : List S25), R.length ≤ 2097152 → (if 0 ≤ ((ahead x l : Nat) : Int) then (if ((ahead x l : Nat) : Int) ≤ (l.length : Int) then (if ([] : List S25).length + (l.take (((ahead x l : Nat) : Int) : Int).toNat).length < 3518437208883 then (if (([] : List S25) ++ (l.take (((ahead x l : Nat) : Int) : Int).toNat)).length + [(⟨x.f0, x.f1, x.f2, x.f3, x.f4⟩ : S25)].length < 3518437208883 then (if (([] : List S25) ++ (l.take (((ahead x l : Nat) : Int) : Int).toNat) ++ [(⟨x.f0, x.f1, x.f2, x.f3, x.f4⟩ : S25)]).length + R.length < 3518437208883 then some (([] : List S25) ++ (l.take (((ahead x l : Nat) : Int) : Int).toNat) ++ [(⟨x.f0, x.f1, x.f2, x.f3, x.f4⟩ : S25)] ++ R) else none) else none) else none) else none) else none) = some (l.take (ahead x l) ++ [x] ++ R) := by
  intro k R hR
  rw [if_pos (by omega), if_pos (by omega)]
  simp only [Int.toNat_natCast, List.nil_append, List.length_nil, Nat.zero_add, ht, List.length_append, List.length_cons]
  rw [if_pos (by omega), if_pos (by omega), if_pos (by omega)]
 cases hd : l.drop (ahead x l) with
 | nil =>
  rw [setM, hd]
  refine Ev.step (f := fun k => spec_l25Set.j2 k l ((ahead x l : Nat) : Int) [] false x.f0 x.f1 x.f2 x.f3 x.f4) (fun k => ?_) (Ev.one (fun k => ?_))
  ·simp only [spec_l25Set.j1, Int.toNat_natCast, hd, Option.bind_some]
   rw [if_pos (by omega), if_pos (by omega)]
   rfl
  ·simp only [spec_l25Set.j2, Bool.false_eq_true, if_false, Option.bind_some]
   exact (hput k [] (by simp)).trans (by rw [List.append_nil])
 | cons y r =>
  have hyr : (y :: r).length ≤ 2097152 := by rw [← hd, List.length_drop]; omega
  have hrd : rd_T25 (y :: r) 0 = y := rfl
  rw [setM, hd]
  refine Ev.step (f := fun k => spec_l25Set.j2 k l ((ahead x l : Nat) : Int) (y :: r) (sameP x y) x.f0 x.f1 x.f2 x.f3 x.f4) (fun k => ?_) ?_
  ·simp only [spec_l25Set.j1, Int.toNat_natCast, hd, Option.bind_some, hrd]
   rw [if_pos (by omega), if_pos (by omega), if_pos (by simp), if_pos (by simp)]
   simp only [sameP]
   by_cases h0 : y.f0 = x.f0
   ·rw [if_pos h0, decide_eq_true h0, Bool.true_and]
    rfl
   ·rw [if_neg h0, decide_eq_false h0, Bool.false_and]
  ·refine Ev.one (fun k => ?_)
   cases hs : sameP x y
   ·simp only [spec_l25Set.j2, hs, Bool.false_eq_true, if_false, Option.bind_some]
    exact hput k (y :: r) hyr
   ·simp only [spec_l25Set.j2, hs, if_true, hrd, spec_newer, Option.bind_some]
    rw [if_pos (by simp)]
    cases hw : newer x.f2 x.f3 x.f4 y.f2 y.f3 y.f4
    ·have : newerM x y = false := hw
     rw [this]
     simp only [Bool.false_eq_true, if_false, List.nil_append, List.length_nil, Nat.zero_add]
     rw [if_pos (by omega)]
    ·have : newerM x y = true := hw
     rw [this]
     simp only [if_true, List.drop_succ_cons, List.drop_zero]
     rw [if_pos (by simp; omega)]
     exact hput k r (by simp at hyr; omega)
theorem spec_set_loop (l : List S25) (x : S25) (hl : l.length ≤ 2097152) (d : Nat) : ∀ i : Nat, i + d = ahead x l → Ev (fun k => spec_l25Set.l0 k l (i : Int) x.f0 x.f1 x.f2 x.f3 x.f4) (setM l x) := by
 have hk := ahead_le x l
 induction d with
 | zero =>
  intro i h
  obtain rfl : i = ahead x l := by omega
  refine Ev.step (fun k => ?_) (spec_set_tail l x hl)
  simp only [spec_l25Set.l0]
  by_cases hlt : ahead x l < l.length
  ·rw [if_pos (by omega), if_pos (by omega), rdMark_get l _ hlt, spec_before, ahead_at x l hlt]
   rfl
  ·rw [if_neg (by omega)]
 | succ d ih =>
  intro i h
  have hlt : i < l.length := by omega
  refine Ev.step (fun k => ?_) (ih (i + 1) (by omega))
  simp only [spec_l25Set.l0]
  rw [if_pos (by omega), if_pos (by omega), rdMark_get l i hlt, spec_before, ahead_lt x l i hlt (by omega), w64_nat i (by omega)]
  rfl
theorem spec_set (l : List S25) (x : S25) (hl : l.length ≤ 2097152) : Ev (fun k => spec_l25Set.f k l x.f0 x.f1 x.f2 x.f3 x.f4) (setM l x) := spec_set_loop l x hl (ahead x l) 0 (by omega)
theorem mid_eq (i j : Nat) (h : i + j ≤ 4194304) : wrap64 ((IntKind.u64.wrap (wrap64 ((i : Int) + (j : Int)))) / 2) = (((i + j) / 2 : Nat) : Int) := by
 have e1 : wrap64 ((i : Int) + (j : Int)) = ((i + j : Nat) : Int) := by rw [w64 (by omega) (by omega)]; omega
 have e2 : IntKind.u64.wrap ((i + j : Nat) : Int) = ((i + j : Nat) : Int) := by
  have := IntKind.wrap_u64 ((i + j : Nat) : Int)
  rw [this]
  omega
 rw [e1, e2, w64 (by omega) (by omega)]
 omega
theorem search_loop (l : List S25) (x : S25) (hl : l.length ≤ 2097152) (hs : mkL none l = true) (d : Nat) : ∀ i j : Nat, j - i ≤ d → i ≤ ahead x l → ahead x l ≤ j → j ≤ l.length →
  Ev (fun k => slices_BinarySearchFunc_at43.l0 k l (l.length : Int) (i : Int) (j : Int) x.f0 x.f1 x.f2 x.f3 x.f4) (((ahead x l : Nat) : Int), if h : ahead x l < l.length then sameP x l[ahead x l] else false) := by
 have stop : ∀ i : Nat, i = ahead x l → Ev (fun k => slices_BinarySearchFunc_at43.l0 k l (l.length : Int) (i : Int) (i : Int) x.f0 x.f1 x.f2 x.f3 x.f4) (((ahead x l : Nat) : Int), if h : ahead x l < l.length then sameP x l[ahead x l] else false) := by
  intro i hi
  subst hi
  have hk := ahead_le x l
  by_cases hlt : ahead x l < l.length
  ·rw [dif_pos hlt]
   refine Ev.step (f := fun k => (impl_markOrder.f k l[ahead x l].f0 l[ahead x l].f1 l[ahead x l].f2 l[ahead x l].f3 l[ahead x l].f4 x.f0 x.f1 x.f2 x.f3 x.f4).bind fun t => some (((ahead x l : Nat) : Int), t == 0)) (fun k => ?_) (Ev.bind (impl_morder l[ahead x l] x) ?_)
   ·simp only [slices_BinarySearchFunc_at43.l0]
    rw [if_neg (by omega), if_pos (by omega), if_pos (by omega), if_pos (by omega), rdMark_get l _ hlt]
   ·have e : ((if cmp3 l[ahead x l].f0 x.f0 = 0 then cmp3 l[ahead x l].f1 x.f1 else cmp3 l[ahead x l].f0 x.f0) == 0) = sameP x l[ahead x l] := by
     unfold cmp3 sameP
     rw [Bool.eq_iff_iff]
     simp only [beq_iff_eq, Bool.and_eq_true, decide_eq_true_eq]
     repeat' split
     all_goals (simp at * <;> omega)
    rw [e]
    exact Ev.now _
  ·rw [dif_neg hlt]
   refine Ev.one (fun k => ?_)
   simp only [slices_BinarySearchFunc_at43.l0]
   rw [if_neg (by omega), if_neg (by omega)]
 induction d with
 | zero =>
  intro i j hd hi hj hjl
  obtain rfl : i = j := by omega
  exact stop i (by omega)
 | succ d ih =>
  intro i j hd hi hj hjl
  rcases Nat.lt_or_ge i j with hij | hij
  ·have hm : (i + j) / 2 < l.length := by omega
   have em := mid_eq i j (by omega)
   have hmo := impl_morder l[(i + j) / 2] x
   by_cases hc : mkLt l[(i + j) / 2] x = true
   ·have h1 : (i + j) / 2 < ahead x l := (ahead_iff x l hs _ hm).1 hc
    have hneg : (if cmp3 l[(i + j) / 2].f0 x.f0 = 0 then cmp3 l[(i + j) / 2].f1 x.f1 else cmp3 l[(i + j) / 2].f0 x.f0) < 0 := by
     refine Classical.byContradiction fun hn => ?_
     exact (morder_lt l[(i + j) / 2] x).1 (by omega) hc
    refine Ev.step (f := fun k => (impl_markOrder.f k l[(i + j) / 2].f0 l[(i + j) / 2].f1 l[(i + j) / 2].f2 l[(i + j) / 2].f3 l[(i + j) / 2].f4 x.f0 x.f1 x.f2 x.f3 x.f4).bind fun t => if t < 0 then slices_BinarySearchFunc_at43.l0 k l (l.length : Int) (((i + j) / 2 + 1 : Nat) : Int) (j : Int) x.f0 x.f1 x.f2 x.f3 x.f4 else slices_BinarySearchFunc_at43.l0 k l (l.length : Int) (i : Int) (((i + j) / 2 : Nat) : Int) x.f0 x.f1 x.f2 x.f3 x.f4) (fun k => ?_) (Ev.bind hmo ?_)
    ·simp only [slices_BinarySearchFunc_at43.l0, em]
     rw [if_pos (by omega), if_pos (by omega), if_pos (by omega), rdMark_get l _ hm, w64_nat ((i + j) / 2) (by omega)]
    ·simp only [hneg, if_true]
     exact ih ((i + j) / 2 + 1) j (by omega) (by omega) hj hjl
   ·have h1 : ahead x l ≤ (i + j) / 2 := by
     refine Classical.byContradiction fun hn => ?_
     exact hc ((ahead_iff x l hs _ hm).2 (by omega))
    have hneg : ¬ (if cmp3 l[(i + j) / 2].f0 x.f0 = 0 then cmp3 l[(i + j) / 2].f1 x.f1 else cmp3 l[(i + j) / 2].f0 x.f0) < 0 := by
     have := (morder_lt l[(i + j) / 2] x).2 hc
     omega
    refine Ev.step (f := fun k => (impl_markOrder.f k l[(i + j) / 2].f0 l[(i + j) / 2].f1 l[(i + j) / 2].f2 l[(i + j) / 2].f3 l[(i + j) / 2].f4 x.f0 x.f1 x.f2 x.f3 x.f4).bind fun t => if t < 0 then slices_BinarySearchFunc_at43.l0 k l (l.length : Int) (((i + j) / 2 + 1 : Nat) : Int) (j : Int) x.f0 x.f1 x.f2 x.f3 x.f4 else slices_BinarySearchFunc_at43.l0 k l (l.length : Int) (i : Int) (((i + j) / 2 : Nat) : Int) x.f0 x.f1 x.f2 x.f3 x.f4) (fun k => ?_) (Ev.bind hmo ?_)
    ·simp only [slices_BinarySearchFunc_at43.l0, em]
     rw [if_pos (by omega), if_pos (by omega), if_pos (by omega), rdMark_get l _ hm, w64_nat ((i + j) / 2) (by omega)]
    ·simp only [hneg, if_false]
     exact ih i ((i + j) / 2) (by omega) hi h1 (by omega)
  ·obtain rfl : i = j := by omega
   exact stop i (by omega)
theorem put_ev (l : List S25) (x : S25) (hl : l.length ≤ 100000) (hs : mkL none l = true) : Ev (fun k => impl_put.f k l x.f0 x.f1 x.f2 x.f3 x.f4) (setM l x) := by
 have hk := ahead_le x l
 have hb := search_loop l x (by omega) hs l.length 0 l.length (by omega) (by omega) hk (by omega)
 simp only [impl_put.f, slices_BinarySearchFunc_at43.f]
 refine Ev.bind hb ?_
 cases hd : l.drop (ahead x l) with
 | nil =>
  have hge : ¬ ahead x l < l.length := by
   have := congrArg List.length hd
   rw [List.length_drop] at this
   simp at this
   omega
  simp only [hge, dif_neg, not_false_iff, Bool.false_eq_true, if_false]
  rw [setM, hd]
  simp only [impl_Mark_57.f, Int.toNat_natCast, hd, List.append_nil]
  rw [if_pos ⟨by omega, by omega, by simp, by simp; omega⟩]
  exact Ev.now _
 | cons y r =>
  have hlt : ahead x l < l.length := by
   have := congrArg List.length hd
   rw [List.length_drop] at this
   simp at this
   omega
  have hy : l[ahead x l] = y ∧ l.drop (ahead x l + 1) = r := by
   have := drop_cons l _ hlt
   rw [hd] at this
   injection this with h1 h2
   exact ⟨h1.symm, h2.symm⟩
  simp only [hlt, dif_pos, hy.1]
  rw [setM, hd]
  cases hsm : sameP x y
  ·simp only [hsm, Bool.false_eq_true, if_false]
   simp only [impl_Mark_57.f, Int.toNat_natCast, hd]
   rw [if_pos ⟨by omega, by omega, by simp, by simp; omega⟩]
   exact Ev.now _
  ·simp only [hsm, if_true]
   have h1 : (0 : Int) ≤ ((ahead x l : Nat) : Int) := by omega
   have h2 : ((ahead x l : Nat) : Int) < (l.length : Int) := by omega
   simp only [h1, h2, if_true, rdMark_get l _ hlt, hy.1, Int.toNat_natCast]
   refine Ev.bind (impl_newer x.f0 x.f1 x.f2 x.f3 x.f4 y.f0 y.f1 y.f2 y.f3 y.f4) ?_
   have e : newer x.f2 x.f3 x.f4 y.f2 y.f3 y.f4 = newerM x y := rfl
   rw [e]
   cases hnw : newerM x y
   ·simp only [hnw, Bool.false_eq_true, if_false]
    exact Ev.now _
   ·simp only [hnw, if_true]
    have : l.set (ahead x l) x = l.take (ahead x l) ++ [x] ++ r := by
     rw [List.set_eq_take_append_cons_drop, if_pos hlt, hy.2]
     simp
    rw [this]
    exact Ev.now _
theorem clone_eq (l : List S25) (hl : l.length ≤ 2097152) : impl_Mark_46.f l = some l := by
 simp only [impl_Mark_46.f, Option.bind_some, List.nil_append]
 rw [if_pos (by simp; omega)]
def insM (x : S25) : List S25 → List S25
 | [] => [x]
 | y :: r => if mkLt y x = true then y :: insM x r else if sameP x y = true then (if newerM x y = true then x :: r else y :: r) else x :: y :: r
theorem setM_ins (x : S25) (l : List S25) : setM l x = insM x l := by
 induction l with
 | nil => rfl
 | cons y r ih =>
  rw [insM]
  by_cases hy : mkLt y x = true
  ·rw [if_pos hy, ← ih]
   have e : ahead x (y :: r) = ahead x r + 1 := by simp [ahead, List.takeWhile_cons, hy]
   have e2 : (y :: r).drop (ahead x (y :: r)) = r.drop (ahead x r) := by rw [e]; rfl
   have e3 : (y :: r).take (ahead x (y :: r)) = y :: r.take (ahead x r) := by rw [e]; rfl
   cases hd : r.drop (ahead x r) with
   | nil => rw [setM, e2, hd, setM, hd, e3]; rfl
   | cons z q =>
    rw [setM, e2, hd, setM, hd, e3]
    simp only
    split
    ·split <;> rfl
    ·rfl
  ·rw [if_neg hy]
   have e : ahead x (y :: r) = 0 := by simp [ahead, List.takeWhile_cons, hy]
   rw [setM, e]
   rfl
theorem mkLt_total (x y : S25) (h : ¬ mkLt y x = true) (hs : ¬ sameP x y = true) : mkLt x y = true := by
 unfold mkLt sameP at *
 repeat' split at h
 all_goals (repeat' split)
 all_goals (simp at * <;> omega)
theorem sameP_iff {x y : S25} (h : sameP x y = true) : y.f0 = x.f0 ∧ y.f1 = x.f1 := by
 simpa [sameP] using h
theorem mkLt_same1 {x y z : S25} (h : sameP x y = true) : mkLt x z = mkLt y z := by
 obtain ⟨h0, h1⟩ := sameP_iff h
 simp only [mkLt, h0, h1]
theorem insM_valid (x : S25) (hx : mkOk x = true) (l : List S25) : ∀ p, mkL p l = true → mkNext p x = true → mkL p (insM x l) = true := by
 induction l with
 | nil =>
  intro p _ hp
  simp [insM, mkL, hx, hp]
 | cons y r ih =>
  intro p h hp
  rw [mkL, Bool.and_eq_true, Bool.and_eq_true] at h
  obtain ⟨⟨hy, hpy⟩, hr⟩ := h
  rw [insM]
  by_cases h1 : mkLt y x = true
  ·rw [if_pos h1, mkL, hy, hpy, ih (some y) hr h1]
   rfl
  ·rw [if_neg h1]
   by_cases h2 : sameP x y = true
   ·rw [if_pos h2]
    split
    ·have e : mkL (some x) r = mkL (some y) r := by
      cases r with
      | nil => rfl
      | cons z q =>
       rw [mkL, mkL]
       have : mkNext (some x) z = mkNext (some y) z := mkLt_same1 h2
       rw [this]
     rw [mkL, hx, hp, e, hr]
     rfl
    ·rw [mkL, hy, hpy, hr]
     rfl
   ·rw [if_neg h2, mkL, hx, hp, mkL, hy, hr]
    have : mkNext (some x) y = true := mkLt_total x y h1 h2
    rw [this]
    rfl
theorem insM_len (x : S25) (l : List S25) : (insM x l).length ≤ l.length + 1 := by
 induction l with
 | nil => simp [insM]
 | cons y r ih =>
  rw [insM]
  split
  ·simp only [List.length_cons]; omega
  ·split
   ·split <;> simp
   ·simp
def mergeL (o : List S25) (b : List S25) : List S25 := b.foldl setM o
def mergeR (a b : List S25) : List S25 := if areMarks a = true ∧ areMarks b = true then (if areMarks (mergeL a b) = true then mergeL a b else a) else a
theorem mergeL_valid (b : List S25) : ∀ (o : List S25), mkL none o = true → (∀ x ∈ b, mkOk x = true) → mkL none (mergeL o b) = true := by
 induction b with
 | nil => intro o h _; exact h
 | cons x b ih =>
  intro o h hb
  refine ih (setM o x) ?_ (fun y hy => hb y (List.mem_cons_of_mem _ hy))
  rw [setM_ins]
  exact insM_valid x (hb x List.mem_cons_self) o none h rfl
theorem mkL_ok (l : List S25) : ∀ p, mkL p l = true → ∀ x ∈ l, mkOk x = true := by
 induction l with
 | nil => intro p _ x hx; simp at hx
 | cons y l ih =>
  intro p h x hx
  rw [mkL, Bool.and_eq_true, Bool.and_eq_true] at h
  rcases List.mem_cons.1 hx with rfl | hx
  ·exact h.1.1
  ·exact ih _ h.2 x hx
theorem impl_merge_loop (a b : List S25) (ha : a.length ≤ 1048576) (hb : b.length ≤ 30) (hok : ∀ x ∈ b, mkOk x = true) (d : Nat) : ∀ (i : Nat) (o : List S25), i + d = b.length → o.length ≤ 30 + i → mkL none o = true →
  Ev (fun k => impl_MergeMarks.l0 k a o b (b.length : Int) (i : Int)) (if areMarks (mergeL o (b.drop i)) = true then mergeL o (b.drop i) else a) := by
 induction d with
 | zero =>
  intro i o hi ho hv
  rw [List.drop_of_length_le (by omega), show mergeL o [] = o from rfl]
  refine Ev.one (fun k => ?_)
  simp only [impl_MergeMarks.l0, clone_eq a (by omega), Option.bind_some]
  rw [if_neg (by omega)]
  by_cases h : o.length ≤ 30
  ·rw [if_neg (by omega), if_pos (areMarks_iff.2 ⟨hv, h⟩)]
  ·rw [if_pos (by omega), if_neg (fun h2 => h (areMarks_iff.1 h2).2)]
 | succ d ih =>
  intro i o hi ho hv
  have hlt : i < b.length := by omega
  rw [drop_cons b i hlt]
  have hs := setM_ins b[i] o
  have hl := insM_len b[i] o
  have hv2 := insM_valid b[i] (hok _ (List.getElem_mem hlt)) o none hv rfl
  rw [← hs] at hl hv2
  refine Ev.step (f := fun k => (impl_put.f k o b[i].f0 b[i].f1 b[i].f2 b[i].f3 b[i].f4).bind fun t => impl_MergeMarks.l0 k a t b (b.length : Int) ((i + 1 : Nat) : Int)) (fun k => ?_) (Ev.bind (put_ev o b[i] (by omega) hv) (ih (i + 1) (setM o b[i]) (by omega) (by omega) hv2))
  simp only [impl_MergeMarks.l0]
  rw [if_pos (by omega), if_pos (by omega), if_pos (by omega), rdMark_get b i hlt, w64_nat i (by omega)]
theorem impl_merge (a b : List S25) (ha : a.length ≤ 1048576) (hb : b.length ≤ 1048576) : Ev (fun k => impl_MergeMarks.f k a b) (mergeR a b) := by
 have hbad : Ev (fun k => impl_MergeMarks.j0 k a b true) a := Ev.one (fun k => by simp only [impl_MergeMarks.j0, if_true, clone_eq a (by omega), Option.bind_some])
 simp only [impl_MergeMarks.f, mergeR]
 refine Ev.bind (impl_marks a (by omega)) ?_
 by_cases h1 : areMarks a = true
 ·simp only [h1, if_true, true_and]
  refine Ev.bind (impl_marks b (by omega)) ?_
  by_cases h2 : areMarks b = true
  ·simp only [h2, if_true, Bool.not_true]
   have g1 := areMarks_iff.1 h1
   have g2 := areMarks_iff.1 h2
   refine Ev.step (fun k => ?_) (impl_merge_loop a b ha g2.2 (mkL_ok b none g2.1) b.length 0 a (by omega) (by omega) g1.1)
   simp only [impl_MergeMarks.j0, Bool.false_eq_true, if_false, clone_eq a (by omega), Option.bind_some]
   rfl
  ·rw [Bool.not_eq_true] at h2
   simp only [h2, Bool.not_false, Bool.false_eq_true, if_false]
   exact hbad
 ·simp only [h1, if_false, false_and]
  exact hbad
theorem newerM_irrefl (x : S25) : newerM x x = false := by simp [newerM, newer]
theorem newerM_asymm {x y : S25} (h : newerM x y = true) : newerM y x = false := by
 unfold newerM newer at *
 repeat' split at h
 all_goals (repeat' split)
 all_goals (simp at * <;> omega)
theorem newerM_trans {x y z : S25} (h1 : newerM x y = true) (h2 : newerM y z = true) : newerM x z = true := by
 unfold newerM newer at *
 repeat' split at h1
 all_goals (repeat' split at h2)
 all_goals (repeat' split)
 all_goals (simp at * <;> omega)
theorem sameP_comm {x y : S25} (h : sameP x y = true) : sameP y x = true := by
 obtain ⟨a, b⟩ := sameP_iff h
 simp [sameP, a, b]
theorem sameP_trans {x y z : S25} (h : sameP x y = true) (h2 : sameP y z = true) : sameP x z = true := by
 obtain ⟨a, b⟩ := sameP_iff h
 obtain ⟨c, d⟩ := sameP_iff h2
 simp [sameP, a, b, c, d]
theorem sameP_refl (x : S25) : sameP x x = true := by simp [sameP]
theorem newerM_total {x y : S25} (hs : sameP x y = true) (h1 : newerM x y = false) (h2 : newerM y x = false) : x = y := by
 obtain ⟨a, b⟩ := sameP_iff hs
 unfold newerM newer at *
 obtain ⟨x0, x1, x2, x3, x4⟩ := x
 obtain ⟨y0, y1, y2, y3, y4⟩ := y
 simp only at *
 subst a b
 repeat' split at h1
 all_goals (repeat' split at h2)
 all_goals simp at *
 all_goals omega
theorem mkLt_not_same {x y : S25} (h : mkLt x y = true) : sameP x y = false := by
 unfold mkLt sameP at *
 repeat' split at h
 all_goals (simp at * <;> omega)
theorem mkL_uniq (l : List S25) : ∀ p, mkL p l = true → ∀ x ∈ l, ∀ y ∈ l, sameP x y = true → x = y := by
 intro p h x hx y hy hs
 obtain ⟨i, hi, rfl⟩ := List.getElem_of_mem hx
 obtain ⟨j, hj, rfl⟩ := List.getElem_of_mem hy
 rcases Nat.lt_trichotomy i j with c | c | c
 ·have := mkLt_not_same (mkL_next l p h i j hj c)
  rw [this] at hs
  cases hs
 ·subst c
  rfl
 ·have := mkLt_not_same (mkL_next l p h j i hi c)
  rw [sameP_comm hs] at this
  cases this
theorem mkLt_irrefl (x : S25) : mkLt x x = false := by simp [mkLt]
theorem mkL_tail {x : S25} {l : List S25} {p : Option S25} (h : mkL p (x :: l) = true) : mkL none l = true ∧ ∀ y ∈ l, mkLt x y = true := by
 refine ⟨?_, fun y hy => ?_⟩
 ·rw [mkL, Bool.and_eq_true] at h
  have h2 := h.2
  cases l with
  | nil => rfl
  | cons z l =>
   rw [mkL, Bool.and_eq_true, Bool.and_eq_true] at h2 ⊢
   exact ⟨⟨h2.1.1, rfl⟩, h2.2⟩
 ·obtain ⟨j, hj, rfl⟩ := List.getElem_of_mem hy
  have := mkL_next (x :: l) p h 0 (j + 1) (by simpa using hj) (by omega)
  simpa using this
theorem mkL_ext (a : List S25) : ∀ b : List S25, mkL none a = true → mkL none b = true → (∀ x, x ∈ a ↔ x ∈ b) → a = b := by
 induction a with
 | nil =>
  intro b _ _ h
  cases b with
  | nil => rfl
  | cons y b => exact absurd ((h y).2 List.mem_cons_self) (by simp)
 | cons x a ih =>
  intro b ha hb h
  cases b with
  | nil => exact absurd ((h x).1 List.mem_cons_self) (by simp)
  | cons y b =>
   obtain ⟨va, la⟩ := mkL_tail ha
   obtain ⟨vb, lb⟩ := mkL_tail hb
   have hxy : x = y := by
    rcases List.mem_cons.1 ((h x).1 List.mem_cons_self) with h1 | h1
    ·exact h1
    ·rcases List.mem_cons.1 ((h y).2 List.mem_cons_self) with h2 | h2
     ·exact h2.symm
     ·have c := mkLt_trans (la y h2) (lb x h1)
      rw [mkLt_irrefl] at c
      cases c
   subst hxy
   rw [ih b va vb (fun z => ⟨fun hz => ?_, fun hz => ?_⟩)]
   ·rcases List.mem_cons.1 ((h z).1 (List.mem_cons_of_mem _ hz)) with h1 | h1
    ·subst h1
     have c := la z hz
     rw [mkLt_irrefl] at c
     cases c
    ·exact h1
   ·rcases List.mem_cons.1 ((h z).2 (List.mem_cons_of_mem _ hz)) with h1 | h1
    ·subst h1
     have c := lb z hz
     rw [mkLt_irrefl] at c
     cases c
    ·exact h1
theorem insM_sub (x z : S25) (l : List S25) (h : z ∈ insM x l) : z = x ∨ z ∈ l := by
 induction l with
 | nil => simpa [insM] using h
 | cons y r ih =>
  rw [insM] at h
  split at h
  ·rcases List.mem_cons.1 h with h | h
   ·exact .inr (by rw [h]; exact List.mem_cons_self)
   ·rcases ih h with h | h
    ·exact .inl h
    ·exact .inr (List.mem_cons_of_mem _ h)
  ·split at h
   ·split at h
    ·rcases List.mem_cons.1 h with h | h
     ·exact .inl h
     ·exact .inr (List.mem_cons_of_mem _ h)
    ·exact .inr h
   ·rcases List.mem_cons.1 h with h | h
    ·exact .inl h
    ·exact .inr h
theorem insM_old (x y : S25) (l : List S25) (h : y ∈ l) : y ∈ insM x l ∨ (sameP x y = true ∧ newerM x y = true ∧ x ∈ insM x l) := by
 induction l with
 | nil => simp at h
 | cons z r ih =>
  rw [insM]
  split
  ·rcases List.mem_cons.1 h with h | h
   ·exact .inl (by rw [h]; exact List.mem_cons_self)
   ·rcases ih h with h | ⟨a, b, c⟩
    ·exact .inl (List.mem_cons_of_mem _ h)
    ·exact .inr ⟨a, b, List.mem_cons_of_mem _ c⟩
  ·split
   ·rename_i hs
    split
    ·rename_i hn
     rcases List.mem_cons.1 h with h | h
     ·subst h
      exact .inr ⟨hs, hn, List.mem_cons_self⟩
     ·exact .inl (List.mem_cons_of_mem _ h)
    ·exact .inl h
   ·exact .inl (List.mem_cons_of_mem _ h)
theorem insM_new (x : S25) (l : List S25) : x ∈ insM x l ∨ ∃ y, y ∈ insM x l ∧ sameP x y = true ∧ newerM x y = false := by
 induction l with
 | nil => exact .inl (by simp [insM])
 | cons z r ih =>
  rw [insM]
  split
  ·rcases ih with h | ⟨y, h, a, b⟩
   ·exact .inl (List.mem_cons_of_mem _ h)
   ·exact .inr ⟨y, List.mem_cons_of_mem _ h, a, b⟩
  ·split
   ·rename_i hs
    split
    ·exact .inl List.mem_cons_self
    ·rename_i hn
     exact .inr ⟨z, List.mem_cons_self, hs, by rw [Bool.not_eq_true] at hn; exact hn⟩
   ·exact .inl List.mem_cons_self
def Newest (S : S25 → Prop) (l : List S25) : Prop := (∀ x ∈ l, S x) ∧ ∀ w, S w → ∃ y ∈ l, sameP w y = true ∧ newerM w y = false
theorem newest_self (l : List S25) : Newest (fun x => x ∈ l) l := ⟨fun _ h => h, fun w h => ⟨w, h, sameP_refl w, newerM_irrefl w⟩⟩
theorem newest_ins (S : S25 → Prop) (x : S25) (l : List S25) (h : Newest S l) : Newest (fun z => S z ∨ z = x) (insM x l) := by
 refine ⟨fun z hz => ?_, fun w hw => ?_⟩
 ·rcases insM_sub x z l hz with h1 | h1
  ·exact .inr h1
  ·exact .inl (h.1 z h1)
 ·rcases hw with hw | rfl
  ·obtain ⟨y, hy, s, n⟩ := h.2 w hw
   rcases insM_old x y l hy with h1 | ⟨s2, n2, h1⟩
   ·exact ⟨y, h1, s, n⟩
   ·refine ⟨x, h1, sameP_trans s (sameP_comm s2), ?_⟩
    cases c : newerM w x with
    | false => rfl
    | true =>
     have := newerM_trans c n2
     rw [n] at this
     cases this
  ·rcases insM_new w l with h1 | ⟨y, h1, s, n⟩
   ·exact ⟨w, h1, sameP_refl w, newerM_irrefl w⟩
   ·exact ⟨y, h1, s, n⟩
theorem newest_congr {S T : S25 → Prop} {l : List S25} (e : ∀ x, S x ↔ T x) (h : Newest S l) : Newest T l := ⟨fun x hx => (e x).1 (h.1 x hx), fun w hw => h.2 w ((e w).2 hw)⟩
theorem newest_merge (b : List S25) : ∀ (S : S25 → Prop) (o : List S25), Newest S o → Newest (fun z => S z ∨ z ∈ b) (mergeL o b) := by
 induction b with
 | nil => intro S o h; exact newest_congr (by simp) h
 | cons x b ih =>
  intro S o h
  have := ih _ (setM o x) (by rw [setM_ins]; exact newest_ins S x o h)
  refine newest_congr (fun z => ?_) this
  rw [List.mem_cons, or_assoc]
theorem newest_uniq {S : S25 → Prop} {l l' : List S25} (v : mkL none l = true) (v' : mkL none l' = true) (h : Newest S l) (h' : Newest S l') : l = l' := by
 have half : ∀ {l l' : List S25}, mkL none l = true → Newest S l → Newest S l' → ∀ z ∈ l, z ∈ l' := by
  intro l l' v h h' z hz
  obtain ⟨y, hy, s, n⟩ := h'.2 z (h.1 z hz)
  obtain ⟨y2, hy2, s2, n2⟩ := h.2 y (h'.1 y hy)
  have e := mkL_uniq l none v z hz y2 hy2 (sameP_trans s s2)
  subst e
  rw [newerM_total s n n2]
  exact hy
 exact mkL_ext l l' v v' (fun x => ⟨half v h h' x, half v' h' h x⟩)
theorem mergeL_len (b : List S25) : ∀ o : List S25, (mergeL o b).length ≤ o.length + b.length := by
 induction b with
 | nil => intro o; simp [mergeL]
 | cons x b ih =>
  intro o
  have h1 := ih (setM o x)
  have h2 := insM_len x o
  rw [← setM_ins] at h2
  show (mergeL (setM o x) b).length ≤ _
  rw [List.length_cons]
  omega
theorem merge_room {a b : List S25} (ha : areMarks a = true) (hb : areMarks b = true) (hl : a.length + b.length ≤ 30) : mergeR a b = mergeL a b ∧ areMarks (mergeL a b) = true := by
 have ga := areMarks_iff.1 ha
 have gb := areMarks_iff.1 hb
 have h : areMarks (mergeL a b) = true := areMarks_iff.2 ⟨mergeL_valid b a ga.1 (mkL_ok b none gb.1), Nat.le_trans (mergeL_len b a) hl⟩
 exact ⟨by rw [mergeR, if_pos ⟨ha, hb⟩, if_pos h], h⟩
theorem merge_comm {a b : List S25} (ha : areMarks a = true) (hb : areMarks b = true) (hl : a.length + b.length ≤ 30) : mergeR a b = mergeR b a := by
 have ga := areMarks_iff.1 ha
 have gb := areMarks_iff.1 hb
 obtain ⟨e1, v1⟩ := merge_room ha hb hl
 obtain ⟨e2, v2⟩ := merge_room hb ha (by omega)
 rw [e1, e2]
 refine newest_uniq (areMarks_iff.1 v1).1 (areMarks_iff.1 v2).1 (newest_merge b _ a (newest_self a)) (newest_congr (fun x => ?_) (newest_merge a _ b (newest_self b)))
 exact or_comm
theorem merge_keep {S : S25 → Prop} {m b : List S25} (hm : areMarks m = true) (hb : areMarks b = true) (hn : Newest S m) (hs : ∀ x ∈ b, S x) : mergeR m b = m := by
 have gm := areMarks_iff.1 hm
 have gb := areMarks_iff.1 hb
 have v := mergeL_valid b m gm.1 (mkL_ok b none gb.1)
 have e : mergeL m b = m := by
  refine newest_uniq v gm.1 (newest_congr (T := S) ?_ (newest_merge b S m hn)) hn
  intro x
  exact ⟨fun h => h.elim id (hs x), .inl⟩
 rw [mergeR, if_pos ⟨hm, hb⟩, e, if_pos hm]
theorem merge_absorb {a b : List S25} (ha : areMarks a = true) (hb : areMarks b = true) (hl : a.length + b.length ≤ 30) : mergeR (mergeR a b) b = mergeR a b := by
 obtain ⟨e1, v1⟩ := merge_room ha hb hl
 rw [e1]
 exact merge_keep v1 hb (newest_merge b _ a (newest_self a)) (fun x hx => .inr hx)
theorem merge_idem {a : List S25} (ha : areMarks a = true) : mergeR a a = a := merge_keep ha ha (newest_self a) (fun _ h => h)
theorem merge_has {a b : List S25} (ha : areMarks a = true) (hb : areMarks b = true) (hl : a.length + b.length ≤ 30) (x : S25) (hx : x ∈ a ++ b) : ∃ y ∈ mergeR a b, sameP x y = true ∧ newerM x y = false := by
 obtain ⟨e1, v1⟩ := merge_room ha hb hl
 rw [e1]
 exact (newest_merge b _ a (newest_self a)).2 x (List.mem_append.1 hx)
def eqm (x y : S25) : Bool := x.f0 == y.f0 && x.f1 == y.f1 && x.f2 == y.f2 && x.f3 == y.f3 && x.f4 == y.f4
def eqms : List S25 → List S25 → Bool
 | [], [] => true
 | x :: a, y :: b => eqm x y && eqms a b
 | _, _ => false
theorem neq_eqm (x y : S25) : (!(x.f0 == y.f0) || (!(x.f1 == y.f1) || (!(x.f2 == y.f2) || (!(x.f3 == y.f3) || (!(x.f4 == y.f4)))))) = !(eqm x y) := by
 simp only [eqm, Bool.not_and, Bool.or_assoc]
theorem eqms_len (a : List S25) : ∀ b, a.length ≠ b.length → eqms a b = false := by
 induction a with
 | nil => intro b h; cases b with
  | nil => simp at h
  | cons y b => rfl
 | cons x a ih => intro b h; cases b with
  | nil => rfl
  | cons y b => rw [eqms, ih b (by simpa using h), Bool.and_false]
theorem impl_eqm_ev (a b : List S25) (hl : a.length = b.length) (hm : a.length ≤ 1048576) (d : Nat) : ∀ i : Nat, i + d = a.length → Ev (fun k => impl_Mark_38.l0 k a b (a.length : Int) (i : Int)) (eqms (a.drop i) (b.drop i)) := by
 induction d with
 | zero =>
  intro i hi
  rw [List.drop_of_length_le (by omega), List.drop_of_length_le (by omega)]
  refine Ev.one (fun k => ?_)
  simp only [impl_Mark_38.l0]
  rw [if_neg (by omega)]
  rfl
 | succ d ih =>
  intro i hi
  have h1 : i < a.length := by omega
  have h2 : i < b.length := by omega
  rw [drop_cons a i h1, drop_cons b i h2, eqms]
  by_cases hc : eqm a[i] b[i] = true
  ·refine Ev.step (fun k => ?_) (by rw [hc, Bool.true_and]; exact ih (i + 1) (by omega))
   simp only [impl_Mark_38.l0]
   rw [if_pos (by omega), if_pos (by omega), if_pos (by omega), if_pos (by omega), rdMark_get a i h1, rdMark_get b i h2, neq_eqm, hc, if_neg (by simp), w64_nat i (by omega)]
  ·rw [Bool.not_eq_true] at hc
   rw [hc, Bool.false_and]
   refine Ev.one (fun k => ?_)
   simp only [impl_Mark_38.l0]
   rw [if_pos (by omega), if_pos (by omega), if_pos (by omega), if_pos (by omega), rdMark_get a i h1, rdMark_get b i h2, neq_eqm, hc, if_pos (by simp)]
theorem impl_eqms (a b : List S25) (hm : a.length ≤ 1048576) : Ev (fun k => impl_EqualMarks.f k a b) (eqms a b) := by
 have key : Ev (fun k => impl_Mark_38.f k a b) (eqms a b) := by
  by_cases hl : a.length = b.length
  ·refine Ev.congr (fun k => ?_) (impl_eqm_ev a b hl hm a.length 0 (by omega))
   simp only [impl_Mark_38.f]
   rw [if_pos (by omega)]
   rfl
  ·rw [eqms_len a b hl]
   refine Ev.one (fun k => ?_)
   simp only [impl_Mark_38.f]
   rw [if_neg (by omega)]
 simp only [impl_EqualMarks.f]
 exact Ev.bind key (Ev.now _)
def num (v : Int) : List Int → List Int
 | [] => [v]
 | x :: l => if x < v then x :: num v l else if x = v then x :: l else v :: x :: l
theorem mem_num (v y : Int) (l : List Int) : y ∈ num v l ↔ y = v ∨ y ∈ l := by
 induction l with
 | nil => simp [num]
 | cons x l ih =>
  unfold num
  split
  ·simp only [List.mem_cons, ih]
   constructor
   ·rintro (h | h | h)
    ·exact .inr (.inl h)
    ·exact .inl h
    ·exact .inr (.inr h)
   ·rintro (h | h | h)
    ·exact .inr (.inl h)
    ·exact .inl h
    ·exact .inr (.inr h)
  ·split
   ·rename_i h
    simp only [List.mem_cons, h]
    constructor
    ·rintro (h | h)
     ·exact .inl h
     ·exact .inr (.inr h)
    ·rintro (h | h | h)
     ·exact .inl h
     ·exact .inl h
     ·exact .inr h
   ·simp only [List.mem_cons]
theorem num_len (v : Int) (l : List Int) : (num v l).length ≤ l.length + 1 := by
 induction l with
 | nil => simp [num]
 | cons x l ih =>
  unfold num
  split
  ·simp only [List.length_cons]; omega
  ·split <;> simp
theorem num_sorted (v : Int) (l : List Int) (h : l.Pairwise (· < ·)) : (num v l).Pairwise (· < ·) := by
 induction l with
 | nil => simp [num]
 | cons x l ih =>
  have hx : ∀ y, y ∈ l → x < y := fun y hy => List.rel_of_pairwise_cons h hy
  unfold num
  split
  ·rename_i hlt
   refine List.Pairwise.cons (fun y hy => ?_) (ih h.of_cons)
   rcases (mem_num v y l).1 hy with rfl | hy
   ·exact hlt
   ·exact hx y hy
  ·split
   ·exact h
   ·rename_i h1 h2
    refine List.Pairwise.cons (fun y hy => ?_) h
    rcases List.mem_cons.1 hy with rfl | hy
    ·omega
    ·have := hx y hy; omega
theorem sorted_ext (l : List Int) : ∀ r : List Int, l.Pairwise (· < ·) → r.Pairwise (· < ·) → (∀ x, x ∈ l ↔ x ∈ r) → l = r := by
 induction l with
 | nil =>
  intro r _ _ h
  cases r with
  | nil => rfl
  | cons y r => exact absurd ((h y).2 (by simp)) (by simp)
 | cons x l ih =>
  intro r hl hr h
  cases r with
  | nil => exact absurd ((h x).1 (by simp)) (by simp)
  | cons y r =>
   have hx := fun z hz => List.rel_of_pairwise_cons hl (a' := z) hz
   have hy := fun z hz => List.rel_of_pairwise_cons hr (a' := z) hz
   have e : x = y := by
    rcases List.mem_cons.1 ((h x).1 (by simp)) with e | h1
    ·exact e
    ·rcases List.mem_cons.1 ((h y).2 (by simp)) with e | h2
     ·exact e.symm
     ·have := hx y h2
      have := hy x h1
      omega
   subst e
   refine congrArg (x :: ·) (ih r hl.of_cons hr.of_cons (fun z => ?_))
   constructor
   ·intro hz
    rcases List.mem_cons.1 ((h z).1 (List.mem_cons_of_mem _ hz)) with rfl | h1
    ·exact absurd (hx z hz) (by omega)
    ·exact h1
   ·intro hz
    rcases List.mem_cons.1 ((h z).2 (List.mem_cons_of_mem _ hz)) with rfl | h1
    ·exact absurd (hy z hz) (by omega)
    ·exact h1
def upL : Int → Nat → List Int
 | _, 0 => []
 | n, d + 1 => n :: upL (n + 1) d
theorem arr_get (S : List Int) (j : Nat) (h : j < S.length) : S.toArray[j]! = S[j] := by simp [h]
theorem compact_strict (S : List Int) (h : S.Pairwise (fun a b => a ≤ b)) : (Lib.compact S).Pairwise (· < ·) := by
 unfold Lib.compact Lib.compactUpTo
 rw [List.pairwise_map]
 have hr := (List.pairwise_lt_range (n := S.length)).filter (Lib.keeps S.toArray)
 refine List.Pairwise.imp_of_mem (fun {i j} hi hj hij => ?_) hr
 rw [List.mem_filter, List.mem_range] at hi hj
 have hk : j = 0 ∨ S.toArray[j]! ≠ S.toArray[j - 1]! := by
  have := hj.2
  unfold Lib.keeps at this
  exact of_decide_eq_true this
 have hg := List.pairwise_iff_getElem.1 h
 rw [arr_get S j hj.1, arr_get S (j - 1) (by omega)] at hk
 rw [arr_get S i hi.1, arr_get S j hj.1]
 have h1 : S[j - 1]'(by omega) ≤ S[j] := hg (j - 1) j (by omega) hj.1 (by omega)
 have h2 : S[i] ≤ S[j - 1]'(by omega) := by
  rcases Nat.lt_or_ge i (j - 1) with h3 | h3
  ·exact hg i (j - 1) hi.1 (by omega) h3
  ·have : i = j - 1 := by omega
   subst this
   exact Int.le_refl _
 rcases hk with hk | hk <;> omega
theorem mem_compact (S : List Int) (x : Int) : x ∈ Lib.compact S ↔ x ∈ S := by
 have key : ∀ j (h : j < S.length), S[j] ∈ Lib.compact S := by
  intro j
  induction j with
  | zero =>
   intro h
   unfold Lib.compact Lib.compactUpTo
   exact List.mem_map.2 ⟨0, List.mem_filter.2 ⟨List.mem_range.2 h, by simp [Lib.keeps]⟩, arr_get S 0 h⟩
  | succ j ih =>
   intro h
   by_cases hk : Lib.keeps S.toArray (j + 1) = true
   ·unfold Lib.compact Lib.compactUpTo
    exact List.mem_map.2 ⟨j + 1, List.mem_filter.2 ⟨List.mem_range.2 h, hk⟩, arr_get S (j + 1) h⟩
   ·have e : S[j + 1] = S[j] := by
     have : ¬ (j + 1 = 0 ∨ S.toArray[j + 1]! ≠ S.toArray[j + 1 - 1]!) := by
      unfold Lib.keeps at hk
      exact fun hh => hk (decide_eq_true hh)
     rw [arr_get S (j + 1) h, arr_get S (j + 1 - 1) (by omega)] at this
     exact Classical.byContradiction fun hh => this (.inr hh)
    rw [e]
    exact ih (by omega)
 constructor
 ·intro h
  unfold Lib.compact Lib.compactUpTo at h
  obtain ⟨j, hj, rfl⟩ := List.mem_map.1 h
  have hlt := List.mem_range.1 (List.mem_filter.1 hj).1
  rw [arr_get S j hlt]
  exact List.getElem_mem hlt
 ·intro h
  obtain ⟨j, hj, rfl⟩ := List.getElem_of_mem h
  exact key j hj
theorem sort_sorted (L : List Int) : (L.mergeSort fun x y => decide (x ≤ y)).Pairwise (fun a b => a ≤ b) := by
 have := List.pairwise_mergeSort (le := fun x y : Int => decide (x ≤ y)) (by intro a b c h1 h2; simp only [decide_eq_true_eq] at *; omega) (by intro a b; simp only [Bool.or_eq_true, decide_eq_true_eq]; omega) L
 exact this.imp (fun h => of_decide_eq_true h)
def insAll (o : List Int) (l : List Int) : List Int := l.foldl (fun o x => num x o) o
theorem insAll_sorted (l : List Int) : ∀ o : List Int, o.Pairwise (· < ·) → (insAll o l).Pairwise (· < ·) := by
 induction l with
 | nil => intro o h; exact h
 | cons x l ih => intro o h; exact ih _ (num_sorted x o h)
theorem mem_insAll (y : Int) (l : List Int) : ∀ o : List Int, y ∈ insAll o l ↔ y ∈ o ∨ y ∈ l := by
 induction l with
 | nil => intro o; simp [insAll]
 | cons x l ih =>
  intro o
  have := ih (num x o)
  rw [mem_num] at this
  show y ∈ insAll (num x o) l ↔ _
  rw [this, List.mem_cons]
  constructor
  ·rintro ((h | h) | h)
   ·exact .inr (.inl h)
   ·exact .inl h
   ·exact .inr (.inr h)
  ·rintro (h | h | h)
   ·exact .inl (.inr h)
   ·exact .inl (.inl h)
   ·exact .inr h
theorem both_same (L : List Int) : Lib.compact (L.mergeSort fun x y => decide (x ≤ y)) = insAll [] L := by
 refine sorted_ext _ _ (compact_strict _ (sort_sorted L)) (insAll_sorted L [] List.Pairwise.nil) (fun x => ?_)
 rw [mem_compact, List.mem_mergeSort, mem_insAll]
 simp
theorem insAll_len (l : List Int) : ∀ o : List Int, (insAll o l).length ≤ o.length + l.length := by
 induction l with
 | nil => intro o; simp [insAll]
 | cons x l ih =>
  intro o
  have := ih (num x o)
  have := num_len x o
  show (insAll (num x o) l).length ≤ _
  rw [List.length_cons]
  omega
def barsOf (v : Int) : List S25 → List Int
 | [] => []
 | x :: l => if x.f1 = v then (if x.f2 = 0 then barsOf v l else x.f0 :: barsOf v l) else barsOf v l
theorem barsOf_len (v : Int) (l : List S25) : (barsOf v l).length ≤ l.length := by
 induction l with
 | nil => simp [barsOf]
 | cons x l ih =>
  rw [barsOf, List.length_cons]
  split
  ·split
   ·omega
   ·rw [List.length_cons]; omega
  ·omega
theorem impl_bars_loop (l : List S25) (v : Int) (hl : l.length ≤ 1048576) (d : Nat) : ∀ (i : Nat) (o : List Int), i + d = l.length → o.length ≤ i → Ev (fun k => impl_MarkedBars.l0 k v o l (l.length : Int) (i : Int)) (insAll [] (o ++ barsOf v (l.drop i))) := by
 induction d with
 | zero =>
  intro i o hi ho
  rw [List.drop_of_length_le (by omega), barsOf, List.append_nil]
  refine Ev.one (fun k => ?_)
  simp only [impl_MarkedBars.l0, slices_Sort_int_int.f, slices_Compact_int_int.f]
  rw [if_neg (by omega), if_pos (by omega), Option.bind_some, Option.bind_some, both_same]
 | succ d ih =>
  intro i o hi ho
  have hlt : i < l.length := by omega
  rw [drop_cons l i hlt, barsOf]
  by_cases h1 : l[i].f1 = v
  ·rw [if_pos h1]
   by_cases h2 : l[i].f2 = 0
   ·rw [if_pos h2]
    refine Ev.step (fun k => ?_) (ih (i + 1) o (by omega) (by omega))
    simp only [impl_MarkedBars.l0]
    rw [if_pos (by omega), if_pos (by omega), if_pos (by omega), rdMark_get l i hlt, if_pos h1, if_pos h2, w64_nat i (by omega)]
   ·rw [if_neg h2]
    have := ih (i + 1) (o ++ [l[i].f0]) (by omega) (by simp; omega)
    rw [List.append_assoc, List.singleton_append] at this
    refine Ev.step (fun k => ?_) this
    simp only [impl_MarkedBars.l0]
    rw [if_pos (by omega), if_pos (by omega), if_pos (by omega), rdMark_get l i hlt, if_pos h1, if_neg h2, if_pos (by omega), w64_nat i (by omega)]
  ·rw [if_neg h1]
   refine Ev.step (fun k => ?_) (ih (i + 1) o (by omega) (by omega))
   simp only [impl_MarkedBars.l0]
   rw [if_pos (by omega), if_pos (by omega), if_pos (by omega), rdMark_get l i hlt, if_neg h1, w64_nat i (by omega)]
theorem ascends_loop (l : List Int) (hl : l.length ≤ 1048576) (h : l.Pairwise (· < ·)) (d : Nat) : ∀ i : Nat, 1 ≤ i → i + d = l.length ∨ (l.length < i ∧ d = 0) → Ev (fun k => laws_ascends.l0 k l (i : Int)) true := by
 induction d with
 | zero =>
  intro i h1 hi
  refine Ev.one (fun k => ?_)
  simp only [laws_ascends.l0]
  rw [if_neg (by omega)]
 | succ d ih =>
  intro i h1 hi
  have hlt : i < l.length := by omega
  have e1 : wrap64 ((i : Int) - 1) = ((i - 1 : Nat) : Int) := by rw [w64 (by omega) (by omega)]; omega
  have hg := List.pairwise_iff_getElem.1 h (i - 1) i (by omega) hlt (by omega)
  refine Ev.step (fun k => ?_) (ih (i + 1) (by omega) (by omega))
  simp only [laws_ascends.l0, e1]
  rw [if_pos (by omega), if_pos (by omega), if_pos (by omega), if_pos (by omega), rd_get l (i - 1) (by omega), rd_get l i hlt, if_neg (by omega), w64_nat i (by omega)]
theorem ascends_ev (l : List Int) (hl : l.length ≤ 1048576) (h : l.Pairwise (· < ·)) : Ev (fun k => laws_ascends.f k l) true := by
 have := ascends_loop l hl h (l.length - 1) 1 (by omega) (by omega)
 exact this
def setR (l : List S25) (x : S25) : List S25 := if areMarks l = true ∧ areMarks (setM l x) = true then setM l x else l
theorem setM_len (l : List S25) (x : S25) : (setM l x).length ≤ l.length + 1 := by
 have hk := ahead_le x l
 cases hd : l.drop (ahead x l) with
 | nil =>
  rw [setM, hd]
  simp only [List.length_append, List.length_take, List.length_cons, List.length_nil]
  omega
 | cons y r =>
  have hr : r.length + 1 = l.length - ahead x l := by
   have := congrArg List.length hd
   rw [List.length_drop] at this
   simpa using this.symm
  rw [setM, hd]
  simp only
  split
  ·split
   ·simp only [List.length_append, List.length_take, List.length_cons, List.length_nil]
    omega
   ·omega
  ·simp only [List.length_append, List.length_take, List.length_cons, List.length_nil]
   omega
theorem spec_setR (l : List S25) (x : S25) (hl : l.length ≤ 1048576) : Ev (fun k => spec_SetMark.f k l x.f0 x.f1 x.f2 x.f3 x.f4) (setR l x) := by
 have hm := setM_len l x
 have hc : ∀ k : Nat, ((some (([] : List S25) : List S25)).bind fun y197 => (if y197.length + l.length < 3518437208883 then (some (y197 ++ l)) else (none))) = some l := by
  intro k
  simp only [Option.bind_some, List.length_nil, List.nil_append, Nat.zero_add]
  rw [if_pos (by omega)]
 simp only [spec_SetMark.f, setR]
 refine Ev.bind (spec_set l x (by omega)) ?_
 refine Ev.bind (spec_marks l (by omega)) ?_
 by_cases h1 : areMarks l = true
 ·simp only [h1, if_true, true_and]
  refine Ev.bind (spec_marks (setM l x) (by omega)) ?_
  by_cases h2 : areMarks (setM l x) = true
  ·simp only [h2, if_true]
   exact Ev.now _
  ·simp only [h2, if_false]
   refine Ev.one (fun k => ?_)
   exact hc k
 ·simp only [h1, if_false, false_and]
  refine Ev.one (fun k => ?_)
  exact hc k
theorem and255 (x : Int) : 0 ≤ Go.bits .and .i64 x 255 ∧ Go.bits .and .i64 x 255 ≤ 255 := by
 have key : (BitVec.ofInt 64 x &&& BitVec.ofInt 64 255).toNat ≤ 255 := by
  rw [BitVec.toNat_and]
  exact Nat.le_trans Nat.and_le_right (by decide)
 have e : Go.bits .and .i64 x 255 = IntKind.i64.wrap ((BitVec.ofInt 64 x &&& BitVec.ofInt 64 255).toNat : Int) := rfl
 rw [e]
 generalize (BitVec.ofInt 64 x &&& BitVec.ofInt 64 255).toNat = n at key
 rw [Go.IntKind.wrap_i64]
 omega
def At (c : List Int) (p : Int) : Prop := 0 ≤ p ∧ p ≤ (c.length : Int)
theorem byte_ev (c : List Int) (hc : c.length ≤ 1048576) (p s : Int) (hp : At c p) : ∃ b p' s', spec_l1Byte.f c p s = some (b, p', s') ∧ (0 ≤ b ∧ b ≤ 255) ∧ At c p' := by
 simp only [spec_l1Byte.f]
 unfold At at *
 split
 ·rename_i h
  rw [if_pos hp.1]
  refine ⟨_, _, _, rfl, and255 _, ?_⟩
  rw [w64 (by omega) (by omega)]
  omega
 ·exact ⟨_, _, _, rfl, and255 _, hp⟩
theorem below_ev (c : List Int) (hc : c.length ≤ 1048576) (p s n : Int) (hp : At c p) : ∃ r p' s', spec_l1Below.f c p s n = some (r, p', s') ∧ (0 ≤ r ∧ (r < n ∨ n ≤ 0)) ∧ At c p' := by
 simp only [spec_l1Below.f]
 by_cases h0 : n ≤ 0
 ·rw [if_pos h0]
  exact ⟨_, _, _, rfl, ⟨by omega, .inr h0⟩, hp⟩
 ·rw [if_neg h0]
  obtain ⟨b, p1, s1, e1, hb, hp1⟩ := byte_ev c hc p s hp
  obtain ⟨b2, p2, s2, e2, hb2, hp2⟩ := byte_ev c hc p1 s1 hp1
  obtain ⟨b3, p3, s3, e3, hb3, hp3⟩ := byte_ev c hc p2 s2 hp2
  by_cases h1 : n ≤ 256
  ·rw [if_pos h1, e1]
   simp only [Option.bind_some]
   rw [if_neg (by omega)]
   refine ⟨_, _, _, rfl, ⟨?_, .inl ?_⟩, hp1⟩
   ·exact Int.tmod_nonneg _ hb.1
   ·exact Int.tmod_lt_of_pos _ (by omega)
  ·rw [if_neg h1, e1]
   simp only [Option.bind_some, e2, e3]
   rw [if_neg (by omega), w64 (x := b * 65536) (by omega) (by omega), w64 (x := b2 * 256) (by omega) (by omega), w64 (x := b * 65536 + b2 * 256) (by omega) (by omega), w64 (x := b * 65536 + b2 * 256 + b3) (by omega) (by omega)]
   refine ⟨_, _, _, rfl, ⟨?_, .inl ?_⟩, hp3⟩
   ·exact Int.tmod_nonneg _ (by omega)
   ·exact Int.tmod_lt_of_pos _ (by omega)
theorem int_ev (c : List Int) (hc : c.length ≤ 1048576) (p s : Int) (hp : At c p) (l : List Int) (h0 : 0 < l.length) : ∃ r p' s', spec_l1Int.f c p s l = some (r, p', s') ∧ r ∈ l ∧ At c p' := by
 obtain ⟨r, p', s', e, hr, hp'⟩ := below_ev c hc p s (l.length : Int) hp
 simp only [spec_l1Int.f, e, Option.bind_some]
 rw [if_pos hr.1, if_pos (by omega)]
 have hlt : r.toNat < l.length := by omega
 have er : rd l r = l[r.toNat] := by simp [rd, List.getD, List.getElem?_eq_getElem hlt]
 exact ⟨_, _, _, rfl, by rw [er]; exact List.getElem_mem hlt, hp'⟩
theorem new_loop (c : List Int) (hc : c.length ≤ 1048576) (d : Nat) : ∀ (i : Nat) (s : Int), i + d = c.length → ∃ s', Ev (fun k => spec_l1New.l0 k c s (i : Int)) (c, 0, s') := by
 induction d with
 | zero =>
  intro i s hi
  refine ⟨s, Ev.one (fun k => ?_)⟩
  simp only [spec_l1New.l0]
  rw [if_neg (by omega)]
 | succ d ih =>
  intro i s hi
  by_cases h : (i : Int) < 4000
  ·obtain ⟨s', h'⟩ := ih (i + 1) (Go.bits .and .i64 (wrap64 ((wrap64 ((wrap64 (s * 137)) + (wrap64 (rd c (i : Int))))) + 11)) 1073741823) (by omega)
   refine ⟨s', Ev.step (fun k => ?_) h'⟩
   simp only [spec_l1New.l0]
   rw [if_pos (by omega), if_pos h, if_pos (by omega), w64_nat i (by omega)]
  ·refine ⟨s, Ev.one (fun k => ?_)⟩
   simp only [spec_l1New.l0]
   rw [if_pos (by omega), if_neg h]
theorem new_ev (c : List Int) (hc : c.length ≤ 1048576) : ∃ s, Ev (fun k => spec_l1New.f k c) (c, 0, s) := new_loop c hc c.length 0 _ (by omega)
theorem at_zero (c : List Int) : At c 0 := ⟨Int.le_refl 0, Int.natCast_nonneg _⟩
theorem markAt_ev (c : List Int) (hc : c.length ≤ 1048576) (p s : Int) (hp : At c p) : ∃ a0 a1 a2 a3 a4 p' s', spec_l25Mark.f c p s = some (a0, a1, a2, a3, a4, p', s') ∧ At c p' := by
 obtain ⟨r1, p1, s1, e1, _, h1⟩ := below_ev c hc p s 5 hp
 obtain ⟨r2, p2, s2, e2, _, h2⟩ := below_ev c hc p1 s1 4 h1
 obtain ⟨r3, p3, s3, e3, _, h3⟩ := below_ev c hc p2 s2 4 h2
 obtain ⟨r4, p4, s4, e4, _, h4⟩ := below_ev c hc p3 s3 5 h3
 obtain ⟨r5, p5, s5, e5, _, h5⟩ := below_ev c hc p4 s4 3 h4
 simp only [spec_l25Mark.f, e1, e2, e3, e4, e5, Option.bind_some]
 exact ⟨_, _, _, _, _, _, _, rfl, h5⟩
theorem setR_room (l : List S25) (x : S25) (hl : l.length ≤ 30) : (setR l x).length ≤ 30 := by
 unfold setR
 split
 ·rename_i h
  exact (areMarks_iff.1 h.2).2
 ·exact hl
theorem drawM_loop (c : List Int) (hc : c.length ≤ 1048576) (n : Nat) : ∀ (l : List S25) (p s : Int), n ≤ 100 → At c p → l.length ≤ 30 → ∃ l' p' s', Ev (fun k => spec_l25Draw.l0 k l (n : Int) c p s) (l', p', s') ∧ l'.length ≤ 30 ∧ At c p' := by
 induction n with
 | zero =>
  intro l p s _ hp hl
  refine ⟨l, p, s, Ev.one (fun k => ?_), hl, hp⟩
  simp only [spec_l25Draw.l0]
  rw [if_neg (by omega)]
 | succ n ih =>
  intro l p s hn hp hl
  obtain ⟨a0, a1, a2, a3, a4, p1, s1, e1, h1⟩ := markAt_ev c hc p s hp
  obtain ⟨l', p', s', h', hl', hp'⟩ := ih (setR l ⟨a0, a1, a2, a3, a4⟩) p1 s1 (by omega) h1 (setR_room l _ hl)
  refine ⟨l', p', s', Ev.step (f := fun k => (spec_SetMark.f k l a0 a1 a2 a3 a4).bind fun t => spec_l25Draw.l0 k t (n : Int) c p1 s1) (fun k => ?_) (Ev.bind (spec_setR l ⟨a0, a1, a2, a3, a4⟩ (by omega)) h'), hl', hp'⟩
  simp only [spec_l25Draw.l0, e1, Option.bind_some]
  rw [if_pos (by omega), w64 (by omega) (by omega), show ((n + 1 : Nat) : Int) - 1 = (n : Int) by omega]
theorem drawM_ev (c : List Int) (hc : c.length ≤ 1048576) (p s : Int) (hp : At c p) : ∃ l p' s', Ev (fun k => spec_l25Draw.f k c p s) (l, p', s') ∧ l.length ≤ 30 ∧ At c p' := by
 obtain ⟨r, p1, s1, e1, hr, h1⟩ := below_ev c hc p s 9 hp
 obtain ⟨l, p', s', h, hl, hp'⟩ := drawM_loop c hc r.toNat [] p1 s1 (by omega) h1 (by simp)
 refine ⟨l, p', s', ?_, hl, hp'⟩
 rw [Int.toNat_of_nonneg hr.1] at h
 simp only [spec_l25Draw.f, e1, Option.bind_some]
 exact h
theorem anyM_ev (c : List Int) (hc : c.length ≤ 1048576) (p s : Int) (hp : At c p) : ∃ l p' s', Ev (fun k => spec_l25Any.f k c p s) (l, p', s') ∧ l.length ≤ 30 ∧ At c p' := by
 obtain ⟨l, p1, s1, h, hl, h1⟩ := drawM_ev c hc p s hp
 by_cases h0 : (l.length : Int) = 0
 ·refine ⟨l, p1, s1, ?_, hl, h1⟩
  simp only [spec_l25Any.f]
  refine Ev.bind h ?_
  simp only [h0, if_true]
  exact Ev.now _
 ·obtain ⟨i, p2, s2, e2, hi, h2⟩ := below_ev c hc p1 s1 (l.length : Int) h1
  obtain ⟨j, p3, s3, e3, hj, h3⟩ := below_ev c hc p2 s2 9 h2
  have hil : i < (l.length : Int) := by omega
  have fin : ∀ (q : List Int), 0 < q.length → ∀ (g : Int → S25), ∃ l' p' s', ((spec_l1Int.f c p3 s3 q).bind fun t => (if 0 ≤ i then (if i < (l.length : Int) then some (l.set i.toNat (g t.1), t.2.1, t.2.2) else none) else none)) = some (l', p', s') ∧ l'.length ≤ 30 ∧ At c p' := by
   intro q hq g
   obtain ⟨a, pa, sa, ea, _, ha⟩ := int_ev c hc p3 s3 h3 q hq
   refine ⟨l.set i.toNat (g a), pa, sa, ?_, by rw [List.length_set]; exact hl, ha⟩
   rw [ea, Option.bind_some, if_pos hi.1, if_pos hil]
  by_cases j0 : j = 0
  ·obtain ⟨l', p', s', e, a, b⟩ := fin [0, 100, 101] (by decide) (fun v => ⟨v, (rd_T25 l i).f1, (rd_T25 l i).f2, (rd_T25 l i).f3, (rd_T25 l i).f4⟩)
   refine ⟨l', p', s', ?_, a, b⟩
   simp only [spec_l25Any.f]
   refine Ev.bind h ?_
   simp only [h0, if_false, e2, e3, Option.bind_some, j0, if_true]
   rw [e]
   exact Ev.now _
  ·by_cases j1 : j = 1
   ·obtain ⟨l', p', s', e, a, b⟩ := fin [0, 4, 5] (by decide) (fun v => ⟨(rd_T25 l i).f0, v, (rd_T25 l i).f2, (rd_T25 l i).f3, (rd_T25 l i).f4⟩)
    refine ⟨l', p', s', ?_, a, b⟩
    simp only [spec_l25Any.f]
    refine Ev.bind h ?_
    simp only [h0, if_false, e2, e3, Option.bind_some, j1, if_true, show ¬ (1 : Int) = 0 by decide]
    rw [e]
    exact Ev.now _
   ·by_cases j2 : j = 2
    ·obtain ⟨l', p', s', e, a, b⟩ := fin [-1, 9, 10] (by decide) (fun v => ⟨(rd_T25 l i).f0, (rd_T25 l i).f1, v, (rd_T25 l i).f3, (rd_T25 l i).f4⟩)
     refine ⟨l', p', s', ?_, a, b⟩
     simp only [spec_l25Any.f]
     refine Ev.bind h ?_
     simp only [h0, if_false, e2, e3, Option.bind_some, j2, if_true, show ¬ (2 : Int) = 0 by decide, show ¬ (2 : Int) = 1 by decide]
     rw [e]
     exact Ev.now _
    ·by_cases j3 : j = 3
     ·obtain ⟨l', p', s', e, a, b⟩ := fin [-1, 100000, 100001] (by decide) (fun v => ⟨(rd_T25 l i).f0, (rd_T25 l i).f1, (rd_T25 l i).f2, v, (rd_T25 l i).f4⟩)
      refine ⟨l', p', s', ?_, a, b⟩
      simp only [spec_l25Any.f]
      refine Ev.bind h ?_
      simp only [h0, if_false, e2, e3, Option.bind_some, j3, if_true, show ¬ (3 : Int) = 0 by decide, show ¬ (3 : Int) = 1 by decide, show ¬ (3 : Int) = 2 by decide]
      rw [e]
      exact Ev.now _
     ·by_cases j4 : j = 4
      ·obtain ⟨l', p', s', e, a, b⟩ := fin [0, 99, 100] (by decide) (fun v => ⟨(rd_T25 l i).f0, (rd_T25 l i).f1, (rd_T25 l i).f2, (rd_T25 l i).f3, v⟩)
       refine ⟨l', p', s', ?_, a, b⟩
       simp only [spec_l25Any.f]
       refine Ev.bind h ?_
       simp only [h0, if_false, e2, e3, Option.bind_some, j4, if_true, show ¬ (4 : Int) = 0 by decide, show ¬ (4 : Int) = 1 by decide, show ¬ (4 : Int) = 2 by decide, show ¬ (4 : Int) = 3 by decide]
       rw [e]
       exact Ev.now _
      ·refine ⟨l, p3, s3, ?_, hl, h3⟩
       simp only [spec_l25Any.f]
       refine Ev.bind h ?_
       simp only [h0, if_false, e2, e3, Option.bind_some, j0, j1, j2, j3, j4]
       exact Ev.now _
theorem drawTwo_loop (n : Nat) : ∀ (i : Nat) (a b : List S25), i + n = 21 → a.length ≤ 30 → b.length ≤ 30 → ∃ a' b', Ev (fun k => spec_DrawMergeMarks.l0 k a b (i : Int)) (a', b') ∧ a'.length ≤ 30 ∧ b'.length ≤ 30 := by
 induction n with
 | zero =>
  intro i a b hi ha hb
  refine ⟨a, b, Ev.one (fun k => ?_), ha, hb⟩
  simp only [spec_DrawMergeMarks.l0]
  rw [if_neg (by omega)]
 | succ n ih =>
  intro i a b hi ha hb
  obtain ⟨a', b', h, h1, h2⟩ := ih (i + 1) (setR a ⟨(i : Int), 1, 0, 0, 1⟩) (setR b ⟨wrap64 (10 + (i : Int)), wrap64 (1 + (Int.tmod (i : Int) 2)), 0, 0, 2⟩) (by omega) (setR_room a _ ha) (setR_room b _ hb)
  refine ⟨a', b', Ev.step (f := fun k => (spec_SetMark.f k a (i : Int) 1 0 0 1).bind fun t => (spec_SetMark.f k b (wrap64 (10 + (i : Int))) (wrap64 (1 + (Int.tmod (i : Int) 2))) 0 0 2).bind fun u => spec_DrawMergeMarks.l0 k t u ((i + 1 : Nat) : Int)) (fun k => ?_) (Ev.bind (spec_setR a ⟨(i : Int), 1, 0, 0, 1⟩ (by omega)) (Ev.bind (spec_setR b ⟨wrap64 (10 + (i : Int)), wrap64 (1 + (Int.tmod (i : Int) 2)), 0, 0, 2⟩ (by omega)) h)), h1, h2⟩
  simp only [spec_DrawMergeMarks.l0]
  rw [if_pos (by omega), w64_nat i (by omega)]
theorem drawMerge_ev (c : List Int) (hc : c.length ≤ 1048576) : ∃ a b, Ev (fun k => spec_DrawMergeMarks.f k c) (a, b) ∧ a.length ≤ 30 ∧ b.length ≤ 30 := by
 obtain ⟨s, hn⟩ := new_ev c hc
 obtain ⟨a, p1, s1, ha, la, h1⟩ := anyM_ev c hc 0 s (at_zero c)
 obtain ⟨b, p2, s2, hb, lb, h2⟩ := anyM_ev c hc p1 s1 h1
 obtain ⟨r, p3, s3, e3, _, h3⟩ := below_ev c hc p2 s2 9 h2
 by_cases hr : r = 0
 ·obtain ⟨a', b', h, l1, l2⟩ := drawTwo_loop 20 1 [] [] (by omega) (by simp) (by simp)
  refine ⟨a', b', ?_, l1, l2⟩
  simp only [spec_DrawMergeMarks.f, spec_l1Once.f]
  refine Ev.bind hn (Ev.bind ha (Ev.bind hb ?_))
  simp only [e3, Option.bind_some, hr, beq_self_eq_true, if_true]
  exact h
 ·refine ⟨a, b, ?_, la, lb⟩
  simp only [spec_DrawMergeMarks.f, spec_l1Once.f]
  refine Ev.bind hn (Ev.bind ha (Ev.bind hb ?_))
  have : (r == 0) = false := by simpa using hr
  simp only [e3, Option.bind_some, this, Bool.false_eq_true, if_false]
  exact Ev.now _
theorem drawBars_ev (c : List Int) (hc : c.length ≤ 1048576) : ∃ l v, Ev (fun k => spec_DrawMarkedBars.f k c) (l, v) ∧ l.length ≤ 30 := by
 obtain ⟨s, hn⟩ := new_ev c hc
 obtain ⟨a, p1, s1, ha, la, h1⟩ := anyM_ev c hc 0 s (at_zero c)
 obtain ⟨r, p3, s3, e3, _, h3⟩ := below_ev c hc p1 s1 6 h1
 refine ⟨a, r, ?_, la⟩
 simp only [spec_DrawMarkedBars.f]
 refine Ev.bind hn (Ev.bind ha ?_)
 simp only [e3, Option.bind_some]
 exact Ev.now _
theorem drawNewer_ev (c : List Int) (hc : c.length ≤ 1048576) : ∃ a0 a1 a2 a3 a4 b0 b1 b2 b3 b4, Ev (fun k => spec_DrawIsNewer.f k c) (a0, a1, a2, a3, a4, b0, b1, b2, b3, b4) := by
 obtain ⟨s, hn⟩ := new_ev c hc
 obtain ⟨a0, a1, a2, a3, a4, p1, s1, e1, h1⟩ := markAt_ev c hc 0 s (at_zero c)
 obtain ⟨b0, b1, b2, b3, b4, p2, s2, e2, h2⟩ := markAt_ev c hc p1 s1 h1
 refine ⟨a0, a1, a2, a3, a4, b0, b1, b2, b3, b4, ?_⟩
 simp only [spec_DrawIsNewer.f]
 refine Ev.bind hn ?_
 simp only [e1, e2, Option.bind_some]
 exact Ev.now _
theorem eqms_self (l : List S25) : eqms l l = true := by
 induction l with
 | nil => rfl
 | cons x l ih => simp [eqms, eqm, ih]
theorem same_ev (l : List S25) (hl : l.length ≤ 1048576) : Ev (fun k => impl_EqualMarks.f k l l) true := by
 have := impl_eqms l l hl
 rw [eqms_self] at this
 exact this
theorem newer_ev (x y : S25) : Ev (fun k => impl_IsNewer.f k x.f0 x.f1 x.f2 x.f3 x.f4 y.f0 y.f1 y.f2 y.f3 y.f4) (newerM x y) := impl_newer x.f0 x.f1 x.f2 x.f3 x.f4 y.f0 y.f1 y.f2 y.f3 y.f4
theorem tail_ev (c : List Int) (hc : c.length ≤ 1048576) : Ev (fun k => laws_FnMarked.j4 k c) true := by
 obtain ⟨l, v, hd, hl⟩ := drawBars_ev c hc
 obtain ⟨a0, a1, a2, a3, a4, b0, b1, b2, b3, b4, hn⟩ := drawNewer_ev c hc
 have hlen2 := barsOf_len v l
 have hlen := insAll_len (barsOf v l) []
 rw [List.length_nil, Nat.zero_add] at hlen
 have hm : Ev (fun k => impl_MarkedBars.f k l v) (insAll [] (barsOf v l)) := impl_bars_loop l v (by omega) l.length 0 [] (by omega) (by simp)
 have hs := ascends_ev (insAll [] (barsOf v l)) (by omega) (insAll_sorted _ [] List.Pairwise.nil)
 have n1 := newer_ev ⟨a0, a1, a2, a3, a4⟩ ⟨b0, b1, b2, b3, b4⟩
 have n2 := newer_ev ⟨b0, b1, b2, b3, b4⟩ ⟨a0, a1, a2, a3, a4⟩
 refine Ev.step (fun k => by simp only [laws_FnMarked.j4]; rfl) ?_
 refine Ev.bind hd (Ev.bind hn (Ev.bind hm (Ev.bind hs ?_)))
 simp only [if_true]
 refine Ev.bind n1 ?_
 by_cases h : newerM ⟨a0, a1, a2, a3, a4⟩ ⟨b0, b1, b2, b3, b4⟩ = true
 ·rw [newerM_asymm h] at n2
  simp only [h, if_true]
  exact Ev.bind n2 (Ev.now _)
 ·simp only [h, if_false]
  exact Ev.now _
theorem hit_ev (c : List Int) (m both : List S25) (hm : m.length ≤ 1048576) (i : Nat) (hi : i < both.length) (R : Bool) (next : ∀ s, s = true → Ev (fun k => laws_FnMarked.l1 k c m both (i : Int) s (m.length : Int)) R) (d : Nat) : ∀ (q : Nat) (s : Bool), q + d = m.length → (s = true ∨ ∃ j, ∃ h : j < m.length, q ≤ j ∧ sameP both[i] m[j] = true ∧ newerM both[i] m[j] = false) →
  Ev (fun k => laws_FnMarked.l1 k c m both (i : Int) s (q : Int)) R := by
 induction d with
 | zero =>
  intro q s hq hs
  obtain rfl : q = m.length := by omega
  rcases hs with hs | ⟨j, h, hj, _⟩
  ·exact next s hs
  ·omega
 | succ d ih =>
  intro q s hq hs
  have hlt : q < m.length := by omega
  cases hsv : s with
  | true =>
   refine Ev.step (fun k => ?_) (ih (q + 1) true (by omega) (.inl rfl))
   simp only [laws_FnMarked.l1]
   rw [if_pos (by omega), if_pos trivial, w64_nat q (by omega)]
  | false =>
   have hs2 : ∃ j, ∃ h : j < m.length, q ≤ j ∧ sameP both[i] m[j] = true ∧ newerM both[i] m[j] = false := by
    rcases hs with hs | hs
    ·rw [hsv] at hs
     cases hs
    ·exact hs
   have later : ¬ (sameP both[i] m[q] = true ∧ newerM both[i] m[q] = false) → (false = true ∨ ∃ j, ∃ h : j < m.length, q + 1 ≤ j ∧ sameP both[i] m[j] = true ∧ newerM both[i] m[j] = false) := by
    intro hn
    obtain ⟨j, h, hj, a, b⟩ := hs2
    refine .inr ⟨j, h, ?_, a, b⟩
    rcases Nat.eq_or_lt_of_le hj with e | e
    ·subst e
     exact absurd ⟨a, b⟩ hn
    ·exact e
   by_cases h0 : m[q].f0 = both[i].f0
   ·by_cases h1 : m[q].f1 = both[i].f1
    ·have nx : Ev (fun k => laws_FnMarked.l1 k c m both (i : Int) (!(newerM both[i] m[q])) ((q + 1 : Nat) : Int)) R := by
      refine ih (q + 1) _ (by omega) ?_
      cases hn : newerM both[i] m[q] with
      | false => exact .inl rfl
      | true => exact later (fun h => by rw [hn] at h; cases h.2)
     refine Ev.step (f := fun k => (impl_IsNewer.f k both[i].f0 both[i].f1 both[i].f2 both[i].f3 both[i].f4 m[q].f0 m[q].f1 m[q].f2 m[q].f3 m[q].f4).bind fun t => laws_FnMarked.l1 k c m both (i : Int) (!t) ((q + 1 : Nat) : Int)) (fun k => ?_) (Ev.bind (newer_ev both[i] m[q]) nx)
     simp only [laws_FnMarked.l1]
     rw [if_pos (by omega), if_neg (by simp), if_pos (by omega), if_pos (by omega), if_pos (by omega), rdMark_get m q hlt, rdMark_get both i hi, if_pos h0, if_pos h1, w64_nat q (by omega)]
    ·refine Ev.step (fun k => ?_) (ih (q + 1) false (by omega) (later (fun h => h1 (sameP_iff h.1).2)))
     simp only [laws_FnMarked.l1]
     rw [if_pos (by omega), if_neg (by simp), if_pos (by omega), if_pos (by omega), if_pos (by omega), rdMark_get m q hlt, rdMark_get both i hi, if_pos h0, if_neg h1, w64_nat q (by omega)]
   ·refine Ev.step (fun k => ?_) (ih (q + 1) false (by omega) (later (fun h => h0 (sameP_iff h.1).1)))
    simp only [laws_FnMarked.l1]
    rw [if_pos (by omega), if_neg (by simp), if_pos (by omega), if_pos (by omega), if_pos (by omega), rdMark_get m q hlt, rdMark_get both i hi, if_neg h0, w64_nat q (by omega)]
theorem all_ev (c : List Int) (hc : c.length ≤ 1048576) (m both : List S25) (hm : m.length ≤ 1048576) (hb : both.length ≤ 1048576) (hall : ∀ x ∈ both, ∃ y ∈ m, sameP x y = true ∧ newerM x y = false) (d : Nat) : ∀ i : Nat, i + d = both.length → Ev (fun k => laws_FnMarked.l0 k c m both (i : Int)) true := by
 induction d with
 | zero =>
  intro i hi
  refine Ev.step (fun k => ?_) (tail_ev c hc)
  simp only [laws_FnMarked.l0]
  rw [if_neg (by omega)]
 | succ d ih =>
  intro i hi
  have hlt : i < both.length := by omega
  obtain ⟨y, hy, a, b⟩ := hall _ (List.getElem_mem hlt)
  obtain ⟨j, hj, rfl⟩ := List.getElem_of_mem hy
  have h := hit_ev c m both hm i hlt true (fun s hs => by
   subst hs
   refine Ev.step (fun k => ?_) (ih (i + 1) (by omega))
   simp only [laws_FnMarked.l1]
   rw [if_neg (by omega), if_pos trivial, w64_nat i (by omega)]) m.length 0 false (by omega) (.inr ⟨j, hj, Nat.zero_le _, a, b⟩)
  refine Ev.step (fun k => ?_) h
  simp only [laws_FnMarked.l0]
  rw [if_pos (by omega)]
  rfl
theorem FnMarked : ∀ (l0 : List Int), (l0.length ≤ maxLen ∧ l0.length * 1 ≤ 140737488351232 ∧ ∀ l0' ∈ l0, (Lit.int .u8 l0').wf = true) → ∃ k, laws_FnMarked.f k l0 = some true := by
 intro c h0
 refine Ev.rounds (g := fun k => laws_FnMarked.f k c) ?_
 simp only [laws_FnMarked.f, laws_big.f, Option.bind_some]
 by_cases hb : (c.length : Int) > 1048576
 ·simp only [hb, decide_true, if_true]
  exact Ev.now true
 ·have hc : c.length ≤ 1048576 := by omega
  simp only [hb, decide_false, Bool.false_eq_true, if_false]
  obtain ⟨a, b, hd, la, lb⟩ := drawMerge_ev c hc
  have off : Ev (fun k => laws_FnMarked.j0 k c a b (mergeR a b) false) true := by
   refine Ev.step (fun k => ?_) (tail_ev c hc)
   simp only [laws_FnMarked.j0, Bool.false_eq_true, if_false]
  refine Ev.bind hd ?_
  refine Ev.bind (impl_merge a b (by omega) (by omega)) ?_
  refine Ev.bind (impl_marks a (by omega)) ?_
  refine Ev.bind (spec_marks a (by omega)) ?_
  simp only [bne_self_eq_false, Bool.false_eq_true, if_false]
  refine Ev.bind (impl_marks a (by omega)) ?_
  by_cases ha : areMarks a = true
  ·simp only [ha, if_true]
   refine Ev.bind (impl_marks b (by omega)) ?_
   by_cases hb2 : areMarks b = true
   ·simp only [hb2, if_true]
    by_cases hl : a.length + b.length ≤ 30
    ·have e : decide (wrap64 ((a.length : Int) + (b.length : Int)) ≤ 30) = true := decide_eq_true (by rw [w64 (by omega) (by omega)]; omega)
     simp only [e]
     obtain ⟨e1, v1⟩ := merge_room ha hb2 hl
     have vm : areMarks (mergeR a b) = true := by rw [e1]; exact v1
     have lm : (mergeR a b).length ≤ 30 := (areMarks_iff.1 vm).2
     have i1 := impl_marks (mergeR a b) (by omega)
     have i2 := impl_merge b a (by omega) (by omega)
     have i3 := impl_merge (mergeR a b) b (by omega) (by omega)
     have i4 := impl_merge a a (by omega) (by omega)
     have s1 := same_ev (mergeR a b) (by omega)
     have s2 := same_ev a (by omega)
     rw [vm] at i1
     rw [← merge_comm ha hb2 hl] at i2
     rw [merge_absorb ha hb2 hl] at i3
     rw [merge_idem ha] at i4
     refine Ev.step (fun k => by simp only [laws_FnMarked.j0, if_true]; rfl) ?_
     refine Ev.bind i1 ?_
     simp only [if_true]
     refine Ev.bind i2 (Ev.bind s1 ?_)
     simp only [if_true]
     refine Ev.bind i3 (Ev.bind s1 ?_)
     simp only [if_true]
     refine Ev.bind i4 (Ev.bind s2 ?_)
     have fin := all_ev c hc (mergeR a b) (a ++ b) (by omega) (by simp; omega) (fun x hx => merge_has ha hb2 hl x hx) (a ++ b).length 0 (by omega)
     refine Ev.step (fun k => ?_) fin
     simp only [laws_FnMarked.j1, Bool.not_true, Bool.false_eq_true, if_false, Option.bind_some, List.length_nil, List.nil_append, Nat.zero_add]
     rw [if_pos (by omega), if_pos (by omega)]
     rfl
    ·have e : decide (wrap64 ((a.length : Int) + (b.length : Int)) ≤ 30) = false := decide_eq_false (by rw [w64 (by omega) (by omega)]; omega)
     simp only [e]
     exact off
   ·simp only [hb2, if_false]
    exact off
  ·simp only [ha, if_false]
   exact off
end Go.Proofs.Ytcmafemdcikmfaa.Pure
