/- The plain statement of the law FnExactChangedBars: what its printed function answers; no conditions but that the numbers are Go's ints and the slices no longer than memory. -/
import Derived.Test.YtoihniinekiknaaQFnExactChangedBarsx14
set_option linter.unusedVariables false
set_option linter.unusedSimpArgs false
namespace Go.Proofs.Ytoihniinekiknaa.Pure
open Go.RowKit Go.Proofs.Ytoihniinekiknaa.QFnExactChangedBars Go.Proofs.YtoihniinekiknaaW.PrintWords Go.Proofs.YtoihniinekiknaaW.PrintLast Go.Proofs.YtoihniinekiknaaW.PrintMore

theorem wf64 {x : Int} (h : (Lit.int .i64 x).wf = true) : -9223372036854775808 ≤ x ∧ x ≤ 9223372036854775807 := by
  simp only [Lit.wf, IntKind.min, IntKind.max, IntKind.signed, IntKind.bits, Bool.and_eq_true, decide_eq_true_eq, if_true] at h
  omega

theorem w64 {x : Int} (h1 : -9223372036854775808 ≤ x) (h2 : x ≤ 9223372036854775807) : wrap64 x = x := by
  unfold wrap64
  omega

theorem w64_nat (i : Nat) (h : i ≤ 9223372036854775806) : wrap64 ((i : Int) + 1) = ((i + 1 : Nat) : Int) := by
  unfold wrap64
  omega

theorem drop_cons {α : Type} (l : List α) (i : Nat) (h : i < l.length) : l.drop i = l[i] :: l.drop (i + 1) := List.drop_eq_getElem_cons h

theorem set_take {β : Type} (x : List β) (i : Nat) (v : β) (h : i < x.length) : (x.set i v).take (i + 1) = x.take i ++ [v] := by
  apply List.ext_getElem?
  intro j
  rcases Nat.lt_trichotomy j i with hj | hj | hj
  · rw [List.getElem?_take_of_lt (by omega), List.getElem?_set_ne (by omega), List.getElem?_append_left (by simp; omega), List.getElem?_take_of_lt (by omega)]
  · subst hj
    rw [List.getElem?_take_of_lt (by omega), List.getElem?_set_self (by omega), List.getElem?_append_right (by simp; omega)]
    simp [Nat.min_eq_left (Nat.le_of_lt h)]
  · rw [List.getElem?_take_eq_none (by omega), List.getElem?_append_right (by simp; omega)]
    simp
    omega

theorem copyLoop {α β : Type} (F : Nat → List β → Int → Option (List β)) (x0 : List α) (cv : α → β)
    (h1 : ∀ (x3 : List β) (i : Nat) (r : List β) (hi : i < x0.length), x3.length = x0.length → Ev (fun k => F k (x3.set i (cv x0[i])) ((i + 1 : Nat) : Int)) r → Ev (fun k => F k x3 (i : Int)) r)
    (h2 : ∀ x3 : List β, Ev (fun k => F k x3 (x0.length : Int)) x3) (init : List β) (hl : init.length = x0.length) : Ev (fun k => F k init 0) (x0.map cv) := by
  have key : ∀ (d i : Nat) (x3 : List β), i + d = x0.length → x3.length = x0.length → x3.take i = (x0.map cv).take i → Ev (fun k => F k x3 (i : Int)) (x0.map cv) := by
    intro d
    induction d with
    | zero =>
      intro i x3 hi hx ht
      obtain rfl : i = x0.length := by omega
      have e : x3 = x0.map cv := by
        rw [← hx, List.take_length] at ht
        rw [ht, hx]
        exact List.take_of_length_le (by simp)
      have := h2 x3
      rw [e] at this
      rw [e]
      exact this
    | succ d ih =>
      intro i x3 hi hx ht
      have hlt : i < x0.length := by omega
      refine h1 x3 i _ hlt hx (ih (i + 1) _ (by omega) (by rw [List.length_set]; exact hx) ?_)
      rw [set_take x3 i _ (by omega), ht]
      rw [List.take_succ_eq_append_getElem (by simpa using hlt)]
      simp
  have := key x0.length 0 init (by omega) hl (by simp)
  exact this

theorem eqLoop {α : Type} (F : Nat → Int → Option Bool) (x0 : List α)
    (h1 : ∀ (i : Nat) (r : Bool) (_ : i < x0.length), Ev (fun k => F k ((i + 1 : Nat) : Int)) r → Ev (fun k => F k (i : Int)) r)
    (h2 : Ev (fun k => F k (x0.length : Int)) true) : Ev (fun k => F k 0) true := by
  have key : ∀ (d i : Nat), i + d = x0.length → Ev (fun k => F k (i : Int)) true := by
    intro d
    induction d with
    | zero =>
      intro i hi
      obtain rfl : i = x0.length := by omega
      exact h2
    | succ d ih =>
      intro i hi
      exact h1 i true (by omega) (ih (i + 1) (by omega))
  exact key x0.length 0 (by omega)

theorem ite_eq_of {α : Type} {p : Prop} [Decidable p] {a b : α} (h : p) : (if p then a else b) = a := if_pos h

theorem Ev.one {α : Type} {g : Nat → Option α} {r : α} (h : ∀ k, g (k + 1) = some r) : Ev g r := Ev.step (f := fun _ => some r) h (Ev.now r)

theorem rdEvent_get (l : List S57) (i : Nat) (h : i < l.length) : rd_T57 l (i : Int) = l[i] := by
  simp [rd_T57, List.getD, List.getElem?_eq_getElem h]

def evOk (x : S57) : Bool := decide ((0 ≤ x.f0 ∧ x.f0 ≤ 2000) ∧ (1 ≤ x.f1 ∧ x.f1 ≤ 96) ∧ (21 ≤ x.f2 ∧ x.f2 ≤ 108) ∧ (1 ≤ x.f3 ∧ x.f3 ≤ 4))
/-- By tick, voice and pitch. -/
def evLt (a b : S57) : Bool := if a.f0 = b.f0 then (if a.f3 = b.f3 then decide (a.f2 < b.f2) else decide (a.f3 < b.f3)) else decide (a.f0 < b.f0)
def evNext (p : Option S57) (x : S57) : Bool := match p with
  | none => true
  | some y => evLt y x
def scL : Option S57 → List S57 → Bool
  | _, [] => true
  | p, x :: l => (evOk x && evNext p x) && scL (some x) l
def isScore (l : List S57) : Bool := scL none l && decide (l.length ≤ 40)

theorem isScore_iff {l : List S57} (h : isScore l = true) : scL none l = true ∧ l.length ≤ 40 := by
  simpa [isScore] using h

theorem scL_ok (l : List S57) : ∀ p, scL p l = true → ∀ x ∈ l, evOk x = true := by
  induction l with
  | nil => intro p _ x hx; simp at hx
  | cons y l ih =>
    intro p h x hx
    simp only [scL, Bool.and_eq_true] at h
    rcases List.mem_cons.1 hx with rfl | hx
    · exact h.1.1
    · exact ih _ h.2 x hx

theorem isScore_at {l : List S57} (h : isScore l = true) (x : S57) (hx : x ∈ l) : (0 ≤ x.f0 ∧ x.f0 ≤ 2000) ∧ (1 ≤ x.f1 ∧ x.f1 ≤ 96) ∧ (21 ≤ x.f2 ∧ x.f2 ≤ 108) ∧ (1 ≤ x.f3 ∧ x.f3 ≤ 4) := by
  have := scL_ok l none (isScore_iff h).1 x hx
  simpa only [evOk, decide_eq_true_eq] using this

theorem l1In_eq (a b c : Int) : spec_l1In.f a b c = some (decide (b ≤ a ∧ a ≤ c)) := by
  unfold spec_l1In.f
  split <;> simp <;> omega

theorem spec_ok (a b c d : Int) : spec_l8Ok.f a b c d = some (evOk ⟨a, b, c, d⟩) := by
  simp only [spec_l8Ok.f, l1In_eq, Option.bind_some, decide_eq_true_eq, evOk]
  by_cases h0 : 0 ≤ a ∧ a ≤ 2000
  · by_cases h1 : 1 ≤ b ∧ b ≤ 96
    · by_cases h2 : 21 ≤ c ∧ c ≤ 108
      · simp only [h0, h1, h2, and_self, if_true, true_and]
      · simp only [h0, h1, h2, and_self, if_true, if_false, false_and, and_false, decide_false]
    · simp only [h0, h1, and_self, if_true, if_false, false_and, and_false, decide_false]
  · simp only [h0, if_false, false_and, decide_false]

theorem spec_before (a b : S57) : spec_l8Before.f a.f0 a.f1 a.f2 a.f3 b.f0 b.f1 b.f2 b.f3 = some (evLt a b) := by
  unfold spec_l8Before.f evLt
  repeat' split
  all_goals rfl

theorem spec_score_ev (l : List S57) (hl : l.length ≤ 1048576) (d : Nat) : ∀ (i : Nat) (p : Option S57), i + d = l.length → (i = 0 ∧ p = none ∨ ∃ h : i - 1 < l.length, 0 < i ∧ p = some l[i - 1]) →
    Ev (fun k => spec_IsScore.l0 k l (i : Int)) (scL p (l.drop i) && decide (l.length ≤ 40)) := by
  induction d with
  | zero =>
    intro i p hi hp
    rw [List.drop_of_length_le (by omega)]
    refine Ev.one (fun k => ?_)
    simp only [spec_IsScore.l0, scL, Bool.true_and]
    rw [if_neg (by omega)]
    refine congrArg some (decide_eq_decide.2 ?_)
    omega
  | succ d ih =>
    intro i p hi hp
    have hlt : i < l.length := by omega
    rw [drop_cons l i hlt]
    have next := ih (i + 1) (some l[i]) (by omega) (.inr ⟨by omega, by omega, rfl⟩)
    by_cases h0 : evOk l[i] = true
    · rcases hp with ⟨rfl, rfl⟩ | ⟨hi1, hpos, rfl⟩
      · refine Ev.step (f := fun k => spec_IsScore.l0 k l ((0 + 1 : Nat) : Int)) (fun k => ?_) ?_
        · simp only [spec_IsScore.l0, spec_ok, Option.bind_some]
          rw [if_pos (by omega), if_pos (by omega), rdEvent_get l 0 hlt, if_pos h0, if_neg (by omega), w64_nat 0 (by omega)]
        · rw [scL, h0, evNext, Bool.true_and, Bool.true_and]
          exact next
      · have hw : wrap64 ((i : Int) - 1) = ((i - 1 : Nat) : Int) := by unfold wrap64; omega
        by_cases h2 : evLt l[i - 1] l[i] = true
        · rw [scL, h0, evNext, h2, Bool.true_and, Bool.true_and]
          refine Ev.step (fun k => ?_) next
          simp only [spec_IsScore.l0, spec_ok, Option.bind_some]
          rw [if_pos (by omega), if_pos (by omega), rdEvent_get l i hlt, if_pos h0, if_pos (by omega), hw, if_pos (by omega), if_pos (by omega), rdEvent_get l (i - 1) hi1, spec_before, Option.bind_some, if_pos h2, w64_nat i (by omega)]
        · rw [Bool.not_eq_true] at h2
          rw [scL, h0, evNext, h2, Bool.and_false, Bool.false_and, Bool.false_and]
          refine Ev.one (fun k => ?_)
          simp only [spec_IsScore.l0, spec_ok, Option.bind_some]
          rw [if_pos (by omega), if_pos (by omega), rdEvent_get l i hlt, if_pos h0, if_pos (by omega), hw, if_pos (by omega), if_pos (by omega), rdEvent_get l (i - 1) hi1, spec_before, Option.bind_some, h2]
          rfl
    · have h0' := h0
      rw [Bool.not_eq_true] at h0'
      rw [scL, h0', Bool.false_and, Bool.false_and, Bool.false_and]
      refine Ev.one (fun k => ?_)
      simp only [spec_IsScore.l0, spec_ok, Option.bind_some]
      rw [if_pos (by omega), if_pos (by omega), rdEvent_get l i hlt, if_neg h0]

theorem spec_score (l : List S57) (hl : l.length ≤ 1048576) : Ev (fun k => spec_IsScore.f k l) (isScore l) := spec_score_ev l hl l.length 0 none (by omega) (.inl ⟨rfl, rfl⟩)

theorem inRange_eq (a b c : Int) : impl_InRange.f a b c = some (decide (b ≤ a ∧ a ≤ c)) := by
  unfold impl_InRange.f
  split <;> simp <;> omega

theorem rd_get (l : List Int) (i : Nat) (h : i < l.length) : rd l (i : Int) = l[i] := by
  simp [rd, List.getD, List.getElem?_eq_getElem h]

def cmp3 (a b : Int) : Int := if a < b then -1 else if a > b then 1 else 0

theorem compare_eq (a b : Int) : cmp_Compare_int.f a b = some (cmp3 a b) := by
  have h : ∀ x : Int, (x != x) = false := fun x => by simp
  simp only [cmp_Compare_int.f, cmp_isNaN_int.f, Option.bind_some, h, cmp3]
  simp only [Bool.false_eq_true, if_false]
  split
  · rfl
  · split <;> rfl

theorem or_step (l : List Int) (i : Nat) (r : Int) (hl : l.length ≤ 1048576) (hi : i < l.length) (h : l[i] = 0) (he : Ev (fun k => cmp_Or_int.l0 k 0 l (l.length : Int) ((i + 1 : Nat) : Int)) r) : Ev (fun k => cmp_Or_int.l0 k 0 l (l.length : Int) (i : Int)) r := by
  refine Ev.step (fun k => ?_) he
  simp only [cmp_Or_int.l0]
  rw [if_pos (by omega), if_pos (by omega), if_pos (by omega), rd_get l i hi, if_pos h, w64_nat i (by omega)]

theorem or_hit (l : List Int) (i : Nat) (hi : i < l.length) (h : ¬ l[i] = 0) : Ev (fun k => cmp_Or_int.l0 k 0 l (l.length : Int) (i : Int)) l[i] := by
  refine Ev.one (fun k => ?_)
  simp only [cmp_Or_int.l0]
  rw [if_pos (by omega), if_pos (by omega), if_pos (by omega), rd_get l i hi, if_neg h]

theorem or_end (l : List Int) : Ev (fun k => cmp_Or_int.l0 k 0 l (l.length : Int) ((l.length : Nat) : Int)) 0 := by
  refine Ev.one (fun k => ?_)
  simp only [cmp_Or_int.l0]
  rw [if_neg (by omega)]

theorem or2_ev (a b : Int) : Ev (fun k => cmp_Or_int.f k [a, b]) (if a = 0 then b else a) := by
  show Ev (fun k => cmp_Or_int.l0 k 0 [a, b] (([a, b] : List Int).length : Int) ((0 : Nat) : Int)) _
  by_cases ha : a = 0
  · rw [if_pos ha]
    refine or_step [a, b] 0 b (by simp) (by simp) ha ?_
    by_cases hb : b = 0
    · rw [hb]
      exact or_step [a, 0] 1 0 (by simp) (by simp) rfl (or_end _)
    · exact or_hit [a, b] 1 (by simp) hb
  · rw [if_neg ha]
    exact or_hit [a, b] 0 (by simp) ha

theorem or3_ev (a b c : Int) : Ev (fun k => cmp_Or_int.f k [a, b, c]) (if a = 0 then (if b = 0 then c else b) else a) := by
  show Ev (fun k => cmp_Or_int.l0 k 0 [a, b, c] (([a, b, c] : List Int).length : Int) ((0 : Nat) : Int)) _
  by_cases ha : a = 0
  · rw [if_pos ha]
    refine or_step [a, b, c] 0 _ (by simp) (by simp) ha ?_
    by_cases hb : b = 0
    · rw [if_pos hb]
      refine or_step [a, b, c] 1 _ (by simp) (by simp) hb ?_
      by_cases hc : c = 0
      · rw [hc]
        exact or_step [a, b, 0] 2 0 (by simp) (by simp) rfl (or_end _)
      · exact or_hit [a, b, c] 2 (by simp) hc
    · rw [if_neg hb]
      exact or_hit [a, b, c] 1 (by simp) hb
  · rw [if_neg ha]
    exact or_hit [a, b, c] 0 (by simp) ha

theorem impl_order (a b : S57) : Ev (fun k => impl_eventOrder.f k a.f0 a.f1 a.f2 a.f3 b.f0 b.f1 b.f2 b.f3) (if cmp3 a.f0 b.f0 = 0 then (if cmp3 a.f3 b.f3 = 0 then cmp3 a.f2 b.f2 else cmp3 a.f3 b.f3) else cmp3 a.f0 b.f0) := by
  simp only [impl_eventOrder.f, compare_eq, Option.bind_some]
  exact Ev.bind (or3_ev _ _ _) (Ev.now _)

theorem order_lt (a b : S57) : ((if cmp3 a.f0 b.f0 = 0 then (if cmp3 a.f3 b.f3 = 0 then cmp3 a.f2 b.f2 else cmp3 a.f3 b.f3) else cmp3 a.f0 b.f0) ≥ 0) ↔ ¬ evLt a b = true := by
  unfold cmp3 evLt
  repeat' split
  all_goals (simp <;> omega)

theorem impl_score_ev (l : List S57) (hl : l.length ≤ 1048576) (d : Nat) : ∀ (i : Nat) (p : Option S57), i + d = l.length → (i = 0 ∧ p = none ∨ ∃ h : i - 1 < l.length, 0 < i ∧ p = some l[i - 1]) →
    Ev (fun k => impl_IsScore.l0 k l l (l.length : Int) (i : Int)) (scL p (l.drop i) && decide (l.length ≤ 40)) := by
  induction d with
  | zero =>
    intro i p hi hp
    rw [List.drop_of_length_le (by omega)]
    refine Ev.one (fun k => ?_)
    simp only [impl_IsScore.l0, scL, Bool.true_and]
    rw [if_neg (by omega)]
    refine congrArg some (decide_eq_decide.2 ?_)
    omega
  | succ d ih =>
    intro i p hi hp
    have hlt : i < l.length := by omega
    rw [drop_cons l i hlt]
    have next := ih (i + 1) (some l[i]) (by omega) (.inr ⟨by omega, by omega, rfl⟩)
    by_cases h0 : evOk l[i] = true
    · have hx : (0 ≤ l[i].f0 ∧ l[i].f0 ≤ 2000) ∧ (1 ≤ l[i].f1 ∧ l[i].f1 ≤ 96) ∧ (21 ≤ l[i].f2 ∧ l[i].f2 ≤ 108) ∧ (1 ≤ l[i].f3 ∧ l[i].f3 ≤ 4) := by simpa only [evOk, decide_eq_true_eq] using h0
      rcases hp with ⟨rfl, rfl⟩ | ⟨hi1, hpos, rfl⟩
      · refine Ev.step (f := fun k => impl_IsScore.l0 k l l (l.length : Int) ((0 + 1 : Nat) : Int)) (fun k => ?_) ?_
        · simp only [impl_IsScore.l0, inRange_eq, Option.bind_some]
          rw [if_pos (by omega), if_pos (by omega), if_pos (by omega), rdEvent_get l 0 hlt, if_pos (decide_eq_true hx.1), if_pos (decide_eq_true hx.2.1), if_pos (decide_eq_true hx.2.2.1), if_pos (decide_eq_true hx.2.2.2), if_neg (by omega), w64_nat 0 (by omega)]
        · rw [scL, h0, evNext, Bool.true_and, Bool.true_and]
          exact next
      · have hw : wrap64 ((i : Int) - 1) = ((i - 1 : Nat) : Int) := by unfold wrap64; omega
        refine Ev.step (f := fun k => (impl_eventOrder.f k l[i - 1].f0 l[i - 1].f1 l[i - 1].f2 l[i - 1].f3 l[i].f0 l[i].f1 l[i].f2 l[i].f3).bind fun t => if t ≥ 0 then some false else impl_IsScore.l0 k l l (l.length : Int) ((i + 1 : Nat) : Int)) (fun k => ?_) ?_
        · simp only [impl_IsScore.l0, inRange_eq, Option.bind_some]
          rw [if_pos (by omega), if_pos (by omega), if_pos (by omega), rdEvent_get l i hlt, if_pos (decide_eq_true hx.1), if_pos (decide_eq_true hx.2.1), if_pos (decide_eq_true hx.2.2.1), if_pos (decide_eq_true hx.2.2.2), if_pos (by omega), hw, if_pos (by omega), if_pos (by omega), rdEvent_get l (i - 1) hi1, w64_nat i (by omega)]
        · refine Ev.bind (impl_order _ _) ?_
          by_cases h2 : evLt l[i - 1] l[i] = true
          · simp only [if_neg (fun h => (order_lt _ _).1 h h2)]
            rw [scL, h0, evNext, h2, Bool.true_and, Bool.true_and]
            exact next
          · simp only [if_pos ((order_lt _ _).2 h2)]
            rw [Bool.not_eq_true] at h2
            rw [scL, h0, evNext, h2, Bool.and_false, Bool.false_and, Bool.false_and]
            exact Ev.now _
    · have h0' := h0
      rw [Bool.not_eq_true] at h0'
      rw [scL, h0', Bool.false_and, Bool.false_and, Bool.false_and]
      have hx : ¬ ((0 ≤ l[i].f0 ∧ l[i].f0 ≤ 2000) ∧ (1 ≤ l[i].f1 ∧ l[i].f1 ≤ 96) ∧ (21 ≤ l[i].f2 ∧ l[i].f2 ≤ 108) ∧ (1 ≤ l[i].f3 ∧ l[i].f3 ≤ 4)) := by simpa only [evOk, decide_eq_true_eq] using h0
      refine Ev.one (fun k => ?_)
      simp only [impl_IsScore.l0, inRange_eq, Option.bind_some]
      rw [if_pos (by omega), if_pos (by omega), if_pos (by omega), rdEvent_get l i hlt]
      by_cases g0 : 0 ≤ l[i].f0 ∧ l[i].f0 ≤ 2000
      · rw [if_pos (decide_eq_true g0)]
        by_cases g1 : 1 ≤ l[i].f1 ∧ l[i].f1 ≤ 96
        · rw [if_pos (decide_eq_true g1)]
          by_cases g2 : 21 ≤ l[i].f2 ∧ l[i].f2 ≤ 108
          · rw [if_pos (decide_eq_true g2)]
            by_cases g3 : 1 ≤ l[i].f3 ∧ l[i].f3 ≤ 4
            · exact absurd ⟨g0, g1, g2, g3⟩ hx
            · rw [if_neg (by simpa using g3)]
          · rw [if_neg (by simpa using g2)]
        · rw [if_neg (by simpa using g1)]
      · rw [if_neg (by simpa using g0)]

theorem impl_score (l : List S57) (hl : l.length ≤ 1048576) : Ev (fun k => impl_IsScore.f k l) (isScore l) := impl_score_ev l hl l.length 0 none (by omega) (.inl ⟨rfl, rfl⟩)

def isMeter (b u : Int) : Bool := decide ((1 ≤ b ∧ b ≤ 12) ∧ (u = 1 ∨ u = 2 ∨ u = 4 ∨ u = 8))
/-- How many ticks a bar has. -/
def barLong (b u : Int) : Int := if isMeter b u = true then b * (48 / u) else 0

theorem spec_meter (b u : Int) : spec_IsMeter.f b u = some (isMeter b u) := by
  simp only [spec_IsMeter.f, l1In_eq, Option.bind_some, isMeter]
  by_cases h : 1 ≤ b ∧ b ≤ 12
  · rw [if_pos (decide_eq_true h)]
    by_cases h1 : u = 1
    · rw [if_pos h1]; exact congrArg some (decide_eq_true ⟨h, .inl h1⟩).symm
    · by_cases h2 : u = 2
      · rw [if_neg h1, if_pos h2]; exact congrArg some (decide_eq_true ⟨h, .inr (.inl h2)⟩).symm
      · by_cases h4 : u = 4
        · rw [if_neg h1, if_neg h2, if_pos h4]; exact congrArg some (decide_eq_true ⟨h, .inr (.inr (.inl h4))⟩).symm
        · rw [if_neg h1, if_neg h2, if_neg h4]
          by_cases h8 : u = 8
          · rw [decide_eq_true ⟨h, .inr (.inr (.inr h8))⟩, h8]; rfl
          · rw [decide_eq_false (by omega)]; exact congrArg some (beq_eq_false_iff_ne.2 h8)
  · rw [if_neg (by simpa using h), decide_eq_false (by omega)]

theorem impl_meter (b u : Int) : impl_IsMeter.f b u = some (isMeter b u) := by
  rw [← spec_meter]
  simp only [impl_IsMeter.f, spec_IsMeter.f, l1In_eq, inRange_eq]

theorem isMeter_iff {b u : Int} (h : isMeter b u = true) : (1 ≤ b ∧ b ≤ 12) ∧ (u = 1 ∨ u = 2 ∨ u = 4 ∨ u = 8) := by simpa [isMeter] using h

theorem meter_div {b u : Int} (h : isMeter b u = true) : ¬ u = 0 ∧ 6 ≤ 48 / u ∧ 48 / u ≤ 48 ∧ wrap64 (Int.tdiv (48 : Int) u) = 48 / u ∧ wrap64 (b * (48 / u)) = b * (48 / u) ∧ 6 ≤ b * (48 / u) ∧ b * (48 / u) ≤ 576 := by
  obtain ⟨h1, h2⟩ := isMeter_iff h
  rcases h2 with rfl | rfl | rfl | rfl
  all_goals
    refine ⟨by omega, by omega, by omega, (w64 (by decide) (by decide)).trans (by decide), ?_, ?_, ?_⟩
    · simp only [show (48 : Int) / 1 = 48 from rfl, show (48 : Int) / 2 = 24 from rfl, show (48 : Int) / 4 = 12 from rfl, show (48 : Int) / 8 = 6 from rfl]
      exact w64 (by omega) (by omega)
    · simp only [show (48 : Int) / 1 = 48 from rfl, show (48 : Int) / 2 = 24 from rfl, show (48 : Int) / 4 = 12 from rfl, show (48 : Int) / 8 = 6 from rfl]
      omega
    · simp only [show (48 : Int) / 1 = 48 from rfl, show (48 : Int) / 2 = 24 from rfl, show (48 : Int) / 4 = 12 from rfl, show (48 : Int) / 8 = 6 from rfl]
      omega

theorem spec_bar (b u : Int) : spec_BarLong.f b u = some (barLong b u) := by
  simp only [spec_BarLong.f, spec_meter, Option.bind_some, barLong]
  split
  · rename_i h
    obtain ⟨h0, _, _, h1, h2, _⟩ := meter_div h
    simp only [spec_l10Beat.f, h0, if_false, Option.bind_some]
    rw [h1, h2]
  · rfl

theorem impl_bar (b u : Int) : impl_BarLong.f b u = some (barLong b u) := by
  simp only [impl_BarLong.f, impl_meter, Option.bind_some, barLong]
  split
  · rename_i h
    obtain ⟨h0, _, _, h1, h2, _⟩ := meter_div h
    simp only [impl_Meter_beat.f, h0, if_false, Option.bind_some]
    rw [h1, h2]
  · rfl

theorem barLong_bound (b u : Int) (h : isMeter b u = true) : 6 ≤ barLong b u ∧ barLong b u ≤ 576 := by
  obtain ⟨_, _, _, _, _, h1, h2⟩ := meter_div h
  unfold barLong
  rw [if_pos h]
  exact ⟨h1, h2⟩

/-- The bar in which a tick lies, for bars of L ticks. -/
def barNo (L : Int) (x : S57) : Int := Int.tdiv x.f0 L + 1
def barsL (L n : Int) : List S57 → List S57 → List S57
  | [], out => out
  | x :: l, out => barsL L n l (if barNo L x = n then out ++ [x] else out)
def barR (l : List S57) (b u n : Int) : List S57 := if isScore l = true ∧ isMeter b u = true ∧ (1 ≤ n ∧ n ≤ 500) then barsL (barLong b u) n l [] else []

theorem barNo_bound {L : Int} {x : S57} (hL : 6 ≤ L) (h0 : 0 ≤ x.f0) (h1 : x.f0 ≤ 2000) : 0 ≤ Int.tdiv x.f0 L ∧ Int.tdiv x.f0 L ≤ 2000 := by
  rw [Int.tdiv_eq_ediv_of_nonneg h0]
  refine ⟨Int.ediv_nonneg h0 (by omega), ?_⟩
  have := Int.ediv_le_self L h0
  omega

theorem spec_bars_ev (l : List S57) (b u n : Int) (hs : isScore l = true) (hM : isMeter b u = true) (hn : 1 ≤ n ∧ n ≤ 500) (d : Nat) : ∀ (i : Nat) (out : List S57), i + d = l.length → out.length ≤ i →
    Ev (fun k => spec_BarEvents.l0 k l n out (i : Int) b u) (barsL (barLong b u) n (l.drop i) out) := by
  have hlen := (isScore_iff hs).2
  have hb := barLong_bound b u hM
  induction d with
  | zero =>
    intro i out hi ho
    rw [List.drop_of_length_le (by omega)]
    refine Ev.step (f := fun k => spec_BarEvents.j1 k l n out (i : Int) false b u) (fun k => ?_) (Ev.one (fun k => ?_))
    · simp only [spec_BarEvents.l0]
      rw [if_neg (by omega)]
    · simp only [spec_BarEvents.j1, Bool.false_eq_true, if_false, barsL]
  | succ d ih =>
    intro i out hi ho
    have hlt : i < l.length := by omega
    have hx := isScore_at hs _ (List.getElem_mem hlt)
    have hd := barNo_bound (x := l[i]) hb.1 hx.1.1 hx.1.2
    rw [drop_cons l i hlt, barsL]
    refine Ev.step (f := fun k => (spec_IsScore.f k l).bind fun t => if t = true then ((spec_IsMeter.f b u).bind fun t => if t = true then ((spec_l1In.f n 1 500).bind fun t => spec_BarEvents.j1 k l n out (i : Int) t b u) else spec_BarEvents.j1 k l n out (i : Int) false b u) else spec_BarEvents.j1 k l n out (i : Int) false b u) (fun k => ?_) (Ev.bind (spec_score l (by omega)) ?_)
    · simp only [spec_BarEvents.l0]
      rw [if_pos (by omega)]
    · simp only [hs, spec_meter, hM, l1In_eq, Option.bind_some, if_true]
      rw [decide_eq_true hn]
      by_cases hc : barNo (barLong b u) l[i] = n
      · rw [if_pos hc]
        refine Ev.step (fun k => ?_) (ih (i + 1) (out ++ [l[i]]) (by omega) (by simp; omega))
        simp only [spec_BarEvents.j1, spec_bar, Option.bind_some, if_true]
        unfold barNo at hc
        rw [if_pos (by omega), if_pos (by omega), if_neg (by omega), rdEvent_get l i hlt, w64 (x := Int.tdiv l[i].f0 (barLong b u)) (by omega) (by omega), w64 (x := Int.tdiv l[i].f0 (barLong b u) + 1) (by omega) (by omega), if_pos hc, if_pos (by omega), w64_nat i (by omega)]
      · rw [if_neg hc]
        refine Ev.step (fun k => ?_) (ih (i + 1) out (by omega) (by omega))
        simp only [spec_BarEvents.j1, spec_bar, Option.bind_some, if_true]
        unfold barNo at hc
        rw [if_pos (by omega), if_pos (by omega), if_neg (by omega), rdEvent_get l i hlt, w64 (x := Int.tdiv l[i].f0 (barLong b u)) (by omega) (by omega), w64 (x := Int.tdiv l[i].f0 (barLong b u) + 1) (by omega) (by omega), if_neg hc, w64_nat i (by omega)]

theorem impl_bars_ev (l : List S57) (b u n : Int) (hs : isScore l = true) (hM : isMeter b u = true) (d : Nat) : ∀ (i : Nat) (out : List S57), i + d = l.length → out.length ≤ i →
    Ev (fun k => impl_BarEvents.l0 k n out l (l.length : Int) (i : Int) b u) (barsL (barLong b u) n (l.drop i) out) := by
  have hlen := (isScore_iff hs).2
  have hb := barLong_bound b u hM
  induction d with
  | zero =>
    intro i out hi ho
    rw [List.drop_of_length_le (by omega)]
    refine Ev.one (fun k => ?_)
    simp only [impl_BarEvents.l0, barsL]
    rw [if_neg (by omega)]
  | succ d ih =>
    intro i out hi ho
    have hlt : i < l.length := by omega
    have hx := isScore_at hs _ (List.getElem_mem hlt)
    have hd := barNo_bound (x := l[i]) hb.1 hx.1.1 hx.1.2
    rw [drop_cons l i hlt, barsL]
    by_cases hc : barNo (barLong b u) l[i] = n
    · rw [if_pos hc]
      refine Ev.step (fun k => ?_) (ih (i + 1) (out ++ [l[i]]) (by omega) (by simp; omega))
      simp only [impl_BarEvents.l0, impl_barOf.f, impl_bar, Option.bind_some]
      unfold barNo at hc
      rw [if_pos (by omega), if_pos (by omega), if_pos (by omega), if_neg (by omega), rdEvent_get l i hlt, w64 (x := Int.tdiv l[i].f0 (barLong b u)) (by omega) (by omega), w64 (x := Int.tdiv l[i].f0 (barLong b u) + 1) (by omega) (by omega), Option.bind_some, if_pos hc, if_pos (by omega), w64_nat i (by omega)]
    · rw [if_neg hc]
      refine Ev.step (fun k => ?_) (ih (i + 1) out (by omega) (by omega))
      simp only [impl_BarEvents.l0, impl_barOf.f, impl_bar, Option.bind_some]
      unfold barNo at hc
      rw [if_pos (by omega), if_pos (by omega), if_pos (by omega), if_neg (by omega), rdEvent_get l i hlt, w64 (x := Int.tdiv l[i].f0 (barLong b u)) (by omega) (by omega), w64 (x := Int.tdiv l[i].f0 (barLong b u) + 1) (by omega) (by omega), Option.bind_some, if_neg hc, w64_nat i (by omega)]

theorem spec_barR (l : List S57) (b u n : Int) (hl : l.length ≤ 1048576) : Ev (fun k => spec_BarEvents.f k l b u n) (barR l b u n) := by
  have stop : Ev (fun k => spec_BarEvents.j1 k l n [] 0 false b u) [] := Ev.one (fun k => by simp only [spec_BarEvents.j1, Bool.false_eq_true, if_false])
  unfold barR
  by_cases hz : l.length = 0
  · obtain rfl : l = [] := List.length_eq_zero_iff.1 hz
    have e : (if isScore ([] : List S57) = true ∧ isMeter b u = true ∧ (1 ≤ n ∧ n ≤ 500) then barsL (barLong b u) n [] [] else []) = [] := by split <;> rfl
    rw [e]
    refine Ev.step (f := fun k => spec_BarEvents.j1 k [] n [] 0 false b u) (fun k => ?_) stop
    simp only [spec_BarEvents.f, spec_BarEvents.l0]
    rfl
  · by_cases hs : isScore l = true
    · by_cases hM : isMeter b u = true
      · by_cases hn : 1 ≤ n ∧ n ≤ 500
        · rw [if_pos ⟨hs, hM, hn⟩]
          exact spec_bars_ev l b u n hs hM hn l.length 0 [] (by omega) (by simp)
        · rw [if_neg (fun h => hn h.2.2)]
          refine Ev.step (f := fun k => (spec_IsScore.f k l).bind fun t => if t = true then ((spec_IsMeter.f b u).bind fun t => if t = true then ((spec_l1In.f n 1 500).bind fun t => spec_BarEvents.j1 k l n [] 0 t b u) else spec_BarEvents.j1 k l n [] 0 false b u) else spec_BarEvents.j1 k l n [] 0 false b u) (fun k => ?_) (Ev.bind (spec_score l hl) ?_)
          · simp only [spec_BarEvents.f, spec_BarEvents.l0]
            rw [if_pos (by omega)]
          · simp only [hs, spec_meter, hM, l1In_eq, Option.bind_some, if_true]
            rw [decide_eq_false hn]
            exact stop
      · rw [if_neg (fun h => hM h.2.1)]
        refine Ev.step (f := fun k => (spec_IsScore.f k l).bind fun t => if t = true then ((spec_IsMeter.f b u).bind fun t => if t = true then ((spec_l1In.f n 1 500).bind fun t => spec_BarEvents.j1 k l n [] 0 t b u) else spec_BarEvents.j1 k l n [] 0 false b u) else spec_BarEvents.j1 k l n [] 0 false b u) (fun k => ?_) (Ev.bind (spec_score l hl) ?_)
        · simp only [spec_BarEvents.f, spec_BarEvents.l0]
          rw [if_pos (by omega)]
        · simp only [hs, spec_meter, hM, Option.bind_some, Bool.false_eq_true, if_true, if_false]
          exact stop
    · rw [if_neg (fun h => hs h.1)]
      refine Ev.step (f := fun k => (spec_IsScore.f k l).bind fun t => if t = true then ((spec_IsMeter.f b u).bind fun t => if t = true then ((spec_l1In.f n 1 500).bind fun t => spec_BarEvents.j1 k l n [] 0 t b u) else spec_BarEvents.j1 k l n [] 0 false b u) else spec_BarEvents.j1 k l n [] 0 false b u) (fun k => ?_) (Ev.bind (spec_score l hl) ?_)
      · simp only [spec_BarEvents.f, spec_BarEvents.l0]
        rw [if_pos (by omega)]
      · simp only [hs, Bool.false_eq_true, if_false]
        exact stop

theorem impl_barR (l : List S57) (b u n : Int) (hl : l.length ≤ 1048576) : Ev (fun k => impl_BarEvents.f k l b u n) (barR l b u n) := by
  have stop : Ev (fun k => impl_BarEvents.j0 k l n [] false b u) [] := Ev.one (fun k => by simp only [impl_BarEvents.j0, Bool.false_eq_true, if_false])
  unfold barR
  simp only [impl_BarEvents.f, impl_meter, inRange_eq, Option.bind_some]
  refine Ev.bind (impl_score l hl) ?_
  by_cases hs : isScore l = true
  · by_cases hM : isMeter b u = true
    · by_cases hn : 1 ≤ n ∧ n ≤ 500
      · rw [if_pos ⟨hs, hM, hn⟩]
        simp only [hs, hM, decide_eq_true hn, if_true]
        refine Ev.step (f := fun k => impl_BarEvents.l0 k n [] l (l.length : Int) 0 b u) (fun k => ?_) (impl_bars_ev l b u n hs hM l.length 0 [] (by omega) (by simp))
        simp only [impl_BarEvents.j0, if_true]
      · rw [if_neg (fun h => hn h.2.2)]
        simp only [hs, hM, decide_eq_false hn, if_true]
        exact stop
    · rw [if_neg (fun h => hM h.2.1)]
      simp only [hs, hM, Bool.false_eq_true, if_true, if_false]
      exact stop
  · rw [if_neg (fun h => hs h.1)]
    simp only [hs, Bool.false_eq_true, if_false]
    exact stop

theorem barsL_len (L n : Int) (l : List S57) : ∀ out, (barsL L n l out).length ≤ out.length + l.length := by
  induction l with
  | nil => intro out; simp [barsL]
  | cons x l ih =>
    intro out
    rw [barsL]
    refine Nat.le_trans (ih _) ?_
    split <;> (simp <;> omega)

theorem barR_len (l : List S57) (b u n : Int) : (barR l b u n).length ≤ l.length := by
  unfold barR
  split
  · simpa using barsL_len (barLong b u) n l []
  · simp

/-- A number put into its place, if it isn't there. -/
def num (v : Int) : List Int → List Int
  | [] => [v]
  | x :: l => if x < v then x :: num v l else if x = v then x :: l else v :: x :: l

theorem mem_num (v y : Int) (l : List Int) : y ∈ num v l ↔ y = v ∨ y ∈ l := by
  induction l with
  | nil => simp [num]
  | cons x l ih =>
    unfold num
    split
    · simp only [List.mem_cons, ih]
      constructor
      · rintro (h | h | h)
        · exact .inr (.inl h)
        · exact .inl h
        · exact .inr (.inr h)
      · rintro (h | h | h)
        · exact .inr (.inl h)
        · exact .inl h
        · exact .inr (.inr h)
    · split
      · rename_i h
        simp only [List.mem_cons, h]
        constructor
        · rintro (h | h)
          · exact .inl h
          · exact .inr (.inr h)
        · rintro (h | h | h)
          · exact .inl h
          · exact .inl h
          · exact .inr h
      · simp only [List.mem_cons]

theorem num_len (v : Int) (l : List Int) : (num v l).length ≤ l.length + 1 := by
  induction l with
  | nil => simp [num]
  | cons x l ih =>
    unfold num
    split
    · simp only [List.length_cons]; omega
    · split <;> simp

theorem num_sorted (v : Int) (l : List Int) (h : l.Pairwise (· < ·)) : (num v l).Pairwise (· < ·) := by
  induction l with
  | nil => simp [num]
  | cons x l ih =>
    have hx : ∀ y, y ∈ l → x < y := fun y hy => List.rel_of_pairwise_cons h hy
    unfold num
    split
    · rename_i hlt
      refine List.Pairwise.cons (fun y hy => ?_) (ih h.of_cons)
      rcases (mem_num v y l).1 hy with rfl | hy
      · exact hlt
      · exact hx y hy
    · split
      · exact h
      · rename_i h1 h2
        refine List.Pairwise.cons (fun y hy => ?_) h
        rcases List.mem_cons.1 hy with rfl | hy
        · omega
        · have := hx y hy; omega

theorem sorted_ext (l : List Int) : ∀ r : List Int, l.Pairwise (· < ·) → r.Pairwise (· < ·) → (∀ x, x ∈ l ↔ x ∈ r) → l = r := by
  induction l with
  | nil =>
    intro r _ _ h
    cases r with
    | nil => rfl
    | cons y r => exact absurd ((h y).2 (by simp)) (by simp)
  | cons x l ih =>
    intro r hl hr h
    cases r with
    | nil => exact absurd ((h x).1 (by simp)) (by simp)
    | cons y r =>
      have hx := fun z hz => List.rel_of_pairwise_cons hl (a' := z) hz
      have hy := fun z hz => List.rel_of_pairwise_cons hr (a' := z) hz
      have e : x = y := by
        rcases List.mem_cons.1 ((h x).1 (by simp)) with e | h1
        · exact e
        · rcases List.mem_cons.1 ((h y).2 (by simp)) with e | h2
          · exact e.symm
          · have := hx y h2
            have := hy x h1
            omega
      subst e
      refine congrArg (x :: ·) (ih r hl.of_cons hr.of_cons (fun z => ?_))
      constructor
      · intro hz
        rcases List.mem_cons.1 ((h z).1 (List.mem_cons_of_mem _ hz)) with rfl | h1
        · exact absurd (hx z hz) (by omega)
        · exact h1
      · intro hz
        rcases List.mem_cons.1 ((h z).2 (List.mem_cons_of_mem _ hz)) with rfl | h1
        · exact absurd (hy z hz) (by omega)
        · exact h1

/-- n, n + 1, .. : d of them. -/
def upL : Int → Nat → List Int
  | _, 0 => []
  | n, d + 1 => n :: upL (n + 1) d

theorem mem_upL (x : Int) (d : Nat) : ∀ n, x ∈ upL n d ↔ n ≤ x ∧ x < n + d := by
  induction d with
  | zero =>
    intro n
    simp only [upL, List.not_mem_nil, false_iff]
    omega
  | succ d ih =>
    intro n
    simp only [upL, List.mem_cons, ih]
    omega

theorem upL_sorted (d : Nat) : ∀ n, (upL n d).Pairwise (· < ·) := by
  induction d with
  | zero => intro n; exact List.Pairwise.nil
  | succ d ih =>
    intro n
    refine List.Pairwise.cons (fun y hy => ?_) (ih (n + 1))
    have := (mem_upL y d (n + 1)).1 hy
    omega

theorem num_loop (l : List Int) (v : Int) (hl : l.length ≤ 1048576) (d : Nat) : ∀ i : Nat, i + d = l.length → Ev (fun k => spec_l8Num.l0 k l v (i : Int)) (l.take i ++ num v (l.drop i)) := by
  induction d with
  | zero =>
    intro i hi
    have t1 : (l.take i).length ≤ l.length := by simp; omega
    have t2 : (l.drop i).length ≤ l.length := by simp
    rw [List.drop_of_length_le (by omega)]
    refine Ev.one (fun k => ?_)
    simp only [spec_l8Num.l0, Option.bind_some, Int.toNat_natCast, List.length_nil, List.nil_append, List.length_append, List.length_cons]
    rw [if_neg (by omega), if_pos (by omega), if_pos (by omega), if_pos (by omega), if_pos (by omega), if_pos (by omega), List.drop_of_length_le (by omega)]
    simp [num]
  | succ d ih =>
    intro i hi
    have hlt : i < l.length := by omega
    have t1 : (l.take i).length ≤ l.length := by simp; omega
    have t2 : (l.drop i).length ≤ l.length := by simp
    rw [drop_cons l i hlt, num]
    by_cases h1 : l[i] < v
    · rw [if_pos h1]
      refine Ev.step (fun k => ?_) (by rw [show l.take i ++ l[i] :: num v (l.drop (i + 1)) = l.take (i + 1) ++ num v (l.drop (i + 1)) by rw [List.take_succ_eq_append_getElem hlt, List.append_assoc]; rfl]; exact ih (i + 1) (by omega))
      simp only [spec_l8Num.l0]
      rw [if_pos (by omega), if_pos (by omega), rd_get l i hlt, if_pos h1, w64_nat i (by omega)]
    · rw [if_neg h1]
      by_cases h2 : l[i] = v
      · rw [if_pos h2]
        refine Ev.one (fun k => ?_)
        simp only [spec_l8Num.l0, Option.bind_some, List.length_nil, List.nil_append]
        rw [if_pos (by omega), if_pos (by omega), rd_get l i hlt, if_neg h1, if_pos h2, if_pos (by omega), ← drop_cons l i hlt, List.take_append_drop]
      · rw [if_neg h2]
        refine Ev.one (fun k => ?_)
        simp only [spec_l8Num.l0, Option.bind_some, Int.toNat_natCast, List.length_nil, List.nil_append, List.length_append, List.length_cons]
        rw [if_pos (by omega), if_pos (by omega), rd_get l i hlt, if_neg h1, if_neg h2, if_pos (by omega), if_pos (by omega), if_pos (by omega), if_pos (by omega), ← drop_cons l i hlt]
        simp

theorem num_ev (l : List Int) (v : Int) (hl : l.length ≤ 1048576) : Ev (fun k => spec_l8Num.f k l v) (num v l) := by
  have := num_loop l v hl l.length 0 (by omega)
  rw [List.take_zero, List.nil_append, List.drop_zero] at this
  exact this


def eqE (x y : S57) : Bool := decide (x.f0 = y.f0 ∧ x.f1 = y.f1 ∧ x.f2 = y.f2 ∧ x.f3 = y.f3)
def eqL : List S57 → List S57 → Bool
  | [], [] => true
  | x :: a, y :: c => eqE x y && eqL a c
  | _, _ => false

theorem eqE_not (x y : S57) : (!(x.f0 == y.f0) || (!(x.f1 == y.f1) || (!(x.f2 == y.f2) || (!(x.f3 == y.f3))))) = !eqE x y := by
  rw [Bool.eq_iff_iff]
  simp only [Bool.or_eq_true, Bool.not_eq_true', beq_eq_false_iff_ne, eqE, decide_eq_false_iff_not, ne_eq]
  omega

theorem eqE_iff (x y : S57) : eqE x y = true ↔ x = y := by
  cases x; cases y
  simp [eqE]

theorem eqL_iff (a : List S57) : ∀ c, eqL a c = true ↔ a = c := by
  induction a with
  | nil => intro c; cases c <;> simp [eqL]
  | cons x a ih =>
    intro c
    cases c with
    | nil => simp [eqL]
    | cons y c => simp [eqL, ih, eqE_iff]

theorem eqL_len (a : List S57) (c : List S57) (h : a.length ≠ c.length) : eqL a c = false := by
  rw [Bool.eq_false_iff]
  intro h2
  exact h (congrArg List.length ((eqL_iff a c).1 h2))

theorem spec_eq_loop (a c : List S57) (hl : a.length = c.length) (ha : a.length ≤ 1048576) (d : Nat) : ∀ i : Nat, i + d = a.length → Ev (fun k => spec_EqualScores.l0 k a c (i : Int)) (eqL (a.drop i) (c.drop i)) := by
  induction d with
  | zero =>
    intro i hi
    rw [List.drop_of_length_le (by omega), List.drop_of_length_le (by omega)]
    refine Ev.one (fun k => ?_)
    simp only [spec_EqualScores.l0, eqL]
    rw [if_neg (by omega)]
  | succ d ih =>
    intro i hi
    have h1 : i < a.length := by omega
    have h2 : i < c.length := by omega
    rw [drop_cons a i h1, drop_cons c i h2, eqL]
    cases hq : eqE a[i] c[i]
    · refine Ev.one (fun k => ?_)
      simp only [spec_EqualScores.l0]
      rw [if_pos (by omega), if_pos (by omega), if_pos (by omega), rdEvent_get a i h1, rdEvent_get c i h2, eqE_not, hq]
      rfl
    · rw [Bool.true_and]
      refine Ev.step (fun k => ?_) (ih (i + 1) (by omega))
      simp only [spec_EqualScores.l0]
      rw [if_pos (by omega), if_pos (by omega), if_pos (by omega), rdEvent_get a i h1, rdEvent_get c i h2, eqE_not, hq, w64_nat i (by omega)]
      rfl

theorem spec_eq (a c : List S57) (ha : a.length ≤ 1048576) : Ev (fun k => spec_EqualScores.f k a c) (eqL a c) := by
  simp only [spec_EqualScores.f]
  by_cases h : a.length = c.length
  · have h' : (a.length : Int) = (c.length : Int) := by omega
    simp only [h', if_true]
    exact spec_eq_loop a c h ha a.length 0 (by omega)
  · have h' : ¬ (a.length : Int) = (c.length : Int) := by omega
    simp only [h', if_false, eqL_len a c h]
    exact Ev.now false

theorem impl_eq_loop (a c : List S57) (hl : a.length = c.length) (ha : a.length ≤ 1048576) (d : Nat) : ∀ i : Nat, i + d = a.length → Ev (fun k => impl_Event.l0 k a c (a.length : Int) (i : Int)) (eqL (a.drop i) (c.drop i)) := by
  induction d with
  | zero =>
    intro i hi
    rw [List.drop_of_length_le (by omega), List.drop_of_length_le (by omega)]
    refine Ev.one (fun k => ?_)
    simp only [impl_Event.l0, eqL]
    rw [if_neg (by omega)]
  | succ d ih =>
    intro i hi
    have h1 : i < a.length := by omega
    have h2 : i < c.length := by omega
    rw [drop_cons a i h1, drop_cons c i h2, eqL]
    cases hq : eqE a[i] c[i]
    · refine Ev.one (fun k => ?_)
      simp only [impl_Event.l0]
      rw [if_pos (by omega), if_pos (by omega), if_pos (by omega), if_pos (by omega), rdEvent_get a i h1, rdEvent_get c i h2, eqE_not, hq]
      rfl
    · rw [Bool.true_and]
      refine Ev.step (fun k => ?_) (ih (i + 1) (by omega))
      simp only [impl_Event.l0]
      rw [if_pos (by omega), if_pos (by omega), if_pos (by omega), if_pos (by omega), rdEvent_get a i h1, rdEvent_get c i h2, eqE_not, hq, w64_nat i (by omega)]
      rfl

theorem impl_eq (a c : List S57) (ha : a.length ≤ 1048576) : Ev (fun k => impl_Event.f k a c) (eqL a c) := by
  simp only [impl_Event.f]
  by_cases h : a.length = c.length
  · have h' : (a.length : Int) = (c.length : Int) := by omega
    simp only [h', if_true]
    have := impl_eq_loop a c h ha a.length 0 (by omega)
    rw [h'] at this
    exact this
  · have h' : ¬ (a.length : Int) = (c.length : Int) := by omega
    simp only [h', if_false, eqL_len a c h]
    exact Ev.now false

def chg (a c : List S57) (b u n : Int) : Bool := !eqL (barR a b u n) (barR c b u n)
def barsOf (L : Int) (l : List S57) (o : List Int) : List Int := l.foldl (fun o x => num (barNo L x) o) o

theorem bars2_ev (c : List S57) (b u : Int) (hs : isScore c = true) (hM : isMeter b u = true) (d : Nat) : ∀ (j : Nat) (o : List Int), j + d = c.length → o.length ≤ 1000 + j → Ev (fun k => spec_l27Bars.l1 k c o (j : Int) b u) (barsOf (barLong b u) (c.drop j) o) := by
  have hlen := (isScore_iff hs).2
  have hb := barLong_bound b u hM
  induction d with
  | zero =>
    intro j o hj ho
    rw [List.drop_of_length_le (by omega)]
    refine Ev.one (fun k => ?_)
    simp only [spec_l27Bars.l1, barsOf, List.foldl_nil]
    rw [if_neg (by omega)]
  | succ d ih =>
    intro j o hj ho
    have hlt : j < c.length := by omega
    have hx := isScore_at hs _ (List.getElem_mem hlt)
    have hd := barNo_bound (x := c[j]) hb.1 hx.1.1 hx.1.2
    have hn := num_len (barNo (barLong b u) c[j]) o
    rw [drop_cons c j hlt]
    refine Ev.step (f := fun k => (spec_l8Num.f k o (barNo (barLong b u) c[j])).bind fun t => spec_l27Bars.l1 k c t ((j + 1 : Nat) : Int) b u) (fun k => ?_) (Ev.bind (num_ev o _ (by omega)) (ih (j + 1) (num (barNo (barLong b u) c[j]) o) (by omega) (by omega)))
    simp only [spec_l27Bars.l1, spec_bar, Option.bind_some]
    rw [if_pos (by omega), if_pos (by omega), if_neg (by omega), rdEvent_get c j hlt, w64 (x := Int.tdiv c[j].f0 (barLong b u)) (by omega) (by omega), w64 (x := Int.tdiv c[j].f0 (barLong b u) + 1) (by omega) (by omega), w64_nat j (by omega)]
    rfl

theorem bars1_ev (a c : List S57) (b u : Int) (hs : isScore a = true) (hc : isScore c = true) (hM : isMeter b u = true) (d : Nat) : ∀ (j : Nat) (o : List Int), j + d = a.length → o.length ≤ j → Ev (fun k => spec_l27Bars.l0 k a c o (j : Int) b u) (barsOf (barLong b u) c (barsOf (barLong b u) (a.drop j) o)) := by
  have hlen := (isScore_iff hs).2
  have hb := barLong_bound b u hM
  induction d with
  | zero =>
    intro j o hj ho
    rw [List.drop_of_length_le (by omega)]
    refine Ev.step (fun k => ?_) (bars2_ev c b u hc hM c.length 0 o (by omega) (by omega))
    simp only [spec_l27Bars.l0]
    rw [if_neg (by omega)]
    rfl
  | succ d ih =>
    intro j o hj ho
    have hlt : j < a.length := by omega
    have hx := isScore_at hs _ (List.getElem_mem hlt)
    have hd := barNo_bound (x := a[j]) hb.1 hx.1.1 hx.1.2
    have hn := num_len (barNo (barLong b u) a[j]) o
    rw [drop_cons a j hlt]
    refine Ev.step (f := fun k => (spec_l8Num.f k o (barNo (barLong b u) a[j])).bind fun t => spec_l27Bars.l0 k a c t ((j + 1 : Nat) : Int) b u) (fun k => ?_) (Ev.bind (num_ev o _ (by omega)) (ih (j + 1) (num (barNo (barLong b u) a[j]) o) (by omega) (by omega)))
    simp only [spec_l27Bars.l0, spec_bar, Option.bind_some]
    rw [if_pos (by omega), if_pos (by omega), if_neg (by omega), rdEvent_get a j hlt, w64 (x := Int.tdiv a[j].f0 (barLong b u)) (by omega) (by omega), w64 (x := Int.tdiv a[j].f0 (barLong b u) + 1) (by omega) (by omega), w64_nat j (by omega)]
    rfl

theorem barsOf_sorted (L : Int) (l : List S57) : ∀ o, o.Pairwise (· < ·) → (barsOf L l o).Pairwise (· < ·) := by
  induction l with
  | nil => intro o h; exact h
  | cons x l ih => intro o h; exact ih _ (num_sorted _ _ h)

theorem mem_barsOf (L : Int) (n : Int) (l : List S57) : ∀ o, n ∈ barsOf L l o ↔ n ∈ o ∨ ∃ x ∈ l, barNo L x = n := by
  induction l with
  | nil => intro o; simp [barsOf]
  | cons x l ih =>
    intro o
    rw [show barsOf L (x :: l) o = barsOf L l (num (barNo L x) o) from rfl, ih, mem_num]
    constructor
    · rintro ((h | h) | ⟨y, hy, h⟩)
      · exact .inr ⟨x, by simp, h.symm⟩
      · exact .inl h
      · exact .inr ⟨y, by simp [hy], h⟩
    · rintro (h | ⟨y, hy, h⟩)
      · exact .inl (.inr h)
      · rcases List.mem_cons.1 hy with rfl | hy
        · exact .inl (.inl h.symm)
        · exact .inr ⟨y, hy, h⟩

theorem barsOf_len (L : Int) (l : List S57) : ∀ o, (barsOf L l o).length ≤ o.length + l.length := by
  induction l with
  | nil => intro o; exact Nat.le_refl _
  | cons x l ih =>
    intro o
    have := ih (num (barNo L x) o)
    have h2 := num_len (barNo L x) o
    rw [show barsOf L (x :: l) o = barsOf L l (num (barNo L x) o) from rfl, List.length_cons]
    omega

theorem barsL_nil (L n : Int) (l : List S57) : ∀ out, (∀ x ∈ l, barNo L x ≠ n) → barsL L n l out = out := by
  induction l with
  | nil => intro out _; rfl
  | cons x l ih =>
    intro out h
    rw [barsL, if_neg (h x (by simp))]
    exact ih out (fun y hy => h y (by simp [hy]))

theorem barR_nil (l : List S57) (b u n : Int) (h : ∀ x ∈ l, barNo (barLong b u) x ≠ n) : barR l b u n = [] := by
  unfold barR
  split
  · exact barsL_nil _ _ _ _ h
  · rfl

theorem spec_chg_ev (a c : List S57) (b u : Int) (ha : a.length ≤ 1048576) (hc : c.length ≤ 1048576) (B : List Int) (hB : B.length ≤ 1000) (d : Nat) : ∀ (i : Nat) (o : List Int), i + d = B.length → o.length ≤ i → Ev (fun k => spec_ChangedBars.l0 k a c o B (i : Int) b u) (o ++ (B.drop i).filter (chg a c b u)) := by
  induction d with
  | zero =>
    intro i o hi ho
    rw [List.drop_of_length_le (by omega)]
    refine Ev.one (fun k => ?_)
    simp only [spec_ChangedBars.l0]
    rw [if_neg (by omega)]
    simp
  | succ d ih =>
    intro i o hi ho
    have hlt : i < B.length := by omega
    have l1 := barR_len a b u B[i]
    rw [drop_cons B i hlt, List.filter_cons]
    refine Ev.step (f := fun k => (spec_BarEvents.f k a b u B[i]).bind fun t225 => (spec_BarEvents.f k c b u B[i]).bind fun t229 => (spec_EqualScores.f k t225 t229).bind fun t232 => if t232 = true then spec_ChangedBars.l0 k a c o B ((i + 1 : Nat) : Int) b u else spec_ChangedBars.l0 k a c (o ++ [B[i]]) B ((i + 1 : Nat) : Int) b u) (fun k => ?_) ?_
    · have hol : o.length < 17592186044416 := by omega
      simp only [spec_ChangedBars.l0, hol, if_true]
      rw [if_pos (by omega), if_pos (by omega), rd_get B i hlt, w64_nat i (by omega)]
    · refine Ev.bind (spec_barR a b u _ ha) (Ev.bind (spec_barR c b u _ hc) (Ev.bind (spec_eq _ _ (by omega)) ?_))
      unfold chg
      cases hq : eqL (barR a b u B[i]) (barR c b u B[i])
      · simp only [Bool.false_eq_true, if_false, Bool.not_false, if_true]
        have := ih (i + 1) (o ++ [B[i]]) (by omega) (by simp; omega)
        rw [List.append_assoc] at this
        exact this
      · simp only [if_true, Bool.not_true, Bool.false_eq_true, if_false]
        exact ih (i + 1) o (by omega) (by omega)

theorem impl_chg_ev (a c : List S57) (b u : Int) (ha : a.length ≤ 1048576) (hc : c.length ≤ 1048576) (d : Nat) : ∀ (n : Int) (o : List Int), n + d = 501 → 1 ≤ n → (o.length : Int) < n → Ev (fun k => impl_ChangedBars.l0 k a c o n b u) (o ++ (upL n d).filter (chg a c b u)) := by
  induction d with
  | zero =>
    intro n o hn h1 ho
    refine Ev.one (fun k => ?_)
    simp only [impl_ChangedBars.l0, upL]
    rw [if_neg (by omega)]
    simp
  | succ d ih =>
    intro n o hn h1 ho
    have l1 := barR_len a b u n
    rw [upL, List.filter_cons]
    refine Ev.step (f := fun k => (impl_BarEvents.f k a b u n).bind fun t225 => (impl_BarEvents.f k c b u n).bind fun t229 => (impl_Event.f k t225 t229).bind fun t232 => if t232 = true then impl_ChangedBars.l0 k a c o (n + 1) b u else impl_ChangedBars.l0 k a c (o ++ [n]) (n + 1) b u) (fun k => ?_) ?_
    · have hol : o.length < 17592186044416 := by omega
      simp only [impl_ChangedBars.l0, hol, if_true]
      rw [if_pos (by omega), w64 (x := n + 1) (by omega) (by omega)]
    · refine Ev.bind (impl_barR a b u _ ha) (Ev.bind (impl_barR c b u _ hc) (Ev.bind (impl_eq _ _ (by omega)) ?_))
      unfold chg
      cases hq : eqL (barR a b u n) (barR c b u n)
      · simp only [Bool.false_eq_true, if_false, Bool.not_false, if_true]
        have := ih (n + 1) (o ++ [n]) (by omega) (by omega) (by simp; omega)
        rw [List.append_assoc] at this
        exact this
      · simp only [if_true, Bool.not_true, Bool.false_eq_true, if_false]
        exact ih (n + 1) o (by omega) (by omega) (by omega)

def chgR (a c : List S57) (b u : Int) : List Int := if isScore a = true ∧ isScore c = true ∧ isMeter b u = true then (upL 1 500).filter (chg a c b u) else []

theorem chg_same (a c : List S57) (b u : Int) : (barsOf (barLong b u) c (barsOf (barLong b u) a [])).filter (chg a c b u) = (upL 1 500).filter (chg a c b u) := by
  refine sorted_ext _ _ (List.Pairwise.filter _ (barsOf_sorted _ _ _ (barsOf_sorted _ _ _ List.Pairwise.nil))) (List.Pairwise.filter _ (upL_sorted 500 1)) (fun n => ?_)
  simp only [List.mem_filter, mem_upL, mem_barsOf]
  constructor
  · rintro ⟨_, h⟩
    refine ⟨?_, h⟩
    by_cases hn : 1 ≤ n ∧ n ≤ 500
    · omega
    · have e : ∀ l : List S57, barR l b u n = [] := fun l => if_neg (fun h => hn h.2.2)
      simp [chg, e, eqL] at h
  · rintro ⟨_, h⟩
    refine ⟨?_, h⟩
    by_cases hx : (∃ x ∈ a, barNo (barLong b u) x = n) ∨ ∃ x ∈ c, barNo (barLong b u) x = n
    · rcases hx with hx | hx
      · exact .inl (.inr hx)
      · exact .inr hx
    · have ea := barR_nil a b u n (fun x hx2 e => hx (.inl ⟨x, hx2, e⟩))
      have ec := barR_nil c b u n (fun x hx2 e => hx (.inr ⟨x, hx2, e⟩))
      simp [chg, ea, ec, eqL] at h

theorem spec_chgR (a c : List S57) (b u : Int) (ha : a.length ≤ 1048576) (hc : c.length ≤ 1048576) : Ev (fun k => spec_ChangedBars.f k a c b u) (chgR a c b u) := by
  have stop : Ev (fun k => spec_ChangedBars.j0 k a c [] true b u) [] := Ev.one (fun k => by simp only [spec_ChangedBars.j0, if_true])
  simp only [spec_ChangedBars.f, Option.bind_some]
  refine Ev.bind (spec_score a ha) ?_
  unfold chgR
  by_cases h0 : isScore a = true
  · simp only [h0, if_true]
    refine Ev.bind (spec_score c hc) ?_
    by_cases h1 : isScore c = true
    · simp only [h1, if_true, spec_meter, Option.bind_some]
      by_cases h2 : isMeter b u = true
      · simp only [h2, and_self, if_true, Bool.not_true]
        have hla := (isScore_iff h0).2
        have hlc := (isScore_iff h1).2
        have n1 := barsOf_len (barLong b u) a []
        have n2 := barsOf_len (barLong b u) c (barsOf (barLong b u) a [])
        refine Ev.step (f := fun k => (spec_l27Bars.f k a c b u).bind fun t221 => spec_ChangedBars.l0 k a c [] t221 0 b u) (fun k => by simp only [spec_ChangedBars.j0, Bool.false_eq_true, if_false]) ?_
        refine Ev.bind (bars1_ev a c b u h0 h1 h2 a.length 0 [] (by omega) (by simp)) ?_
        rw [← chg_same a c b u]
        have := spec_chg_ev a c b u ha hc (barsOf (barLong b u) c (barsOf (barLong b u) a [])) (by simp at n1; omega) (barsOf (barLong b u) c (barsOf (barLong b u) a [])).length 0 [] (by omega) (by simp)
        exact this
      · simp only [h2, and_false, Bool.false_eq_true, if_false, Bool.not_false]
        exact stop
    · simp only [h1, Bool.false_eq_true, false_and, and_false, if_false]
      exact stop
  · simp only [h0, Bool.false_eq_true, false_and, if_false]
    exact stop

theorem impl_chgR (a c : List S57) (b u : Int) (ha : a.length ≤ 1048576) (hc : c.length ≤ 1048576) : Ev (fun k => impl_ChangedBars.f k a c b u) (chgR a c b u) := by
  have stop : Ev (fun k => impl_ChangedBars.j0 k a c [] true b u) [] := Ev.one (fun k => by simp only [impl_ChangedBars.j0, if_true])
  simp only [impl_ChangedBars.f, Option.bind_some]
  refine Ev.bind (impl_score a ha) ?_
  unfold chgR
  by_cases h0 : isScore a = true
  · simp only [h0, if_true]
    refine Ev.bind (impl_score c hc) ?_
    by_cases h1 : isScore c = true
    · simp only [h1, if_true, impl_meter, Option.bind_some]
      by_cases h2 : isMeter b u = true
      · simp only [h2, and_self, if_true, Bool.not_true]
        refine Ev.step (fun k => by simp only [impl_ChangedBars.j0, Bool.false_eq_true, if_false]) (impl_chg_ev a c b u ha hc 500 1 [] (by omega) (by omega) (by simp))
      · simp only [h2, and_false, Bool.false_eq_true, if_false, Bool.not_false]
        exact stop
    · simp only [h1, Bool.false_eq_true, false_and, and_false, if_false]
      exact stop
  · simp only [h0, Bool.false_eq_true, false_and, if_false]
    exact stop

theorem chgR_len (a c : List S57) (b u : Int) : (chgR a c b u).length ≤ 500 := by
  have : ∀ (d : Nat) (n : Int), (upL n d).length = d := by
    intro d
    induction d with
    | zero => intro n; rfl
    | succ d ih => intro n; simp [upL, ih]
  unfold chgR
  split
  · exact Nat.le_trans (List.length_filter_le _ _) (by rw [this]; exact Nat.le_refl _)
  · simp

def mkOne (x : List S57) (i c : Int) : List S57 :=
  let y1 := x.set i.toNat ⟨c, (rd_T57 x i).f1, (rd_T57 x i).f2, (rd_T57 x i).f3⟩
  let y2 := y1.set i.toNat ⟨(rd_T57 y1 i).f0, wrap64 (c + 1), (rd_T57 y1 i).f2, (rd_T57 y1 i).f3⟩
  let y3 := y2.set i.toNat ⟨(rd_T57 y2 i).f0, (rd_T57 y2 i).f1, wrap64 (wrap64 (c + 1) + 1), (rd_T57 y2 i).f3⟩
  y3.set i.toNat ⟨(rd_T57 y3 i).f0, (rd_T57 y3 i).f1, (rd_T57 y3 i).f2, wrap64 (wrap64 (wrap64 (c + 1) + 1) + 1)⟩

theorem markEvent_any (d : Nat) : ∀ (i c : Nat) (x : List S57), i + d = x.length → x.length ≤ 1048576 → c + 4 * d ≤ 100000000 → ∃ x', Ev (fun k => laws_markEventS.l0 k x (c : Int) (i : Int)) (((c + 4 * d : Nat) : Int), x') := by
  induction d with
  | zero =>
    intro i c x hi hx hc
    refine ⟨x, Ev.one (fun k => ?_)⟩
    simp only [laws_markEventS.l0]
    rw [if_neg (by omega)]
    rfl
  | succ d ih =>
    intro i c x hi hx hc
    obtain ⟨x', h⟩ := ih (i + 1) (c + 4) (mkOne x (i : Int) (c : Int)) (by simp [mkOne]; omega) (by simpa [mkOne] using hx) (by omega)
    refine ⟨x', ?_⟩
    rw [show c + 4 + 4 * d = c + 4 * (d + 1) by omega] at h
    refine Ev.step (fun k => ?_) h
    have e : wrap64 (wrap64 (wrap64 (wrap64 ((c : Int) + 1) + 1) + 1) + 1) = ((c + 4 : Nat) : Int) := by
      rw [w64_nat c (by omega), w64_nat (c + 1) (by omega), w64_nat (c + 1 + 1) (by omega), w64_nat (c + 1 + 1 + 1) (by omega)]
    simp only [laws_markEventS.l0, Option.bind_some]
    rw [if_pos (by omega), if_pos (by omega), e, w64_nat i (by omega)]
    rfl

theorem eqIntS_ev (l : List Int) (hl : l.length ≤ 140737488355328) : Ev (fun k => laws_eqIntS.f k l l) true := by
  have key := eqLoop (fun k i => laws_eqIntS.l0 k l l i) l (by
    intro i r hi h
    refine Ev.step (fun k => ?_) h
    simp only [laws_eqIntS.l0]
    rw [if_pos (by omega), if_pos (by omega), if_pos (by omega), if_pos trivial, w64_nat i (by omega)]) (by
    refine Ev.one (fun k => ?_)
    simp only [laws_eqIntS.l0]
    rw [if_neg (by omega)])
  refine Ev.congr (fun k => ?_) key
  simp only [laws_eqIntS.f]
  rw [if_pos trivial]

theorem markLoop {β : Type} (C : Nat → Nat) (mkv : Nat → β) (F : Nat → List β → Int → Int → Option (Int × List β)) (n : Nat)
    (h1 : ∀ (x3 : List β) (i : Nat) (r : Int × List β), i < n → x3.length = n → Ev (fun k => F k (x3.set i (mkv i)) ((C (i + 1) : Nat) : Int) ((i + 1 : Nat) : Int)) r → Ev (fun k => F k x3 ((C i : Nat) : Int) (i : Int)) r)
    (h2 : ∀ x3 : List β, x3.length = n → Ev (fun k => F k x3 ((C n : Nat) : Int) (n : Int)) (((C n : Nat) : Int), x3)) (init : List β) (hl : init.length = n) :
    Ev (fun k => F k init ((C 0 : Nat) : Int) ((0 : Nat) : Int)) (((C n : Nat) : Int), (List.range n).map mkv) := by
  have key : ∀ (d i : Nat) (x3 : List β), i + d = n → x3.length = n → x3.take i = (List.range i).map mkv → Ev (fun k => F k x3 ((C i : Nat) : Int) (i : Int)) (((C n : Nat) : Int), (List.range n).map mkv) := by
    intro d
    induction d with
    | zero =>
      intro i x3 hi hx ht
      obtain rfl : i = n := by omega
      have e : x3 = (List.range i).map mkv := by
        rw [← ht, ← hx, List.take_length]
      have := h2 x3 hx
      rw [← e]
      exact this
    | succ d ih =>
      intro i x3 hi hx ht
      refine h1 x3 i _ (by omega) hx (ih (i + 1) _ (by omega) (by rw [List.length_set]; exact hx) ?_)
      rw [set_take x3 i _ (by omega), ht, List.range_succ, List.map_append]
      rfl
  exact key n 0 init (by omega) hl (by simp)

theorem heldLoop (C : Nat → Nat) (F : Nat → Int → Int → Option Int) (n : Nat)
    (h1 : ∀ (i : Nat) (r : Int), i < n → Ev (fun k => F k ((C (i + 1) : Nat) : Int) ((i + 1 : Nat) : Int)) r → Ev (fun k => F k ((C i : Nat) : Int) (i : Int)) r)
    (h2 : Ev (fun k => F k ((C n : Nat) : Int) (n : Int)) ((C n : Nat) : Int)) : Ev (fun k => F k ((C 0 : Nat) : Int) ((0 : Nat) : Int)) ((C n : Nat) : Int) := by
  have key : ∀ (d i : Nat), i + d = n → Ev (fun k => F k ((C i : Nat) : Int) (i : Int)) ((C n : Nat) : Int) := by
    intro d
    induction d with
    | zero =>
      intro i hi
      obtain rfl : i = n := by omega
      exact h2
    | succ d ih =>
      intro i hi
      exact h1 i _ (by omega) (ih (i + 1) (by omega))
  exact key n 0 (by omega)

def mkInt (q : Nat) : Int := ((1 + q : Nat) : Int)

theorem markIntS_ev (l : List Int) (hl : l.length ≤ 1048576) : Ev (fun k => laws_markIntS.f k l 1) (((1 + l.length : Nat) : Int), (List.range l.length).map mkInt) := by
  have key := markLoop (fun i => 1 + i) mkInt (fun k x c i => laws_markIntS.l0 k x c i) l.length (by
    intro x3 i r hi hx h
    refine Ev.step (fun k => ?_) h
    simp only [laws_markIntS.l0, Int.toNat_natCast]
    rw [if_pos (by omega), if_pos (by omega), w64_nat (1 + i) (by omega), w64_nat i (by omega)]
    rfl) (by
    intro x3 hx
    refine Ev.one (fun k => ?_)
    simp only [laws_markIntS.l0]
    rw [if_neg (by omega)]) l rfl
  exact key

theorem heldIntS_ev (n : Nat) (hl : n ≤ 1048576) : Ev (fun k => laws_heldIntS.f k ((List.range n).map mkInt) 1) ((1 + n : Nat) : Int) := by
  have key := heldLoop (fun i => 1 + i) (fun k c i => laws_heldIntS.l0 k ((List.range n).map mkInt) c i) n (by
    intro i r hi h
    refine Ev.step (fun k => ?_) h
    simp only [laws_heldIntS.l0, List.length_map, List.length_range]
    rw [if_pos (by omega), if_pos (by omega), rd_get _ i (by simpa using hi), w64_nat (1 + i) (by omega), w64_nat i (by omega)]
    simp only [List.getElem_map, List.getElem_range, mkInt, if_true]
    rfl) (by
    refine Ev.one (fun k => ?_)
    simp only [laws_heldIntS.l0, List.length_map, List.length_range]
    rw [if_neg (by omega)])
  exact key

theorem rdlEvent_get (l : List S62) (i : Nat) (h : i < l.length) : rd_T62 l (i : Int) = l[i] := by
  simp [rd_T62, List.getD, List.getElem?_eq_getElem h]

def cvEvent (x : S62) : S57 := ⟨x.f0, x.f1, x.f2, x.f3⟩

theorem toEventS_ev (l : List S62) (hl : l.length ≤ 1048576) : Ev (fun k => laws_toEventS.f k l) (l.map cvEvent) := by
  have key := copyLoop (fun k x3 i => laws_toEventS.l0 k l x3 i) l cvEvent (by
    intro x3 i r hi hx h
    refine Ev.step (fun k => ?_) h
    simp only [laws_toEventS.l0, laws_toEvent.f, Option.bind_some]
    rw [if_pos (by omega), if_pos (by omega), if_pos (by omega), rdlEvent_get l i hi, w64_nat i (by omega), Int.toNat_natCast]
    rfl) (by
    intro x3
    refine Ev.one (fun k => ?_)
    simp only [laws_toEventS.l0]
    rw [if_neg (by omega)]) (List.replicate l.length z57) (by simp)
  refine Ev.congr (fun k => ?_) key
  simp only [laws_toEventS.f, Int.toNat_natCast]
  rw [if_pos (by omega), if_pos (by omega)]

theorem eqEventS_ev (l : List S57) (hl : l.length ≤ 140737488355328) : Ev (fun k => laws_eqEventS.f k l l) true := by
  have key := eqLoop (fun k i => laws_eqEventS.l0 k l l i) l (by
    intro i r hi h
    refine Ev.step (fun k => ?_) h
    simp only [laws_eqEventS.l0, laws_eqEvent.f, if_true, Option.bind_some]
    rw [if_pos (by omega), if_pos (by omega), if_pos (by omega), w64_nat i (by omega)]) (by
    refine Ev.one (fun k => ?_)
    simp only [laws_eqEventS.l0]
    rw [if_neg (by omega)])
  refine Ev.congr (fun k => ?_) key
  simp only [laws_eqEventS.f, if_true]

theorem szEventS_ev (l : List S62) (b : Int) (hb : 0 ≤ b) (hb2 : b ≤ 1048576) (h0 : l.length ≤ 9223372036854775807) : laws_szEventS.f l b = some (if b < (l.length : Int) then -1 else b - (l.length : Int)) := by
  simp only [laws_szEventS.f]
  rw [w64 (by omega) (by omega)]
  split
  · rw [if_pos (by omega)]
  · rw [if_neg (by omega)]

theorem FnExactChangedBars : ∀ (l0 : List (S62)) (l1 : List (S62)) (a2_0 : Int) (a2_1 : Int), (l0.length ≤ maxLen ∧ l0.length * 32 ≤ 140737488351232 ∧ ∀ l0' ∈ l0, ((Lit.int .i64 l0'.f0).wf = true) ∧ ((Lit.int .i64 l0'.f1).wf = true) ∧ ((Lit.int .i64 l0'.f2).wf = true) ∧ ((Lit.int .i64 l0'.f3).wf = true)) → (l1.length ≤ maxLen ∧ l1.length * 32 ≤ 140737488351232 ∧ ∀ l1' ∈ l1, ((Lit.int .i64 l1'.f0).wf = true) ∧ ((Lit.int .i64 l1'.f1).wf = true) ∧ ((Lit.int .i64 l1'.f2).wf = true) ∧ ((Lit.int .i64 l1'.f3).wf = true)) → ((Lit.int .i64 a2_0).wf = true) → ((Lit.int .i64 a2_1).wf = true) → ∃ k, laws_FnExactChangedBars.f k l0 l1 a2_0 a2_1 = some true := by
  intro a c b u ha hc _ _
  have hma : a.length ≤ 9223372036854775807 := ha.1
  have hmc : c.length ≤ 9223372036854775807 := hc.1
  refine Ev.rounds (g := fun k => laws_FnExactChangedBars.f k a c b u) ?_
  simp only [laws_FnExactChangedBars.f, szEventS_ev a 1048576 (by omega) (by omega) hma, Option.bind_some, laws_toMeter.f]
  by_cases h1 : (1048576 : Int) < (a.length : Int)
  · simp only [h1, if_true]
    exact Ev.now true
  · have h1' : ¬ (1048576 - (a.length : Int) < 0) := by omega
    simp only [h1, h1', if_false]
    simp only [szEventS_ev c (1048576 - (a.length : Int)) (by omega) (by omega) hmc, Option.bind_some]
    by_cases h2 : 1048576 - (a.length : Int) < (c.length : Int)
    · simp only [h2, if_true]
      exact Ev.now true
    · have h2' : ¬ (1048576 - (a.length : Int) - (c.length : Int) < 0) := by omega
      simp only [h2, h2', if_false]
      have ta := toEventS_ev a (by omega)
      have tc := toEventS_ev c (by omega)
      have ea := eqEventS_ev (a.map cvEvent) (by simp; omega)
      have ec := eqEventS_ev (c.map cvEvent) (by simp; omega)
      have hs := spec_chgR (a.map cvEvent) (c.map cvEvent) b u (by simp; omega) (by simp; omega)
      have hi := impl_chgR (a.map cvEvent) (c.map cvEvent) b u (by simp; omega) (by simp; omega)
      have hlen := chgR_len (a.map cvEvent) (c.map cvEvent) b u
      have hr := eqIntS_ev (chgR (a.map cvEvent) (c.map cvEvent) b u) (by omega)
      have hmr := markIntS_ev (chgR (a.map cvEvent) (c.map cvEvent) b u) (by omega)
      have hhe := heldIntS_ev (chgR (a.map cvEvent) (c.map cvEvent) b u).length (by omega)
      obtain ⟨m1, hm1⟩ := markEvent_any (a.map cvEvent).length 0 1 (a.map cvEvent) (by omega) (by simp; omega) (by simp; omega)
      obtain ⟨m2, hm2⟩ := markEvent_any (c.map cvEvent).length 0 (1 + 4 * (a.map cvEvent).length) (c.map cvEvent) (by omega) (by simp; omega) (by simp; omega)
      have hneg : ∀ q : Nat, ¬ ((q : Int) < 0) := fun q => by omega
      refine Ev.bind ta ?_
      refine Ev.bind tc ?_
      refine Ev.bind hs ?_
      refine Ev.bind ta ?_
      refine Ev.bind tc ?_
      refine Ev.bind hi ?_
      refine Ev.bind hr ?_
      simp only [if_true]
      refine Ev.bind ta ?_
      refine Ev.bind ea ?_
      simp only [if_true]
      refine Ev.bind tc ?_
      refine Ev.bind ec ?_
      simp only [if_true]
      refine Ev.bind (g := fun k => laws_markEventS.f k (a.map cvEvent) 1) hm1 ?_
      refine Ev.bind (g := fun k => laws_markEventS.f k (c.map cvEvent) ((1 + 4 * (a.map cvEvent).length : Nat) : Int)) hm2 ?_
      simp only [hneg, if_false]
      refine Ev.bind hr ?_
      simp only [Bool.not_true]
      refine Ev.step (fun k => by simp only [laws_FnExactChangedBars.j0, Bool.false_eq_true, if_false]; rfl) ?_
      refine Ev.bind hmr ?_
      refine Ev.bind hhe ?_
      simp only [hneg, if_false, if_true]
      refine Ev.bind ta ?_
      refine Ev.bind tc ?_
      simp only [laws_toMeter.f, Option.bind_some]
      refine Ev.bind hi ?_
      refine Ev.bind hr ?_
      simp only [if_true]
      refine Ev.bind hhe ?_
      simp only [hneg, if_false, if_true]
      exact Ev.now true

end Go.Proofs.Ytoihniinekiknaa.Pure
