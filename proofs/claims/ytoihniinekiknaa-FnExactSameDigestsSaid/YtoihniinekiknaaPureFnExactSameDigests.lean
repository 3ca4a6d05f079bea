/- The plain statement of the law FnExactSameDigests: what its printed function answers; no conditions but that the numbers are Go's ints and the slices no longer than memory. -/
import Derived.Test.YtoihniinekiknaaQFnExactSameDigestsx11
set_option linter.unusedVariables false
set_option linter.unusedSimpArgs false
namespace Go.Proofs.Ytoihniinekiknaa.Pure
open Go.RowKit Go.Proofs.Ytoihniinekiknaa.QFnExactSameDigests Go.Proofs.YtoihniinekiknaaW.PrintWords Go.Proofs.YtoihniinekiknaaW.PrintLast Go.Proofs.YtoihniinekiknaaW.PrintMore

theorem wf64 {x : Int} (h : (Lit.int .i64 x).wf = true) : -9223372036854775808 ≤ x ∧ x ≤ 9223372036854775807 := by
  simp only [Lit.wf, IntKind.min, IntKind.max, IntKind.signed, IntKind.bits, Bool.and_eq_true, decide_eq_true_eq, if_true] at h
  omega

theorem w64 {x : Int} (h1 : -9223372036854775808 ≤ x) (h2 : x ≤ 9223372036854775807) : wrap64 x = x := by
  unfold wrap64
  omega

theorem w64_nat (i : Nat) (h : i ≤ 9223372036854775806) : wrap64 ((i : Int) + 1) = ((i + 1 : Nat) : Int) := by
  unfold wrap64
  omega

theorem drop_cons {α : Type} (l : List α) (i : Nat) (h : i < l.length) : l.drop i = l[i] :: l.drop (i + 1) := List.drop_eq_getElem_cons h

theorem set_take {β : Type} (x : List β) (i : Nat) (v : β) (h : i < x.length) : (x.set i v).take (i + 1) = x.take i ++ [v] := by
  apply List.ext_getElem?
  intro j
  rcases Nat.lt_trichotomy j i with hj | hj | hj
  · rw [List.getElem?_take_of_lt (by omega), List.getElem?_set_ne (by omega), List.getElem?_append_left (by simp; omega), List.getElem?_take_of_lt (by omega)]
  · subst hj
    rw [List.getElem?_take_of_lt (by omega), List.getElem?_set_self (by omega), List.getElem?_append_right (by simp; omega)]
    simp [Nat.min_eq_left (Nat.le_of_lt h)]
  · rw [List.getElem?_take_eq_none (by omega), List.getElem?_append_right (by simp; omega)]
    simp
    omega

theorem copyLoop {α β : Type} (F : Nat → List β → Int → Option (List β)) (x0 : List α) (cv : α → β)
    (h1 : ∀ (x3 : List β) (i : Nat) (r : List β) (hi : i < x0.length), x3.length = x0.length → Ev (fun k => F k (x3.set i (cv x0[i])) ((i + 1 : Nat) : Int)) r → Ev (fun k => F k x3 (i : Int)) r)
    (h2 : ∀ x3 : List β, Ev (fun k => F k x3 (x0.length : Int)) x3) (init : List β) (hl : init.length = x0.length) : Ev (fun k => F k init 0) (x0.map cv) := by
  have key : ∀ (d i : Nat) (x3 : List β), i + d = x0.length → x3.length = x0.length → x3.take i = (x0.map cv).take i → Ev (fun k => F k x3 (i : Int)) (x0.map cv) := by
    intro d
    induction d with
    | zero =>
      intro i x3 hi hx ht
      obtain rfl : i = x0.length := by omega
      have e : x3 = x0.map cv := by
        rw [← hx, List.take_length] at ht
        rw [ht, hx]
        exact List.take_of_length_le (by simp)
      have := h2 x3
      rw [e] at this
      rw [e]
      exact this
    | succ d ih =>
      intro i x3 hi hx ht
      have hlt : i < x0.length := by omega
      refine h1 x3 i _ hlt hx (ih (i + 1) _ (by omega) (by rw [List.length_set]; exact hx) ?_)
      rw [set_take x3 i _ (by omega), ht]
      rw [List.take_succ_eq_append_getElem (by simpa using hlt)]
      simp
  have := key x0.length 0 init (by omega) hl (by simp)
  exact this

theorem eqLoop {α : Type} (F : Nat → Int → Option Bool) (x0 : List α)
    (h1 : ∀ (i : Nat) (r : Bool) (_ : i < x0.length), Ev (fun k => F k ((i + 1 : Nat) : Int)) r → Ev (fun k => F k (i : Int)) r)
    (h2 : Ev (fun k => F k (x0.length : Int)) true) : Ev (fun k => F k 0) true := by
  have key : ∀ (d i : Nat), i + d = x0.length → Ev (fun k => F k (i : Int)) true := by
    intro d
    induction d with
    | zero =>
      intro i hi
      obtain rfl : i = x0.length := by omega
      exact h2
    | succ d ih =>
      intro i hi
      exact h1 i true (by omega) (ih (i + 1) (by omega))
  exact key x0.length 0 (by omega)

theorem ite_eq_of {α : Type} {p : Prop} [Decidable p] {a b : α} (h : p) : (if p then a else b) = a := if_pos h

theorem Ev.one {α : Type} {g : Nat → Option α} {r : α} (h : ∀ k, g (k + 1) = some r) : Ev g r := Ev.step (f := fun _ => some r) h (Ev.now r)

theorem rdEvent_get (l : List S57) (i : Nat) (h : i < l.length) : rd_T57 l (i : Int) = l[i] := by
  simp [rd_T57, List.getD, List.getElem?_eq_getElem h]

def evOk (x : S57) : Bool := decide ((0 ≤ x.f0 ∧ x.f0 ≤ 2000) ∧ (1 ≤ x.f1 ∧ x.f1 ≤ 96) ∧ (21 ≤ x.f2 ∧ x.f2 ≤ 108) ∧ (1 ≤ x.f3 ∧ x.f3 ≤ 4))
/-- By tick, voice and pitch. -/
def evLt (a b : S57) : Bool := if a.f0 = b.f0 then (if a.f3 = b.f3 then decide (a.f2 < b.f2) else decide (a.f3 < b.f3)) else decide (a.f0 < b.f0)
def evNext (p : Option S57) (x : S57) : Bool := match p with
  | none => true
  | some y => evLt y x
def scL : Option S57 → List S57 → Bool
  | _, [] => true
  | p, x :: l => (evOk x && evNext p x) && scL (some x) l
def isScore (l : List S57) : Bool := scL none l && decide (l.length ≤ 40)

theorem isScore_iff {l : List S57} (h : isScore l = true) : scL none l = true ∧ l.length ≤ 40 := by
  simpa [isScore] using h

theorem scL_ok (l : List S57) : ∀ p, scL p l = true → ∀ x ∈ l, evOk x = true := by
  induction l with
  | nil => intro p _ x hx; simp at hx
  | cons y l ih =>
    intro p h x hx
    simp only [scL, Bool.and_eq_true] at h
    rcases List.mem_cons.1 hx with rfl | hx
    · exact h.1.1
    · exact ih _ h.2 x hx

theorem isScore_at {l : List S57} (h : isScore l = true) (x : S57) (hx : x ∈ l) : (0 ≤ x.f0 ∧ x.f0 ≤ 2000) ∧ (1 ≤ x.f1 ∧ x.f1 ≤ 96) ∧ (21 ≤ x.f2 ∧ x.f2 ≤ 108) ∧ (1 ≤ x.f3 ∧ x.f3 ≤ 4) := by
  have := scL_ok l none (isScore_iff h).1 x hx
  simpa only [evOk, decide_eq_true_eq] using this

theorem l1In_eq (a b c : Int) : spec_l1In.f a b c = some (decide (b ≤ a ∧ a ≤ c)) := by
  unfold spec_l1In.f
  split <;> simp <;> omega

theorem spec_ok (a b c d : Int) : spec_l8Ok.f a b c d = some (evOk ⟨a, b, c, d⟩) := by
  simp only [spec_l8Ok.f, l1In_eq, Option.bind_some, decide_eq_true_eq, evOk]
  by_cases h0 : 0 ≤ a ∧ a ≤ 2000
  · by_cases h1 : 1 ≤ b ∧ b ≤ 96
    · by_cases h2 : 21 ≤ c ∧ c ≤ 108
      · simp only [h0, h1, h2, and_self, if_true, true_and]
      · simp only [h0, h1, h2, and_self, if_true, if_false, false_and, and_false, decide_false]
    · simp only [h0, h1, and_self, if_true, if_false, false_and, and_false, decide_false]
  · simp only [h0, if_false, false_and, decide_false]

theorem spec_before (a b : S57) : spec_l8Before.f a.f0 a.f1 a.f2 a.f3 b.f0 b.f1 b.f2 b.f3 = some (evLt a b) := by
  unfold spec_l8Before.f evLt
  repeat' split
  all_goals rfl

theorem spec_score_ev (l : List S57) (hl : l.length ≤ 1048576) (d : Nat) : ∀ (i : Nat) (p : Option S57), i + d = l.length → (i = 0 ∧ p = none ∨ ∃ h : i - 1 < l.length, 0 < i ∧ p = some l[i - 1]) →
    Ev (fun k => spec_IsScore.l0 k l (i : Int)) (scL p (l.drop i) && decide (l.length ≤ 40)) := by
  induction d with
  | zero =>
    intro i p hi hp
    rw [List.drop_of_length_le (by omega)]
    refine Ev.one (fun k => ?_)
    simp only [spec_IsScore.l0, scL, Bool.true_and]
    rw [if_neg (by omega)]
    refine congrArg some (decide_eq_decide.2 ?_)
    omega
  | succ d ih =>
    intro i p hi hp
    have hlt : i < l.length := by omega
    rw [drop_cons l i hlt]
    have next := ih (i + 1) (some l[i]) (by omega) (.inr ⟨by omega, by omega, rfl⟩)
    by_cases h0 : evOk l[i] = true
    · rcases hp with ⟨rfl, rfl⟩ | ⟨hi1, hpos, rfl⟩
      · refine Ev.step (f := fun k => spec_IsScore.l0 k l ((0 + 1 : Nat) : Int)) (fun k => ?_) ?_
        · simp only [spec_IsScore.l0, spec_ok, Option.bind_some]
          rw [if_pos (by omega), if_pos (by omega), rdEvent_get l 0 hlt, if_pos h0, if_neg (by omega), w64_nat 0 (by omega)]
        · rw [scL, h0, evNext, Bool.true_and, Bool.true_and]
          exact next
      · have hw : wrap64 ((i : Int) - 1) = ((i - 1 : Nat) : Int) := by unfold wrap64; omega
        by_cases h2 : evLt l[i - 1] l[i] = true
        · rw [scL, h0, evNext, h2, Bool.true_and, Bool.true_and]
          refine Ev.step (fun k => ?_) next
          simp only [spec_IsScore.l0, spec_ok, Option.bind_some]
          rw [if_pos (by omega), if_pos (by omega), rdEvent_get l i hlt, if_pos h0, if_pos (by omega), hw, if_pos (by omega), if_pos (by omega), rdEvent_get l (i - 1) hi1, spec_before, Option.bind_some, if_pos h2, w64_nat i (by omega)]
        · rw [Bool.not_eq_true] at h2
          rw [scL, h0, evNext, h2, Bool.and_false, Bool.false_and, Bool.false_and]
          refine Ev.one (fun k => ?_)
          simp only [spec_IsScore.l0, spec_ok, Option.bind_some]
          rw [if_pos (by omega), if_pos (by omega), rdEvent_get l i hlt, if_pos h0, if_pos (by omega), hw, if_pos (by omega), if_pos (by omega), rdEvent_get l (i - 1) hi1, spec_before, Option.bind_some, h2]
          rfl
    · have h0' := h0
      rw [Bool.not_eq_true] at h0'
      rw [scL, h0', Bool.false_and, Bool.false_and, Bool.false_and]
      refine Ev.one (fun k => ?_)
      simp only [spec_IsScore.l0, spec_ok, Option.bind_some]
      rw [if_pos (by omega), if_pos (by omega), rdEvent_get l i hlt, if_neg h0]

theorem spec_score (l : List S57) (hl : l.length ≤ 1048576) : Ev (fun k => spec_IsScore.f k l) (isScore l) := spec_score_ev l hl l.length 0 none (by omega) (.inl ⟨rfl, rfl⟩)

theorem inRange_eq (a b c : Int) : impl_InRange.f a b c = some (decide (b ≤ a ∧ a ≤ c)) := by
  unfold impl_InRange.f
  split <;> simp <;> omega

theorem rd_get (l : List Int) (i : Nat) (h : i < l.length) : rd l (i : Int) = l[i] := by
  simp [rd, List.getD, List.getElem?_eq_getElem h]

def cmp3 (a b : Int) : Int := if a < b then -1 else if a > b then 1 else 0

theorem compare_eq (a b : Int) : cmp_Compare_int.f a b = some (cmp3 a b) := by
  have h : ∀ x : Int, (x != x) = false := fun x => by simp
  simp only [cmp_Compare_int.f, cmp_isNaN_int.f, Option.bind_some, h, cmp3]
  simp only [Bool.false_eq_true, if_false]
  split
  · rfl
  · split <;> rfl

theorem or_step (l : List Int) (i : Nat) (r : Int) (hl : l.length ≤ 1048576) (hi : i < l.length) (h : l[i] = 0) (he : Ev (fun k => cmp_Or_int.l0 k 0 l (l.length : Int) ((i + 1 : Nat) : Int)) r) : Ev (fun k => cmp_Or_int.l0 k 0 l (l.length : Int) (i : Int)) r := by
  refine Ev.step (fun k => ?_) he
  simp only [cmp_Or_int.l0]
  rw [if_pos (by omega), if_pos (by omega), if_pos (by omega), rd_get l i hi, if_pos h, w64_nat i (by omega)]

theorem or_hit (l : List Int) (i : Nat) (hi : i < l.length) (h : ¬ l[i] = 0) : Ev (fun k => cmp_Or_int.l0 k 0 l (l.length : Int) (i : Int)) l[i] := by
  refine Ev.one (fun k => ?_)
  simp only [cmp_Or_int.l0]
  rw [if_pos (by omega), if_pos (by omega), if_pos (by omega), rd_get l i hi, if_neg h]

theorem or_end (l : List Int) : Ev (fun k => cmp_Or_int.l0 k 0 l (l.length : Int) ((l.length : Nat) : Int)) 0 := by
  refine Ev.one (fun k => ?_)
  simp only [cmp_Or_int.l0]
  rw [if_neg (by omega)]

theorem or2_ev (a b : Int) : Ev (fun k => cmp_Or_int.f k [a, b]) (if a = 0 then b else a) := by
  show Ev (fun k => cmp_Or_int.l0 k 0 [a, b] (([a, b] : List Int).length : Int) ((0 : Nat) : Int)) _
  by_cases ha : a = 0
  · rw [if_pos ha]
    refine or_step [a, b] 0 b (by simp) (by simp) ha ?_
    by_cases hb : b = 0
    · rw [hb]
      exact or_step [a, 0] 1 0 (by simp) (by simp) rfl (or_end _)
    · exact or_hit [a, b] 1 (by simp) hb
  · rw [if_neg ha]
    exact or_hit [a, b] 0 (by simp) ha

theorem or3_ev (a b c : Int) : Ev (fun k => cmp_Or_int.f k [a, b, c]) (if a = 0 then (if b = 0 then c else b) else a) := by
  show Ev (fun k => cmp_Or_int.l0 k 0 [a, b, c] (([a, b, c] : List Int).length : Int) ((0 : Nat) : Int)) _
  by_cases ha : a = 0
  · rw [if_pos ha]
    refine or_step [a, b, c] 0 _ (by simp) (by simp) ha ?_
    by_cases hb : b = 0
    · rw [if_pos hb]
      refine or_step [a, b, c] 1 _ (by simp) (by simp) hb ?_
      by_cases hc : c = 0
      · rw [hc]
        exact or_step [a, b, 0] 2 0 (by simp) (by simp) rfl (or_end _)
      · exact or_hit [a, b, c] 2 (by simp) hc
    · rw [if_neg hb]
      exact or_hit [a, b, c] 1 (by simp) hb
  · rw [if_neg ha]
    exact or_hit [a, b, c] 0 (by simp) ha

theorem impl_order (a b : S57) : Ev (fun k => impl_eventOrder.f k a.f0 a.f1 a.f2 a.f3 b.f0 b.f1 b.f2 b.f3) (if cmp3 a.f0 b.f0 = 0 then (if cmp3 a.f3 b.f3 = 0 then cmp3 a.f2 b.f2 else cmp3 a.f3 b.f3) else cmp3 a.f0 b.f0) := by
  simp only [impl_eventOrder.f, compare_eq, Option.bind_some]
  exact Ev.bind (or3_ev _ _ _) (Ev.now _)

theorem order_lt (a b : S57) : ((if cmp3 a.f0 b.f0 = 0 then (if cmp3 a.f3 b.f3 = 0 then cmp3 a.f2 b.f2 else cmp3 a.f3 b.f3) else cmp3 a.f0 b.f0) ≥ 0) ↔ ¬ evLt a b = true := by
  unfold cmp3 evLt
  repeat' split
  all_goals (simp <;> omega)

theorem impl_score_ev (l : List S57) (hl : l.length ≤ 1048576) (d : Nat) : ∀ (i : Nat) (p : Option S57), i + d = l.length → (i = 0 ∧ p = none ∨ ∃ h : i - 1 < l.length, 0 < i ∧ p = some l[i - 1]) →
    Ev (fun k => impl_IsScore.l0 k l l (l.length : Int) (i : Int)) (scL p (l.drop i) && decide (l.length ≤ 40)) := by
  induction d with
  | zero =>
    intro i p hi hp
    rw [List.drop_of_length_le (by omega)]
    refine Ev.one (fun k => ?_)
    simp only [impl_IsScore.l0, scL, Bool.true_and]
    rw [if_neg (by omega)]
    refine congrArg some (decide_eq_decide.2 ?_)
    omega
  | succ d ih =>
    intro i p hi hp
    have hlt : i < l.length := by omega
    rw [drop_cons l i hlt]
    have next := ih (i + 1) (some l[i]) (by omega) (.inr ⟨by omega, by omega, rfl⟩)
    by_cases h0 : evOk l[i] = true
    · have hx : (0 ≤ l[i].f0 ∧ l[i].f0 ≤ 2000) ∧ (1 ≤ l[i].f1 ∧ l[i].f1 ≤ 96) ∧ (21 ≤ l[i].f2 ∧ l[i].f2 ≤ 108) ∧ (1 ≤ l[i].f3 ∧ l[i].f3 ≤ 4) := by simpa only [evOk, decide_eq_true_eq] using h0
      rcases hp with ⟨rfl, rfl⟩ | ⟨hi1, hpos, rfl⟩
      · refine Ev.step (f := fun k => impl_IsScore.l0 k l l (l.length : Int) ((0 + 1 : Nat) : Int)) (fun k => ?_) ?_
        · simp only [impl_IsScore.l0, inRange_eq, Option.bind_some]
          rw [if_pos (by omega), if_pos (by omega), if_pos (by omega), rdEvent_get l 0 hlt, if_pos (decide_eq_true hx.1), if_pos (decide_eq_true hx.2.1), if_pos (decide_eq_true hx.2.2.1), if_pos (decide_eq_true hx.2.2.2), if_neg (by omega), w64_nat 0 (by omega)]
        · rw [scL, h0, evNext, Bool.true_and, Bool.true_and]
          exact next
      · have hw : wrap64 ((i : Int) - 1) = ((i - 1 : Nat) : Int) := by unfold wrap64; omega
        refine Ev.step (f := fun k => (impl_eventOrder.f k l[i - 1].f0 l[i - 1].f1 l[i - 1].f2 l[i - 1].f3 l[i].f0 l[i].f1 l[i].f2 l[i].f3).bind fun t => if t ≥ 0 then some false else impl_IsScore.l0 k l l (l.length : Int) ((i + 1 : Nat) : Int)) (fun k => ?_) ?_
        · simp only [impl_IsScore.l0, inRange_eq, Option.bind_some]
          rw [if_pos (by omega), if_pos (by omega), if_pos (by omega), rdEvent_get l i hlt, if_pos (decide_eq_true hx.1), if_pos (decide_eq_true hx.2.1), if_pos (decide_eq_true hx.2.2.1), if_pos (decide_eq_true hx.2.2.2), if_pos (by omega), hw, if_pos (by omega), if_pos (by omega), rdEvent_get l (i - 1) hi1, w64_nat i (by omega)]
        · refine Ev.bind (impl_order _ _) ?_
          by_cases h2 : evLt l[i - 1] l[i] = true
          · simp only [if_neg (fun h => (order_lt _ _).1 h h2)]
            rw [scL, h0, evNext, h2, Bool.true_and, Bool.true_and]
            exact next
          · simp only [if_pos ((order_lt _ _).2 h2)]
            rw [Bool.not_eq_true] at h2
            rw [scL, h0, evNext, h2, Bool.and_false, Bool.false_and, Bool.false_and]
            exact Ev.now _
    · have h0' := h0
      rw [Bool.not_eq_true] at h0'
      rw [scL, h0', Bool.false_and, Bool.false_and, Bool.false_and]
      have hx : ¬ ((0 ≤ l[i].f0 ∧ l[i].f0 ≤ 2000) ∧ (1 ≤ l[i].f1 ∧ l[i].f1 ≤ 96) ∧ (21 ≤ l[i].f2 ∧ l[i].f2 ≤ 108) ∧ (1 ≤ l[i].f3 ∧ l[i].f3 ≤ 4)) := by simpa only [evOk, decide_eq_true_eq] using h0
      refine Ev.one (fun k => ?_)
      simp only [impl_IsScore.l0, inRange_eq, Option.bind_some]
      rw [if_pos (by omega), if_pos (by omega), if_pos (by omega), rdEvent_get l i hlt]
      by_cases g0 : 0 ≤ l[i].f0 ∧ l[i].f0 ≤ 2000
      · rw [if_pos (decide_eq_true g0)]
        by_cases g1 : 1 ≤ l[i].f1 ∧ l[i].f1 ≤ 96
        · rw [if_pos (decide_eq_true g1)]
          by_cases g2 : 21 ≤ l[i].f2 ∧ l[i].f2 ≤ 108
          · rw [if_pos (decide_eq_true g2)]
            by_cases g3 : 1 ≤ l[i].f3 ∧ l[i].f3 ≤ 4
            · exact absurd ⟨g0, g1, g2, g3⟩ hx
            · rw [if_neg (by simpa using g3)]
          · rw [if_neg (by simpa using g2)]
        · rw [if_neg (by simpa using g1)]
      · rw [if_neg (by simpa using g0)]

theorem impl_score (l : List S57) (hl : l.length ≤ 1048576) : Ev (fun k => impl_IsScore.f k l) (isScore l) := impl_score_ev l hl l.length 0 none (by omega) (.inl ⟨rfl, rfl⟩)

def endL : Int → List S57 → Int
  | n, [] => n
  | n, x :: l => endL (if x.f0 + x.f1 > n then x.f0 + x.f1 else n) l
def endR (l : List S57) : Int := if isScore l = true then endL 0 l else 0

theorem endL_bound (l : List S57) : ∀ n, 0 ≤ n → n ≤ 2096 → (∀ x ∈ l, 0 ≤ x.f0 + x.f1 ∧ x.f0 + x.f1 ≤ 2096) → 0 ≤ endL n l ∧ endL n l ≤ 2096 := by
  induction l with
  | nil => intro n h0 h1 _; exact ⟨h0, h1⟩
  | cons x l ih =>
    intro n h0 h1 hx
    have := hx x (by simp)
    rw [endL]
    exact ih _ (by split <;> omega) (by split <;> omega) (fun y hy => hx y (by simp [hy]))

theorem endR_bound (l : List S57) : 0 ≤ endR l ∧ endR l ≤ 2096 := by
  unfold endR
  split
  · rename_i h
    exact endL_bound l 0 (by omega) (by omega) (fun x hx => by have := isScore_at h x hx; omega)
  · omega

theorem spec_end (l : List S57) (hl : l.length ≤ 1048576) : Ev (fun k => spec_EndOf.f k l) (endR l) := by
  unfold endR
  by_cases hs : isScore l = true
  · rw [if_pos hs]
    have hlen := (isScore_iff hs).2
    have key : ∀ (d i : Nat) (n : Int), i + d = l.length → Ev (fun k => spec_EndOf.l0 k l n (i : Int)) (endL n (l.drop i)) := by
      intro d
      induction d with
      | zero =>
        intro i n hi
        rw [List.drop_of_length_le (by omega)]
        refine Ev.one (fun k => ?_)
        simp only [spec_EndOf.l0, endL]
        rw [if_neg (by omega)]
      | succ d ih =>
        intro i n hi
        have hlt : i < l.length := by omega
        have hx := isScore_at hs _ (List.getElem_mem hlt)
        rw [drop_cons l i hlt, endL]
        refine Ev.step (f := fun k => (spec_IsScore.f k l).bind fun t => if t = true then spec_EndOf.l0 k l (if l[i].f0 + l[i].f1 > n then l[i].f0 + l[i].f1 else n) ((i + 1 : Nat) : Int) else some n) (fun k => ?_) (Ev.bind (spec_score l hl) ?_)
        · have hc : 0 ≤ (i : Int) := by omega
          have hw : wrap64 (l[i].f0 + l[i].f1) = l[i].f0 + l[i].f1 := w64 (by omega) (by omega)
          have hm : spec_Max.f n (l[i].f0 + l[i].f1) = some (if l[i].f0 + l[i].f1 > n then l[i].f0 + l[i].f1 else n) := by
            unfold spec_Max.f
            split <;> rfl
          simp only [spec_EndOf.l0, hc, if_true, rdEvent_get l i hlt, hw, hm, Option.bind_some, w64_nat i (by omega : i ≤ 9223372036854775806)]
          rw [if_pos (by omega)]
        · simp only [hs, if_true]
          exact ih (i + 1) _ (by omega)
    exact key l.length 0 0 (by omega)
  · rw [if_neg hs]
    by_cases hz : l.length = 0
    · refine Ev.one (fun k => ?_)
      simp only [spec_EndOf.f, spec_EndOf.l0]
      rw [if_neg (by omega)]
    · refine Ev.step (f := fun k => (spec_IsScore.f k l).bind fun t => if t = true then (if (0 : Int) ≤ 0 then ((spec_Max.f 0 (wrap64 ((rd_T57 l 0).f0 + (rd_T57 l 0).f1))).bind fun t => spec_EndOf.l0 k l t (wrap64 (0 + 1))) else none) else some 0) (fun k => ?_) (Ev.bind (spec_score l hl) ?_)
      · simp only [spec_EndOf.f, spec_EndOf.l0]
        rw [if_pos (by omega)]
      · simp only [hs, Bool.false_eq_true, if_false]
        exact Ev.now _

theorem impl_end (l : List S57) (hl : l.length ≤ 1048576) : Ev (fun k => impl_EndOf.f k l) (endR l) := by
  simp only [impl_EndOf.f]
  refine Ev.bind (impl_score l hl) ?_
  unfold endR
  by_cases hs : isScore l = true
  · simp only [hs, if_true]
    have hlen := (isScore_iff hs).2
    have key : ∀ (d i : Nat) (n : Int), i + d = l.length → Ev (fun k => impl_EndOf.l0 k n l (l.length : Int) (i : Int)) (endL n (l.drop i)) := by
      intro d
      induction d with
      | zero =>
        intro i n hi
        rw [List.drop_of_length_le (by omega)]
        refine Ev.one (fun k => ?_)
        simp only [impl_EndOf.l0, endL]
        rw [if_neg (by omega)]
      | succ d ih =>
        intro i n hi
        have hlt : i < l.length := by omega
        have hx := isScore_at hs _ (List.getElem_mem hlt)
        rw [drop_cons l i hlt, endL]
        refine Ev.step (fun k => ?_) (ih (i + 1) _ (by omega))
        simp only [impl_EndOf.l0]
        rw [if_pos (by omega), if_pos (by omega), if_pos (by omega), rdEvent_get l i hlt, w64_nat i (by omega), w64 (by omega) (by omega)]
        rfl
    exact key l.length 0 0 (by omega)
  · simp only [hs, Bool.false_eq_true, if_false]
    exact Ev.now _

def isMeter (b u : Int) : Bool := decide ((1 ≤ b ∧ b ≤ 12) ∧ (u = 1 ∨ u = 2 ∨ u = 4 ∨ u = 8))
/-- How many ticks a bar has. -/
def barLong (b u : Int) : Int := if isMeter b u = true then b * (48 / u) else 0

theorem spec_meter (b u : Int) : spec_IsMeter.f b u = some (isMeter b u) := by
  simp only [spec_IsMeter.f, l1In_eq, Option.bind_some, isMeter]
  by_cases h : 1 ≤ b ∧ b ≤ 12
  · rw [if_pos (decide_eq_true h)]
    by_cases h1 : u = 1
    · rw [if_pos h1]; exact congrArg some (decide_eq_true ⟨h, .inl h1⟩).symm
    · by_cases h2 : u = 2
      · rw [if_neg h1, if_pos h2]; exact congrArg some (decide_eq_true ⟨h, .inr (.inl h2)⟩).symm
      · by_cases h4 : u = 4
        · rw [if_neg h1, if_neg h2, if_pos h4]; exact congrArg some (decide_eq_true ⟨h, .inr (.inr (.inl h4))⟩).symm
        · rw [if_neg h1, if_neg h2, if_neg h4]
          by_cases h8 : u = 8
          · rw [decide_eq_true ⟨h, .inr (.inr (.inr h8))⟩, h8]; rfl
          · rw [decide_eq_false (by omega)]; exact congrArg some (beq_eq_false_iff_ne.2 h8)
  · rw [if_neg (by simpa using h), decide_eq_false (by omega)]

theorem impl_meter (b u : Int) : impl_IsMeter.f b u = some (isMeter b u) := by
  rw [← spec_meter]
  simp only [impl_IsMeter.f, spec_IsMeter.f, l1In_eq, inRange_eq]

theorem isMeter_iff {b u : Int} (h : isMeter b u = true) : (1 ≤ b ∧ b ≤ 12) ∧ (u = 1 ∨ u = 2 ∨ u = 4 ∨ u = 8) := by simpa [isMeter] using h

theorem meter_div {b u : Int} (h : isMeter b u = true) : ¬ u = 0 ∧ 6 ≤ 48 / u ∧ 48 / u ≤ 48 ∧ wrap64 (Int.tdiv (48 : Int) u) = 48 / u ∧ wrap64 (b * (48 / u)) = b * (48 / u) ∧ 6 ≤ b * (48 / u) ∧ b * (48 / u) ≤ 576 := by
  obtain ⟨h1, h2⟩ := isMeter_iff h
  rcases h2 with rfl | rfl | rfl | rfl
  all_goals
    refine ⟨by omega, by omega, by omega, (w64 (by decide) (by decide)).trans (by decide), ?_, ?_, ?_⟩
    · simp only [show (48 : Int) / 1 = 48 from rfl, show (48 : Int) / 2 = 24 from rfl, show (48 : Int) / 4 = 12 from rfl, show (48 : Int) / 8 = 6 from rfl]
      exact w64 (by omega) (by omega)
    · simp only [show (48 : Int) / 1 = 48 from rfl, show (48 : Int) / 2 = 24 from rfl, show (48 : Int) / 4 = 12 from rfl, show (48 : Int) / 8 = 6 from rfl]
      omega
    · simp only [show (48 : Int) / 1 = 48 from rfl, show (48 : Int) / 2 = 24 from rfl, show (48 : Int) / 4 = 12 from rfl, show (48 : Int) / 8 = 6 from rfl]
      omega

theorem spec_bar (b u : Int) : spec_BarLong.f b u = some (barLong b u) := by
  simp only [spec_BarLong.f, spec_meter, Option.bind_some, barLong]
  split
  · rename_i h
    obtain ⟨h0, _, _, h1, h2, _⟩ := meter_div h
    simp only [spec_l10Beat.f, h0, if_false, Option.bind_some]
    rw [h1, h2]
  · rfl

theorem impl_bar (b u : Int) : impl_BarLong.f b u = some (barLong b u) := by
  simp only [impl_BarLong.f, impl_meter, Option.bind_some, barLong]
  split
  · rename_i h
    obtain ⟨h0, _, _, h1, h2, _⟩ := meter_div h
    simp only [impl_Meter_beat.f, h0, if_false, Option.bind_some]
    rw [h1, h2]
  · rfl

theorem barLong_bound (b u : Int) (h : isMeter b u = true) : 6 ≤ barLong b u ∧ barLong b u ≤ 576 := by
  obtain ⟨_, _, _, _, _, h1, h2⟩ := meter_div h
  unfold barLong
  rw [if_pos h]
  exact ⟨h1, h2⟩

def countR (l : List S57) (b u : Int) : Int := if isMeter b u = true then Int.tdiv (endR l + barLong b u - 1) (barLong b u) else 0

theorem ceil_ok (a L : Int) (ha : 0 ≤ a ∧ a ≤ 2096) (hL : 6 ≤ L ∧ L ≤ 576) : spec_CeilDiv.f a L = some (Int.tdiv (a + L - 1) L) ∧ impl_CeilDiv.f a L = some (Int.tdiv (a + L - 1) L) ∧ 0 ≤ Int.tdiv (a + L - 1) L ∧ Int.tdiv (a + L - 1) L ≤ 3000 := by
  have h0 : 0 ≤ Int.tdiv (a + L - 1) L ∧ Int.tdiv (a + L - 1) L ≤ 3000 := by
    rw [Int.tdiv_eq_ediv_of_nonneg (by omega)]
    have := Int.ediv_le_self L (show 0 ≤ a + L - 1 by omega)
    exact ⟨Int.ediv_nonneg (by omega) (by omega), by omega⟩
  have e : impl_CeilDiv.f a L = spec_CeilDiv.f a L := by simp only [impl_CeilDiv.f, spec_CeilDiv.f, l1In_eq, inRange_eq]
  have e2 : spec_CeilDiv.f a L = some (Int.tdiv (a + L - 1) L) := by
    simp only [spec_CeilDiv.f, l1In_eq, Option.bind_some]
    rw [if_pos (decide_eq_true (by omega)), if_pos (decide_eq_true (by omega)), if_neg (by omega), w64 (x := a + L) (by omega) (by omega), w64 (x := a + L - 1) (by omega) (by omega), w64 (by omega) (by omega)]
  exact ⟨e2, e.trans e2, h0⟩

theorem spec_count (l : List S57) (b u : Int) (hl : l.length ≤ 1048576) : Ev (fun k => spec_CountBars.f k b u l) (countR l b u) := by
  simp only [spec_CountBars.f, spec_meter, Option.bind_some, countR]
  by_cases hM : isMeter b u = true
  · simp only [hM, if_true]
    refine Ev.bind (spec_end l hl) ?_
    simp only [spec_bar, Option.bind_some, (ceil_ok _ _ (endR_bound l) (barLong_bound b u hM)).1]
    exact Ev.now _
  · simp only [hM, Bool.false_eq_true, if_false]
    exact Ev.now _

theorem impl_count (l : List S57) (b u : Int) (hl : l.length ≤ 1048576) : Ev (fun k => impl_CountBars.f k b u l) (countR l b u) := by
  simp only [impl_CountBars.f, impl_meter, Option.bind_some, countR]
  by_cases hM : isMeter b u = true
  · simp only [hM, if_true]
    refine Ev.bind (impl_end l hl) ?_
    simp only [impl_bar, Option.bind_some, (ceil_ok _ _ (endR_bound l) (barLong_bound b u hM)).2.1]
    exact Ev.now _
  · simp only [hM, Bool.false_eq_true, if_false]
    exact Ev.now _

theorem count_bound (l : List S57) (b u : Int) : 0 ≤ countR l b u ∧ countR l b u ≤ 3000 := by
  unfold countR
  split
  · rename_i hM
    exact (ceil_ok _ _ (endR_bound l) (barLong_bound b u hM)).2.2
  · omega

/-- The bar in which a tick lies, for bars of L ticks. -/
def barNo (L : Int) (x : S57) : Int := Int.tdiv x.f0 L + 1
def barsL (L n : Int) : List S57 → List S57 → List S57
  | [], out => out
  | x :: l, out => barsL L n l (if barNo L x = n then out ++ [x] else out)
def barR (l : List S57) (b u n : Int) : List S57 := if isScore l = true ∧ isMeter b u = true ∧ (1 ≤ n ∧ n ≤ 500) then barsL (barLong b u) n l [] else []

theorem barNo_bound {L : Int} {x : S57} (hL : 6 ≤ L) (h0 : 0 ≤ x.f0) (h1 : x.f0 ≤ 2000) : 0 ≤ Int.tdiv x.f0 L ∧ Int.tdiv x.f0 L ≤ 2000 := by
  rw [Int.tdiv_eq_ediv_of_nonneg h0]
  refine ⟨Int.ediv_nonneg h0 (by omega), ?_⟩
  have := Int.ediv_le_self L h0
  omega

theorem spec_bars_ev (l : List S57) (b u n : Int) (hs : isScore l = true) (hM : isMeter b u = true) (hn : 1 ≤ n ∧ n ≤ 500) (d : Nat) : ∀ (i : Nat) (out : List S57), i + d = l.length → out.length ≤ i →
    Ev (fun k => spec_BarEvents.l0 k l n out (i : Int) b u) (barsL (barLong b u) n (l.drop i) out) := by
  have hlen := (isScore_iff hs).2
  have hb := barLong_bound b u hM
  induction d with
  | zero =>
    intro i out hi ho
    rw [List.drop_of_length_le (by omega)]
    refine Ev.step (f := fun k => spec_BarEvents.j1 k l n out (i : Int) false b u) (fun k => ?_) (Ev.one (fun k => ?_))
    · simp only [spec_BarEvents.l0]
      rw [if_neg (by omega)]
    · simp only [spec_BarEvents.j1, Bool.false_eq_true, if_false, barsL]
  | succ d ih =>
    intro i out hi ho
    have hlt : i < l.length := by omega
    have hx := isScore_at hs _ (List.getElem_mem hlt)
    have hd := barNo_bound (x := l[i]) hb.1 hx.1.1 hx.1.2
    rw [drop_cons l i hlt, barsL]
    refine Ev.step (f := fun k => (spec_IsScore.f k l).bind fun t => if t = true then ((spec_IsMeter.f b u).bind fun t => if t = true then ((spec_l1In.f n 1 500).bind fun t => spec_BarEvents.j1 k l n out (i : Int) t b u) else spec_BarEvents.j1 k l n out (i : Int) false b u) else spec_BarEvents.j1 k l n out (i : Int) false b u) (fun k => ?_) (Ev.bind (spec_score l (by omega)) ?_)
    · simp only [spec_BarEvents.l0]
      rw [if_pos (by omega)]
    · simp only [hs, spec_meter, hM, l1In_eq, Option.bind_some, if_true]
      rw [decide_eq_true hn]
      by_cases hc : barNo (barLong b u) l[i] = n
      · rw [if_pos hc]
        refine Ev.step (fun k => ?_) (ih (i + 1) (out ++ [l[i]]) (by omega) (by simp; omega))
        simp only [spec_BarEvents.j1, spec_bar, Option.bind_some, if_true]
        unfold barNo at hc
        rw [if_pos (by omega), if_pos (by omega), if_neg (by omega), rdEvent_get l i hlt, w64 (x := Int.tdiv l[i].f0 (barLong b u)) (by omega) (by omega), w64 (x := Int.tdiv l[i].f0 (barLong b u) + 1) (by omega) (by omega), if_pos hc, if_pos (by omega), w64_nat i (by omega)]
      · rw [if_neg hc]
        refine Ev.step (fun k => ?_) (ih (i + 1) out (by omega) (by omega))
        simp only [spec_BarEvents.j1, spec_bar, Option.bind_some, if_true]
        unfold barNo at hc
        rw [if_pos (by omega), if_pos (by omega), if_neg (by omega), rdEvent_get l i hlt, w64 (x := Int.tdiv l[i].f0 (barLong b u)) (by omega) (by omega), w64 (x := Int.tdiv l[i].f0 (barLong b u) + 1) (by omega) (by omega), if_neg hc, w64_nat i (by omega)]

theorem impl_bars_ev (l : List S57) (b u n : Int) (hs : isScore l = true) (hM : isMeter b u = true) (d : Nat) : ∀ (i : Nat) (out : List S57), i + d = l.length → out.length ≤ i →
    Ev (fun k => impl_BarEvents.l0 k n out l (l.length : Int) (i : Int) b u) (barsL (barLong b u) n (l.drop i) out) := by
  have hlen := (isScore_iff hs).2
  have hb := barLong_bound b u hM
  induction d with
  | zero =>
    intro i out hi ho
    rw [List.drop_of_length_le (by omega)]
    refine Ev.one (fun k => ?_)
    simp only [impl_BarEvents.l0, barsL]
    rw [if_neg (by omega)]
  | succ d ih =>
    intro i out hi ho
    have hlt : i < l.length := by omega
    have hx := isScore_at hs _ (List.getElem_mem hlt)
    have hd := barNo_bound (x := l[i]) hb.1 hx.1.1 hx.1.2
    rw [drop_cons l i hlt, barsL]
    by_cases hc : barNo (barLong b u) l[i] = n
    · rw [if_pos hc]
      refine Ev.step (fun k => ?_) (ih (i + 1) (out ++ [l[i]]) (by omega) (by simp; omega))
      simp only [impl_BarEvents.l0, impl_barOf.f, impl_bar, Option.bind_some]
      unfold barNo at hc
      rw [if_pos (by omega), if_pos (by omega), if_pos (by omega), if_neg (by omega), rdEvent_get l i hlt, w64 (x := Int.tdiv l[i].f0 (barLong b u)) (by omega) (by omega), w64 (x := Int.tdiv l[i].f0 (barLong b u) + 1) (by omega) (by omega), Option.bind_some, if_pos hc, if_pos (by omega), w64_nat i (by omega)]
    · rw [if_neg hc]
      refine Ev.step (fun k => ?_) (ih (i + 1) out (by omega) (by omega))
      simp only [impl_BarEvents.l0, impl_barOf.f, impl_bar, Option.bind_some]
      unfold barNo at hc
      rw [if_pos (by omega), if_pos (by omega), if_pos (by omega), if_neg (by omega), rdEvent_get l i hlt, w64 (x := Int.tdiv l[i].f0 (barLong b u)) (by omega) (by omega), w64 (x := Int.tdiv l[i].f0 (barLong b u) + 1) (by omega) (by omega), Option.bind_some, if_neg hc, w64_nat i (by omega)]

theorem spec_barR (l : List S57) (b u n : Int) (hl : l.length ≤ 1048576) : Ev (fun k => spec_BarEvents.f k l b u n) (barR l b u n) := by
  have stop : Ev (fun k => spec_BarEvents.j1 k l n [] 0 false b u) [] := Ev.one (fun k => by simp only [spec_BarEvents.j1, Bool.false_eq_true, if_false])
  unfold barR
  by_cases hz : l.length = 0
  · obtain rfl : l = [] := List.length_eq_zero_iff.1 hz
    have e : (if isScore ([] : List S57) = true ∧ isMeter b u = true ∧ (1 ≤ n ∧ n ≤ 500) then barsL (barLong b u) n [] [] else []) = [] := by split <;> rfl
    rw [e]
    refine Ev.step (f := fun k => spec_BarEvents.j1 k [] n [] 0 false b u) (fun k => ?_) stop
    simp only [spec_BarEvents.f, spec_BarEvents.l0]
    rfl
  · by_cases hs : isScore l = true
    · by_cases hM : isMeter b u = true
      · by_cases hn : 1 ≤ n ∧ n ≤ 500
        · rw [if_pos ⟨hs, hM, hn⟩]
          exact spec_bars_ev l b u n hs hM hn l.length 0 [] (by omega) (by simp)
        · rw [if_neg (fun h => hn h.2.2)]
          refine Ev.step (f := fun k => (spec_IsScore.f k l).bind fun t => if t = true then ((spec_IsMeter.f b u).bind fun t => if t = true then ((spec_l1In.f n 1 500).bind fun t => spec_BarEvents.j1 k l n [] 0 t b u) else spec_BarEvents.j1 k l n [] 0 false b u) else spec_BarEvents.j1 k l n [] 0 false b u) (fun k => ?_) (Ev.bind (spec_score l hl) ?_)
          · simp only [spec_BarEvents.f, spec_BarEvents.l0]
            rw [if_pos (by omega)]
          · simp only [hs, spec_meter, hM, l1In_eq, Option.bind_some, if_true]
            rw [decide_eq_false hn]
            exact stop
      · rw [if_neg (fun h => hM h.2.1)]
        refine Ev.step (f := fun k => (spec_IsScore.f k l).bind fun t => if t = true then ((spec_IsMeter.f b u).bind fun t => if t = true then ((spec_l1In.f n 1 500).bind fun t => spec_BarEvents.j1 k l n [] 0 t b u) else spec_BarEvents.j1 k l n [] 0 false b u) else spec_BarEvents.j1 k l n [] 0 false b u) (fun k => ?_) (Ev.bind (spec_score l hl) ?_)
        · simp only [spec_BarEvents.f, spec_BarEvents.l0]
          rw [if_pos (by omega)]
        · simp only [hs, spec_meter, hM, Option.bind_some, Bool.false_eq_true, if_true, if_false]
          exact stop
    · rw [if_neg (fun h => hs h.1)]
      refine Ev.step (f := fun k => (spec_IsScore.f k l).bind fun t => if t = true then ((spec_IsMeter.f b u).bind fun t => if t = true then ((spec_l1In.f n 1 500).bind fun t => spec_BarEvents.j1 k l n [] 0 t b u) else spec_BarEvents.j1 k l n [] 0 false b u) else spec_BarEvents.j1 k l n [] 0 false b u) (fun k => ?_) (Ev.bind (spec_score l hl) ?_)
      · simp only [spec_BarEvents.f, spec_BarEvents.l0]
        rw [if_pos (by omega)]
      · simp only [hs, Bool.false_eq_true, if_false]
        exact stop

theorem impl_barR (l : List S57) (b u n : Int) (hl : l.length ≤ 1048576) : Ev (fun k => impl_BarEvents.f k l b u n) (barR l b u n) := by
  have stop : Ev (fun k => impl_BarEvents.j0 k l n [] false b u) [] := Ev.one (fun k => by simp only [impl_BarEvents.j0, Bool.false_eq_true, if_false])
  unfold barR
  simp only [impl_BarEvents.f, impl_meter, inRange_eq, Option.bind_some]
  refine Ev.bind (impl_score l hl) ?_
  by_cases hs : isScore l = true
  · by_cases hM : isMeter b u = true
    · by_cases hn : 1 ≤ n ∧ n ≤ 500
      · rw [if_pos ⟨hs, hM, hn⟩]
        simp only [hs, hM, decide_eq_true hn, if_true]
        refine Ev.step (f := fun k => impl_BarEvents.l0 k n [] l (l.length : Int) 0 b u) (fun k => ?_) (impl_bars_ev l b u n hs hM l.length 0 [] (by omega) (by simp))
        simp only [impl_BarEvents.j0, if_true]
      · rw [if_neg (fun h => hn h.2.2)]
        simp only [hs, hM, decide_eq_false hn, if_true]
        exact stop
    · rw [if_neg (fun h => hM h.2.1)]
      simp only [hs, hM, Bool.false_eq_true, if_true, if_false]
      exact stop
  · rw [if_neg (fun h => hs h.1)]
    simp only [hs, Bool.false_eq_true, if_false]
    exact stop

theorem barsL_len (L n : Int) (l : List S57) : ∀ out, (barsL L n l out).length ≤ out.length + l.length := by
  induction l with
  | nil => intro out; simp [barsL]
  | cons x l ih =>
    intro out
    rw [barsL]
    refine Nat.le_trans (ih _) ?_
    split <;> (simp <;> omega)

theorem barR_len (l : List S57) (b u n : Int) : (barR l b u n).length ≤ l.length := by
  unfold barR
  split
  · simpa using barsL_len (barLong b u) n l []
  · simp

def modM (v : Int) : Int := (spec_Mod.f v 2147483647).getD 0

theorem spec_modM (v : Int) : spec_Mod.f v 2147483647 = some (modM v) := by
  unfold modM
  have h : spec_Mod.f v 2147483647 = some (Int.tmod (wrap64 ((Int.tmod v 2147483647) + 2147483647)) 2147483647) := by
    simp only [spec_Mod.f, l1In_eq, Option.bind_some]
    rw [if_pos (by decide), if_neg (by decide)]
  rw [h]
  rfl

theorem impl_modM (v : Int) : impl_Mod.f v 2147483647 = some (modM v) := by
  rw [← spec_modM]
  simp only [impl_Mod.f, spec_Mod.f, l1In_eq, inRange_eq]

def hashL : Int → List Int → Int
  | h, [] => h
  | h, v :: l => hashL (Int.tmod (wrap64 ((wrap64 ((wrap64 (h * 1000003)) + modM v)) + 13)) 2147483647) l

theorem spec_hash_ev (l : List Int) (hl : l.length ≤ 100000000) : Ev (fun k => spec_Hash.f k l) (hashL 11 l) := by
  have key : ∀ (d i : Nat) (h : Int), i + d = l.length → Ev (fun k => spec_Hash.l0 k l h (i : Int)) (hashL h (l.drop i)) := by
    intro d
    induction d with
    | zero =>
      intro i h hi
      rw [List.drop_of_length_le (by omega)]
      refine Ev.one (fun k => ?_)
      simp only [spec_Hash.l0, hashL]
      rw [if_neg (by omega)]
    | succ d ih =>
      intro i h hi
      have hlt : i < l.length := by omega
      rw [drop_cons l i hlt]
      refine Ev.step (fun k => ?_) (by rw [hashL]; exact ih (i + 1) _ (by omega))
      simp only [spec_Hash.l0, spec_modM, Option.bind_some]
      rw [if_pos (by omega), if_pos (by omega), rd_get l i hlt, w64_nat i (by omega)]
  exact key l.length 0 11 (by omega)

theorem impl_hash_ev (l : List Int) (hl : l.length ≤ 100000000) : Ev (fun k => impl_Hash.f k l) (hashL 11 l) := by
  have key : ∀ (d i : Nat) (h : Int), i + d = l.length → Ev (fun k => impl_Hash.l0 k h l (l.length : Int) (i : Int)) (hashL h (l.drop i)) := by
    intro d
    induction d with
    | zero =>
      intro i h hi
      rw [List.drop_of_length_le (by omega)]
      refine Ev.one (fun k => ?_)
      simp only [impl_Hash.l0, hashL]
      rw [if_neg (by omega)]
    | succ d ih =>
      intro i h hi
      have hlt : i < l.length := by omega
      rw [drop_cons l i hlt]
      refine Ev.step (fun k => ?_) (by rw [hashL]; exact ih (i + 1) _ (by omega))
      simp only [impl_Hash.l0, impl_modM, Option.bind_some]
      rw [if_pos (by omega), if_pos (by omega), if_pos (by omega), rd_get l i hlt, w64_nat i (by omega)]
  exact key l.length 0 11 (by omega)

def flatE : List Int → List S57 → List Int
  | out, [] => out
  | out, x :: l => flatE (out ++ [x.f0, x.f1, x.f2, x.f3]) l
def digR (l : List S57) (b u n : Int) : Int := hashL 11 (flatE [] (barR l b u n))

theorem flatE_len (l : List S57) : ∀ out, (flatE out l).length = out.length + 4 * l.length := by
  induction l with
  | nil => intro out; simp [flatE]
  | cons x l ih => intro out; rw [flatE, ih]; simp; omega

theorem spec_dig (l : List S57) (b u n : Int) (hl : l.length ≤ 1048576) : Ev (fun k => spec_BarDigest.f k l b u n) (digR l b u n) := by
  simp only [spec_BarDigest.f]
  refine Ev.bind (spec_barR l b u n hl) ?_
  have hlen := barR_len l b u n
  unfold digR
  generalize barR l b u n = e at hlen ⊢
  have key : ∀ (d i : Nat) (out : List Int), i + d = e.length → out.length = 4 * i → Ev (fun k => spec_BarDigest.l0 k out e (i : Int)) (hashL 11 (flatE out (e.drop i))) := by
    intro d
    induction d with
    | zero =>
      intro i out hi ho
      rw [List.drop_of_length_le (by omega)]
      refine Ev.step (f := fun k => (spec_Hash.f k out).bind fun t => some t) (fun k => ?_) (Ev.bind (spec_hash_ev out (by omega)) (Ev.now _))
      simp only [spec_BarDigest.l0]
      rw [if_neg (by omega)]
    | succ d ih =>
      intro i out hi ho
      have hlt : i < e.length := by omega
      rw [drop_cons e i hlt]
      refine Ev.step (fun k => ?_) (by rw [flatE]; exact ih (i + 1) _ (by omega) (by simp; omega))
      simp only [spec_BarDigest.l0, Option.bind_some, List.length_cons, List.length_nil]
      rw [if_pos (by omega), if_pos (by omega), rdEvent_get e i hlt, if_pos (by omega), w64_nat i (by omega)]
  exact key e.length 0 [] (by omega) rfl

theorem impl_dig (l : List S57) (b u n : Int) (hl : l.length ≤ 1048576) : Ev (fun k => impl_BarDigest.f k l b u n) (digR l b u n) := by
  simp only [impl_BarDigest.f]
  refine Ev.bind (impl_barR l b u n hl) ?_
  have hlen := barR_len l b u n
  unfold digR
  generalize barR l b u n = e at hlen ⊢
  have key : ∀ (d i : Nat) (out : List Int), i + d = e.length → out.length = 4 * i → Ev (fun k => impl_BarDigest.l0 k out e (e.length : Int) (i : Int)) (hashL 11 (flatE out (e.drop i))) := by
    intro d
    induction d with
    | zero =>
      intro i out hi ho
      rw [List.drop_of_length_le (by omega)]
      refine Ev.step (f := fun k => (impl_Hash.f k out).bind fun t => some t) (fun k => ?_) (Ev.bind (impl_hash_ev out (by omega)) (Ev.now _))
      simp only [impl_BarDigest.l0]
      rw [if_neg (by omega)]
    | succ d ih =>
      intro i out hi ho
      have hlt : i < e.length := by omega
      rw [drop_cons e i hlt]
      refine Ev.step (fun k => ?_) (by rw [flatE]; exact ih (i + 1) _ (by omega) (by simp; omega))
      simp only [impl_BarDigest.l0, Option.bind_some, List.length_cons, List.length_nil]
      rw [if_pos (by omega), if_pos (by omega), if_pos (by omega), rdEvent_get e i hlt, if_pos (by omega), w64_nat i (by omega)]
  exact key e.length 0 [] (by omega) rfl

def sameD (a c : List S57) (b u : Int) : Nat → Int → Bool
  | 0, _ => true
  | d + 1, i => if digR a b u i = digR c b u i then sameD a c b u d (i + 1) else false
def maxR (x y : Int) : Int := if x < y then y else x
def sameR (a c : List S57) (b u : Int) : Bool := if isScore a = true ∧ isScore c = true ∧ isMeter b u = true then sameD a c b u (maxR (countR a b u) (countR c b u)).toNat 1 else false

theorem spec_same_ev (a c : List S57) (b u : Int) (ha : a.length ≤ 1048576) (hc : c.length ≤ 1048576) (d : Nat) : ∀ i : Int, 1 ≤ i → i + d = maxR (countR a b u) (countR c b u) + 1 → Ev (fun k => spec_SameDigests.l0 k a c i b u) (sameD a c b u d i) := by
  have h1 := count_bound a b u
  have h2 := count_bound c b u
  have hm : spec_Max.f (countR a b u) (countR c b u) = some (maxR (countR a b u) (countR c b u)) := by
    unfold spec_Max.f maxR
    split <;> first | rfl | (split <;> first | rfl | omega)
  have hmb : maxR (countR a b u) (countR c b u) ≤ 3000 := by unfold maxR; split <;> omega
  induction d with
  | zero =>
    intro i hi hd
    refine Ev.step (f := fun k => (spec_CountBars.f k b u a).bind fun t => (spec_CountBars.f k b u c).bind fun q => (spec_Max.f t q).bind fun t190 => if i ≤ t190 then ((spec_BarDigest.f k a b u i).bind fun t191 => (spec_BarDigest.f k c b u i).bind fun t192 => if t191 = t192 then spec_SameDigests.l0 k a c (wrap64 (i + 1)) b u else some false) else some true) (fun k => by simp only [spec_SameDigests.l0]) (Ev.bind (spec_count a b u ha) (Ev.bind (spec_count c b u hc) ?_))
    have hn : ¬ i ≤ maxR (countR a b u) (countR c b u) := by omega
    simp only [hm, Option.bind_some, hn, if_false, sameD]
    exact Ev.now _
  | succ d ih =>
    intro i hi hd
    refine Ev.step (f := fun k => (spec_CountBars.f k b u a).bind fun t => (spec_CountBars.f k b u c).bind fun q => (spec_Max.f t q).bind fun t190 => if i ≤ t190 then ((spec_BarDigest.f k a b u i).bind fun t191 => (spec_BarDigest.f k c b u i).bind fun t192 => if t191 = t192 then spec_SameDigests.l0 k a c (wrap64 (i + 1)) b u else some false) else some true) (fun k => by simp only [spec_SameDigests.l0]) (Ev.bind (spec_count a b u ha) (Ev.bind (spec_count c b u hc) ?_))
    have hn : i ≤ maxR (countR a b u) (countR c b u) := by omega
    simp only [hm, Option.bind_some, hn, if_true]
    refine Ev.bind (spec_dig a b u i ha) (Ev.bind (spec_dig c b u i hc) ?_)
    rw [sameD]
    split
    · rw [w64 (by omega) (by omega)]
      exact ih (i + 1) (by omega) (by omega)
    · exact Ev.now _

theorem impl_same_ev (a c : List S57) (b u : Int) (ha : a.length ≤ 1048576) (hc : c.length ≤ 1048576) (d : Nat) : ∀ i : Int, 1 ≤ i → i + d = maxR (countR a b u) (countR c b u) + 1 → Ev (fun k => impl_SameDigests.l0 k a c i b u) (sameD a c b u d i) := by
  have h1 := count_bound a b u
  have h2 := count_bound c b u
  have hmb : maxR (countR a b u) (countR c b u) ≤ 3000 := by unfold maxR; split <;> omega
  induction d with
  | zero =>
    intro i hi hd
    refine Ev.step (f := fun k => (impl_CountBars.f k b u a).bind fun t => (impl_CountBars.f k b u c).bind fun q => if i ≤ maxR t q then ((impl_BarDigest.f k a b u i).bind fun t191 => (impl_BarDigest.f k c b u i).bind fun t192 => if t191 = t192 then impl_SameDigests.l0 k a c (wrap64 (i + 1)) b u else some false) else some true) (fun k => by simp only [impl_SameDigests.l0]; rfl) (Ev.bind (impl_count a b u ha) (Ev.bind (impl_count c b u hc) ?_))
    have hn : ¬ i ≤ maxR (countR a b u) (countR c b u) := by omega
    simp only [hn, if_false, sameD]
    exact Ev.now _
  | succ d ih =>
    intro i hi hd
    refine Ev.step (f := fun k => (impl_CountBars.f k b u a).bind fun t => (impl_CountBars.f k b u c).bind fun q => if i ≤ maxR t q then ((impl_BarDigest.f k a b u i).bind fun t191 => (impl_BarDigest.f k c b u i).bind fun t192 => if t191 = t192 then impl_SameDigests.l0 k a c (wrap64 (i + 1)) b u else some false) else some true) (fun k => by simp only [impl_SameDigests.l0]; rfl) (Ev.bind (impl_count a b u ha) (Ev.bind (impl_count c b u hc) ?_))
    have hn : i ≤ maxR (countR a b u) (countR c b u) := by omega
    simp only [hn, if_true]
    refine Ev.bind (impl_dig a b u i ha) (Ev.bind (impl_dig c b u i hc) ?_)
    rw [sameD]
    split
    · rw [w64 (by omega) (by omega)]
      exact ih (i + 1) (by omega) (by omega)
    · exact Ev.now _

theorem spec_sameR (a c : List S57) (b u : Int) (ha : a.length ≤ 1048576) (hc : c.length ≤ 1048576) : Ev (fun k => spec_SameDigests.f k a c b u) (sameR a c b u) := by
  have stop : Ev (fun k => spec_SameDigests.j0 k a c true b u) false := Ev.one (fun k => by simp only [spec_SameDigests.j0, if_true])
  simp only [spec_SameDigests.f]
  refine Ev.bind (spec_score a ha) ?_
  unfold sameR
  by_cases h0 : isScore a = true
  · simp only [h0, if_true]
    refine Ev.bind (spec_score c hc) ?_
    by_cases h1 : isScore c = true
    · simp only [h1, if_true, spec_meter, Option.bind_some]
      by_cases h2 : isMeter b u = true
      · simp only [h2, and_self, if_true, Bool.not_true]
        have h3 := count_bound a b u
        have h4 := count_bound c b u
        have h5 : 0 ≤ maxR (countR a b u) (countR c b u) := by unfold maxR; split <;> omega
        refine Ev.step (fun k => ?_) (spec_same_ev a c b u ha hc _ 1 (by omega) (by omega))
        simp only [spec_SameDigests.j0, Bool.false_eq_true, if_false]
      · simp only [h2, and_false, Bool.false_eq_true, if_false, Bool.not_false]
        exact stop
    · simp only [h1, Bool.false_eq_true, false_and, and_false, if_false]
      exact stop
  · simp only [h0, Bool.false_eq_true, false_and, if_false]
    exact stop

theorem impl_sameR (a c : List S57) (b u : Int) (ha : a.length ≤ 1048576) (hc : c.length ≤ 1048576) : Ev (fun k => impl_SameDigests.f k a c b u) (sameR a c b u) := by
  have stop : Ev (fun k => impl_SameDigests.j0 k a c true b u) false := Ev.one (fun k => by simp only [impl_SameDigests.j0, if_true])
  simp only [impl_SameDigests.f]
  refine Ev.bind (impl_score a ha) ?_
  unfold sameR
  by_cases h0 : isScore a = true
  · simp only [h0, if_true]
    refine Ev.bind (impl_score c hc) ?_
    by_cases h1 : isScore c = true
    · simp only [h1, if_true, impl_meter, Option.bind_some]
      by_cases h2 : isMeter b u = true
      · simp only [h2, and_self, if_true, Bool.not_true]
        have h3 := count_bound a b u
        have h4 := count_bound c b u
        have h5 : 0 ≤ maxR (countR a b u) (countR c b u) := by unfold maxR; split <;> omega
        refine Ev.step (fun k => ?_) (impl_same_ev a c b u ha hc _ 1 (by omega) (by omega))
        simp only [impl_SameDigests.j0, Bool.false_eq_true, if_false]
      · simp only [h2, and_false, Bool.false_eq_true, if_false, Bool.not_false]
        exact stop
    · simp only [h1, Bool.false_eq_true, false_and, and_false, if_false]
      exact stop
  · simp only [h0, Bool.false_eq_true, false_and, if_false]
    exact stop

theorem rdlEvent_get (l : List S62) (i : Nat) (h : i < l.length) : rd_T62 l (i : Int) = l[i] := by
  simp [rd_T62, List.getD, List.getElem?_eq_getElem h]

def cvEvent (x : S62) : S57 := ⟨x.f0, x.f1, x.f2, x.f3⟩

theorem toEventS_ev (l : List S62) (hl : l.length ≤ 1048576) : Ev (fun k => laws_toEventS.f k l) (l.map cvEvent) := by
  have key := copyLoop (fun k x3 i => laws_toEventS.l0 k l x3 i) l cvEvent (by
    intro x3 i r hi hx h
    refine Ev.step (fun k => ?_) h
    simp only [laws_toEventS.l0, laws_toEvent.f, Option.bind_some]
    rw [if_pos (by omega), if_pos (by omega), if_pos (by omega), rdlEvent_get l i hi, w64_nat i (by omega), Int.toNat_natCast]
    rfl) (by
    intro x3
    refine Ev.one (fun k => ?_)
    simp only [laws_toEventS.l0]
    rw [if_neg (by omega)]) (List.replicate l.length z57) (by simp)
  refine Ev.congr (fun k => ?_) key
  simp only [laws_toEventS.f, Int.toNat_natCast]
  rw [if_pos (by omega), if_pos (by omega)]

theorem eqEventS_ev (l : List S57) (hl : l.length ≤ 140737488355328) : Ev (fun k => laws_eqEventS.f k l l) true := by
  have key := eqLoop (fun k i => laws_eqEventS.l0 k l l i) l (by
    intro i r hi h
    refine Ev.step (fun k => ?_) h
    simp only [laws_eqEventS.l0, laws_eqEvent.f, if_true, Option.bind_some]
    rw [if_pos (by omega), if_pos (by omega), if_pos (by omega), w64_nat i (by omega)]) (by
    refine Ev.one (fun k => ?_)
    simp only [laws_eqEventS.l0]
    rw [if_neg (by omega)])
  refine Ev.congr (fun k => ?_) key
  simp only [laws_eqEventS.f, if_true]

theorem szEventS_ev (l : List S62) (b : Int) (hb : 0 ≤ b) (hb2 : b ≤ 1048576) (h0 : l.length ≤ 9223372036854775807) : laws_szEventS.f l b = some (if b < (l.length : Int) then -1 else b - (l.length : Int)) := by
  simp only [laws_szEventS.f]
  rw [w64 (by omega) (by omega)]
  split
  · rw [if_pos (by omega)]
  · rw [if_neg (by omega)]

theorem FnExactSameDigests : ∀ (l0 : List (S62)) (l1 : List (S62)) (a2_0 : Int) (a2_1 : Int), (l0.length ≤ maxLen ∧ l0.length * 32 ≤ 140737488351232 ∧ ∀ l0' ∈ l0, ((Lit.int .i64 l0'.f0).wf = true) ∧ ((Lit.int .i64 l0'.f1).wf = true) ∧ ((Lit.int .i64 l0'.f2).wf = true) ∧ ((Lit.int .i64 l0'.f3).wf = true)) → (l1.length ≤ maxLen ∧ l1.length * 32 ≤ 140737488351232 ∧ ∀ l1' ∈ l1, ((Lit.int .i64 l1'.f0).wf = true) ∧ ((Lit.int .i64 l1'.f1).wf = true) ∧ ((Lit.int .i64 l1'.f2).wf = true) ∧ ((Lit.int .i64 l1'.f3).wf = true)) → ((Lit.int .i64 a2_0).wf = true) → ((Lit.int .i64 a2_1).wf = true) → ∃ k, laws_FnExactSameDigests.f k l0 l1 a2_0 a2_1 = some true := by
  intro a c b u ha hc _ _
  have hma : a.length ≤ 9223372036854775807 := ha.1
  have hmc : c.length ≤ 9223372036854775807 := hc.1
  refine Ev.rounds (g := fun k => laws_FnExactSameDigests.f k a c b u) ?_
  simp only [laws_FnExactSameDigests.f, szEventS_ev a 1048576 (by omega) (by omega) hma, Option.bind_some, laws_toMeter.f]
  by_cases h1 : (1048576 : Int) < (a.length : Int)
  · simp only [h1, if_true]
    exact Ev.now true
  · have h1' : ¬ (1048576 - (a.length : Int) < 0) := by omega
    simp only [h1, h1', if_false]
    simp only [szEventS_ev c (1048576 - (a.length : Int)) (by omega) (by omega) hmc, Option.bind_some]
    by_cases h2 : 1048576 - (a.length : Int) < (c.length : Int)
    · simp only [h2, if_true]
      exact Ev.now true
    · have h2' : ¬ (1048576 - (a.length : Int) - (c.length : Int) < 0) := by omega
      simp only [h2, h2', if_false]
      have ta := toEventS_ev a (by omega)
      have tc := toEventS_ev c (by omega)
      have ea := eqEventS_ev (a.map cvEvent) (by simp; omega)
      have ec := eqEventS_ev (c.map cvEvent) (by simp; omega)
      have hs := spec_sameR (a.map cvEvent) (c.map cvEvent) b u (by simp; omega) (by simp; omega)
      have hi := impl_sameR (a.map cvEvent) (c.map cvEvent) b u (by simp; omega) (by simp; omega)
      refine Ev.bind ta ?_
      refine Ev.bind tc ?_
      refine Ev.bind hs ?_
      refine Ev.bind ta ?_
      refine Ev.bind tc ?_
      refine Ev.bind hi ?_
      simp only [bne_self_eq_false, Bool.false_eq_true, if_false]
      refine Ev.bind ta ?_
      refine Ev.bind ea ?_
      simp only [if_true]
      refine Ev.bind tc ?_
      refine Ev.bind ec ?_
      simp only [if_true]
      exact Ev.now true

end Go.Proofs.Ytoihniinekiknaa.Pure
