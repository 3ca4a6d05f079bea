/- The plain statement of the law FnExactTakeBars: what its printed function answers; no conditions but that the numbers are Go's ints and the slices no longer than memory. -/
import Derived.Test.YtoihniinekiknaaQFnExactTakeBarsx12
set_option linter.unusedVariables false
set_option linter.unusedSimpArgs false
namespace Go.Proofs.Ytoihniinekiknaa.Pure
open Go.RowKit Go.Proofs.Ytoihniinekiknaa.QFnExactTakeBars Go.Proofs.YtoihniinekiknaaW.PrintWords Go.Proofs.YtoihniinekiknaaW.PrintLast Go.Proofs.YtoihniinekiknaaW.PrintMore

theorem wf64 {x : Int} (h : (Lit.int .i64 x).wf = true) : -9223372036854775808 ≤ x ∧ x ≤ 9223372036854775807 := by
  simp only [Lit.wf, IntKind.min, IntKind.max, IntKind.signed, IntKind.bits, Bool.and_eq_true, decide_eq_true_eq, if_true] at h
  omega

theorem w64 {x : Int} (h1 : -9223372036854775808 ≤ x) (h2 : x ≤ 9223372036854775807) : wrap64 x = x := by
  unfold wrap64
  omega

theorem w64_nat (i : Nat) (h : i ≤ 9223372036854775806) : wrap64 ((i : Int) + 1) = ((i + 1 : Nat) : Int) := by
  unfold wrap64
  omega

theorem drop_cons {α : Type} (l : List α) (i : Nat) (h : i < l.length) : l.drop i = l[i] :: l.drop (i + 1) := List.drop_eq_getElem_cons h

theorem set_take {β : Type} (x : List β) (i : Nat) (v : β) (h : i < x.length) : (x.set i v).take (i + 1) = x.take i ++ [v] := by
  apply List.ext_getElem?
  intro j
  rcases Nat.lt_trichotomy j i with hj | hj | hj
  · rw [List.getElem?_take_of_lt (by omega), List.getElem?_set_ne (by omega), List.getElem?_append_left (by simp; omega), List.getElem?_take_of_lt (by omega)]
  · subst hj
    rw [List.getElem?_take_of_lt (by omega), List.getElem?_set_self (by omega), List.getElem?_append_right (by simp; omega)]
    simp [Nat.min_eq_left (Nat.le_of_lt h)]
  · rw [List.getElem?_take_eq_none (by omega), List.getElem?_append_right (by simp; omega)]
    simp
    omega

theorem copyLoop {α β : Type} (F : Nat → List β → Int → Option (List β)) (x0 : List α) (cv : α → β)
    (h1 : ∀ (x3 : List β) (i : Nat) (r : List β) (hi : i < x0.length), x3.length = x0.length → Ev (fun k => F k (x3.set i (cv x0[i])) ((i + 1 : Nat) : Int)) r → Ev (fun k => F k x3 (i : Int)) r)
    (h2 : ∀ x3 : List β, Ev (fun k => F k x3 (x0.length : Int)) x3) (init : List β) (hl : init.length = x0.length) : Ev (fun k => F k init 0) (x0.map cv) := by
  have key : ∀ (d i : Nat) (x3 : List β), i + d = x0.length → x3.length = x0.length → x3.take i = (x0.map cv).take i → Ev (fun k => F k x3 (i : Int)) (x0.map cv) := by
    intro d
    induction d with
    | zero =>
      intro i x3 hi hx ht
      obtain rfl : i = x0.length := by omega
      have e : x3 = x0.map cv := by
        rw [← hx, List.take_length] at ht
        rw [ht, hx]
        exact List.take_of_length_le (by simp)
      have := h2 x3
      rw [e] at this
      rw [e]
      exact this
    | succ d ih =>
      intro i x3 hi hx ht
      have hlt : i < x0.length := by omega
      refine h1 x3 i _ hlt hx (ih (i + 1) _ (by omega) (by rw [List.length_set]; exact hx) ?_)
      rw [set_take x3 i _ (by omega), ht]
      rw [List.take_succ_eq_append_getElem (by simpa using hlt)]
      simp
  have := key x0.length 0 init (by omega) hl (by simp)
  exact this

theorem eqLoop {α : Type} (F : Nat → Int → Option Bool) (x0 : List α)
    (h1 : ∀ (i : Nat) (r : Bool) (_ : i < x0.length), Ev (fun k => F k ((i + 1 : Nat) : Int)) r → Ev (fun k => F k (i : Int)) r)
    (h2 : Ev (fun k => F k (x0.length : Int)) true) : Ev (fun k => F k 0) true := by
  have key : ∀ (d i : Nat), i + d = x0.length → Ev (fun k => F k (i : Int)) true := by
    intro d
    induction d with
    | zero =>
      intro i hi
      obtain rfl : i = x0.length := by omega
      exact h2
    | succ d ih =>
      intro i hi
      exact h1 i true (by omega) (ih (i + 1) (by omega))
  exact key x0.length 0 (by omega)

theorem ite_eq_of {α : Type} {p : Prop} [Decidable p] {a b : α} (h : p) : (if p then a else b) = a := if_pos h

theorem Ev.one {α : Type} {g : Nat → Option α} {r : α} (h : ∀ k, g (k + 1) = some r) : Ev g r := Ev.step (f := fun _ => some r) h (Ev.now r)

theorem rdEvent_get (l : List S57) (i : Nat) (h : i < l.length) : rd_T57 l (i : Int) = l[i] := by
  simp [rd_T57, List.getD, List.getElem?_eq_getElem h]

def evOk (x : S57) : Bool := decide ((0 ≤ x.f0 ∧ x.f0 ≤ 2000) ∧ (1 ≤ x.f1 ∧ x.f1 ≤ 96) ∧ (21 ≤ x.f2 ∧ x.f2 ≤ 108) ∧ (1 ≤ x.f3 ∧ x.f3 ≤ 4))
/-- By tick, voice and pitch. -/
def evLt (a b : S57) : Bool := if a.f0 = b.f0 then (if a.f3 = b.f3 then decide (a.f2 < b.f2) else decide (a.f3 < b.f3)) else decide (a.f0 < b.f0)
def evNext (p : Option S57) (x : S57) : Bool := match p with
  | none => true
  | some y => evLt y x
def scL : Option S57 → List S57 → Bool
  | _, [] => true
  | p, x :: l => (evOk x && evNext p x) && scL (some x) l
def isScore (l : List S57) : Bool := scL none l && decide (l.length ≤ 40)

theorem isScore_iff {l : List S57} (h : isScore l = true) : scL none l = true ∧ l.length ≤ 40 := by
  simpa [isScore] using h

theorem scL_ok (l : List S57) : ∀ p, scL p l = true → ∀ x ∈ l, evOk x = true := by
  induction l with
  | nil => intro p _ x hx; simp at hx
  | cons y l ih =>
    intro p h x hx
    simp only [scL, Bool.and_eq_true] at h
    rcases List.mem_cons.1 hx with rfl | hx
    · exact h.1.1
    · exact ih _ h.2 x hx

theorem isScore_at {l : List S57} (h : isScore l = true) (x : S57) (hx : x ∈ l) : (0 ≤ x.f0 ∧ x.f0 ≤ 2000) ∧ (1 ≤ x.f1 ∧ x.f1 ≤ 96) ∧ (21 ≤ x.f2 ∧ x.f2 ≤ 108) ∧ (1 ≤ x.f3 ∧ x.f3 ≤ 4) := by
  have := scL_ok l none (isScore_iff h).1 x hx
  simpa only [evOk, decide_eq_true_eq] using this

/-- Weakly sorted. -/
def leE (x y : S57) : Prop := evLt y x = false
def putE (e : S57) : List S57 → List S57
  | [] => [e]
  | y :: r => if evLt y e = true then y :: putE e r else e :: y :: r
theorem evLt_trans {a b c : S57} (h1 : evLt a b = true) (h2 : evLt b c = true) : evLt a c = true := by
  unfold evLt at *
  repeat' split at h1
  all_goals (repeat' split at h2)
  all_goals (repeat' split)
  all_goals (simp at * <;> omega)
theorem evLt_irrefl (a : S57) : evLt a a = false := by simp [evLt]
theorem leE_trans {a b c : S57} (h1 : leE a b) (h2 : leE b c) : leE a c := by
  unfold leE evLt at *
  repeat' split at h1
  all_goals (repeat' split at h2)
  all_goals (repeat' split)
  all_goals (simp at * <;> omega)
theorem leE_of_lt {a b : S57} (h : evLt a b = true) : leE a b := by
  unfold leE
  cases c : evLt b a with
  | false => rfl
  | true =>
    have := evLt_trans h c
    rw [evLt_irrefl] at this
    cases this
theorem putE_perm (e : S57) (l : List S57) : (putE e l).Perm (e :: l) := by
  induction l with
  | nil => exact List.Perm.refl _
  | cons y r ih =>
    rw [putE]
    split
    · exact (List.Perm.cons y ih).trans (List.Perm.swap e y r)
    · exact List.Perm.refl _
theorem putE_weak (e : S57) (l : List S57) (h : l.Pairwise leE) : (putE e l).Pairwise leE := by
  induction l with
  | nil => simp [putE]
  | cons y r ih =>
    obtain ⟨h1, h2⟩ := List.pairwise_cons.1 h
    rw [putE]
    split
    · rename_i hy
      refine List.pairwise_cons.2 ⟨fun z hz => ?_, ih h2⟩
      rcases List.mem_cons.1 ((putE_perm e r).mem_iff.1 hz) with h3 | h3
      · rw [h3]
        exact leE_of_lt hy
      · exact h1 z h3
    · rename_i hy
      have hey : leE e y := by
        rw [Bool.not_eq_true] at hy
        exact hy
      refine List.pairwise_cons.2 ⟨fun z hz => ?_, h⟩
      rcases List.mem_cons.1 hz with h3 | h3
      · rw [h3]
        exact hey
      · exact leE_trans hey (h1 z h3)
theorem putE_len (e : S57) (l : List S57) : (putE e l).length = l.length + 1 := by
  have := (putE_perm e l).length_eq
  simpa using this
theorem scL_strict (l : List S57) : ∀ p, scL p l = true → l.Pairwise (fun a b => evLt a b = true) ∧ ∀ y, p = some y → ∀ x ∈ l, evLt y x = true := by
  induction l with
  | nil => intro p _; exact ⟨List.Pairwise.nil, fun y _ x hx => by simp at hx⟩
  | cons z r ih =>
    intro p h
    rw [scL, Bool.and_eq_true, Bool.and_eq_true] at h
    obtain ⟨⟨_, hz⟩, hr⟩ := h
    obtain ⟨i1, i2⟩ := ih _ hr
    refine ⟨List.pairwise_cons.2 ⟨fun x hx => i2 z rfl x hx, i1⟩, fun y hy x hx => ?_⟩
    subst hy
    have hyz : evLt y z = true := hz
    rcases List.mem_cons.1 hx with h3 | h3
    · rw [h3]
      exact hyz
    · exact evLt_trans hyz (i2 z rfl x h3)
/-- What is sorted strictly has no other sorted order. -/
theorem strict_uniq (a : List S57) : ∀ b : List S57, a.Pairwise (fun x y => evLt x y = true) → b.Pairwise leE → a.Perm b → a = b := by
  induction a with
  | nil => intro b _ _ h; exact h.nil_eq
  | cons x a ih =>
    intro b ha hb h
    obtain ⟨a1, a2⟩ := List.pairwise_cons.1 ha
    cases b with
    | nil => exact absurd h.length_eq (by simp)
    | cons y b =>
      obtain ⟨b1, b2⟩ := List.pairwise_cons.1 hb
      have hxy : x = y := by
        rcases List.mem_cons.1 (h.mem_iff.2 List.mem_cons_self) with h1 | h1
        · exact h1.symm
        · rcases List.mem_cons.1 (h.mem_iff.1 List.mem_cons_self) with h2 | h2
          · exact h2
          · have c1 := a1 y h1
            have c2 : evLt x y = false := b1 x h2
            rw [c1] at c2
            cases c2
      subst hxy
      rw [ih b a2 b2 (List.Perm.cons_inv h)]
theorem srt_weak (l : List S57) : (slices_SortFunc_at60.srt l).Pairwise leE := by
  refine (slices_SortFunc_at60.srt_sorted l).imp (fun {x y} h => ?_)
  unfold leE
  rw [← h]
  unfold evLt slices_SortFunc_at60.lt
  repeat' split
  all_goals (simp only [decide_eq_decide, eq_comm (a := false), decide_eq_false_iff_not] <;> (try refine decide_eq_decide.2 ?_) <;> omega)
/-- Sorted either way it is the same score, or none. -/
theorem srt_score (l p : List S57) (hp : p.Pairwise leE) (hq : p.Perm l) : isScore (slices_SortFunc_at60.srt l) = isScore p ∧ (isScore p = true → slices_SortFunc_at60.srt l = p) := by
  have hs := srt_weak l
  have hps := (slices_SortFunc_at60.srt_perm l).trans hq.symm
  by_cases h : isScore p = true
  · have e := strict_uniq p _ (scL_strict p none (isScore_iff h).1).1 hs hps.symm
    rw [← e]
    exact ⟨rfl, fun _ => rfl⟩
  · refine ⟨?_, fun h2 => absurd h2 h⟩
    by_cases h2 : isScore (slices_SortFunc_at60.srt l) = true
    · have e := strict_uniq _ p (scL_strict _ none (isScore_iff h2).1).1 hp hps
      rw [e] at h2
      exact absurd h2 h
    · rw [Bool.not_eq_true] at h h2
      rw [h, h2]


theorem l1In_eq (a b c : Int) : spec_l1In.f a b c = some (decide (b ≤ a ∧ a ≤ c)) := by
  unfold spec_l1In.f
  split <;> simp <;> omega
theorem spec_ok (a b c d : Int) : spec_l8Ok.f a b c d = some (evOk ⟨a, b, c, d⟩) := by
  simp only [spec_l8Ok.f, l1In_eq, Option.bind_some, decide_eq_true_eq, evOk]
  by_cases h0 : 0 ≤ a ∧ a ≤ 2000
  · by_cases h1 : 1 ≤ b ∧ b ≤ 96
    · by_cases h2 : 21 ≤ c ∧ c ≤ 108
      · simp only [h0, h1, h2, and_self, if_true, true_and]
      · simp only [h0, h1, h2, and_self, if_true, if_false, false_and, and_false, decide_false]
    · simp only [h0, h1, and_self, if_true, if_false, false_and, and_false, decide_false]
  · simp only [h0, if_false, false_and, decide_false]

theorem spec_before (a b : S57) : spec_l8Before.f a.f0 a.f1 a.f2 a.f3 b.f0 b.f1 b.f2 b.f3 = some (evLt a b) := by
  unfold spec_l8Before.f evLt
  repeat' split
  all_goals rfl

theorem spec_score_ev (l : List S57) (hl : l.length ≤ 1048576) (d : Nat) : ∀ (i : Nat) (p : Option S57), i + d = l.length → (i = 0 ∧ p = none ∨ ∃ h : i - 1 < l.length, 0 < i ∧ p = some l[i - 1]) →
    Ev (fun k => spec_IsScore.l0 k l (i : Int)) (scL p (l.drop i) && decide (l.length ≤ 40)) := by
  induction d with
  | zero =>
    intro i p hi hp
    rw [List.drop_of_length_le (by omega)]
    refine Ev.one (fun k => ?_)
    simp only [spec_IsScore.l0, scL, Bool.true_and]
    rw [if_neg (by omega)]
    refine congrArg some (decide_eq_decide.2 ?_)
    omega
  | succ d ih =>
    intro i p hi hp
    have hlt : i < l.length := by omega
    rw [drop_cons l i hlt]
    have next := ih (i + 1) (some l[i]) (by omega) (.inr ⟨by omega, by omega, rfl⟩)
    by_cases h0 : evOk l[i] = true
    · rcases hp with ⟨rfl, rfl⟩ | ⟨hi1, hpos, rfl⟩
      · refine Ev.step (f := fun k => spec_IsScore.l0 k l ((0 + 1 : Nat) : Int)) (fun k => ?_) ?_
        · simp only [spec_IsScore.l0, spec_ok, Option.bind_some]
          rw [if_pos (by omega), if_pos (by omega), rdEvent_get l 0 hlt, if_pos h0, if_neg (by omega), w64_nat 0 (by omega)]
        · rw [scL, h0, evNext, Bool.true_and, Bool.true_and]
          exact next
      · have hw : wrap64 ((i : Int) - 1) = ((i - 1 : Nat) : Int) := by unfold wrap64; omega
        by_cases h2 : evLt l[i - 1] l[i] = true
        · rw [scL, h0, evNext, h2, Bool.true_and, Bool.true_and]
          refine Ev.step (fun k => ?_) next
          simp only [spec_IsScore.l0, spec_ok, Option.bind_some]
          rw [if_pos (by omega), if_pos (by omega), rdEvent_get l i hlt, if_pos h0, if_pos (by omega), hw, if_pos (by omega), if_pos (by omega), rdEvent_get l (i - 1) hi1, spec_before, Option.bind_some, if_pos h2, w64_nat i (by omega)]
        · rw [Bool.not_eq_true] at h2
          rw [scL, h0, evNext, h2, Bool.and_false, Bool.false_and, Bool.false_and]
          refine Ev.one (fun k => ?_)
          simp only [spec_IsScore.l0, spec_ok, Option.bind_some]
          rw [if_pos (by omega), if_pos (by omega), rdEvent_get l i hlt, if_pos h0, if_pos (by omega), hw, if_pos (by omega), if_pos (by omega), rdEvent_get l (i - 1) hi1, spec_before, Option.bind_some, h2]
          rfl
    · have h0' := h0
      rw [Bool.not_eq_true] at h0'
      rw [scL, h0', Bool.false_and, Bool.false_and, Bool.false_and]
      refine Ev.one (fun k => ?_)
      simp only [spec_IsScore.l0, spec_ok, Option.bind_some]
      rw [if_pos (by omega), if_pos (by omega), rdEvent_get l i hlt, if_neg h0]

theorem spec_score (l : List S57) (hl : l.length ≤ 1048576) : Ev (fun k => spec_IsScore.f k l) (isScore l) := spec_score_ev l hl l.length 0 none (by omega) (.inl ⟨rfl, rfl⟩)
theorem spec_put_loop (l : List S57) (e : S57) (hl : l.length ≤ 2097152) (d : Nat) : ∀ i : Nat, i + d = l.length → Ev (fun k => spec_l8Put.l0 k l (i : Int) e.f0 e.f1 e.f2 e.f3) (l.take i ++ putE e (l.drop i)) := by
  induction d with
  | zero =>
    intro i hi
    have t1 : (l.take i).length ≤ l.length := by simp; omega
    have t2 : (l.drop i).length ≤ l.length := by simp
    rw [List.drop_of_length_le (by omega)]
    refine Ev.one (fun k => ?_)
    simp only [spec_l8Put.l0, Option.bind_some, Int.toNat_natCast, List.length_nil, List.nil_append, List.length_append, List.length_cons]
    rw [if_neg (by omega), if_pos (by omega), if_pos (by omega), if_pos (by omega), if_pos (by omega), if_pos (by omega), List.drop_of_length_le (by omega)]
    simp [putE]
  | succ d ih =>
    intro i hi
    have hlt : i < l.length := by omega
    have t1 : (l.take i).length ≤ l.length := by simp; omega
    have t2 : (l.drop i).length ≤ l.length := by simp
    rw [drop_cons l i hlt, putE]
    by_cases h1 : evLt l[i] e = true
    · rw [if_pos h1]
      refine Ev.step (fun k => ?_) (by rw [show l.take i ++ l[i] :: putE e (l.drop (i + 1)) = l.take (i + 1) ++ putE e (l.drop (i + 1)) by rw [List.take_succ_eq_append_getElem hlt, List.append_assoc]; rfl]; exact ih (i + 1) (by omega))
      simp only [spec_l8Put.l0]
      rw [if_pos (by omega), if_pos (by omega), rdEvent_get l i hlt, spec_before, Option.bind_some, if_pos h1, w64_nat i (by omega)]
    · rw [if_neg h1]
      refine Ev.one (fun k => ?_)
      simp only [spec_l8Put.l0, Option.bind_some, Int.toNat_natCast, List.length_nil, List.nil_append, List.length_append, List.length_cons]
      rw [if_pos (by omega), if_pos (by omega), rdEvent_get l i hlt, spec_before, Option.bind_some, if_neg h1, if_pos (by omega), if_pos (by omega), if_pos (by omega), if_pos (by omega), ← drop_cons l i hlt]
      simp

theorem spec_put (l : List S57) (e : S57) (hl : l.length ≤ 2097152) : Ev (fun k => spec_l8Put.f k l e.f0 e.f1 e.f2 e.f3) (putE e l) := by
  have := spec_put_loop l e hl l.length 0 (by omega)
  rw [List.take_zero, List.nil_append, List.drop_zero] at this
  exact this

theorem inRange_eq (a b c : Int) : impl_InRange.f a b c = some (decide (b ≤ a ∧ a ≤ c)) := by
  unfold impl_InRange.f
  split <;> simp <;> omega

theorem rd_get (l : List Int) (i : Nat) (h : i < l.length) : rd l (i : Int) = l[i] := by
  simp [rd, List.getD, List.getElem?_eq_getElem h]

def cmp3 (a b : Int) : Int := if a < b then -1 else if a > b then 1 else 0

theorem compare_eq (a b : Int) : cmp_Compare_int.f a b = some (cmp3 a b) := by
  have h : ∀ x : Int, (x != x) = false := fun x => by simp
  simp only [cmp_Compare_int.f, cmp_isNaN_int.f, Option.bind_some, h, cmp3]
  simp only [Bool.false_eq_true, if_false]
  split
  · rfl
  · split <;> rfl

theorem or_step (l : List Int) (i : Nat) (r : Int) (hl : l.length ≤ 1048576) (hi : i < l.length) (h : l[i] = 0) (he : Ev (fun k => cmp_Or_int.l0 k 0 l (l.length : Int) ((i + 1 : Nat) : Int)) r) : Ev (fun k => cmp_Or_int.l0 k 0 l (l.length : Int) (i : Int)) r := by
  refine Ev.step (fun k => ?_) he
  simp only [cmp_Or_int.l0]
  rw [if_pos (by omega), if_pos (by omega), if_pos (by omega), rd_get l i hi, if_pos h, w64_nat i (by omega)]

theorem or_hit (l : List Int) (i : Nat) (hi : i < l.length) (h : ¬ l[i] = 0) : Ev (fun k => cmp_Or_int.l0 k 0 l (l.length : Int) (i : Int)) l[i] := by
  refine Ev.one (fun k => ?_)
  simp only [cmp_Or_int.l0]
  rw [if_pos (by omega), if_pos (by omega), if_pos (by omega), rd_get l i hi, if_neg h]

theorem or_end (l : List Int) : Ev (fun k => cmp_Or_int.l0 k 0 l (l.length : Int) ((l.length : Nat) : Int)) 0 := by
  refine Ev.one (fun k => ?_)
  simp only [cmp_Or_int.l0]
  rw [if_neg (by omega)]

theorem or2_ev (a b : Int) : Ev (fun k => cmp_Or_int.f k [a, b]) (if a = 0 then b else a) := by
  show Ev (fun k => cmp_Or_int.l0 k 0 [a, b] (([a, b] : List Int).length : Int) ((0 : Nat) : Int)) _
  by_cases ha : a = 0
  · rw [if_pos ha]
    refine or_step [a, b] 0 b (by simp) (by simp) ha ?_
    by_cases hb : b = 0
    · rw [hb]
      exact or_step [a, 0] 1 0 (by simp) (by simp) rfl (or_end _)
    · exact or_hit [a, b] 1 (by simp) hb
  · rw [if_neg ha]
    exact or_hit [a, b] 0 (by simp) ha

theorem or3_ev (a b c : Int) : Ev (fun k => cmp_Or_int.f k [a, b, c]) (if a = 0 then (if b = 0 then c else b) else a) := by
  show Ev (fun k => cmp_Or_int.l0 k 0 [a, b, c] (([a, b, c] : List Int).length : Int) ((0 : Nat) : Int)) _
  by_cases ha : a = 0
  · rw [if_pos ha]
    refine or_step [a, b, c] 0 _ (by simp) (by simp) ha ?_
    by_cases hb : b = 0
    · rw [if_pos hb]
      refine or_step [a, b, c] 1 _ (by simp) (by simp) hb ?_
      by_cases hc : c = 0
      · rw [hc]
        exact or_step [a, b, 0] 2 0 (by simp) (by simp) rfl (or_end _)
      · exact or_hit [a, b, c] 2 (by simp) hc
    · rw [if_neg hb]
      exact or_hit [a, b, c] 1 (by simp) hb
  · rw [if_neg ha]
    exact or_hit [a, b, c] 0 (by simp) ha

theorem impl_order (a b : S57) : Ev (fun k => impl_eventOrder.f k a.f0 a.f1 a.f2 a.f3 b.f0 b.f1 b.f2 b.f3) (if cmp3 a.f0 b.f0 = 0 then (if cmp3 a.f3 b.f3 = 0 then cmp3 a.f2 b.f2 else cmp3 a.f3 b.f3) else cmp3 a.f0 b.f0) := by
  simp only [impl_eventOrder.f, compare_eq, Option.bind_some]
  exact Ev.bind (or3_ev _ _ _) (Ev.now _)

theorem order_lt (a b : S57) : ((if cmp3 a.f0 b.f0 = 0 then (if cmp3 a.f3 b.f3 = 0 then cmp3 a.f2 b.f2 else cmp3 a.f3 b.f3) else cmp3 a.f0 b.f0) ≥ 0) ↔ ¬ evLt a b = true := by
  unfold cmp3 evLt
  repeat' split
  all_goals (simp <;> omega)

theorem impl_score_ev (l : List S57) (hl : l.length ≤ 1048576) (d : Nat) : ∀ (i : Nat) (p : Option S57), i + d = l.length → (i = 0 ∧ p = none ∨ ∃ h : i - 1 < l.length, 0 < i ∧ p = some l[i - 1]) →
    Ev (fun k => impl_IsScore.l0 k l l (l.length : Int) (i : Int)) (scL p (l.drop i) && decide (l.length ≤ 40)) := by
  induction d with
  | zero =>
    intro i p hi hp
    rw [List.drop_of_length_le (by omega)]
    refine Ev.one (fun k => ?_)
    simp only [impl_IsScore.l0, scL, Bool.true_and]
    rw [if_neg (by omega)]
    refine congrArg some (decide_eq_decide.2 ?_)
    omega
  | succ d ih =>
    intro i p hi hp
    have hlt : i < l.length := by omega
    rw [drop_cons l i hlt]
    have next := ih (i + 1) (some l[i]) (by omega) (.inr ⟨by omega, by omega, rfl⟩)
    by_cases h0 : evOk l[i] = true
    · have hx : (0 ≤ l[i].f0 ∧ l[i].f0 ≤ 2000) ∧ (1 ≤ l[i].f1 ∧ l[i].f1 ≤ 96) ∧ (21 ≤ l[i].f2 ∧ l[i].f2 ≤ 108) ∧ (1 ≤ l[i].f3 ∧ l[i].f3 ≤ 4) := by simpa only [evOk, decide_eq_true_eq] using h0
      rcases hp with ⟨rfl, rfl⟩ | ⟨hi1, hpos, rfl⟩
      · refine Ev.step (f := fun k => impl_IsScore.l0 k l l (l.length : Int) ((0 + 1 : Nat) : Int)) (fun k => ?_) ?_
        · simp only [impl_IsScore.l0, inRange_eq, Option.bind_some]
          rw [if_pos (by omega), if_pos (by omega), if_pos (by omega), rdEvent_get l 0 hlt, if_pos (decide_eq_true hx.1), if_pos (decide_eq_true hx.2.1), if_pos (decide_eq_true hx.2.2.1), if_pos (decide_eq_true hx.2.2.2), if_neg (by omega), w64_nat 0 (by omega)]
        · rw [scL, h0, evNext, Bool.true_and, Bool.true_and]
          exact next
      · have hw : wrap64 ((i : Int) - 1) = ((i - 1 : Nat) : Int) := by unfold wrap64; omega
        refine Ev.step (f := fun k => (impl_eventOrder.f k l[i - 1].f0 l[i - 1].f1 l[i - 1].f2 l[i - 1].f3 l[i].f0 l[i].f1 l[i].f2 l[i].f3).bind fun t => if t ≥ 0 then some false else impl_IsScore.l0 k l l (l.length : Int) ((i + 1 : Nat) : Int)) (fun k => ?_) ?_
        · simp only [impl_IsScore.l0, inRange_eq, Option.bind_some]
          rw [if_pos (by omega), if_pos (by omega), if_pos (by omega), rdEvent_get l i hlt, if_pos (decide_eq_true hx.1), if_pos (decide_eq_true hx.2.1), if_pos (decide_eq_true hx.2.2.1), if_pos (decide_eq_true hx.2.2.2), if_pos (by omega), hw, if_pos (by omega), if_pos (by omega), rdEvent_get l (i - 1) hi1, w64_nat i (by omega)]
        · refine Ev.bind (impl_order _ _) ?_
          by_cases h2 : evLt l[i - 1] l[i] = true
          · simp only [if_neg (fun h => (order_lt _ _).1 h h2)]
            rw [scL, h0, evNext, h2, Bool.true_and, Bool.true_and]
            exact next
          · simp only [if_pos ((order_lt _ _).2 h2)]
            rw [Bool.not_eq_true] at h2
            rw [scL, h0, evNext, h2, Bool.and_false, Bool.false_and, Bool.false_and]
            exact Ev.now _
    · have h0' := h0
      rw [Bool.not_eq_true] at h0'
      rw [scL, h0', Bool.false_and, Bool.false_and, Bool.false_and]
      have hx : ¬ ((0 ≤ l[i].f0 ∧ l[i].f0 ≤ 2000) ∧ (1 ≤ l[i].f1 ∧ l[i].f1 ≤ 96) ∧ (21 ≤ l[i].f2 ∧ l[i].f2 ≤ 108) ∧ (1 ≤ l[i].f3 ∧ l[i].f3 ≤ 4)) := by simpa only [evOk, decide_eq_true_eq] using h0
      refine Ev.one (fun k => ?_)
      simp only [impl_IsScore.l0, inRange_eq, Option.bind_some]
      rw [if_pos (by omega), if_pos (by omega), if_pos (by omega), rdEvent_get l i hlt]
      by_cases g0 : 0 ≤ l[i].f0 ∧ l[i].f0 ≤ 2000
      · rw [if_pos (decide_eq_true g0)]
        by_cases g1 : 1 ≤ l[i].f1 ∧ l[i].f1 ≤ 96
        · rw [if_pos (decide_eq_true g1)]
          by_cases g2 : 21 ≤ l[i].f2 ∧ l[i].f2 ≤ 108
          · rw [if_pos (decide_eq_true g2)]
            by_cases g3 : 1 ≤ l[i].f3 ∧ l[i].f3 ≤ 4
            · exact absurd ⟨g0, g1, g2, g3⟩ hx
            · rw [if_neg (by simpa using g3)]
          · rw [if_neg (by simpa using g2)]
        · rw [if_neg (by simpa using g1)]
      · rw [if_neg (by simpa using g0)]

theorem impl_score (l : List S57) (hl : l.length ≤ 1048576) : Ev (fun k => impl_IsScore.f k l) (isScore l) := impl_score_ev l hl l.length 0 none (by omega) (.inl ⟨rfl, rfl⟩)

def isMeter (b u : Int) : Bool := decide ((1 ≤ b ∧ b ≤ 12) ∧ (u = 1 ∨ u = 2 ∨ u = 4 ∨ u = 8))
/-- How many ticks a bar has. -/
def barLong (b u : Int) : Int := if isMeter b u = true then b * (48 / u) else 0

theorem spec_meter (b u : Int) : spec_IsMeter.f b u = some (isMeter b u) := by
  simp only [spec_IsMeter.f, l1In_eq, Option.bind_some, isMeter]
  by_cases h : 1 ≤ b ∧ b ≤ 12
  · rw [if_pos (decide_eq_true h)]
    by_cases h1 : u = 1
    · rw [if_pos h1]; exact congrArg some (decide_eq_true ⟨h, .inl h1⟩).symm
    · by_cases h2 : u = 2
      · rw [if_neg h1, if_pos h2]; exact congrArg some (decide_eq_true ⟨h, .inr (.inl h2)⟩).symm
      · by_cases h4 : u = 4
        · rw [if_neg h1, if_neg h2, if_pos h4]; exact congrArg some (decide_eq_true ⟨h, .inr (.inr (.inl h4))⟩).symm
        · rw [if_neg h1, if_neg h2, if_neg h4]
          by_cases h8 : u = 8
          · rw [decide_eq_true ⟨h, .inr (.inr (.inr h8))⟩, h8]; rfl
          · rw [decide_eq_false (by omega)]; exact congrArg some (beq_eq_false_iff_ne.2 h8)
  · rw [if_neg (by simpa using h), decide_eq_false (by omega)]

theorem impl_meter (b u : Int) : impl_IsMeter.f b u = some (isMeter b u) := by
  simp only [impl_IsMeter.f, inRange_eq, Option.bind_some, isMeter]
  by_cases h : 1 ≤ b ∧ b ≤ 12
  · rw [if_pos (decide_eq_true h)]
    by_cases h1 : u = 1
    · rw [if_pos h1]; exact congrArg some (decide_eq_true ⟨h, .inl h1⟩).symm
    · by_cases h2 : u = 2
      · rw [if_neg h1, if_pos h2]; exact congrArg some (decide_eq_true ⟨h, .inr (.inl h2)⟩).symm
      · by_cases h4 : u = 4
        · rw [if_neg h1, if_neg h2, if_pos h4]; exact congrArg some (decide_eq_true ⟨h, .inr (.inr (.inl h4))⟩).symm
        · rw [if_neg h1, if_neg h2, if_neg h4]
          by_cases h8 : u = 8
          · rw [decide_eq_true ⟨h, .inr (.inr (.inr h8))⟩, h8]; rfl
          · rw [decide_eq_false (by omega)]; exact congrArg some (beq_eq_false_iff_ne.2 h8)
  · rw [if_neg (by simpa using h), decide_eq_false (by omega)]

theorem isMeter_iff {b u : Int} (h : isMeter b u = true) : (1 ≤ b ∧ b ≤ 12) ∧ (u = 1 ∨ u = 2 ∨ u = 4 ∨ u = 8) := by simpa [isMeter] using h

theorem meter_div {b u : Int} (h : isMeter b u = true) : ¬ u = 0 ∧ 6 ≤ 48 / u ∧ 48 / u ≤ 48 ∧ wrap64 (Int.tdiv (48 : Int) u) = 48 / u ∧ wrap64 (b * (48 / u)) = b * (48 / u) ∧ 6 ≤ b * (48 / u) ∧ b * (48 / u) ≤ 576 := by
  obtain ⟨h1, h2⟩ := isMeter_iff h
  rcases h2 with rfl | rfl | rfl | rfl
  all_goals
    refine ⟨by omega, by omega, by omega, (w64 (by decide) (by decide)).trans (by decide), ?_, ?_, ?_⟩
    · simp only [show (48 : Int) / 1 = 48 from rfl, show (48 : Int) / 2 = 24 from rfl, show (48 : Int) / 4 = 12 from rfl, show (48 : Int) / 8 = 6 from rfl]
      exact w64 (by omega) (by omega)
    · simp only [show (48 : Int) / 1 = 48 from rfl, show (48 : Int) / 2 = 24 from rfl, show (48 : Int) / 4 = 12 from rfl, show (48 : Int) / 8 = 6 from rfl]
      omega
    · simp only [show (48 : Int) / 1 = 48 from rfl, show (48 : Int) / 2 = 24 from rfl, show (48 : Int) / 4 = 12 from rfl, show (48 : Int) / 8 = 6 from rfl]
      omega

theorem spec_bar (b u : Int) : spec_BarLong.f b u = some (barLong b u) := by
  simp only [spec_BarLong.f, spec_meter, Option.bind_some, barLong]
  split
  · rename_i h
    obtain ⟨h0, _, _, h1, h2, _⟩ := meter_div h
    simp only [spec_l10Beat.f, h0, if_false, Option.bind_some]
    rw [h1, h2]
  · rfl

theorem impl_bar (b u : Int) : impl_BarLong.f b u = some (barLong b u) := by
  simp only [impl_BarLong.f, impl_meter, Option.bind_some, barLong]
  split
  · rename_i h
    obtain ⟨h0, _, _, h1, h2, _⟩ := meter_div h
    simp only [impl_Meter_beat.f, h0, if_false, Option.bind_some]
    rw [h1, h2]
  · rfl

theorem barLong_bound (b u : Int) (h : isMeter b u = true) : 6 ≤ barLong b u ∧ barLong b u ≤ 576 := by
  obtain ⟨_, _, _, _, _, h1, h2⟩ := meter_div h
  unfold barLong
  rw [if_pos h]
  exact ⟨h1, h2⟩

theorem index_loop (l : List Int) (n : Int) (hl : l.length ≤ 1048576) (d : Nat) : ∀ i : Nat, i + d = l.length → ∃ r, Ev (fun k => slices_Index_int_int.l0 k l n (l.length : Int) (i : Int)) r ∧ decide (r ≥ 0) = decide (n ∈ l.drop i) := by
  induction d with
  | zero =>
    intro i h
    rw [List.drop_of_length_le (by omega)]
    refine ⟨-1, Ev.one (fun k => ?_), by simp⟩
    simp only [slices_Index_int_int.l0]
    rw [if_neg (by omega)]
  | succ d ih =>
    intro i h
    have hlt : i < l.length := by omega
    rw [drop_cons l i hlt]
    by_cases hc : n = l[i]
    · refine ⟨(i : Int), Ev.one (fun k => ?_), by rw [decide_eq_true (show (i : Int) ≥ 0 by omega), hc]; exact (decide_eq_true List.mem_cons_self).symm⟩
      simp only [slices_Index_int_int.l0]
      rw [if_pos (by omega), if_pos (by omega), if_pos (by omega), rd_get l i hlt, if_pos hc]
    · obtain ⟨r, hr, he⟩ := ih (i + 1) (by omega)
      refine ⟨r, Ev.step (fun k => ?_) hr, he.trans (decide_eq_decide.2 (by rw [List.mem_cons]; exact (or_iff_right hc).symm))⟩
      simp only [slices_Index_int_int.l0]
      rw [if_pos (by omega), if_pos (by omega), if_pos (by omega), rd_get l i hlt, if_neg hc, w64_nat i (by omega)]
theorem contains_ev (l : List Int) (n : Int) (hl : l.length ≤ 1048576) : Ev (fun k => slices_Contains_int_int.f k l n) (decide (n ∈ l)) := by
  obtain ⟨r, hr, he⟩ := index_loop l n hl l.length 0 (by omega)
  rw [List.drop_zero] at he
  simp only [slices_Contains_int_int.f, slices_Index_int_int.f]
  rw [← he]
  exact Ev.bind hr (Ev.now _)

theorem has_loop (l : List Int) (n : Int) (hl : l.length ≤ 1048576) (d : Nat) : ∀ i : Nat, i + d = l.length → Ev (fun k => spec_l27Has.l0 k l n (i : Int)) (decide (n ∈ l.drop i)) := by
  induction d with
  | zero =>
    intro i h
    rw [List.drop_of_length_le (by omega)]
    refine Ev.one (fun k => ?_)
    simp only [spec_l27Has.l0]
    rw [if_neg (by omega)]
    simp
  | succ d ih =>
    intro i h
    have hlt : i < l.length := by omega
    rw [drop_cons l i hlt]
    by_cases hc : l[i] = n
    · refine Ev.one (fun k => ?_)
      simp only [spec_l27Has.l0]
      rw [if_pos (by omega), if_pos (by omega), rd_get l i hlt, if_pos hc]
      simp [hc]
    · refine Ev.step (fun k => ?_) (by rw [show decide (n ∈ l[i] :: l.drop (i + 1)) = decide (n ∈ l.drop (i + 1)) from decide_eq_decide.2 (by rw [List.mem_cons]; exact or_iff_right (Ne.symm hc))]; exact ih (i + 1) (by omega))
      simp only [spec_l27Has.l0]
      rw [if_pos (by omega), if_pos (by omega), rd_get l i hlt, if_neg hc, w64_nat i (by omega)]
theorem has_ev (l : List Int) (n : Int) (hl : l.length ≤ 1048576) : Ev (fun k => spec_l27Has.f k l n) (decide (n ∈ l)) := has_loop l n hl l.length 0 (by omega)

theorem eqIntS_ev (l : List Int) (hl : l.length ≤ 140737488355328) : Ev (fun k => laws_eqIntS.f k l l) true := by
  have key := eqLoop (fun k i => laws_eqIntS.l0 k l l i) l (by
    intro i r hi h
    refine Ev.step (fun k => ?_) h
    simp only [laws_eqIntS.l0]
    rw [if_pos (by omega), if_pos (by omega), if_pos (by omega), if_pos trivial, w64_nat i (by omega)]) (by
    refine Ev.one (fun k => ?_)
    simp only [laws_eqIntS.l0]
    rw [if_neg (by omega)])
  refine Ev.congr (fun k => ?_) key
  simp only [laws_eqIntS.f]
  rw [if_pos trivial]

theorem toIntS_ev (l : List Int) (hl : l.length ≤ 35184372088832) : Ev (fun k => laws_toIntS.f k l) l := by
  have key := copyLoop (fun k x3 i => laws_toIntS.l0 k l x3 i) l (fun x => x) (by
    intro x3 i r hi hx h
    refine Ev.step (fun k => ?_) h
    simp only [laws_toIntS.l0]
    rw [if_pos (by omega), if_pos (by omega), if_pos (by omega), rd_get l i hi, w64_nat i (by omega), Int.toNat_natCast]) (by
    intro x3
    refine Ev.one (fun k => ?_)
    simp only [laws_toIntS.l0]
    rw [if_neg (by omega)]) (List.replicate l.length 0) (by simp)
  rw [List.map_id' l] at key
  refine Ev.congr (fun k => ?_) key
  simp only [laws_toIntS.f, Int.toNat_natCast]
  rw [if_pos (by omega), if_pos hl]

theorem markInt_any (d : Nat) : ∀ (i c : Nat) (x : List Int), i + d = x.length → x.length ≤ 1048576 → c + d ≤ 100000000 → ∃ x', Ev (fun k => laws_markIntS.l0 k x (c : Int) (i : Int)) (((c + d : Nat) : Int), x') := by
  induction d with
  | zero =>
    intro i c x hi hx hc
    refine ⟨x, Ev.one (fun k => ?_)⟩
    simp only [laws_markIntS.l0]
    rw [if_neg (by omega)]
    rfl
  | succ d ih =>
    intro i c x hi hx hc
    obtain ⟨x', h⟩ := ih (i + 1) (c + 1) (x.set i (c : Int)) (by simp; omega) (by simpa using hx) (by omega)
    refine ⟨x', ?_⟩
    rw [show c + 1 + d = c + (d + 1) by omega] at h
    refine Ev.step (fun k => ?_) h
    simp only [laws_markIntS.l0, Int.toNat_natCast]
    rw [if_pos (by omega), if_pos (by omega), w64_nat c (by omega), w64_nat i (by omega)]


def mkOne (x : List S57) (i c : Int) : List S57 :=
  let y1 := x.set i.toNat ⟨c, (rd_T57 x i).f1, (rd_T57 x i).f2, (rd_T57 x i).f3⟩
  let y2 := y1.set i.toNat ⟨(rd_T57 y1 i).f0, wrap64 (c + 1), (rd_T57 y1 i).f2, (rd_T57 y1 i).f3⟩
  let y3 := y2.set i.toNat ⟨(rd_T57 y2 i).f0, (rd_T57 y2 i).f1, wrap64 (wrap64 (c + 1) + 1), (rd_T57 y2 i).f3⟩
  y3.set i.toNat ⟨(rd_T57 y3 i).f0, (rd_T57 y3 i).f1, (rd_T57 y3 i).f2, wrap64 (wrap64 (wrap64 (c + 1) + 1) + 1)⟩

theorem markEvent_any (d : Nat) : ∀ (i c : Nat) (x : List S57), i + d = x.length → x.length ≤ 1048576 → c + 4 * d ≤ 100000000 → ∃ x', Ev (fun k => laws_markEventS.l0 k x (c : Int) (i : Int)) (((c + 4 * d : Nat) : Int), x') := by
  induction d with
  | zero =>
    intro i c x hi hx hc
    refine ⟨x, Ev.one (fun k => ?_)⟩
    simp only [laws_markEventS.l0]
    rw [if_neg (by omega)]
    rfl
  | succ d ih =>
    intro i c x hi hx hc
    obtain ⟨x', h⟩ := ih (i + 1) (c + 4) (mkOne x (i : Int) (c : Int)) (by simp [mkOne]; omega) (by simpa [mkOne] using hx) (by omega)
    refine ⟨x', ?_⟩
    rw [show c + 4 + 4 * d = c + 4 * (d + 1) by omega] at h
    refine Ev.step (fun k => ?_) h
    have e : wrap64 (wrap64 (wrap64 (wrap64 ((c : Int) + 1) + 1) + 1) + 1) = ((c + 4 : Nat) : Int) := by
      rw [w64_nat c (by omega), w64_nat (c + 1) (by omega), w64_nat (c + 1 + 1) (by omega), w64_nat (c + 1 + 1 + 1) (by omega)]
    simp only [laws_markEventS.l0, Option.bind_some]
    rw [if_pos (by omega), if_pos (by omega), e, w64_nat i (by omega)]
    rfl

theorem markLoop {β : Type} (C : Nat → Nat) (mkv : Nat → β) (F : Nat → List β → Int → Int → Option (Int × List β)) (n : Nat)
    (h1 : ∀ (x3 : List β) (i : Nat) (r : Int × List β), i < n → x3.length = n → Ev (fun k => F k (x3.set i (mkv i)) ((C (i + 1) : Nat) : Int) ((i + 1 : Nat) : Int)) r → Ev (fun k => F k x3 ((C i : Nat) : Int) (i : Int)) r)
    (h2 : ∀ x3 : List β, x3.length = n → Ev (fun k => F k x3 ((C n : Nat) : Int) (n : Int)) (((C n : Nat) : Int), x3)) (init : List β) (hl : init.length = n) :
    Ev (fun k => F k init ((C 0 : Nat) : Int) ((0 : Nat) : Int)) (((C n : Nat) : Int), (List.range n).map mkv) := by
  have key : ∀ (d i : Nat) (x3 : List β), i + d = n → x3.length = n → x3.take i = (List.range i).map mkv → Ev (fun k => F k x3 ((C i : Nat) : Int) (i : Int)) (((C n : Nat) : Int), (List.range n).map mkv) := by
    intro d
    induction d with
    | zero =>
      intro i x3 hi hx ht
      obtain rfl : i = n := by omega
      have e : x3 = (List.range i).map mkv := by
        rw [← ht, ← hx, List.take_length]
      have := h2 x3 hx
      rw [← e]
      exact this
    | succ d ih =>
      intro i x3 hi hx ht
      refine h1 x3 i _ (by omega) hx (ih (i + 1) _ (by omega) (by rw [List.length_set]; exact hx) ?_)
      rw [set_take x3 i _ (by omega), ht, List.range_succ, List.map_append]
      rfl
  exact key n 0 init (by omega) hl (by simp)

theorem heldLoop (C : Nat → Nat) (F : Nat → Int → Int → Option Int) (n : Nat)
    (h1 : ∀ (i : Nat) (r : Int), i < n → Ev (fun k => F k ((C (i + 1) : Nat) : Int) ((i + 1 : Nat) : Int)) r → Ev (fun k => F k ((C i : Nat) : Int) (i : Int)) r)
    (h2 : Ev (fun k => F k ((C n : Nat) : Int) (n : Int)) ((C n : Nat) : Int)) : Ev (fun k => F k ((C 0 : Nat) : Int) ((0 : Nat) : Int)) ((C n : Nat) : Int) := by
  have key : ∀ (d i : Nat), i + d = n → Ev (fun k => F k ((C i : Nat) : Int) (i : Int)) ((C n : Nat) : Int) := by
    intro d
    induction d with
    | zero =>
      intro i hi
      obtain rfl : i = n := by omega
      exact h2
    | succ d ih =>
      intro i hi
      exact h1 i _ (by omega) (ih (i + 1) (by omega))
  exact key n 0 (by omega)

theorem rdlEvent_get (l : List S62) (i : Nat) (h : i < l.length) : rd_T62 l (i : Int) = l[i] := by
  simp [rd_T62, List.getD, List.getElem?_eq_getElem h]

def cvEvent (x : S62) : S57 := ⟨x.f0, x.f1, x.f2, x.f3⟩

theorem toEventS_ev (l : List S62) (hl : l.length ≤ 1048576) : Ev (fun k => laws_toEventS.f k l) (l.map cvEvent) := by
  have key := copyLoop (fun k x3 i => laws_toEventS.l0 k l x3 i) l cvEvent (by
    intro x3 i r hi hx h
    refine Ev.step (fun k => ?_) h
    simp only [laws_toEventS.l0, laws_toEvent.f, Option.bind_some]
    rw [if_pos (by omega), if_pos (by omega), if_pos (by omega), rdlEvent_get l i hi, w64_nat i (by omega), Int.toNat_natCast]
    rfl) (by
    intro x3
    refine Ev.one (fun k => ?_)
    simp only [laws_toEventS.l0]
    rw [if_neg (by omega)]) (List.replicate l.length z57) (by simp)
  refine Ev.congr (fun k => ?_) key
  simp only [laws_toEventS.f, Int.toNat_natCast]
  rw [if_pos (by omega), if_pos (by omega)]

theorem eqEventS_ev (l : List S57) (hl : l.length ≤ 140737488355328) : Ev (fun k => laws_eqEventS.f k l l) true := by
  have key := eqLoop (fun k i => laws_eqEventS.l0 k l l i) l (by
    intro i r hi h
    refine Ev.step (fun k => ?_) h
    simp only [laws_eqEventS.l0, laws_eqEvent.f, if_true, Option.bind_some]
    rw [if_pos (by omega), if_pos (by omega), if_pos (by omega), w64_nat i (by omega)]) (by
    refine Ev.one (fun k => ?_)
    simp only [laws_eqEventS.l0]
    rw [if_neg (by omega)])
  refine Ev.congr (fun k => ?_) key
  simp only [laws_eqEventS.f, if_true]

theorem szEventS_ev (l : List S62) (b : Int) (hb : 0 ≤ b) (hb2 : b ≤ 1048576) (h0 : l.length ≤ 9223372036854775807) : laws_szEventS.f l b = some (if b < (l.length : Int) then -1 else b - (l.length : Int)) := by
  simp only [laws_szEventS.f]
  rw [w64 (by omega) (by omega)]
  split
  · rw [if_pos (by omega)]
  · rw [if_neg (by omega)]

def mkEvent (q : Nat) : S57 := ⟨((1 + 4 * q : Nat) : Int), ((1 + 4 * q + 1 : Nat) : Int), ((1 + 4 * q + 1 + 1 : Nat) : Int), ((1 + 4 * q + 1 + 1 + 1 : Nat) : Int)⟩

theorem rdEvent_set (l : List S57) (i : Nat) (h : i < l.length) (v : S57) : rd_T57 (l.set i v) (i : Int) = v := by
  simp [rd_T57, List.getD, List.getElem?_set_self h]

theorem markEventS_ev (l : List S57) (hl : l.length ≤ 1048576) : Ev (fun k => laws_markEventS.f k l 1) (((1 + 4 * l.length : Nat) : Int), (List.range l.length).map mkEvent) := by
  have key := markLoop (fun i => 1 + 4 * i) mkEvent (fun k x c i => laws_markEventS.l0 k x c i) l.length (by
    intro x3 i r hi hx h
    simp only [show 1 + 4 * (i + 1) = 1 + 4 * i + 1 + 1 + 1 + 1 by omega] at h
    refine Ev.step (fun k => ?_) h
    have hx' : i < x3.length := by omega
    simp only [laws_markEventS.l0, Option.bind_some, Int.toNat_natCast]
    rw [if_pos (by omega), if_pos (by omega), w64_nat (1 + 4 * i) (by omega), w64_nat (1 + 4 * i + 1) (by omega), w64_nat (1 + 4 * i + 1 + 1) (by omega), w64_nat (1 + 4 * i + 1 + 1 + 1) (by omega), w64_nat i (by omega)]
    simp only [rdEvent_set, List.length_set, hx', List.set_set, mkEvent]) (by
    intro x3 hx
    refine Ev.one (fun k => ?_)
    simp only [laws_markEventS.l0]
    rw [if_neg (by omega)]) l rfl
  exact key

theorem heldEventS_ev (n : Nat) (hl : n ≤ 1048576) : Ev (fun k => laws_heldEventS.f k ((List.range n).map mkEvent) 1) ((1 + 4 * n : Nat) : Int) := by
  have key := heldLoop (fun i => 1 + 4 * i) (fun k c i => laws_heldEventS.l0 k ((List.range n).map mkEvent) c i) n (by
    intro i r hi h
    simp only [show 1 + 4 * (i + 1) = 1 + 4 * i + 1 + 1 + 1 + 1 by omega] at h
    refine Ev.step (fun k => ?_) h
    simp only [laws_heldEventS.l0, List.length_map, List.length_range]
    rw [if_pos (by omega), if_pos (by omega), rdEvent_get _ i (by simpa using hi), w64_nat (1 + 4 * i) (by omega), w64_nat (1 + 4 * i + 1) (by omega), w64_nat (1 + 4 * i + 1 + 1) (by omega), w64_nat (1 + 4 * i + 1 + 1 + 1) (by omega), w64_nat i (by omega)]
    simp only [List.getElem_map, List.getElem_range, mkEvent, if_true]) (by
    refine Ev.one (fun k => ?_)
    simp only [laws_heldEventS.l0, List.length_map, List.length_range]
    rw [if_neg (by omega)])
  exact key

def barNo (L : Int) (x : S57) : Int := Int.tdiv x.f0 L + 1
def inB (L : Int) (s : List Int) (x : S57) : Bool := decide (barNo L x ∈ s)
def putAll (o l : List S57) : List S57 := l.foldl (fun o e => putE e o) o
theorem clone_eq (l : List S57) (hl : l.length ≤ 1048576) : impl_Event_57.f l = some l := by
  simp only [impl_Event_57.f, Option.bind_some, List.nil_append]
  rw [if_pos (by simp; omega)]
theorem putAll_perm (l : List S57) : ∀ o, (putAll o l).Perm (o ++ l) := by
  induction l with
  | nil => intro o; simp [putAll]
  | cons x l ih =>
    intro o
    refine (ih (putE x o)).trans ?_
    refine ((putE_perm x o).append_right l).trans ?_
    exact List.perm_middle.symm
theorem putAll_weak (l : List S57) : ∀ o, o.Pairwise leE → (putAll o l).Pairwise leE := by
  induction l with
  | nil => intro o h; exact h
  | cons x l ih => intro o h; exact ih _ (putE_weak x o h)
theorem putAll_len (o l : List S57) : (putAll o l).length = o.length + l.length := by
  have := (putAll_perm l o).length_eq
  simpa using this
theorem barNo_bound {L : Int} {x : S57} (hL : 6 ≤ L) (h0 : 0 ≤ x.f0) (h1 : x.f0 ≤ 2000) : 0 ≤ Int.tdiv x.f0 L ∧ Int.tdiv x.f0 L ≤ 2000 := by
  rw [Int.tdiv_eq_ediv_of_nonneg h0]
  refine ⟨Int.ediv_nonneg h0 (by omega), ?_⟩
  exact Int.le_trans (Int.ediv_le_self _ h0) h1
theorem implBar (b u : Int) (x : S57) (hM : isMeter b u = true) (h0 : 0 ≤ x.f0 ∧ x.f0 ≤ 2000) : impl_barOf.f b u x.f0 x.f1 x.f2 x.f3 = some (barNo (barLong b u) x) := by
  have hb := barLong_bound b u hM
  have hn := barNo_bound (x := x) hb.1 h0.1 h0.2
  simp only [impl_barOf.f, impl_bar, Option.bind_some]
  rw [if_neg (by omega), w64 (x := Int.tdiv x.f0 (barLong b u)) (by omega) (by omega), w64 (by omega) (by omega)]
  rfl
def takeP (a c : List S57) (b u : Int) (s : List Int) : List S57 := putAll (a.filter (fun x => !inB (barLong b u) s x)) (c.filter (inB (barLong b u) s))
def takeR (a c : List S57) (b u : Int) (s : List Int) : List S57 × Bool := if isScore a = true ∧ isScore c = true ∧ isMeter b u = true then (if isScore (takeP a c b u s) = true then (takeP a c b u s, true) else (a, false)) else (a, false)

theorem spec_two (a c : List S57) (b u : Int) (s : List Int) (ha : isScore a = true) (hc : isScore c = true) (hM : isMeter b u = true) (hs : s.length ≤ 1048576) (d : Nat) : ∀ (i : Nat) (o : List S57), i + d = c.length → o.length ≤ 40 + i →
    Ev (fun k => spec_TakeBars.l1 k a c s o (i : Int) b u) (if isScore (putAll o ((c.drop i).filter (inB (barLong b u) s))) = true then (putAll o ((c.drop i).filter (inB (barLong b u) s)), true) else (a, false)) := by
  have la := (isScore_iff ha).2
  have lc := (isScore_iff hc).2
  have hL := barLong_bound b u hM
  induction d with
  | zero =>
    intro i o hi ho
    rw [List.drop_of_length_le (by omega)]
    refine Ev.step (f := fun k => (spec_IsScore.f k o).bind fun t => if t = true then some (o, true) else ((some (([] : List S57) : List S57)).bind fun y => (if y.length + a.length < 4398046511104 then (some ((y ++ a), false)) else none))) (fun k => ?_) (Ev.bind (spec_score o (by omega)) ?_)
    · simp only [spec_TakeBars.l1]
      rw [if_neg (by omega)]
    · show Ev _ (if isScore o = true then (o, true) else (a, false))
      by_cases h : isScore o = true
      · simp only [h, if_true]
        exact Ev.now _
      · simp only [h, Bool.false_eq_true, if_false]
        refine Ev.one (fun k => ?_)
        simp only [Option.bind_some, List.length_nil, List.nil_append, Nat.zero_add]
        rw [if_pos (by omega)]
  | succ d ih =>
    intro i o hi ho
    have hlt : i < c.length := by omega
    have hx := (isScore_at hc c[i] (List.getElem_mem hlt)).1
    have hn := barNo_bound (x := c[i]) hL.1 hx.1 hx.2
    rw [drop_cons c i hlt, List.filter_cons]
    have hpl := putE_len c[i] o
    refine Ev.step (f := fun k => (spec_l27Has.f k s (barNo (barLong b u) c[i])).bind fun t => if t = true then ((spec_l8Put.f k o c[i].f0 c[i].f1 c[i].f2 c[i].f3).bind fun t => spec_TakeBars.l1 k a c s t ((i + 1 : Nat) : Int) b u) else spec_TakeBars.l1 k a c s o ((i + 1 : Nat) : Int) b u) (fun k => ?_) (Ev.bind (has_ev s _ hs) ?_)
    · simp only [spec_TakeBars.l1, spec_bar, Option.bind_some]
      rw [if_pos (by omega), if_pos (by omega), if_neg (by omega), rdEvent_get c i hlt, w64 (x := Int.tdiv c[i].f0 (barLong b u)) (by omega) (by omega), w64 (by omega) (by omega), w64_nat i (by omega)]
      rfl
    · by_cases h : barNo (barLong b u) c[i] ∈ s
      · have hb : inB (barLong b u) s c[i] = true := decide_eq_true h
        rw [if_pos hb]
        simp only [h, decide_true, if_true]
        exact Ev.bind (spec_put o c[i] (by omega)) (ih (i + 1) (putE c[i] o) (by omega) (by omega))
      · have hb : ¬ inB (barLong b u) s c[i] = true := by simpa [inB] using h
        rw [if_neg hb]
        simp only [h, decide_false, Bool.false_eq_true, if_false]
        exact ih (i + 1) o (by omega) (by omega)

theorem spec_one (a c : List S57) (b u : Int) (s : List Int) (ha : isScore a = true) (hc : isScore c = true) (hM : isMeter b u = true) (hs : s.length ≤ 1048576) (R : List S57 × Bool) (d : Nat) : ∀ (i : Nat) (o : List S57), i + d = a.length → o.length ≤ i →
    (∀ o' : List S57, o'.length ≤ 40 → o' = o ++ (a.drop i).filter (fun x => !inB (barLong b u) s x) → Ev (fun k => spec_TakeBars.l1 k a c s o' ((0 : Nat) : Int) b u) R) → Ev (fun k => spec_TakeBars.l0 k a c s o (i : Int) b u) R := by
  have la := (isScore_iff ha).2
  have hL := barLong_bound b u hM
  induction d with
  | zero =>
    intro i o hi ho h
    rw [List.drop_of_length_le (by omega)] at h
    refine Ev.step (fun k => ?_) (h o (by omega) (by simp))
    simp only [spec_TakeBars.l0]
    rw [if_neg (by omega)]
    rfl
  | succ d ih =>
    intro i o hi ho h
    have hlt : i < a.length := by omega
    have hx := (isScore_at ha a[i] (List.getElem_mem hlt)).1
    have hn := barNo_bound (x := a[i]) hL.1 hx.1 hx.2
    rw [drop_cons a i hlt, List.filter_cons] at h
    refine Ev.step (f := fun k => (spec_l27Has.f k s (barNo (barLong b u) a[i])).bind fun t => if t = true then spec_TakeBars.l0 k a c s o ((i + 1 : Nat) : Int) b u else spec_TakeBars.l0 k a c s (o ++ [a[i]]) ((i + 1 : Nat) : Int) b u) (fun k => ?_) (Ev.bind (has_ev s _ hs) ?_)
    · simp only [spec_TakeBars.l0, spec_bar, Option.bind_some]
      rw [if_pos (by omega), if_pos (by omega), if_neg (by omega), rdEvent_get a i hlt, w64 (x := Int.tdiv a[i].f0 (barLong b u)) (by omega) (by omega), w64 (by omega) (by omega), w64_nat i (by omega), if_pos (by omega)]
      rfl
    · by_cases hm : barNo (barLong b u) a[i] ∈ s
      · have hb : inB (barLong b u) s a[i] = true := decide_eq_true hm
        rw [hb, Bool.not_true, if_neg (by simp)] at h
        simp only [hm, decide_true, if_true]
        exact ih (i + 1) o (by omega) (by omega) h
      · have hb : inB (barLong b u) s a[i] = false := decide_eq_false hm
        rw [hb, Bool.not_false, if_pos rfl] at h
        simp only [hm, decide_false, Bool.false_eq_true, if_false]
        refine ih (i + 1) (o ++ [a[i]]) (by omega) (by simp; omega) ?_
        rw [List.append_assoc]
        exact h

theorem impl_two (a c : List S57) (b u : Int) (s : List Int) (f : List S57) (ha : isScore a = true) (hc : isScore c = true) (hM : isMeter b u = true) (hs : s.length ≤ 1048576) (hf : f.Pairwise leE) (d : Nat) : ∀ (i : Nat) (o l : List S57), i + d = c.length → o.length ≤ 40 + i → o = f ++ l →
    Ev (fun k => impl_TakeBars.l1 k a s o c (c.length : Int) (i : Int) b u) (if isScore (putAll f (l ++ (c.drop i).filter (inB (barLong b u) s))) = true then (putAll f (l ++ (c.drop i).filter (inB (barLong b u) s)), true) else (a, false)) := by
  have la := (isScore_iff ha).2
  have lc := (isScore_iff hc).2
  have hL := barLong_bound b u hM
  induction d with
  | zero =>
    intro i o l hi ho e
    rw [List.drop_of_length_le (by omega), List.filter_nil, List.append_nil]
    subst e
    have key := srt_score (f ++ l) (putAll f l) (putAll_weak l f hf) (putAll_perm l f)
    have hl := slices_SortFunc_at60.srt_len (f ++ l)
    refine Ev.step (f := fun k => (impl_IsScore.f k (slices_SortFunc_at60.srt (f ++ l))).bind fun t => if t = true then some (slices_SortFunc_at60.srt (f ++ l), true) else (some a).bind fun t => some (t, false)) (fun k => ?_) (Ev.bind (impl_score _ (by omega)) ?_)
    · simp only [impl_TakeBars.l1, slices_SortFunc_at60.f, clone_eq a (by omega)]
      rw [if_neg (by omega), if_pos (by omega)]
      rfl
    · rw [key.1]
      by_cases h : isScore (putAll f l) = true
      · rw [key.2 h]
        simp only [h, if_true]
        exact Ev.now _
      · simp only [h, Bool.false_eq_true, if_false, Option.bind_some]
        exact Ev.now _
  | succ d ih =>
    intro i o l hi ho e
    have hlt : i < c.length := by omega
    have hx := (isScore_at hc c[i] (List.getElem_mem hlt)).1
    rw [drop_cons c i hlt, List.filter_cons]
    refine Ev.step (f := fun k => (slices_Contains_int_int.f k s (barNo (barLong b u) c[i])).bind fun t => if t = true then impl_TakeBars.l1 k a s (o ++ [c[i]]) c (c.length : Int) ((i + 1 : Nat) : Int) b u else impl_TakeBars.l1 k a s o c (c.length : Int) ((i + 1 : Nat) : Int) b u) (fun k => ?_) (Ev.bind (contains_ev s _ hs) ?_)
    · simp only [impl_TakeBars.l1]
      rw [if_pos (by omega), if_pos (by omega), if_pos (by omega), rdEvent_get c i hlt, implBar b u c[i] hM hx, Option.bind_some, w64_nat i (by omega), if_pos (by omega)]
    · by_cases h : barNo (barLong b u) c[i] ∈ s
      · have hb : inB (barLong b u) s c[i] = true := decide_eq_true h
        rw [if_pos hb]
        simp only [h, decide_true, if_true]
        have := ih (i + 1) (o ++ [c[i]]) (l ++ [c[i]]) (by omega) (by simp; omega) (by rw [e, List.append_assoc])
        rw [List.append_assoc, List.singleton_append] at this
        exact this
      · have hb : ¬ inB (barLong b u) s c[i] = true := by simpa [inB] using h
        rw [if_neg hb]
        simp only [h, decide_false, Bool.false_eq_true, if_false]
        exact ih (i + 1) o l (by omega) (by omega) e

theorem impl_one (a c : List S57) (b u : Int) (s : List Int) (ha : isScore a = true) (hc : isScore c = true) (hM : isMeter b u = true) (hs : s.length ≤ 1048576) (R : List S57 × Bool) (d : Nat) : ∀ (i : Nat) (o : List S57), i + d = a.length → o.length ≤ i →
    (∀ o' : List S57, o'.length ≤ 40 → o' = o ++ (a.drop i).filter (fun x => !inB (barLong b u) s x) → Ev (fun k => impl_TakeBars.l1 k a s o' c (c.length : Int) ((0 : Nat) : Int) b u) R) → Ev (fun k => impl_TakeBars.l0 k a c s o a (a.length : Int) (i : Int) b u) R := by
  have la := (isScore_iff ha).2
  have hL := barLong_bound b u hM
  induction d with
  | zero =>
    intro i o hi ho h
    rw [List.drop_of_length_le (by omega)] at h
    refine Ev.step (fun k => ?_) (h o (by omega) (by simp))
    simp only [impl_TakeBars.l0]
    rw [if_neg (by omega)]
    rfl
  | succ d ih =>
    intro i o hi ho h
    have hlt : i < a.length := by omega
    have hx := (isScore_at ha a[i] (List.getElem_mem hlt)).1
    rw [drop_cons a i hlt, List.filter_cons] at h
    refine Ev.step (f := fun k => (slices_Contains_int_int.f k s (barNo (barLong b u) a[i])).bind fun t => if t = true then impl_TakeBars.l0 k a c s o a (a.length : Int) ((i + 1 : Nat) : Int) b u else impl_TakeBars.l0 k a c s (o ++ [a[i]]) a (a.length : Int) ((i + 1 : Nat) : Int) b u) (fun k => ?_) (Ev.bind (contains_ev s _ hs) ?_)
    · simp only [impl_TakeBars.l0]
      rw [if_pos (by omega), if_pos (by omega), if_pos (by omega), rdEvent_get a i hlt, implBar b u a[i] hM hx, Option.bind_some, w64_nat i (by omega), if_pos (by omega)]
    · by_cases hm : barNo (barLong b u) a[i] ∈ s
      · have hb : inB (barLong b u) s a[i] = true := decide_eq_true hm
        rw [hb, Bool.not_true, if_neg (by simp)] at h
        simp only [hm, decide_true, if_true]
        exact ih (i + 1) o (by omega) (by omega) h
      · have hb : inB (barLong b u) s a[i] = false := decide_eq_false hm
        rw [hb, Bool.not_false, if_pos rfl] at h
        simp only [hm, decide_false, Bool.false_eq_true, if_false]
        refine ih (i + 1) (o ++ [a[i]]) (by omega) (by simp; omega) ?_
        rw [List.append_assoc]
        exact h

theorem strict_weak {l : List S57} (h : isScore l = true) : l.Pairwise leE := (scL_strict l none (isScore_iff h).1).1.imp (fun h => leE_of_lt h)

theorem spec_take (a c : List S57) (b u : Int) (s : List Int) (ha : a.length ≤ 1048576) (hc : c.length ≤ 1048576) (hs : s.length ≤ 1048576) : Ev (fun k => spec_TakeBars.f k a c b u s) (takeR a c b u s) := by
  have hbad : Ev (fun k => spec_TakeBars.j0 k a c s true b u) (a, false) := Ev.one (fun k => by
    simp only [spec_TakeBars.j0, if_true, Option.bind_some, List.length_nil, List.nil_append, Nat.zero_add]
    rw [if_pos (by omega)])
  simp only [spec_TakeBars.f, takeR]
  refine Ev.bind (spec_score a ha) ?_
  by_cases h1 : isScore a = true
  · simp only [h1, if_true, true_and]
    refine Ev.bind (spec_score c hc) ?_
    by_cases h2 : isScore c = true
    · simp only [h2, if_true, true_and, spec_meter, Option.bind_some]
      by_cases h3 : isMeter b u = true
      · simp only [h3, if_true, Bool.not_true]
        refine Ev.step (fun k => by simp only [spec_TakeBars.j0, Bool.false_eq_true, if_false]; rfl) ?_
        refine spec_one a c b u s h1 h2 h3 hs _ a.length 0 [] (by omega) (by simp) (fun o' ho e => ?_)
        rw [List.nil_append, List.drop_zero] at e
        subst e
        have := spec_two a c b u s h1 h2 h3 hs c.length 0 _ (by omega) ho
        rw [List.drop_zero] at this
        exact this
      · rw [Bool.not_eq_true] at h3
        simp only [h3, Bool.not_false, Bool.false_eq_true, if_false]
        exact hbad
    · simp only [h2, Bool.false_eq_true, if_false, false_and]
      exact hbad
  · simp only [h1, Bool.false_eq_true, if_false, false_and]
    exact hbad

theorem impl_take (a c : List S57) (b u : Int) (s : List Int) (ha : a.length ≤ 1048576) (hc : c.length ≤ 1048576) (hs : s.length ≤ 1048576) : Ev (fun k => impl_TakeBars.f k a c b u s) (takeR a c b u s) := by
  have hbad : Ev (fun k => impl_TakeBars.j0 k a c s true b u) (a, false) := Ev.one (fun k => by
    simp only [impl_TakeBars.j0, if_true, clone_eq a ha, Option.bind_some])
  simp only [impl_TakeBars.f, takeR]
  refine Ev.bind (impl_score a ha) ?_
  by_cases h1 : isScore a = true
  · simp only [h1, if_true, true_and]
    refine Ev.bind (impl_score c hc) ?_
    by_cases h2 : isScore c = true
    · simp only [h2, if_true, true_and, impl_meter, Option.bind_some]
      by_cases h3 : isMeter b u = true
      · simp only [h3, if_true, Bool.not_true]
        refine Ev.step (fun k => by simp only [impl_TakeBars.j0, Bool.false_eq_true, if_false]; rfl) ?_
        refine impl_one a c b u s h1 h2 h3 hs _ a.length 0 [] (by omega) (by simp) (fun o' ho e => ?_)
        rw [List.nil_append, List.drop_zero] at e
        have := impl_two a c b u s o' h1 h2 h3 hs (by rw [e]; exact (strict_weak h1).filter _) c.length 0 o' [] (by omega) ho (by simp)
        rw [List.drop_zero, List.nil_append] at this
        rw [e] at this ⊢
        exact this
      · rw [Bool.not_eq_true] at h3
        simp only [h3, Bool.not_false, Bool.false_eq_true, if_false]
        exact hbad
    · simp only [h2, Bool.false_eq_true, if_false, false_and]
      exact hbad
  · simp only [h1, Bool.false_eq_true, if_false, false_and]
    exact hbad

theorem takeR_len (a c : List S57) (b u : Int) (s : List Int) (ha : a.length ≤ 1048576) : (takeR a c b u s).1.length ≤ 1048576 := by
  unfold takeR
  split
  · split
    · rename_i h
      have := (isScore_iff h).2
      simp only
      omega
    · exact ha
  · exact ha

theorem FnExactTakeBars : ∀ (l0 : List (S62)) (l1 : List (S62)) (a2_0 : Int) (a2_1 : Int) (l3 : List Int), (l0.length ≤ maxLen ∧ l0.length * 32 ≤ 140737488351232 ∧ ∀ l0' ∈ l0, ((Lit.int .i64 l0'.f0).wf = true) ∧ ((Lit.int .i64 l0'.f1).wf = true) ∧ ((Lit.int .i64 l0'.f2).wf = true) ∧ ((Lit.int .i64 l0'.f3).wf = true)) → (l1.length ≤ maxLen ∧ l1.length * 32 ≤ 140737488351232 ∧ ∀ l1' ∈ l1, ((Lit.int .i64 l1'.f0).wf = true) ∧ ((Lit.int .i64 l1'.f1).wf = true) ∧ ((Lit.int .i64 l1'.f2).wf = true) ∧ ((Lit.int .i64 l1'.f3).wf = true)) → ((Lit.int .i64 a2_0).wf = true) → ((Lit.int .i64 a2_1).wf = true) → (l3.length ≤ maxLen ∧ l3.length * 8 ≤ 140737488351232 ∧ ∀ l3' ∈ l3, (Lit.int .i64 l3').wf = true) → ∃ k, laws_FnExactTakeBars.f k l0 l1 a2_0 a2_1 l3 = some true := by
  intro a c b u s ha hc _ _ hs
  have hma : a.length ≤ 9223372036854775807 := ha.1
  have hmc : c.length ≤ 9223372036854775807 := hc.1
  refine Ev.rounds (g := fun k => laws_FnExactTakeBars.f k a c b u s) ?_
  by_cases h0 : (s.length : Int) > 1048576
  · simp only [laws_FnExactTakeBars.f, h0, if_true]
    exact Ev.now true
  simp only [laws_FnExactTakeBars.f, h0, if_false, szEventS_ev a 1048576 (by omega) (by omega) hma, Option.bind_some, laws_toMeter.f]
  by_cases h1 : (1048576 : Int) < (a.length : Int)
  · simp only [h1, if_true]
    exact Ev.now true
  · have h1' : ¬ (1048576 - (a.length : Int) < 0) := by omega
    simp only [h1, h1', if_false]
    simp only [szEventS_ev c (1048576 - (a.length : Int)) (by omega) (by omega) hmc, Option.bind_some]
    by_cases h2 : 1048576 - (a.length : Int) < (c.length : Int)
    · simp only [h2, if_true]
      exact Ev.now true
    · have h2' : ¬ (1048576 - (a.length : Int) - (c.length : Int) < 0) := by omega
      simp only [h2, h2', if_false]
      have hneg : ∀ q : Nat, ¬ ((q : Int) < 0) := fun q => by omega
      have ta := toEventS_ev a (by omega)
      have tc := toEventS_ev c (by omega)
      have ts := toIntS_ev s (by omega)
      have ea := eqEventS_ev (a.map cvEvent) (by simp; omega)
      have ec := eqEventS_ev (c.map cvEvent) (by simp; omega)
      have es := eqIntS_ev s (by omega)
      have hs1 := spec_take (a.map cvEvent) (c.map cvEvent) b u s (by simp; omega) (by simp; omega) (by omega)
      have hi := impl_take (a.map cvEvent) (c.map cvEvent) b u s (by simp; omega) (by simp; omega) (by omega)
      have hlen := takeR_len (a.map cvEvent) (c.map cvEvent) b u s (by simp; omega)
      generalize takeR (a.map cvEvent) (c.map cvEvent) b u s = R at hs1 hi hlen
      have hr := eqEventS_ev R.1 (by omega)
      have hmr := markEventS_ev R.1 (by omega)
      have hhe := heldEventS_ev R.1.length (by omega)
      obtain ⟨m1, hm1⟩ := markEvent_any (a.map cvEvent).length 0 1 (a.map cvEvent) (by omega) (by simp; omega) (by simp; omega)
      obtain ⟨m2, hm2⟩ := markEvent_any (c.map cvEvent).length 0 (1 + 4 * (a.map cvEvent).length) (c.map cvEvent) (by omega) (by simp; omega) (by simp; omega)
      obtain ⟨m3, hm3⟩ := markInt_any s.length 0 (1 + 4 * (a.map cvEvent).length + 4 * (c.map cvEvent).length) s (by omega) (by omega) (by simp; omega)
      refine Ev.bind ta ?_
      refine Ev.bind tc ?_
      refine Ev.bind ts ?_
      refine Ev.bind hs1 ?_
      refine Ev.bind ta ?_
      refine Ev.bind tc ?_
      refine Ev.bind ts ?_
      refine Ev.bind hi ?_
      refine Ev.bind hr ?_
      simp only [if_true, bne_self_eq_false]
      refine Ev.step (fun k => by simp only [laws_FnExactTakeBars.j0, Bool.false_eq_true, if_false]; rfl) ?_
      refine Ev.bind ta ?_
      refine Ev.bind ea ?_
      simp only [if_true]
      refine Ev.bind tc ?_
      refine Ev.bind ec ?_
      simp only [if_true]
      refine Ev.bind ts ?_
      refine Ev.bind es ?_
      simp only [if_true]
      refine Ev.bind (g := fun k => laws_markEventS.f k (a.map cvEvent) 1) hm1 ?_
      refine Ev.bind (g := fun k => laws_markEventS.f k (c.map cvEvent) ((1 + 4 * (a.map cvEvent).length : Nat) : Int)) hm2 ?_
      refine Ev.bind (g := fun k => laws_markIntS.f k s ((1 + 4 * (a.map cvEvent).length + 4 * (c.map cvEvent).length : Nat) : Int)) hm3 ?_
      simp only [hneg, if_false]
      refine Ev.bind hr ?_
      simp only [if_true, bne_self_eq_false]
      refine Ev.step (fun k => by simp only [laws_FnExactTakeBars.j1, Bool.false_eq_true, if_false]; rfl) ?_
      refine Ev.bind hmr ?_
      refine Ev.bind hhe ?_
      simp only [hneg, if_false, if_true]
      refine Ev.bind ta ?_
      refine Ev.bind tc ?_
      simp only [laws_toMeter.f, Option.bind_some]
      refine Ev.bind ts ?_
      refine Ev.bind hi ?_
      refine Ev.bind hr ?_
      simp only [if_true, bne_self_eq_false]
      refine Ev.step (fun k => by simp only [laws_FnExactTakeBars.j2, Bool.false_eq_true, if_false]; rfl) ?_
      refine Ev.bind hhe ?_
      simp only [hneg, if_false, if_true]
      exact Ev.now true

end Go.Proofs.Ytoihniinekiknaa.Pure
