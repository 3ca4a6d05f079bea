/- The plain statement of the law FnExactJoinParts: what its printed function answers; no conditions but that the numbers are Go's ints and the slices no longer than memory. -/
import Derived.Test.YtoebmmbpfapgaaaQFnExactJoinPartsx12
set_option linter.unusedVariables false
set_option linter.unusedSimpArgs false
namespace Go.Proofs.Ytoebmmbpfapgaaa.Pure
open Go.RowKit Go.Proofs.Ytoebmmbpfapgaaa.QFnExactJoinParts Go.Proofs.YtoebmmbpfapgaaaW.PrintWords Go.Proofs.YtoebmmbpfapgaaaW.PrintLast Go.Proofs.YtoebmmbpfapgaaaW.PrintMore

theorem wf64 {x : Int} (h : (Lit.int .i64 x).wf = true) : -9223372036854775808 ≤ x ∧ x ≤ 9223372036854775807 := by
  simp only [Lit.wf, IntKind.min, IntKind.max, IntKind.signed, IntKind.bits, Bool.and_eq_true, decide_eq_true_eq, if_true] at h
  omega

theorem w64 {x : Int} (h1 : -9223372036854775808 ≤ x) (h2 : x ≤ 9223372036854775807) : wrap64 x = x := by
  unfold wrap64
  omega

theorem w64_nat (i : Nat) (h : i ≤ 9223372036854775806) : wrap64 ((i : Int) + 1) = ((i + 1 : Nat) : Int) := by
  unfold wrap64
  omega

theorem drop_cons {α : Type} (l : List α) (i : Nat) (h : i < l.length) : l.drop i = l[i] :: l.drop (i + 1) := List.drop_eq_getElem_cons h

theorem set_take {β : Type} (x : List β) (i : Nat) (v : β) (h : i < x.length) : (x.set i v).take (i + 1) = x.take i ++ [v] := by
  apply List.ext_getElem?
  intro j
  rcases Nat.lt_trichotomy j i with hj | hj | hj
  · rw [List.getElem?_take_of_lt (by omega), List.getElem?_set_ne (by omega), List.getElem?_append_left (by simp; omega), List.getElem?_take_of_lt (by omega)]
  · subst hj
    rw [List.getElem?_take_of_lt (by omega), List.getElem?_set_self (by omega), List.getElem?_append_right (by simp; omega)]
    simp [Nat.min_eq_left (Nat.le_of_lt h)]
  · rw [List.getElem?_take_eq_none (by omega), List.getElem?_append_right (by simp; omega)]
    simp
    omega

theorem copyLoop {α β : Type} (F : Nat → List β → Int → Option (List β)) (x0 : List α) (cv : α → β)
    (h1 : ∀ (x3 : List β) (i : Nat) (r : List β) (hi : i < x0.length), x3.length = x0.length → Ev (fun k => F k (x3.set i (cv x0[i])) ((i + 1 : Nat) : Int)) r → Ev (fun k => F k x3 (i : Int)) r)
    (h2 : ∀ x3 : List β, Ev (fun k => F k x3 (x0.length : Int)) x3) (init : List β) (hl : init.length = x0.length) : Ev (fun k => F k init 0) (x0.map cv) := by
  have key : ∀ (d i : Nat) (x3 : List β), i + d = x0.length → x3.length = x0.length → x3.take i = (x0.map cv).take i → Ev (fun k => F k x3 (i : Int)) (x0.map cv) := by
    intro d
    induction d with
    | zero =>
      intro i x3 hi hx ht
      obtain rfl : i = x0.length := by omega
      have e : x3 = x0.map cv := by
        rw [← hx, List.take_length] at ht
        rw [ht, hx]
        exact List.take_of_length_le (by simp)
      have := h2 x3
      rw [e] at this
      rw [e]
      exact this
    | succ d ih =>
      intro i x3 hi hx ht
      have hlt : i < x0.length := by omega
      refine h1 x3 i _ hlt hx (ih (i + 1) _ (by omega) (by rw [List.length_set]; exact hx) ?_)
      rw [set_take x3 i _ (by omega), ht]
      rw [List.take_succ_eq_append_getElem (by simpa using hlt)]
      simp
  have := key x0.length 0 init (by omega) hl (by simp)
  exact this

theorem eqLoop {α : Type} (F : Nat → Int → Option Bool) (x0 : List α)
    (h1 : ∀ (i : Nat) (r : Bool) (_ : i < x0.length), Ev (fun k => F k ((i + 1 : Nat) : Int)) r → Ev (fun k => F k (i : Int)) r)
    (h2 : Ev (fun k => F k (x0.length : Int)) true) : Ev (fun k => F k 0) true := by
  have key : ∀ (d i : Nat), i + d = x0.length → Ev (fun k => F k (i : Int)) true := by
    intro d
    induction d with
    | zero =>
      intro i hi
      obtain rfl : i = x0.length := by omega
      exact h2
    | succ d ih =>
      intro i hi
      exact h1 i true (by omega) (ih (i + 1) (by omega))
  exact key x0.length 0 (by omega)

theorem ite_eq_of {α : Type} {p : Prop} [Decidable p] {a b : α} (h : p) : (if p then a else b) = a := if_pos h

theorem Ev.one {α : Type} {g : Nat → Option α} {r : α} (h : ∀ k, g (k + 1) = some r) : Ev g r := Ev.step (f := fun _ => some r) h (Ev.now r)

theorem rdEvent_get (l : List S56) (i : Nat) (h : i < l.length) : rd_T56 l (i : Int) = l[i] := by
  simp [rd_T56, List.getD, List.getElem?_eq_getElem h]

def evOk (x : S56) : Bool := decide ((0 ≤ x.f0 ∧ x.f0 ≤ 2000) ∧ (1 ≤ x.f1 ∧ x.f1 ≤ 96) ∧ (21 ≤ x.f2 ∧ x.f2 ≤ 108) ∧ (1 ≤ x.f3 ∧ x.f3 ≤ 4))
/-- By tick, voice and pitch. -/
def evLt (a b : S56) : Bool := if a.f0 = b.f0 then (if a.f3 = b.f3 then decide (a.f2 < b.f2) else decide (a.f3 < b.f3)) else decide (a.f0 < b.f0)
def evNext (p : Option S56) (x : S56) : Bool := match p with
  | none => true
  | some y => evLt y x
def scL : Option S56 → List S56 → Bool
  | _, [] => true
  | p, x :: l => (evOk x && evNext p x) && scL (some x) l
def isScore (l : List S56) : Bool := scL none l && decide (l.length ≤ 40)

theorem isScore_iff {l : List S56} (h : isScore l = true) : scL none l = true ∧ l.length ≤ 40 := by
  simpa [isScore] using h

theorem scL_ok (l : List S56) : ∀ p, scL p l = true → ∀ x ∈ l, evOk x = true := by
  induction l with
  | nil => intro p _ x hx; simp at hx
  | cons y l ih =>
    intro p h x hx
    simp only [scL, Bool.and_eq_true] at h
    rcases List.mem_cons.1 hx with rfl | hx
    · exact h.1.1
    · exact ih _ h.2 x hx

theorem isScore_at {l : List S56} (h : isScore l = true) (x : S56) (hx : x ∈ l) : (0 ≤ x.f0 ∧ x.f0 ≤ 2000) ∧ (1 ≤ x.f1 ∧ x.f1 ≤ 96) ∧ (21 ≤ x.f2 ∧ x.f2 ≤ 108) ∧ (1 ≤ x.f3 ∧ x.f3 ≤ 4) := by
  have := scL_ok l none (isScore_iff h).1 x hx
  simpa only [evOk, decide_eq_true_eq] using this

/-- Weakly sorted. -/
def leE (x y : S56) : Prop := evLt y x = false
def putE (e : S56) : List S56 → List S56
  | [] => [e]
  | y :: r => if evLt y e = true then y :: putE e r else e :: y :: r
theorem evLt_trans {a b c : S56} (h1 : evLt a b = true) (h2 : evLt b c = true) : evLt a c = true := by
  unfold evLt at *
  repeat' split at h1
  all_goals (repeat' split at h2)
  all_goals (repeat' split)
  all_goals (simp at * <;> omega)
theorem evLt_irrefl (a : S56) : evLt a a = false := by simp [evLt]
theorem leE_trans {a b c : S56} (h1 : leE a b) (h2 : leE b c) : leE a c := by
  unfold leE evLt at *
  repeat' split at h1
  all_goals (repeat' split at h2)
  all_goals (repeat' split)
  all_goals (simp at * <;> omega)
theorem leE_of_lt {a b : S56} (h : evLt a b = true) : leE a b := by
  unfold leE
  cases c : evLt b a with
  | false => rfl
  | true =>
    have := evLt_trans h c
    rw [evLt_irrefl] at this
    cases this
theorem putE_perm (e : S56) (l : List S56) : (putE e l).Perm (e :: l) := by
  induction l with
  | nil => exact List.Perm.refl _
  | cons y r ih =>
    rw [putE]
    split
    · exact (List.Perm.cons y ih).trans (List.Perm.swap e y r)
    · exact List.Perm.refl _
theorem putE_weak (e : S56) (l : List S56) (h : l.Pairwise leE) : (putE e l).Pairwise leE := by
  induction l with
  | nil => simp [putE]
  | cons y r ih =>
    obtain ⟨h1, h2⟩ := List.pairwise_cons.1 h
    rw [putE]
    split
    · rename_i hy
      refine List.pairwise_cons.2 ⟨fun z hz => ?_, ih h2⟩
      rcases List.mem_cons.1 ((putE_perm e r).mem_iff.1 hz) with h3 | h3
      · rw [h3]
        exact leE_of_lt hy
      · exact h1 z h3
    · rename_i hy
      have hey : leE e y := by
        rw [Bool.not_eq_true] at hy
        exact hy
      refine List.pairwise_cons.2 ⟨fun z hz => ?_, h⟩
      rcases List.mem_cons.1 hz with h3 | h3
      · rw [h3]
        exact hey
      · exact leE_trans hey (h1 z h3)
theorem putE_len (e : S56) (l : List S56) : (putE e l).length = l.length + 1 := by
  have := (putE_perm e l).length_eq
  simpa using this
theorem scL_strict (l : List S56) : ∀ p, scL p l = true → l.Pairwise (fun a b => evLt a b = true) ∧ ∀ y, p = some y → ∀ x ∈ l, evLt y x = true := by
  induction l with
  | nil => intro p _; exact ⟨List.Pairwise.nil, fun y _ x hx => by simp at hx⟩
  | cons z r ih =>
    intro p h
    rw [scL, Bool.and_eq_true, Bool.and_eq_true] at h
    obtain ⟨⟨_, hz⟩, hr⟩ := h
    obtain ⟨i1, i2⟩ := ih _ hr
    refine ⟨List.pairwise_cons.2 ⟨fun x hx => i2 z rfl x hx, i1⟩, fun y hy x hx => ?_⟩
    subst hy
    have hyz : evLt y z = true := hz
    rcases List.mem_cons.1 hx with h3 | h3
    · rw [h3]
      exact hyz
    · exact evLt_trans hyz (i2 z rfl x h3)
/-- What is sorted strictly has no other sorted order. -/
theorem strict_uniq (a : List S56) : ∀ b : List S56, a.Pairwise (fun x y => evLt x y = true) → b.Pairwise leE → a.Perm b → a = b := by
  induction a with
  | nil => intro b _ _ h; exact h.nil_eq
  | cons x a ih =>
    intro b ha hb h
    obtain ⟨a1, a2⟩ := List.pairwise_cons.1 ha
    cases b with
    | nil => exact absurd h.length_eq (by simp)
    | cons y b =>
      obtain ⟨b1, b2⟩ := List.pairwise_cons.1 hb
      have hxy : x = y := by
        rcases List.mem_cons.1 (h.mem_iff.2 List.mem_cons_self) with h1 | h1
        · exact h1.symm
        · rcases List.mem_cons.1 (h.mem_iff.1 List.mem_cons_self) with h2 | h2
          · exact h2
          · have c1 := a1 y h1
            have c2 : evLt x y = false := b1 x h2
            rw [c1] at c2
            cases c2
      subst hxy
      rw [ih b a2 b2 (List.Perm.cons_inv h)]
theorem srt_weak (l : List S56) : (slices_SortFunc_at50.srt l).Pairwise leE := by
  refine (slices_SortFunc_at50.srt_sorted l).imp (fun {x y} h => ?_)
  unfold leE
  rw [← h]
  unfold evLt slices_SortFunc_at50.lt
  repeat' split
  all_goals (simp only [decide_eq_decide, eq_comm (a := false), decide_eq_false_iff_not] <;> (try refine decide_eq_decide.2 ?_) <;> omega)
/-- Sorted either way it is the same score, or none. -/
theorem srt_score (l p : List S56) (hp : p.Pairwise leE) (hq : p.Perm l) : isScore (slices_SortFunc_at50.srt l) = isScore p ∧ (isScore p = true → slices_SortFunc_at50.srt l = p) := by
  have hs := srt_weak l
  have hps := (slices_SortFunc_at50.srt_perm l).trans hq.symm
  by_cases h : isScore p = true
  · have e := strict_uniq p _ (scL_strict p none (isScore_iff h).1).1 hs hps.symm
    rw [← e]
    exact ⟨rfl, fun _ => rfl⟩
  · refine ⟨?_, fun h2 => absurd h2 h⟩
    by_cases h2 : isScore (slices_SortFunc_at50.srt l) = true
    · have e := strict_uniq _ p (scL_strict _ none (isScore_iff h2).1).1 hp hps
      rw [e] at h2
      exact absurd h2 h
    · rw [Bool.not_eq_true] at h h2
      rw [h, h2]


theorem l1In_eq (a b c : Int) : spec_l1In.f a b c = some (decide (b ≤ a ∧ a ≤ c)) := by
  unfold spec_l1In.f
  split <;> simp <;> omega
theorem spec_ok (a b c d : Int) : spec_l8Ok.f a b c d = some (evOk ⟨a, b, c, d⟩) := by
  simp only [spec_l8Ok.f, l1In_eq, Option.bind_some, decide_eq_true_eq, evOk]
  by_cases h0 : 0 ≤ a ∧ a ≤ 2000
  · by_cases h1 : 1 ≤ b ∧ b ≤ 96
    · by_cases h2 : 21 ≤ c ∧ c ≤ 108
      · simp only [h0, h1, h2, and_self, if_true, true_and]
      · simp only [h0, h1, h2, and_self, if_true, if_false, false_and, and_false, decide_false]
    · simp only [h0, h1, and_self, if_true, if_false, false_and, and_false, decide_false]
  · simp only [h0, if_false, false_and, decide_false]

theorem spec_before (a b : S56) : spec_l8Before.f a.f0 a.f1 a.f2 a.f3 b.f0 b.f1 b.f2 b.f3 = some (evLt a b) := by
  unfold spec_l8Before.f evLt
  repeat' split
  all_goals rfl

theorem spec_score_ev (l : List S56) (hl : l.length ≤ 1048576) (d : Nat) : ∀ (i : Nat) (p : Option S56), i + d = l.length → (i = 0 ∧ p = none ∨ ∃ h : i - 1 < l.length, 0 < i ∧ p = some l[i - 1]) →
    Ev (fun k => spec_IsScore.l0 k l (i : Int)) (scL p (l.drop i) && decide (l.length ≤ 40)) := by
  induction d with
  | zero =>
    intro i p hi hp
    rw [List.drop_of_length_le (by omega)]
    refine Ev.one (fun k => ?_)
    simp only [spec_IsScore.l0, scL, Bool.true_and]
    rw [if_neg (by omega)]
    refine congrArg some (decide_eq_decide.2 ?_)
    omega
  | succ d ih =>
    intro i p hi hp
    have hlt : i < l.length := by omega
    rw [drop_cons l i hlt]
    have next := ih (i + 1) (some l[i]) (by omega) (.inr ⟨by omega, by omega, rfl⟩)
    by_cases h0 : evOk l[i] = true
    · rcases hp with ⟨rfl, rfl⟩ | ⟨hi1, hpos, rfl⟩
      · refine Ev.step (f := fun k => spec_IsScore.l0 k l ((0 + 1 : Nat) : Int)) (fun k => ?_) ?_
        · simp only [spec_IsScore.l0, spec_ok, Option.bind_some]
          rw [if_pos (by omega), if_pos (by omega), rdEvent_get l 0 hlt, if_pos h0, if_neg (by omega), w64_nat 0 (by omega)]
        · rw [scL, h0, evNext, Bool.true_and, Bool.true_and]
          exact next
      · have hw : wrap64 ((i : Int) - 1) = ((i - 1 : Nat) : Int) := by unfold wrap64; omega
        by_cases h2 : evLt l[i - 1] l[i] = true
        · rw [scL, h0, evNext, h2, Bool.true_and, Bool.true_and]
          refine Ev.step (fun k => ?_) next
          simp only [spec_IsScore.l0, spec_ok, Option.bind_some]
          rw [if_pos (by omega), if_pos (by omega), rdEvent_get l i hlt, if_pos h0, if_pos (by omega), hw, if_pos (by omega), if_pos (by omega), rdEvent_get l (i - 1) hi1, spec_before, Option.bind_some, if_pos h2, w64_nat i (by omega)]
        · rw [Bool.not_eq_true] at h2
          rw [scL, h0, evNext, h2, Bool.and_false, Bool.false_and, Bool.false_and]
          refine Ev.one (fun k => ?_)
          simp only [spec_IsScore.l0, spec_ok, Option.bind_some]
          rw [if_pos (by omega), if_pos (by omega), rdEvent_get l i hlt, if_pos h0, if_pos (by omega), hw, if_pos (by omega), if_pos (by omega), rdEvent_get l (i - 1) hi1, spec_before, Option.bind_some, h2]
          rfl
    · have h0' := h0
      rw [Bool.not_eq_true] at h0'
      rw [scL, h0', Bool.false_and, Bool.false_and, Bool.false_and]
      refine Ev.one (fun k => ?_)
      simp only [spec_IsScore.l0, spec_ok, Option.bind_some]
      rw [if_pos (by omega), if_pos (by omega), rdEvent_get l i hlt, if_neg h0]

theorem spec_score (l : List S56) (hl : l.length ≤ 1048576) : Ev (fun k => spec_IsScore.f k l) (isScore l) := spec_score_ev l hl l.length 0 none (by omega) (.inl ⟨rfl, rfl⟩)
theorem spec_put_loop (l : List S56) (e : S56) (hl : l.length ≤ 2097152) (d : Nat) : ∀ i : Nat, i + d = l.length → Ev (fun k => spec_l8Put.l0 k l (i : Int) e.f0 e.f1 e.f2 e.f3) (l.take i ++ putE e (l.drop i)) := by
  induction d with
  | zero =>
    intro i hi
    have t1 : (l.take i).length ≤ l.length := by simp; omega
    have t2 : (l.drop i).length ≤ l.length := by simp
    rw [List.drop_of_length_le (by omega)]
    refine Ev.one (fun k => ?_)
    simp only [spec_l8Put.l0, Option.bind_some, Int.toNat_natCast, List.length_nil, List.nil_append, List.length_append, List.length_cons]
    rw [if_neg (by omega), if_pos (by omega), if_pos (by omega), if_pos (by omega), if_pos (by omega), if_pos (by omega), List.drop_of_length_le (by omega)]
    simp [putE]
  | succ d ih =>
    intro i hi
    have hlt : i < l.length := by omega
    have t1 : (l.take i).length ≤ l.length := by simp; omega
    have t2 : (l.drop i).length ≤ l.length := by simp
    rw [drop_cons l i hlt, putE]
    by_cases h1 : evLt l[i] e = true
    · rw [if_pos h1]
      refine Ev.step (fun k => ?_) (by rw [show l.take i ++ l[i] :: putE e (l.drop (i + 1)) = l.take (i + 1) ++ putE e (l.drop (i + 1)) by rw [List.take_succ_eq_append_getElem hlt, List.append_assoc]; rfl]; exact ih (i + 1) (by omega))
      simp only [spec_l8Put.l0]
      rw [if_pos (by omega), if_pos (by omega), rdEvent_get l i hlt, spec_before, Option.bind_some, if_pos h1, w64_nat i (by omega)]
    · rw [if_neg h1]
      refine Ev.one (fun k => ?_)
      simp only [spec_l8Put.l0, Option.bind_some, Int.toNat_natCast, List.length_nil, List.nil_append, List.length_append, List.length_cons]
      rw [if_pos (by omega), if_pos (by omega), rdEvent_get l i hlt, spec_before, Option.bind_some, if_neg h1, if_pos (by omega), if_pos (by omega), if_pos (by omega), if_pos (by omega), ← drop_cons l i hlt]
      simp

theorem spec_put (l : List S56) (e : S56) (hl : l.length ≤ 2097152) : Ev (fun k => spec_l8Put.f k l e.f0 e.f1 e.f2 e.f3) (putE e l) := by
  have := spec_put_loop l e hl l.length 0 (by omega)
  rw [List.take_zero, List.nil_append, List.drop_zero] at this
  exact this

theorem inRange_eq (a b c : Int) : impl_InRange.f a b c = some (decide (b ≤ a ∧ a ≤ c)) := by
  unfold impl_InRange.f
  split <;> simp <;> omega

theorem rd_get (l : List Int) (i : Nat) (h : i < l.length) : rd l (i : Int) = l[i] := by
  simp [rd, List.getD, List.getElem?_eq_getElem h]

def cmp3 (a b : Int) : Int := if a < b then -1 else if a > b then 1 else 0

theorem compare_eq (a b : Int) : cmp_Compare_int.f a b = some (cmp3 a b) := by
  have h : ∀ x : Int, (x != x) = false := fun x => by simp
  simp only [cmp_Compare_int.f, cmp_isNaN_int.f, Option.bind_some, h, cmp3]
  simp only [Bool.false_eq_true, if_false]
  split
  · rfl
  · split <;> rfl

theorem or_step (l : List Int) (i : Nat) (r : Int) (hl : l.length ≤ 1048576) (hi : i < l.length) (h : l[i] = 0) (he : Ev (fun k => cmp_Or_int.l0 k 0 l (l.length : Int) ((i + 1 : Nat) : Int)) r) : Ev (fun k => cmp_Or_int.l0 k 0 l (l.length : Int) (i : Int)) r := by
  refine Ev.step (fun k => ?_) he
  simp only [cmp_Or_int.l0]
  rw [if_pos (by omega), if_pos (by omega), if_pos (by omega), rd_get l i hi, if_pos h, w64_nat i (by omega)]

theorem or_hit (l : List Int) (i : Nat) (hi : i < l.length) (h : ¬ l[i] = 0) : Ev (fun k => cmp_Or_int.l0 k 0 l (l.length : Int) (i : Int)) l[i] := by
  refine Ev.one (fun k => ?_)
  simp only [cmp_Or_int.l0]
  rw [if_pos (by omega), if_pos (by omega), if_pos (by omega), rd_get l i hi, if_neg h]

theorem or_end (l : List Int) : Ev (fun k => cmp_Or_int.l0 k 0 l (l.length : Int) ((l.length : Nat) : Int)) 0 := by
  refine Ev.one (fun k => ?_)
  simp only [cmp_Or_int.l0]
  rw [if_neg (by omega)]

theorem or2_ev (a b : Int) : Ev (fun k => cmp_Or_int.f k [a, b]) (if a = 0 then b else a) := by
  show Ev (fun k => cmp_Or_int.l0 k 0 [a, b] (([a, b] : List Int).length : Int) ((0 : Nat) : Int)) _
  by_cases ha : a = 0
  · rw [if_pos ha]
    refine or_step [a, b] 0 b (by simp) (by simp) ha ?_
    by_cases hb : b = 0
    · rw [hb]
      exact or_step [a, 0] 1 0 (by simp) (by simp) rfl (or_end _)
    · exact or_hit [a, b] 1 (by simp) hb
  · rw [if_neg ha]
    exact or_hit [a, b] 0 (by simp) ha

theorem or3_ev (a b c : Int) : Ev (fun k => cmp_Or_int.f k [a, b, c]) (if a = 0 then (if b = 0 then c else b) else a) := by
  show Ev (fun k => cmp_Or_int.l0 k 0 [a, b, c] (([a, b, c] : List Int).length : Int) ((0 : Nat) : Int)) _
  by_cases ha : a = 0
  · rw [if_pos ha]
    refine or_step [a, b, c] 0 _ (by simp) (by simp) ha ?_
    by_cases hb : b = 0
    · rw [if_pos hb]
      refine or_step [a, b, c] 1 _ (by simp) (by simp) hb ?_
      by_cases hc : c = 0
      · rw [hc]
        exact or_step [a, b, 0] 2 0 (by simp) (by simp) rfl (or_end _)
      · exact or_hit [a, b, c] 2 (by simp) hc
    · rw [if_neg hb]
      exact or_hit [a, b, c] 1 (by simp) hb
  · rw [if_neg ha]
    exact or_hit [a, b, c] 0 (by simp) ha

theorem impl_order (a b : S56) : Ev (fun k => impl_eventOrder.f k a.f0 a.f1 a.f2 a.f3 b.f0 b.f1 b.f2 b.f3) (if cmp3 a.f0 b.f0 = 0 then (if cmp3 a.f3 b.f3 = 0 then cmp3 a.f2 b.f2 else cmp3 a.f3 b.f3) else cmp3 a.f0 b.f0) := by
  simp only [impl_eventOrder.f, compare_eq, Option.bind_some]
  exact Ev.bind (or3_ev _ _ _) (Ev.now _)

theorem order_lt (a b : S56) : ((if cmp3 a.f0 b.f0 = 0 then (if cmp3 a.f3 b.f3 = 0 then cmp3 a.f2 b.f2 else cmp3 a.f3 b.f3) else cmp3 a.f0 b.f0) ≥ 0) ↔ ¬ evLt a b = true := by
  unfold cmp3 evLt
  repeat' split
  all_goals (simp <;> omega)

theorem impl_score_ev (l : List S56) (hl : l.length ≤ 1048576) (d : Nat) : ∀ (i : Nat) (p : Option S56), i + d = l.length → (i = 0 ∧ p = none ∨ ∃ h : i - 1 < l.length, 0 < i ∧ p = some l[i - 1]) →
    Ev (fun k => impl_IsScore.l0 k l l (l.length : Int) (i : Int)) (scL p (l.drop i) && decide (l.length ≤ 40)) := by
  induction d with
  | zero =>
    intro i p hi hp
    rw [List.drop_of_length_le (by omega)]
    refine Ev.one (fun k => ?_)
    simp only [impl_IsScore.l0, scL, Bool.true_and]
    rw [if_neg (by omega)]
    refine congrArg some (decide_eq_decide.2 ?_)
    omega
  | succ d ih =>
    intro i p hi hp
    have hlt : i < l.length := by omega
    rw [drop_cons l i hlt]
    have next := ih (i + 1) (some l[i]) (by omega) (.inr ⟨by omega, by omega, rfl⟩)
    by_cases h0 : evOk l[i] = true
    · have hx : (0 ≤ l[i].f0 ∧ l[i].f0 ≤ 2000) ∧ (1 ≤ l[i].f1 ∧ l[i].f1 ≤ 96) ∧ (21 ≤ l[i].f2 ∧ l[i].f2 ≤ 108) ∧ (1 ≤ l[i].f3 ∧ l[i].f3 ≤ 4) := by simpa only [evOk, decide_eq_true_eq] using h0
      rcases hp with ⟨rfl, rfl⟩ | ⟨hi1, hpos, rfl⟩
      · refine Ev.step (f := fun k => impl_IsScore.l0 k l l (l.length : Int) ((0 + 1 : Nat) : Int)) (fun k => ?_) ?_
        · simp only [impl_IsScore.l0, inRange_eq, Option.bind_some]
          rw [if_pos (by omega), if_pos (by omega), if_pos (by omega), rdEvent_get l 0 hlt, if_pos (decide_eq_true hx.1), if_pos (decide_eq_true hx.2.1), if_pos (decide_eq_true hx.2.2.1), if_pos (decide_eq_true hx.2.2.2), if_neg (by omega), w64_nat 0 (by omega)]
        · rw [scL, h0, evNext, Bool.true_and, Bool.true_and]
          exact next
      · have hw : wrap64 ((i : Int) - 1) = ((i - 1 : Nat) : Int) := by unfold wrap64; omega
        refine Ev.step (f := fun k => (impl_eventOrder.f k l[i - 1].f0 l[i - 1].f1 l[i - 1].f2 l[i - 1].f3 l[i].f0 l[i].f1 l[i].f2 l[i].f3).bind fun t => if t ≥ 0 then some false else impl_IsScore.l0 k l l (l.length : Int) ((i + 1 : Nat) : Int)) (fun k => ?_) ?_
        · simp only [impl_IsScore.l0, inRange_eq, Option.bind_some]
          rw [if_pos (by omega), if_pos (by omega), if_pos (by omega), rdEvent_get l i hlt, if_pos (decide_eq_true hx.1), if_pos (decide_eq_true hx.2.1), if_pos (decide_eq_true hx.2.2.1), if_pos (decide_eq_true hx.2.2.2), if_pos (by omega), hw, if_pos (by omega), if_pos (by omega), rdEvent_get l (i - 1) hi1, w64_nat i (by omega)]
        · refine Ev.bind (impl_order _ _) ?_
          by_cases h2 : evLt l[i - 1] l[i] = true
          · simp only [if_neg (fun h => (order_lt _ _).1 h h2)]
            rw [scL, h0, evNext, h2, Bool.true_and, Bool.true_and]
            exact next
          · simp only [if_pos ((order_lt _ _).2 h2)]
            rw [Bool.not_eq_true] at h2
            rw [scL, h0, evNext, h2, Bool.and_false, Bool.false_and, Bool.false_and]
            exact Ev.now _
    · have h0' := h0
      rw [Bool.not_eq_true] at h0'
      rw [scL, h0', Bool.false_and, Bool.false_and, Bool.false_and]
      have hx : ¬ ((0 ≤ l[i].f0 ∧ l[i].f0 ≤ 2000) ∧ (1 ≤ l[i].f1 ∧ l[i].f1 ≤ 96) ∧ (21 ≤ l[i].f2 ∧ l[i].f2 ≤ 108) ∧ (1 ≤ l[i].f3 ∧ l[i].f3 ≤ 4)) := by simpa only [evOk, decide_eq_true_eq] using h0
      refine Ev.one (fun k => ?_)
      simp only [impl_IsScore.l0, inRange_eq, Option.bind_some]
      rw [if_pos (by omega), if_pos (by omega), if_pos (by omega), rdEvent_get l i hlt]
      by_cases g0 : 0 ≤ l[i].f0 ∧ l[i].f0 ≤ 2000
      · rw [if_pos (decide_eq_true g0)]
        by_cases g1 : 1 ≤ l[i].f1 ∧ l[i].f1 ≤ 96
        · rw [if_pos (decide_eq_true g1)]
          by_cases g2 : 21 ≤ l[i].f2 ∧ l[i].f2 ≤ 108
          · rw [if_pos (decide_eq_true g2)]
            by_cases g3 : 1 ≤ l[i].f3 ∧ l[i].f3 ≤ 4
            · exact absurd ⟨g0, g1, g2, g3⟩ hx
            · rw [if_neg (by simpa using g3)]
          · rw [if_neg (by simpa using g2)]
        · rw [if_neg (by simpa using g1)]
      · rw [if_neg (by simpa using g0)]

theorem impl_score (l : List S56) (hl : l.length ≤ 1048576) : Ev (fun k => impl_IsScore.f k l) (isScore l) := impl_score_ev l hl l.length 0 none (by omega) (.inl ⟨rfl, rfl⟩)

theorem rdSign_get (l : List S82) (i : Nat) (h : i < l.length) : rd_T82 l (i : Int) = l[i] := by
  simp [rd_T82, List.getD, List.getElem?_eq_getElem h]

/-- A sign of a part that begins at tick a, behind a rest or not. -/
def signOk (a : Int) (r : Bool) (x : S82) : Bool := decide (x.f0 = a ∧ (1 ≤ x.f1 ∧ x.f1 ≤ 3000) ∧ (¬ x.f2 = 0 → (21 ≤ x.f2 ∧ x.f2 ≤ 108) ∧ x.f1 ≤ 96) ∧ ¬ (x.f2 = 0 ∧ r = true))

def partL : Int → Bool → List S82 → Bool
  | _, _, [] => true
  | a, r, x :: l => signOk a r x && partL (a + x.f1) (decide (x.f2 = 0)) l

theorem spec_part_ev (l : List S82) (hl : l.length ≤ 1048576) (d : Nat) : ∀ (i : Nat) (a : Int) (p : Bool), i + d = l.length → 0 ≤ a → a ≤ 3000 * i → (i = 0 ∧ p = false ∨ ∃ h : i - 1 < l.length, 0 < i ∧ p = decide ((l[i - 1]).f2 = 0)) →
    Ev (fun k => spec_IsPart.l0 k l a (i : Int)) (partL a p (l.drop i)) := by
  induction d with
  | zero =>
    intro i a p hi h0 h1 hp
    rw [List.drop_of_length_le (by omega)]
    refine Ev.one (fun k => ?_)
    simp only [spec_IsPart.l0, partL]
    rw [if_neg (by omega)]
  | succ d ih =>
    intro i a p hi h0 h1 hp
    have hlt : i < l.length := by omega
    rw [drop_cons l i hlt, partL]
    have hpi : i = 0 → p = false := by
      rintro rfl
      rcases hp with ⟨_, h⟩ | ⟨_, h, _⟩
      · exact h
      · omega
    have hpr : ∀ h : 0 < i, ∃ h2 : i - 1 < l.length, p = decide ((l[i - 1]).f2 = 0) := by
      intro h
      rcases hp with ⟨h3, _⟩ | ⟨h2, _, h3⟩
      · omega
      · exact ⟨h2, h3⟩
    by_cases hc : signOk a p l[i] = true
    · have hx : l[i].f0 = a ∧ (1 ≤ l[i].f1 ∧ l[i].f1 ≤ 3000) ∧ (¬ l[i].f2 = 0 → (21 ≤ l[i].f2 ∧ l[i].f2 ≤ 108) ∧ l[i].f1 ≤ 96) ∧ ¬ (l[i].f2 = 0 ∧ p = true) := by simpa only [signOk, decide_eq_true_eq] using hc
      rw [hc, Bool.true_and]
      refine Ev.step (fun k => ?_) (ih (i + 1) (a + l[i].f1) (decide (l[i].f2 = 0)) (by omega) (by omega) (by omega) (.inr ⟨by omega, by omega, rfl⟩))
      simp only [spec_IsPart.l0, l1In_eq, Option.bind_some]
      rw [if_pos (by omega), if_pos (by omega), rdSign_get l i hlt, if_pos hx.1, if_pos (decide_eq_true hx.2.1), w64 (x := a + l[i].f1) (by omega) (by omega), w64_nat i (by omega)]
      by_cases h2 : l[i].f2 = 0
      · rw [if_pos h2]
        by_cases hi0 : 0 < i
        · obtain ⟨hi1, hpe⟩ := hpr hi0
          have hw : wrap64 ((i : Int) - 1) = ((i - 1 : Nat) : Int) := by unfold wrap64; omega
          have hn : ¬ (l[i - 1]).f2 = 0 := by
            intro h3
            exact hx.2.2.2 ⟨h2, by rw [hpe]; exact decide_eq_true h3⟩
          rw [if_pos (by omega), hw, if_pos (by omega), if_pos (by omega), rdSign_get l (i - 1) hi1, if_neg hn]
        · rw [if_neg (by omega)]
      · have h3 := hx.2.2.1 h2
        rw [if_neg h2, if_pos (decide_eq_true h3.1), if_neg (by omega)]
        split <;> rfl
    · have hx : ¬ (l[i].f0 = a ∧ (1 ≤ l[i].f1 ∧ l[i].f1 ≤ 3000) ∧ (¬ l[i].f2 = 0 → (21 ≤ l[i].f2 ∧ l[i].f2 ≤ 108) ∧ l[i].f1 ≤ 96) ∧ ¬ (l[i].f2 = 0 ∧ p = true)) := by simpa only [signOk, decide_eq_true_eq] using hc
      rw [Bool.not_eq_true] at hc
      rw [hc, Bool.false_and]
      refine Ev.one (fun k => ?_)
      simp only [spec_IsPart.l0, l1In_eq, Option.bind_some]
      rw [if_pos (by omega), if_pos (by omega), rdSign_get l i hlt]
      by_cases h1' : l[i].f0 = a
      · rw [if_pos h1']
        by_cases h2 : 1 ≤ l[i].f1 ∧ l[i].f1 ≤ 3000
        · rw [if_pos (decide_eq_true h2)]
          by_cases h3 : l[i].f2 = 0
          · rw [if_pos h3]
            have hpt : p = true := by
              cases p with
              | true => rfl
              | false => exact absurd ⟨h1', h2, fun h => absurd h3 h, by simp⟩ hx
            have hi0 : 0 < i := by
              rcases Nat.eq_zero_or_pos i with h | h
              · rw [hpi h] at hpt
                cases hpt
              · exact h
            obtain ⟨hi1, hpe⟩ := hpr hi0
            have hw : wrap64 ((i : Int) - 1) = ((i - 1 : Nat) : Int) := by unfold wrap64; omega
            rw [if_pos (by omega), hw, if_pos (by omega), if_pos (by omega), rdSign_get l (i - 1) hi1, if_pos (by rw [hpe] at hpt; simpa using hpt)]
          · rw [if_neg h3]
            by_cases h4 : 21 ≤ l[i].f2 ∧ l[i].f2 ≤ 108
            · rw [if_pos (decide_eq_true h4)]
              by_cases h5 : l[i].f1 > 96
              · rw [if_pos h5]
              · exact absurd ⟨h1', h2, fun _ => ⟨h4, by omega⟩, fun h => h3 h.1⟩ hx
            · rw [if_neg (by simpa using h4)]
        · rw [if_neg (by simpa using h2)]
      · rw [if_neg h1']

theorem impl_part_ev (l : List S82) (hl : l.length ≤ 1048576) (d : Nat) : ∀ (i : Nat) (a : Int) (p : Bool), i + d = l.length → 0 ≤ a → a ≤ 3000 * i → (i = 0 ∧ p = false ∨ ∃ h : i - 1 < l.length, 0 < i ∧ p = decide ((l[i - 1]).f2 = 0)) →
    Ev (fun k => impl_IsPart.l0 k l a l (l.length : Int) (i : Int)) (partL a p (l.drop i)) := by
  induction d with
  | zero =>
    intro i a p hi h0 h1 hp
    rw [List.drop_of_length_le (by omega)]
    refine Ev.one (fun k => ?_)
    simp only [impl_IsPart.l0, partL]
    rw [if_neg (by omega)]
  | succ d ih =>
    intro i a p hi h0 h1 hp
    have hlt : i < l.length := by omega
    rw [drop_cons l i hlt, partL]
    have hpi : i = 0 → p = false := by
      rintro rfl
      rcases hp with ⟨_, h⟩ | ⟨_, h, _⟩
      · exact h
      · omega
    have hpr : ∀ h : 0 < i, ∃ h2 : i - 1 < l.length, p = decide ((l[i - 1]).f2 = 0) := by
      intro h
      rcases hp with ⟨h3, _⟩ | ⟨h2, _, h3⟩
      · omega
      · exact ⟨h2, h3⟩
    by_cases hc : signOk a p l[i] = true
    · have hx : l[i].f0 = a ∧ (1 ≤ l[i].f1 ∧ l[i].f1 ≤ 3000) ∧ (¬ l[i].f2 = 0 → (21 ≤ l[i].f2 ∧ l[i].f2 ≤ 108) ∧ l[i].f1 ≤ 96) ∧ ¬ (l[i].f2 = 0 ∧ p = true) := by simpa only [signOk, decide_eq_true_eq] using hc
      rw [hc, Bool.true_and]
      refine Ev.step (fun k => ?_) (ih (i + 1) (a + l[i].f1) (decide (l[i].f2 = 0)) (by omega) (by omega) (by omega) (.inr ⟨by omega, by omega, rfl⟩))
      simp only [impl_IsPart.l0, inRange_eq, Option.bind_some]
      rw [if_pos (by omega), if_pos (by omega), if_pos (by omega), rdSign_get l i hlt, if_pos hx.1, if_pos (decide_eq_true hx.2.1), w64 (x := a + l[i].f1) (by omega) (by omega), w64_nat i (by omega)]
      by_cases h2 : l[i].f2 = 0
      · rw [if_pos h2]
        by_cases hi0 : 0 < i
        · obtain ⟨hi1, hpe⟩ := hpr hi0
          have hw : wrap64 ((i : Int) - 1) = ((i - 1 : Nat) : Int) := by unfold wrap64; omega
          have hn : ¬ (l[i - 1]).f2 = 0 := by
            intro h3
            exact hx.2.2.2 ⟨h2, by rw [hpe]; exact decide_eq_true h3⟩
          rw [if_pos (by omega), hw, if_pos (by omega), if_pos (by omega), rdSign_get l (i - 1) hi1, if_neg hn]
        · rw [if_neg (by omega)]
      · have h3 := hx.2.2.1 h2
        rw [if_neg h2, if_pos (decide_eq_true h3.1), if_neg (by omega)]
    · have hx : ¬ (l[i].f0 = a ∧ (1 ≤ l[i].f1 ∧ l[i].f1 ≤ 3000) ∧ (¬ l[i].f2 = 0 → (21 ≤ l[i].f2 ∧ l[i].f2 ≤ 108) ∧ l[i].f1 ≤ 96) ∧ ¬ (l[i].f2 = 0 ∧ p = true)) := by simpa only [signOk, decide_eq_true_eq] using hc
      rw [Bool.not_eq_true] at hc
      rw [hc, Bool.false_and]
      refine Ev.one (fun k => ?_)
      simp only [impl_IsPart.l0, inRange_eq, Option.bind_some]
      rw [if_pos (by omega), if_pos (by omega), if_pos (by omega), rdSign_get l i hlt]
      by_cases h1' : l[i].f0 = a
      · rw [if_pos h1']
        by_cases h2 : 1 ≤ l[i].f1 ∧ l[i].f1 ≤ 3000
        · rw [if_pos (decide_eq_true h2)]
          by_cases h3 : l[i].f2 = 0
          · rw [if_pos h3]
            have hpt : p = true := by
              cases p with
              | true => rfl
              | false => exact absurd ⟨h1', h2, fun h => absurd h3 h, by simp⟩ hx
            have hi0 : 0 < i := by
              rcases Nat.eq_zero_or_pos i with h | h
              · rw [hpi h] at hpt
                cases hpt
              · exact h
            obtain ⟨hi1, hpe⟩ := hpr hi0
            have hw : wrap64 ((i : Int) - 1) = ((i - 1 : Nat) : Int) := by unfold wrap64; omega
            rw [if_pos (by omega), hw, if_pos (by omega), if_pos (by omega), rdSign_get l (i - 1) hi1, if_pos (by rw [hpe] at hpt; simpa using hpt)]
          · rw [if_neg h3]
            by_cases h4 : 21 ≤ l[i].f2 ∧ l[i].f2 ≤ 108
            · rw [if_pos (decide_eq_true h4)]
              by_cases h5 : l[i].f1 > 96
              · rw [if_pos h5]
              · exact absurd ⟨h1', h2, fun _ => ⟨h4, by omega⟩, fun h => h3 h.1⟩ hx
            · rw [if_neg (by simpa using h4)]
        · rw [if_neg (by simpa using h2)]
      · rw [if_neg h1']

def isPart (l : List S82) : Bool := partL 0 false l
theorem spec_part (l : List S82) (hl : l.length ≤ 1048576) : Ev (fun k => spec_IsPart.f k l) (isPart l) := spec_part_ev l hl l.length 0 0 false (by omega) (by omega) (by omega) (.inl ⟨rfl, rfl⟩)
theorem impl_part (l : List S82) (hl : l.length ≤ 1048576) : Ev (fun k => impl_IsPart.f k l) (isPart l) := impl_part_ev l hl l.length 0 0 false (by omega) (by omega) (by omega) (.inl ⟨rfl, rfl⟩)

theorem partL_at (l : List S82) : ∀ (a : Int) (p : Bool) (m : Nat), partL a p l = true → 0 ≤ a → a ≤ 3000 * m → ∀ (i : Nat) (h : i < l.length), 0 ≤ l[i].f0 ∧ l[i].f0 ≤ 3000 * (m + i) ∧ 1 ≤ l[i].f1 ∧ l[i].f1 ≤ 3000 := by
  induction l with
  | nil => intro a p m _ _ _ i h; simp at h
  | cons x l ih =>
    intro a p m h h0 h1 i hi
    simp only [partL, Bool.and_eq_true, signOk, decide_eq_true_eq] at h
    cases i with
    | zero => simp only [List.getElem_cons_zero]; omega
    | succ i =>
      have := ih _ _ (m + 1) h.2 (by omega) (by omega) i (by simpa using hi)
      simp only [List.getElem_cons_succ]
      omega

theorem rdlSign_get (l : List S86) (i : Nat) (h : i < l.length) : rd_T86 l (i : Int) = l[i] := by
  simp [rd_T86, List.getD, List.getElem?_eq_getElem h]

def cvSign (x : S86) : S82 := ⟨x.f0, x.f1, x.f2⟩

theorem toSignS_ev (l : List S86) (hl : l.length ≤ 1048576) : Ev (fun k => laws_toSignS.f k l) (l.map cvSign) := by
  have key := copyLoop (fun k x3 i => laws_toSignS.l0 k l x3 i) l cvSign (by
    intro x3 i r hi hx h
    refine Ev.step (fun k => ?_) h
    simp only [laws_toSignS.l0, laws_toSign.f, Option.bind_some]
    rw [if_pos (by omega), if_pos (by omega), if_pos (by omega), rdlSign_get l i hi, w64_nat i (by omega), Int.toNat_natCast]
    rfl) (by
    intro x3
    refine Ev.one (fun k => ?_)
    simp only [laws_toSignS.l0]
    rw [if_neg (by omega)]) (List.replicate l.length z82) (by simp)
  refine Ev.congr (fun k => ?_) key
  simp only [laws_toSignS.f, Int.toNat_natCast]
  rw [if_pos (by omega), if_pos (by omega)]

theorem eqSignS_ev (l : List S82) (hl : l.length ≤ 140737488355328) : Ev (fun k => laws_eqSignS.f k l l) true := by
  have key := eqLoop (fun k i => laws_eqSignS.l0 k l l i) l (by
    intro i r hi h
    refine Ev.step (fun k => ?_) h
    simp only [laws_eqSignS.l0, laws_eqSign.f, if_true, Option.bind_some]
    rw [if_pos (by omega), if_pos (by omega), if_pos (by omega), w64_nat i (by omega)]) (by
    refine Ev.one (fun k => ?_)
    simp only [laws_eqSignS.l0]
    rw [if_neg (by omega)])
  refine Ev.congr (fun k => ?_) key
  simp only [laws_eqSignS.f, if_true]

theorem szSignS_ev (l : List S86) (b : Int) (hb : 0 ≤ b) (hb2 : b ≤ 1048576) (h0 : l.length ≤ 9223372036854775807) : laws_szSignS.f l b = some (if b < (l.length : Int) then -1 else b - (l.length : Int)) := by
  simp only [laws_szSignS.f]
  rw [w64 (by omega) (by omega)]
  split
  · rw [if_pos (by omega)]
  · rw [if_neg (by omega)]

def sumLen {α : Type} : List (List α) → Nat
  | [] => 0
  | x :: l => x.length + sumLen l
theorem sumLen_mem {α : Type} (l : List (List α)) : ∀ x ∈ l, x.length ≤ sumLen l := by
  induction l with
  | nil => intro x h; simp at h
  | cons y l ih =>
    intro x h
    rw [sumLen]
    rcases List.mem_cons.1 h with rfl | h
    · omega
    · have := ih x h
      omega
theorem sumLen_map {α β : Type} (f : α → β) (l : List (List α)) : sumLen (l.map (List.map f)) = sumLen l := by
  induction l with
  | nil => rfl
  | cons y l ih => rw [List.map_cons, sumLen, sumLen, ih, List.length_map]
theorem rdLSign_get (l : List (List S82)) (i : Nat) (h : i < l.length) : rd_L2 l (i : Int) = l[i] := by
  simp [rd_L2, List.getD, List.getElem?_eq_getElem h]
theorem rdLlSign_get (l : List (List S86)) (i : Nat) (h : i < l.length) : rd_L6 l (i : Int) = l[i] := by
  simp [rd_L6, List.getD, List.getElem?_eq_getElem h]

theorem szSignSS_loop (l : List (List S86)) (hl : l.length ≤ 1048576) (hx : ∀ x ∈ l, x.length ≤ 9223372036854775807) (d : Nat) : ∀ (i : Nat) (b : Int), i + d = l.length → 0 ≤ b → b ≤ 1048576 →
    ∃ r, Ev (fun k => laws_szSignSS.l0 k l b (i : Int)) r ∧ (r < 0 ∨ 0 ≤ r ∧ r + (sumLen (l.drop i) : Int) = b) := by
  induction d with
  | zero =>
    intro i b hi h0 h1
    refine ⟨b, Ev.one (fun k => ?_), .inr ⟨h0, ?_⟩⟩
    · simp only [laws_szSignSS.l0]
      rw [if_neg (by omega)]
    · rw [List.drop_of_length_le (by omega), sumLen]
      omega
  | succ d ih =>
    intro i b hi h0 h1
    have hlt : i < l.length := by omega
    have hsz := szSignS_ev l[i] b h0 h1 (hx _ (List.getElem_mem hlt))
    rw [drop_cons l i hlt, sumLen]
    by_cases hc : b < (l[i].length : Int)
    · refine ⟨-1, Ev.one (fun k => ?_), .inl (by omega)⟩
      simp only [laws_szSignSS.l0]
      rw [if_pos (by omega), if_pos (by omega), rdLlSign_get l i hlt, hsz, if_pos hc]
      rfl
    · obtain ⟨r, hr, hor⟩ := ih (i + 1) (b - (l[i].length : Int)) (by omega) (by omega) (by omega)
      refine ⟨r, Ev.step (fun k => ?_) hr, ?_⟩
      · simp only [laws_szSignSS.l0]
        rw [if_pos (by omega), if_pos (by omega), rdLlSign_get l i hlt, hsz, if_neg hc]
        simp only [Option.bind_some]
        rw [if_neg (by omega), w64_nat i (by omega)]
      · rcases hor with h | ⟨h2, h3⟩
        · exact .inl h
        · exact .inr ⟨h2, by omega⟩

theorem szSignSS_ev (l : List (List S86)) (b : Int) (hb : 0 ≤ b) (hb2 : b ≤ 1048576) (h0 : l.length ≤ 9223372036854775807) (hx : ∀ x ∈ l, x.length ≤ 9223372036854775807) :
    ∃ r, Ev (fun k => laws_szSignSS.f k l b) r ∧ (r < 0 ∨ 0 ≤ r ∧ l.length ≤ 1048576 ∧ r + (sumLen l : Int) + (l.length : Int) = b) := by
  by_cases hc : b < (l.length : Int)
  · refine ⟨-1, Ev.one (fun k => ?_), .inl (by omega)⟩
    simp only [laws_szSignSS.f]
    rw [w64 (by omega) (by omega), if_pos (by omega)]
  · obtain ⟨r, hr, hor⟩ := szSignSS_loop l (by omega) hx l.length 0 (b - (l.length : Int)) (by omega) (by omega) (by omega)
    refine ⟨r, Ev.congr (fun k => ?_) hr, ?_⟩
    · simp only [laws_szSignSS.f]
      rw [w64 (by omega) (by omega), if_neg (by omega)]
      rfl
    · rw [List.drop_zero] at hor
      rcases hor with h | ⟨h2, h3⟩
      · exact .inl h
      · exact .inr ⟨h2, by omega, by omega⟩

def cvSignS (x : List S86) : List S82 := x.map cvSign
theorem toSignSS_ev (l : List (List S86)) (hl : l.length ≤ 1048576) (hx : ∀ x ∈ l, x.length ≤ 1048576) : Ev (fun k => laws_toSignSS.f k l) (l.map cvSignS) := by
  have key := copyLoop (fun k x3 i => laws_toSignSS.l0 k l x3 i) l cvSignS (by
    intro x3 i r hi hx3 h
    refine Ev.step (f := fun k => (laws_toSignS.f k l[i]).bind fun t => laws_toSignSS.l0 k l (x3.set i t) ((i + 1 : Nat) : Int)) (fun k => ?_) ?_
    · have hc : (i : Int) < (x3.length : Int) := by omega
      simp only [laws_toSignSS.l0, hc, if_true, Int.toNat_natCast]
      rw [if_pos (by omega), if_pos (by omega), rdLlSign_get l i hi, w64_nat i (by omega)]
    · exact Ev.bind (toSignS_ev l[i] (by have := hx _ (List.getElem_mem hi); omega)) h) (by
    intro x3
    refine Ev.one (fun k => ?_)
    simp only [laws_toSignSS.l0]
    rw [if_neg (by omega)]) (List.replicate l.length []) (by simp)
  refine Ev.congr (fun k => ?_) key
  simp only [laws_toSignSS.f, Int.toNat_natCast]
  rw [if_pos (by omega), if_pos (by omega)]

theorem eqSignSS_ev (l : List (List S82)) (hl : l.length ≤ 1048576) (hx : ∀ x ∈ l, x.length ≤ 1048576) : Ev (fun k => laws_eqSignSS.f k l l) true := by
  have key := eqLoop (fun k i => laws_eqSignSS.l0 k l l i) l (by
    intro i r hi h
    refine Ev.step (f := fun k => (laws_eqSignS.f k l[i] l[i]).bind fun t => if t = true then laws_eqSignSS.l0 k l l ((i + 1 : Nat) : Int) else some false) (fun k => ?_) ?_
    · simp only [laws_eqSignSS.l0]
      rw [if_pos (by omega), if_pos (by omega), if_pos (by omega), rdLSign_get l i hi, w64_nat i (by omega)]
    · refine Ev.bind (eqSignS_ev l[i] (by have := hx _ (List.getElem_mem hi); omega)) ?_
      simp only [if_true]
      exact h) (by
    refine Ev.one (fun k => ?_)
    simp only [laws_eqSignSS.l0]
    rw [if_neg (by omega)])
  refine Ev.congr (fun k => ?_) key
  simp only [laws_eqSignSS.f, if_true]

def evsOf (v : Int) (p : List S82) : List S56 := (p.filter (fun s => decide (¬ s.f2 = 0))).map (fun s => ⟨s.f0, s.f1, s.f2, v⟩)
theorem evsOf_rest (v : Int) (x : S82) (l : List S82) (h : x.f2 = 0) : evsOf v (x :: l) = evsOf v l := by simp [evsOf, h]
theorem evsOf_note (v : Int) (x : S82) (l : List S82) (h : ¬ x.f2 = 0) : evsOf v (x :: l) = ⟨x.f0, x.f1, x.f2, v⟩ :: evsOf v l := by simp [evsOf, h]
def joinL : Nat → List (List S82) → List S56
  | _, [] => []
  | i, p :: l => evsOf ((i + 1 : Nat) : Int) p ++ joinL (i + 1) l
def putAll (o l : List S56) : List S56 := l.foldl (fun o e => putE e o) o
theorem putAll_perm (l : List S56) : ∀ o, (putAll o l).Perm (o ++ l) := by
  induction l with
  | nil => intro o; simp [putAll]
  | cons x l ih =>
    intro o
    refine (ih (putE x o)).trans ?_
    refine ((putE_perm x o).append_right l).trans ?_
    exact List.perm_middle.symm
theorem putAll_weak (l : List S56) : ∀ o, o.Pairwise leE → (putAll o l).Pairwise leE := by
  induction l with
  | nil => intro o h; exact h
  | cons x l ih => intro o h; exact ih _ (putE_weak x o h)
theorem putAll_len (o l : List S56) : (putAll o l).length = o.length + l.length := by
  have := (putAll_perm l o).length_eq
  simpa using this
theorem evsOf_len (v : Int) (p : List S82) : (evsOf v p).length ≤ p.length := by
  rw [evsOf, List.length_map]
  exact List.length_filter_le _ _
def finJ (P : List S56) : List S56 × Bool := if isScore P = true then (P, true) else ([], false)
def joinR (l : List (List S82)) : List S56 × Bool := if l.length ≤ 4 ∧ l.all isPart = true then finJ (putAll [] (joinL 0 l)) else ([], false)

theorem impl_evs_loop (p : List S82) (v : Int) (hp : p.length ≤ 1048576) (d : Nat) : ∀ (i : Nat) (o : List S56), i + d = p.length → o.length ≤ i → Ev (fun k => impl_EventsOf.l0 k v o p (p.length : Int) (i : Int)) (o ++ evsOf v (p.drop i)) := by
  induction d with
  | zero =>
    intro i o hi ho
    rw [List.drop_of_length_le (by omega)]
    refine Ev.one (fun k => ?_)
    simp only [impl_EventsOf.l0]
    rw [if_neg (by omega)]
    simp [evsOf]
  | succ d ih =>
    intro i o hi ho
    have hlt : i < p.length := by omega
    rw [drop_cons p i hlt]
    by_cases h : p[i].f2 = 0
    · have e : evsOf v (p[i] :: p.drop (i + 1)) = evsOf v (p.drop (i + 1)) := evsOf_rest v _ _ h
      rw [e]
      refine Ev.step (fun k => ?_) (ih (i + 1) o (by omega) (by omega))
      simp only [impl_EventsOf.l0]
      rw [if_pos (by omega), if_pos (by omega), if_pos (by omega), rdSign_get p i hlt, if_pos h, w64_nat i (by omega)]
    · have e : evsOf v (p[i] :: p.drop (i + 1)) = ⟨p[i].f0, p[i].f1, p[i].f2, v⟩ :: evsOf v (p.drop (i + 1)) := evsOf_note v _ _ h
      rw [e]
      have := ih (i + 1) (o ++ [⟨p[i].f0, p[i].f1, p[i].f2, v⟩]) (by omega) (by simp; omega)
      rw [List.append_assoc, List.singleton_append] at this
      refine Ev.step (fun k => ?_) this
      simp only [impl_EventsOf.l0]
      rw [if_pos (by omega), if_pos (by omega), if_pos (by omega), rdSign_get p i hlt, if_neg h, if_pos (by omega), w64_nat i (by omega)]

theorem impl_evs (p : List S82) (v : Int) (hp : p.length ≤ 1048576) (hP : isPart p = true) : Ev (fun k => impl_EventsOf.f k p v) (evsOf v p) := by
  have h1 := impl_part p hp
  rw [hP] at h1
  simp only [impl_EventsOf.f, Option.bind_some]
  refine Ev.bind h1 ?_
  simp only [if_true]
  have := impl_evs_loop p v hp p.length 0 [] (by omega) (by simp)
  rw [List.drop_zero, List.nil_append] at this
  exact this

theorem spec_evs_loop (p : List S82) (v : Int) (hp : p.length ≤ 1048576) (hP : isPart p = true) (d : Nat) : ∀ (i : Nat) (o : List S56), i + d = p.length → o.length ≤ i → Ev (fun k => spec_EventsOf.l0 k p v o (i : Int)) (o ++ evsOf v (p.drop i)) := by
  have hpt := spec_part p hp
  rw [hP] at hpt
  induction d with
  | zero =>
    intro i o hi ho
    rw [List.drop_of_length_le (by omega)]
    refine Ev.step (f := fun k => spec_EventsOf.j1 k p v o (i : Int) false) (fun k => ?_) (Ev.one (fun k => ?_))
    · simp only [spec_EventsOf.l0]
      rw [if_neg (by omega)]
    · simp only [spec_EventsOf.j1, Bool.false_eq_true, if_false]
      simp [evsOf]
  | succ d ih =>
    intro i o hi ho
    have hlt : i < p.length := by omega
    rw [drop_cons p i hlt]
    refine Ev.step (f := fun k => (spec_IsPart.f k p).bind fun t => spec_EventsOf.j1 k p v o (i : Int) t) (fun k => ?_) (Ev.bind hpt ?_)
    · simp only [spec_EventsOf.l0]
      rw [if_pos (by omega)]
    · by_cases h : p[i].f2 = 0
      · have e : evsOf v (p[i] :: p.drop (i + 1)) = evsOf v (p.drop (i + 1)) := evsOf_rest v _ _ h
        rw [e]
        refine Ev.step (fun k => ?_) (ih (i + 1) o (by omega) (by omega))
        simp only [spec_EventsOf.j1, if_true]
        rw [if_pos (by omega), if_pos (by omega), rdSign_get p i hlt, if_pos h, w64_nat i (by omega)]
      · have e : evsOf v (p[i] :: p.drop (i + 1)) = ⟨p[i].f0, p[i].f1, p[i].f2, v⟩ :: evsOf v (p.drop (i + 1)) := evsOf_note v _ _ h
        rw [e]
        have := ih (i + 1) (o ++ [⟨p[i].f0, p[i].f1, p[i].f2, v⟩]) (by omega) (by simp; omega)
        rw [List.append_assoc, List.singleton_append] at this
        refine Ev.step (fun k => ?_) this
        simp only [spec_EventsOf.j1, if_true]
        rw [if_pos (by omega), if_pos (by omega), rdSign_get p i hlt, if_neg h, if_pos (by omega), w64_nat i (by omega)]

theorem spec_evs (p : List S82) (v : Int) (hp : p.length ≤ 1048576) (hP : isPart p = true) : Ev (fun k => spec_EventsOf.f k p v) (evsOf v p) := by
  have := spec_evs_loop p v hp hP p.length 0 [] (by omega) (by simp)
  rw [List.drop_zero, List.nil_append] at this
  exact this

theorem impl_join_loop (l : List (List S82)) (h4 : l.length ≤ 4) (d : Nat) : ∀ (i : Nat) (o : List S56), i + d = l.length → o.length + sumLen (l.drop i) ≤ 1048576 →
    Ev (fun k => impl_JoinParts.l0 k o l (l.length : Int) (i : Int)) (if (l.drop i).all isPart = true then finJ (putAll [] (o ++ joinL i (l.drop i))) else ([], false)) := by
  induction d with
  | zero =>
    intro i o hi ho
    rw [List.drop_of_length_le (by omega), joinL, List.append_nil, List.all_nil, if_pos rfl]
    have key := srt_score o (putAll [] o) (putAll_weak o [] List.Pairwise.nil) (putAll_perm o [])
    have hl := slices_SortFunc_at50.srt_len o
    refine Ev.step (f := fun k => (impl_IsScore.f k (slices_SortFunc_at50.srt o)).bind fun t => if t = true then some (slices_SortFunc_at50.srt o, true) else some ([], false)) (fun k => ?_) (Ev.bind (impl_score _ (by omega)) ?_)
    · simp only [impl_JoinParts.l0, slices_SortFunc_at50.f]
      rw [if_neg (by omega), if_pos (by omega)]
      rfl
    · rw [key.1, finJ]
      by_cases h : isScore (putAll [] o) = true
      · rw [key.2 h]
        simp only [h, if_true]
        exact Ev.now _
      · simp only [h, if_false]
        exact Ev.now _
  | succ d ih =>
    intro i o hi ho
    have hlt : i < l.length := by omega
    rw [drop_cons l i hlt] at ho ⊢
    rw [sumLen] at ho
    rw [List.all_cons, joinL]
    refine Ev.step (f := fun k => (impl_IsPart.f k l[i]).bind fun t => if t = true then ((impl_EventsOf.f k l[i] ((i + 1 : Nat) : Int)).bind fun t => if o.length + t.length < 4398046511104 then impl_JoinParts.l0 k (o ++ t) l (l.length : Int) ((i + 1 : Nat) : Int) else none) else some ([], false)) (fun k => ?_) (Ev.bind (impl_part l[i] (by omega)) ?_)
    · simp only [impl_JoinParts.l0]
      rw [if_pos (by omega), if_pos (by omega), if_pos (by omega), rdLSign_get l i hlt, w64_nat i (by omega)]
    · by_cases h : isPart l[i] = true
      · have he := evsOf_len ((i + 1 : Nat) : Int) l[i]
        simp only [h, if_true, Bool.true_and]
        refine Ev.bind (impl_evs l[i] ((i + 1 : Nat) : Int) (by omega) h) ?_
        have hlim : o.length + (evsOf ((i + 1 : Nat) : Int) l[i]).length < 4398046511104 := by omega
        simp only [hlim, if_true]
        rw [← List.append_assoc]
        exact ih (i + 1) _ (by omega) (by rw [List.length_append]; omega)
      · rw [Bool.not_eq_true] at h
        simp only [h, Bool.false_eq_true, if_false, Bool.false_and]
        exact Ev.now _

theorem impl_join (l : List (List S82)) (hl : l.length ≤ 1048576) (hs : sumLen l ≤ 1048576) : Ev (fun k => impl_JoinParts.f k l) (joinR l) := by
  simp only [impl_JoinParts.f, Option.bind_some, joinR]
  by_cases h : l.length ≤ 4
  · have h' : ¬ (l.length : Int) > 4 := by omega
    simp only [h', if_false, h, true_and]
    have := impl_join_loop l h l.length 0 [] (by omega) (by simpa using hs)
    rw [List.drop_zero, List.nil_append] at this
    exact this
  · have h' : (l.length : Int) > 4 := by omega
    simp only [h', if_true, h, false_and, if_false]
    exact Ev.now _

theorem spec_put_all (l : List (List S82)) (i : Nat) (e : List S56) (R : List S56 × Bool) (d : Nat) : ∀ (j : Nat) (o : List S56), j + d = e.length → o.length + d ≤ 1048576 →
    (Ev (fun k => spec_JoinParts.l1 k l (putAll o (e.drop j)) (i : Int) e (e.length : Int)) R) → e.length ≤ 1048576 → Ev (fun k => spec_JoinParts.l1 k l o (i : Int) e (j : Int)) R := by
  induction d with
  | zero =>
    intro j o hj ho h he
    obtain rfl : j = e.length := by omega
    rw [List.drop_of_length_le (by omega)] at h
    exact h
  | succ d ih =>
    intro j o hj ho h he
    have hlt : j < e.length := by omega
    rw [drop_cons e j hlt] at h
    have hl := putE_len e[j] o
    refine Ev.step (f := fun k => (spec_l8Put.f k o e[j].f0 e[j].f1 e[j].f2 e[j].f3).bind fun t => spec_JoinParts.l1 k l t (i : Int) e ((j + 1 : Nat) : Int)) (fun k => ?_) (Ev.bind (spec_put o e[j] (by omega)) (ih (j + 1) (putE e[j] o) (by omega) (by omega) h he))
    simp only [spec_JoinParts.l1]
    rw [if_pos (by omega), if_pos (by omega), rdEvent_get e j hlt, w64_nat j (by omega)]

theorem putAll_app (o a b : List S56) : putAll o (a ++ b) = putAll (putAll o a) b := by
  rw [putAll, putAll, putAll, List.foldl_append]

theorem spec_join_loop (l : List (List S82)) (h4 : l.length ≤ 4) (d : Nat) : ∀ (i : Nat) (o : List S56), i + d = l.length → o.length + sumLen (l.drop i) ≤ 1048576 →
    Ev (fun k => spec_JoinParts.l0 k l o (i : Int)) (if (l.drop i).all isPart = true then finJ (putAll o (joinL i (l.drop i))) else ([], false)) := by
  induction d with
  | zero =>
    intro i o hi ho
    rw [List.drop_of_length_le (by omega), joinL, List.all_nil, if_pos rfl]
    refine Ev.step (f := fun k => (spec_IsScore.f k o).bind fun t => if t = true then some (o, true) else some ([], false)) (fun k => ?_) (Ev.bind (spec_score _ (by omega)) ?_)
    · simp only [spec_JoinParts.l0]
      rw [if_neg (by omega)]
    · show Ev _ (finJ o)
      rw [finJ]
      by_cases h : isScore o = true
      · simp only [h, if_true]
        exact Ev.now _
      · simp only [h, if_false]
        exact Ev.now _
  | succ d ih =>
    intro i o hi ho
    have hlt : i < l.length := by omega
    rw [drop_cons l i hlt] at ho ⊢
    rw [sumLen] at ho
    rw [List.all_cons, joinL]
    refine Ev.step (f := fun k => (spec_IsPart.f k l[i]).bind fun t => if t = true then ((spec_EventsOf.f k l[i] ((i + 1 : Nat) : Int)).bind fun t => spec_JoinParts.l1 k l o (i : Int) t 0) else some ([], false)) (fun k => ?_) (Ev.bind (spec_part l[i] (by omega)) ?_)
    · simp only [spec_JoinParts.l0]
      rw [if_pos (by omega), if_pos (by omega), rdLSign_get l i hlt, w64_nat i (by omega)]
    · by_cases h : isPart l[i] = true
      · have he := evsOf_len ((i + 1 : Nat) : Int) l[i]
        simp only [h, if_true, Bool.true_and]
        refine Ev.bind (spec_evs l[i] ((i + 1 : Nat) : Int) (by omega) h) ?_
        have hp := putAll_len o (evsOf ((i + 1 : Nat) : Int) l[i])
        refine spec_put_all l i _ _ _ 0 o (Nat.zero_add _) (by omega) ?_ (by omega)
        rw [List.drop_zero, putAll_app]
        refine Ev.step (fun k => ?_) (ih (i + 1) (putAll o (evsOf ((i + 1 : Nat) : Int) l[i])) (by omega) (by omega))
        simp only [spec_JoinParts.l1]
        rw [if_neg (by omega), w64_nat i (by omega)]
      · rw [Bool.not_eq_true] at h
        simp only [h, Bool.false_eq_true, if_false, Bool.false_and]
        exact Ev.now _

theorem spec_join (l : List (List S82)) (hl : l.length ≤ 1048576) (hs : sumLen l ≤ 1048576) : Ev (fun k => spec_JoinParts.f k l) (joinR l) := by
  simp only [spec_JoinParts.f, Option.bind_some, joinR]
  by_cases h : l.length ≤ 4
  · have h' : ¬ (l.length : Int) > 4 := by omega
    simp only [h', if_false, h, true_and]
    have := spec_join_loop l h l.length 0 [] (by omega) (by simpa using hs)
    rw [List.drop_zero] at this
    exact this
  · have h' : (l.length : Int) > 4 := by omega
    simp only [h', if_true, h, false_and, if_false]
    exact Ev.now _

theorem joinR_len (l : List (List S82)) : (joinR l).1.length ≤ 40 := by
  unfold joinR finJ
  split
  · split
    · rename_i h
      exact (isScore_iff h).2
    · simp
  · simp

def mkOneS (x : List S82) (i c : Int) : List S82 :=
  let y1 := x.set i.toNat ⟨c, (rd_T82 x i).f1, (rd_T82 x i).f2⟩
  let y2 := y1.set i.toNat ⟨(rd_T82 y1 i).f0, wrap64 (c + 1), (rd_T82 y1 i).f2⟩
  y2.set i.toNat ⟨(rd_T82 y2 i).f0, (rd_T82 y2 i).f1, wrap64 (wrap64 (c + 1) + 1)⟩

theorem markSign_any (d : Nat) : ∀ (i c : Nat) (x : List S82), i + d = x.length → x.length ≤ 1048576 → c + 3 * d ≤ 100000000 → ∃ x', Ev (fun k => laws_markSignS.l0 k x (c : Int) (i : Int)) (((c + 3 * d : Nat) : Int), x') := by
  induction d with
  | zero =>
    intro i c x hi hx hc
    refine ⟨x, Ev.one (fun k => ?_)⟩
    simp only [laws_markSignS.l0]
    rw [if_neg (by omega)]
    rfl
  | succ d ih =>
    intro i c x hi hx hc
    obtain ⟨x', h⟩ := ih (i + 1) (c + 3) (mkOneS x (i : Int) (c : Int)) (by simp [mkOneS]; omega) (by simpa [mkOneS] using hx) (by omega)
    refine ⟨x', ?_⟩
    rw [show c + 3 + 3 * d = c + 3 * (d + 1) by omega] at h
    refine Ev.step (fun k => ?_) h
    have e : wrap64 (wrap64 (wrap64 ((c : Int) + 1) + 1) + 1) = ((c + 3 : Nat) : Int) := by
      rw [w64_nat c (by omega), w64_nat (c + 1) (by omega), w64_nat (c + 1 + 1) (by omega)]
    simp only [laws_markSignS.l0, Option.bind_some]
    rw [if_pos (by omega), if_pos (by omega), e, w64_nat i (by omega)]
    rfl

theorem markSignSS_loop (n : Nat) (d : Nat) : ∀ (i c : Nat) (p : List (List S82)), i + d = p.length → p.length = n → n ≤ 1048576 → sumLen (p.drop i) ≤ 1048576 → c ≤ 10000000 - 3 * 1048576 + 3 * (1048576 - sumLen (p.drop i)) → ∃ r c', Ev (fun k => laws_markSignSS.l0 k p (c : Int) (i : Int)) ((c' : Int), r) ∧ 0 ≤ c' := by
  induction d with
  | zero =>
    intro i c p hi hn h1 hs hc
    refine ⟨p, (c : Int), Ev.one (fun k => ?_), by omega⟩
    simp only [laws_markSignSS.l0]
    rw [if_neg (by omega)]
  | succ d ih =>
    intro i c p hi hn h1 hs hc
    have hlt : i < p.length := by omega
    rw [drop_cons p i hlt, sumLen] at hs hc
    obtain ⟨x', h⟩ := markSign_any p[i].length 0 c p[i] (by omega) (by omega) (by omega)
    have hd : (p.set i x').drop (i + 1) = p.drop (i + 1) := List.drop_set_of_lt (by omega)
    obtain ⟨r, c', h2, h3⟩ := ih (i + 1) (c + 3 * p[i].length) (p.set i x') (by simp; omega) (by simpa using hn) h1 (by rw [hd]; omega) (by rw [hd]; omega)
    refine ⟨r, c', Ev.step (f := fun k => (laws_markSignS.f k p[i] (c : Int)).bind fun t => laws_markSignSS.l0 k (p.set i t.2) t.1 ((i + 1 : Nat) : Int)) (fun k => ?_) (Ev.bind (g := fun k => laws_markSignS.f k p[i] (c : Int)) h h2), h3⟩
    simp only [laws_markSignSS.l0, Int.toNat_natCast]
    rw [if_pos (by omega), if_pos (by omega), w64_nat i (by omega), List.getD_eq_getElem?_getD, List.getElem?_eq_getElem hlt]
    rfl

theorem markSignSS_ev (p : List (List S82)) (hp : p.length ≤ 1048576) (hs : sumLen p ≤ 1048576) : ∃ r c', Ev (fun k => laws_markSignSS.f k p 1) ((c' : Int), r) ∧ 0 ≤ c' := markSignSS_loop p.length p.length 0 1 p (by omega) rfl hp (by simpa using hs) (by simp; omega)

theorem markLoop {β : Type} (C : Nat → Nat) (mkv : Nat → β) (F : Nat → List β → Int → Int → Option (Int × List β)) (n : Nat)
    (h1 : ∀ (x3 : List β) (i : Nat) (r : Int × List β), i < n → x3.length = n → Ev (fun k => F k (x3.set i (mkv i)) ((C (i + 1) : Nat) : Int) ((i + 1 : Nat) : Int)) r → Ev (fun k => F k x3 ((C i : Nat) : Int) (i : Int)) r)
    (h2 : ∀ x3 : List β, x3.length = n → Ev (fun k => F k x3 ((C n : Nat) : Int) (n : Int)) (((C n : Nat) : Int), x3)) (init : List β) (hl : init.length = n) :
    Ev (fun k => F k init ((C 0 : Nat) : Int) ((0 : Nat) : Int)) (((C n : Nat) : Int), (List.range n).map mkv) := by
  have key : ∀ (d i : Nat) (x3 : List β), i + d = n → x3.length = n → x3.take i = (List.range i).map mkv → Ev (fun k => F k x3 ((C i : Nat) : Int) (i : Int)) (((C n : Nat) : Int), (List.range n).map mkv) := by
    intro d
    induction d with
    | zero =>
      intro i x3 hi hx ht
      obtain rfl : i = n := by omega
      have e : x3 = (List.range i).map mkv := by
        rw [← ht, ← hx, List.take_length]
      have := h2 x3 hx
      rw [← e]
      exact this
    | succ d ih =>
      intro i x3 hi hx ht
      refine h1 x3 i _ (by omega) hx (ih (i + 1) _ (by omega) (by rw [List.length_set]; exact hx) ?_)
      rw [set_take x3 i _ (by omega), ht, List.range_succ, List.map_append]
      rfl
  exact key n 0 init (by omega) hl (by simp)

theorem heldLoop (C : Nat → Nat) (F : Nat → Int → Int → Option Int) (n : Nat)
    (h1 : ∀ (i : Nat) (r : Int), i < n → Ev (fun k => F k ((C (i + 1) : Nat) : Int) ((i + 1 : Nat) : Int)) r → Ev (fun k => F k ((C i : Nat) : Int) (i : Int)) r)
    (h2 : Ev (fun k => F k ((C n : Nat) : Int) (n : Int)) ((C n : Nat) : Int)) : Ev (fun k => F k ((C 0 : Nat) : Int) ((0 : Nat) : Int)) ((C n : Nat) : Int) := by
  have key : ∀ (d i : Nat), i + d = n → Ev (fun k => F k ((C i : Nat) : Int) (i : Int)) ((C n : Nat) : Int) := by
    intro d
    induction d with
    | zero =>
      intro i hi
      obtain rfl : i = n := by omega
      exact h2
    | succ d ih =>
      intro i hi
      exact h1 i _ (by omega) (ih (i + 1) (by omega))
  exact key n 0 (by omega)

theorem eqEventS_ev (l : List S56) (hl : l.length ≤ 140737488355328) : Ev (fun k => laws_eqEventS.f k l l) true := by
  have key := eqLoop (fun k i => laws_eqEventS.l0 k l l i) l (by
    intro i r hi h
    refine Ev.step (fun k => ?_) h
    simp only [laws_eqEventS.l0, laws_eqEvent.f, if_true, Option.bind_some]
    rw [if_pos (by omega), if_pos (by omega), if_pos (by omega), w64_nat i (by omega)]) (by
    refine Ev.one (fun k => ?_)
    simp only [laws_eqEventS.l0]
    rw [if_neg (by omega)])
  refine Ev.congr (fun k => ?_) key
  simp only [laws_eqEventS.f, if_true]

def mkEvent (q : Nat) : S56 := ⟨((1 + 4 * q : Nat) : Int), ((1 + 4 * q + 1 : Nat) : Int), ((1 + 4 * q + 1 + 1 : Nat) : Int), ((1 + 4 * q + 1 + 1 + 1 : Nat) : Int)⟩

theorem rdEvent_set (l : List S56) (i : Nat) (h : i < l.length) (v : S56) : rd_T56 (l.set i v) (i : Int) = v := by
  simp [rd_T56, List.getD, List.getElem?_set_self h]

theorem markEventS_ev (l : List S56) (hl : l.length ≤ 1048576) : Ev (fun k => laws_markEventS.f k l 1) (((1 + 4 * l.length : Nat) : Int), (List.range l.length).map mkEvent) := by
  have key := markLoop (fun i => 1 + 4 * i) mkEvent (fun k x c i => laws_markEventS.l0 k x c i) l.length (by
    intro x3 i r hi hx h
    simp only [show 1 + 4 * (i + 1) = 1 + 4 * i + 1 + 1 + 1 + 1 by omega] at h
    refine Ev.step (fun k => ?_) h
    have hx' : i < x3.length := by omega
    simp only [laws_markEventS.l0, Option.bind_some, Int.toNat_natCast]
    rw [if_pos (by omega), if_pos (by omega), w64_nat (1 + 4 * i) (by omega), w64_nat (1 + 4 * i + 1) (by omega), w64_nat (1 + 4 * i + 1 + 1) (by omega), w64_nat (1 + 4 * i + 1 + 1 + 1) (by omega), w64_nat i (by omega)]
    simp only [rdEvent_set, List.length_set, hx', List.set_set, mkEvent]) (by
    intro x3 hx
    refine Ev.one (fun k => ?_)
    simp only [laws_markEventS.l0]
    rw [if_neg (by omega)]) l rfl
  exact key

theorem heldEventS_ev (n : Nat) (hl : n ≤ 1048576) : Ev (fun k => laws_heldEventS.f k ((List.range n).map mkEvent) 1) ((1 + 4 * n : Nat) : Int) := by
  have key := heldLoop (fun i => 1 + 4 * i) (fun k c i => laws_heldEventS.l0 k ((List.range n).map mkEvent) c i) n (by
    intro i r hi h
    simp only [show 1 + 4 * (i + 1) = 1 + 4 * i + 1 + 1 + 1 + 1 by omega] at h
    refine Ev.step (fun k => ?_) h
    simp only [laws_heldEventS.l0, List.length_map, List.length_range]
    rw [if_pos (by omega), if_pos (by omega), rdEvent_get _ i (by simpa using hi), w64_nat (1 + 4 * i) (by omega), w64_nat (1 + 4 * i + 1) (by omega), w64_nat (1 + 4 * i + 1 + 1) (by omega), w64_nat (1 + 4 * i + 1 + 1 + 1) (by omega), w64_nat i (by omega)]
    simp only [List.getElem_map, List.getElem_range, mkEvent, if_true]) (by
    refine Ev.one (fun k => ?_)
    simp only [laws_heldEventS.l0, List.length_map, List.length_range]
    rw [if_neg (by omega)])
  exact key

theorem FnExactJoinParts : ∀ (l0 : List (List (S86))), (l0.length ≤ maxLen ∧ l0.length * 24 ≤ 140737488351232 ∧ ∀ l0' ∈ l0, l0'.length ≤ maxLen ∧ l0'.length * 24 ≤ 140737488351232 ∧ ∀ l0'' ∈ l0', ((Lit.int .i64 l0''.f0).wf = true) ∧ ((Lit.int .i64 l0''.f1).wf = true) ∧ ((Lit.int .i64 l0''.f2).wf = true)) → ∃ k, laws_FnExactJoinParts.f k l0 = some true := by
  intro p hp
  have hmp : p.length ≤ 9223372036854775807 := hp.1
  have hmx : ∀ x ∈ p, x.length ≤ 9223372036854775807 := fun x hx => (hp.2.2 x hx).1
  refine Ev.rounds (g := fun k => laws_FnExactJoinParts.f k p) ?_
  simp only [laws_FnExactJoinParts.f]
  obtain ⟨r, hr, hor⟩ := szSignSS_ev p 1048576 (by omega) (by omega) hmp hmx
  refine Ev.bind hr ?_
  by_cases h2 : r < 0
  · simp only [h2, if_true]
    exact Ev.now true
  · simp only [h2, if_false]
    obtain ⟨h0, hpl, hsum⟩ : 0 ≤ r ∧ p.length ≤ 1048576 ∧ r + (sumLen p : Int) + (p.length : Int) = 1048576 := by
      rcases hor with h | h
      · exact absurd h h2
      · exact h
    have hms := sumLen_mem p
    have hsm : sumLen (p.map cvSignS) = sumLen p := sumLen_map cvSign p
    have hneg : ∀ q : Nat, ¬ ((q : Int) < 0) := fun q => by omega
    have tp := toSignSS_ev p hpl (fun x hx => by have := hms x hx; omega)
    have ep := eqSignSS_ev (p.map cvSignS) (by simp; omega) (fun x hx => by have := sumLen_mem _ x hx; omega)
    have hs := spec_join (p.map cvSignS) (by simp; omega) (by omega)
    have hi := impl_join (p.map cvSignS) (by simp; omega) (by omega)
    have hlen := joinR_len (p.map cvSignS)
    obtain ⟨m1, c1, hm1, hc1⟩ := markSignSS_ev (p.map cvSignS) (by simp; omega) (by omega)
    have hc1' : ¬ c1 < 0 := by omega
    generalize joinR (p.map cvSignS) = R at hs hi hlen
    have hre := eqEventS_ev R.1 (by omega)
    have hmr := markEventS_ev R.1 (by omega)
    have hhe := heldEventS_ev R.1.length (by omega)
    refine Ev.bind tp ?_
    refine Ev.bind hs ?_
    refine Ev.bind tp ?_
    refine Ev.bind hi ?_
    refine Ev.bind hre ?_
    simp only [if_true, bne_self_eq_false]
    refine Ev.step (fun k => by simp only [laws_FnExactJoinParts.j0, Bool.false_eq_true, if_false]; rfl) ?_
    refine Ev.bind tp ?_
    refine Ev.bind ep ?_
    simp only [if_true]
    refine Ev.bind hm1 ?_
    simp only [hc1', if_false]
    refine Ev.bind hre ?_
    simp only [if_true, bne_self_eq_false]
    refine Ev.step (fun k => by simp only [laws_FnExactJoinParts.j1, Bool.false_eq_true, if_false]; rfl) ?_
    refine Ev.bind hmr ?_
    refine Ev.bind hhe ?_
    simp only [hneg, if_false, if_true]
    refine Ev.bind tp ?_
    refine Ev.bind hi ?_
    refine Ev.bind hre ?_
    simp only [if_true, bne_self_eq_false]
    refine Ev.step (fun k => by simp only [laws_FnExactJoinParts.j2, Bool.false_eq_true, if_false]; rfl) ?_
    refine Ev.bind hhe ?_
    simp only [hneg, if_false, if_true]
    exact Ev.now true

end Go.Proofs.Ytoebmmbpfapgaaa.Pure
