/- The plain statement of the law FnExactSubstitute: what its printed function answers; no conditions but that the numbers are Go's ints and the slices no longer than memory. -/
import Derived.Test.YtkonalnohdplnaaQFnExactSubstitutex14
set_option linter.unusedVariables false
set_option linter.unusedSimpArgs false
namespace Go.Proofs.Ytkonalnohdplnaa.Pure
open Go.RowKit Go.Proofs.Ytkonalnohdplnaa.QFnExactSubstitute Go.Proofs.YtkonalnohdplnaaW.PrintWords Go.Proofs.YtkonalnohdplnaaW.PrintLast Go.Proofs.YtkonalnohdplnaaW.PrintMore

theorem wf64 {x : Int} (h : (Lit.int .i64 x).wf = true) : -9223372036854775808 ≤ x ∧ x ≤ 9223372036854775807 := by
  simp only [Lit.wf, IntKind.min, IntKind.max, IntKind.signed, IntKind.bits, Bool.and_eq_true, decide_eq_true_eq, if_true] at h
  omega

theorem w64 {x : Int} (h1 : -9223372036854775808 ≤ x) (h2 : x ≤ 9223372036854775807) : wrap64 x = x := by
  unfold wrap64
  omega

theorem w64_nat (i : Nat) (h : i ≤ 9223372036854775806) : wrap64 ((i : Int) + 1) = ((i + 1 : Nat) : Int) := by
  unfold wrap64
  omega

theorem drop_cons {α : Type} (l : List α) (i : Nat) (h : i < l.length) : l.drop i = l[i] :: l.drop (i + 1) := List.drop_eq_getElem_cons h

theorem set_take {β : Type} (x : List β) (i : Nat) (v : β) (h : i < x.length) : (x.set i v).take (i + 1) = x.take i ++ [v] := by
  apply List.ext_getElem?
  intro j
  rcases Nat.lt_trichotomy j i with hj | hj | hj
  · rw [List.getElem?_take_of_lt (by omega), List.getElem?_set_ne (by omega), List.getElem?_append_left (by simp; omega), List.getElem?_take_of_lt (by omega)]
  · subst hj
    rw [List.getElem?_take_of_lt (by omega), List.getElem?_set_self (by omega), List.getElem?_append_right (by simp; omega)]
    simp [Nat.min_eq_left (Nat.le_of_lt h)]
  · rw [List.getElem?_take_eq_none (by omega), List.getElem?_append_right (by simp; omega)]
    simp
    omega

theorem copyLoop {α β : Type} (F : Nat → List β → Int → Option (List β)) (x0 : List α) (cv : α → β)
    (h1 : ∀ (x3 : List β) (i : Nat) (r : List β) (hi : i < x0.length), x3.length = x0.length → Ev (fun k => F k (x3.set i (cv x0[i])) ((i + 1 : Nat) : Int)) r → Ev (fun k => F k x3 (i : Int)) r)
    (h2 : ∀ x3 : List β, Ev (fun k => F k x3 (x0.length : Int)) x3) (init : List β) (hl : init.length = x0.length) : Ev (fun k => F k init 0) (x0.map cv) := by
  have key : ∀ (d i : Nat) (x3 : List β), i + d = x0.length → x3.length = x0.length → x3.take i = (x0.map cv).take i → Ev (fun k => F k x3 (i : Int)) (x0.map cv) := by
    intro d
    induction d with
    | zero =>
      intro i x3 hi hx ht
      obtain rfl : i = x0.length := by omega
      have e : x3 = x0.map cv := by
        rw [← hx, List.take_length] at ht
        rw [ht, hx]
        exact List.take_of_length_le (by simp)
      have := h2 x3
      rw [e] at this
      rw [e]
      exact this
    | succ d ih =>
      intro i x3 hi hx ht
      have hlt : i < x0.length := by omega
      refine h1 x3 i _ hlt hx (ih (i + 1) _ (by omega) (by rw [List.length_set]; exact hx) ?_)
      rw [set_take x3 i _ (by omega), ht]
      rw [List.take_succ_eq_append_getElem (by simpa using hlt)]
      simp
  have := key x0.length 0 init (by omega) hl (by simp)
  exact this

theorem eqLoop {α : Type} (F : Nat → Int → Option Bool) (x0 : List α)
    (h1 : ∀ (i : Nat) (r : Bool) (_ : i < x0.length), Ev (fun k => F k ((i + 1 : Nat) : Int)) r → Ev (fun k => F k (i : Int)) r)
    (h2 : Ev (fun k => F k (x0.length : Int)) true) : Ev (fun k => F k 0) true := by
  have key : ∀ (d i : Nat), i + d = x0.length → Ev (fun k => F k (i : Int)) true := by
    intro d
    induction d with
    | zero =>
      intro i hi
      obtain rfl : i = x0.length := by omega
      exact h2
    | succ d ih =>
      intro i hi
      exact h1 i true (by omega) (ih (i + 1) (by omega))
  exact key x0.length 0 (by omega)

theorem ite_eq_of {α : Type} {p : Prop} [Decidable p] {a b : α} (h : p) : (if p then a else b) = a := if_pos h

theorem Ev.one {α : Type} {g : Nat → Option α} {r : α} (h : ∀ k, g (k + 1) = some r) : Ev g r := Ev.step (f := fun _ => some r) h (Ev.now r)

theorem rd_get (l : List Int) (i : Nat) (h : i < l.length) : rd l (i : Int) = l[i] := by
  simp [rd, List.getD, List.getElem?_eq_getElem h]

theorem has_loop (l : List Int) (n : Int) (hl : l.length ≤ 1048576) (d : Nat) : ∀ i : Nat, i + d = l.length → Ev (fun k => spec_l27Has.l0 k l n (i : Int)) (decide (n ∈ l.drop i)) := by
  induction d with
  | zero =>
    intro i h
    rw [List.drop_of_length_le (by omega)]
    refine Ev.one (fun k => ?_)
    simp only [spec_l27Has.l0]
    rw [if_neg (by omega)]
    simp
  | succ d ih =>
    intro i h
    have hlt : i < l.length := by omega
    rw [drop_cons l i hlt]
    by_cases hc : l[i] = n
    · refine Ev.one (fun k => ?_)
      simp only [spec_l27Has.l0]
      rw [if_pos (by omega), if_pos (by omega), rd_get l i hlt, if_pos hc]
      simp [hc]
    · refine Ev.step (fun k => ?_) (by rw [show decide (n ∈ l[i] :: l.drop (i + 1)) = decide (n ∈ l.drop (i + 1)) from decide_eq_decide.2 (by rw [List.mem_cons]; exact or_iff_right (Ne.symm hc))]; exact ih (i + 1) (by omega))
      simp only [spec_l27Has.l0]
      rw [if_pos (by omega), if_pos (by omega), rd_get l i hlt, if_neg hc, w64_nat i (by omega)]
theorem has_ev (l : List Int) (n : Int) (hl : l.length ≤ 1048576) : Ev (fun k => spec_l27Has.f k l n) (decide (n ∈ l)) := has_loop l n hl l.length 0 (by omega)

theorem index_loop (l : List Int) (n : Int) (hl : l.length ≤ 1048576) (d : Nat) : ∀ i : Nat, i + d = l.length → ∃ r, Ev (fun k => slices_Index_int_int.l0 k l n (l.length : Int) (i : Int)) r ∧ decide (r ≥ 0) = decide (n ∈ l.drop i) := by
  induction d with
  | zero =>
    intro i h
    rw [List.drop_of_length_le (by omega)]
    refine ⟨-1, Ev.one (fun k => ?_), by simp⟩
    simp only [slices_Index_int_int.l0]
    rw [if_neg (by omega)]
  | succ d ih =>
    intro i h
    have hlt : i < l.length := by omega
    rw [drop_cons l i hlt]
    by_cases hc : n = l[i]
    · refine ⟨(i : Int), Ev.one (fun k => ?_), by rw [decide_eq_true (show (i : Int) ≥ 0 by omega), hc]; exact (decide_eq_true List.mem_cons_self).symm⟩
      simp only [slices_Index_int_int.l0]
      rw [if_pos (by omega), if_pos (by omega), if_pos (by omega), rd_get l i hlt, if_pos hc]
    · obtain ⟨r, hr, he⟩ := ih (i + 1) (by omega)
      refine ⟨r, Ev.step (fun k => ?_) hr, he.trans (decide_eq_decide.2 (by rw [List.mem_cons]; exact (or_iff_right hc).symm))⟩
      simp only [slices_Index_int_int.l0]
      rw [if_pos (by omega), if_pos (by omega), if_pos (by omega), rd_get l i hlt, if_neg hc, w64_nat i (by omega)]
theorem contains_ev (l : List Int) (n : Int) (hl : l.length ≤ 1048576) : Ev (fun k => slices_Contains_int_int.f k l n) (decide (n ∈ l)) := by
  obtain ⟨r, hr, he⟩ := index_loop l n hl l.length 0 (by omega)
  rw [List.drop_zero] at he
  simp only [slices_Contains_int_int.f, slices_Index_int_int.f]
  rw [← he]
  exact Ev.bind hr (Ev.now _)

theorem rdEvent_get (l : List S73) (i : Nat) (h : i < l.length) : rd_T73 l (i : Int) = l[i] := by
  simp [rd_T73, List.getD, List.getElem?_eq_getElem h]

def evOk (x : S73) : Bool := decide ((0 ≤ x.f0 ∧ x.f0 ≤ 2000) ∧ (1 ≤ x.f1 ∧ x.f1 ≤ 96) ∧ (21 ≤ x.f2 ∧ x.f2 ≤ 108) ∧ (1 ≤ x.f3 ∧ x.f3 ≤ 4))
/-- By tick, voice and pitch. -/
def evLt (a b : S73) : Bool := if a.f0 = b.f0 then (if a.f3 = b.f3 then decide (a.f2 < b.f2) else decide (a.f3 < b.f3)) else decide (a.f0 < b.f0)
def evNext (p : Option S73) (x : S73) : Bool := match p with
  | none => true
  | some y => evLt y x
def scL : Option S73 → List S73 → Bool
  | _, [] => true
  | p, x :: l => (evOk x && evNext p x) && scL (some x) l
def isScore (l : List S73) : Bool := scL none l && decide (l.length ≤ 40)

theorem isScore_iff {l : List S73} (h : isScore l = true) : scL none l = true ∧ l.length ≤ 40 := by
  simpa [isScore] using h

theorem scL_ok (l : List S73) : ∀ p, scL p l = true → ∀ x ∈ l, evOk x = true := by
  induction l with
  | nil => intro p _ x hx; simp at hx
  | cons y l ih =>
    intro p h x hx
    simp only [scL, Bool.and_eq_true] at h
    rcases List.mem_cons.1 hx with rfl | hx
    · exact h.1.1
    · exact ih _ h.2 x hx

theorem isScore_at {l : List S73} (h : isScore l = true) (x : S73) (hx : x ∈ l) : (0 ≤ x.f0 ∧ x.f0 ≤ 2000) ∧ (1 ≤ x.f1 ∧ x.f1 ≤ 96) ∧ (21 ≤ x.f2 ∧ x.f2 ≤ 108) ∧ (1 ≤ x.f3 ∧ x.f3 ≤ 4) := by
  have := scL_ok l none (isScore_iff h).1 x hx
  simpa only [evOk, decide_eq_true_eq] using this

def inV (v : Int) (x : S73) : Bool := decide (x.f3 = v)
theorem spec_voice_loop (l : List S73) (v : Int) (hl : l.length ≤ 1048576) (d : Nat) : ∀ (i : Nat) (o : List S73), i + d = l.length → o.length ≤ i → Ev (fun k => spec_VoiceOf.l0 k l v o (i : Int)) (o ++ (l.drop i).filter (inV v)) := by
  induction d with
  | zero =>
    intro i o h ho
    rw [List.drop_of_length_le (by omega)]
    refine Ev.one (fun k => ?_)
    simp only [spec_VoiceOf.l0]
    rw [if_neg (by omega)]
    simp
  | succ d ih =>
    intro i o h ho
    have hlt : i < l.length := by omega
    rw [drop_cons l i hlt]
    by_cases hc : l[i].f3 = v
    · refine Ev.step (fun k => ?_) (by rw [List.filter_cons_of_pos (by simp [inV, hc]), List.append_cons]; exact ih (i + 1) (o ++ [l[i]]) (by omega) (by simp; omega))
      simp only [spec_VoiceOf.l0]
      rw [if_pos (by omega), if_pos (by omega), rdEvent_get l i hlt, if_pos hc, if_pos (by omega), w64_nat i (by omega)]
    · refine Ev.step (fun k => ?_) (by rw [List.filter_cons_of_neg (by simp [inV, hc])]; exact ih (i + 1) o (by omega) (by omega))
      simp only [spec_VoiceOf.l0]
      rw [if_pos (by omega), if_pos (by omega), rdEvent_get l i hlt, if_neg hc, w64_nat i (by omega)]
theorem spec_voice (l : List S73) (v : Int) (hl : l.length ≤ 1048576) : Ev (fun k => spec_VoiceOf.f k l v) (l.filter (inV v)) := by
  have h := spec_voice_loop l v hl l.length 0 [] (by omega) (by simp)
  simpa [spec_VoiceOf.f] using h
theorem voice_1 (x : S73) (v : Int) : impl_VoiceOf_1.f x.f0 x.f1 x.f2 x.f3 [v] = some (!inV v x) := by
  simp only [impl_VoiceOf_1.f, inV]
  rw [if_pos (by simp)]
  have : rd [v] 0 = v := rfl
  rw [this]
  by_cases h : x.f3 = v <;> simp [h]
theorem voice_index (l : List S73) (v : Int) (hl : l.length ≤ 1048576) (d : Nat) : ∀ i : Nat, i + d = l.length → ∃ r, Ev (fun k => slices_IndexFunc_at68.l0 k l (l.length : Int) (i : Int) [v]) r ∧
    ((r = -1 ∧ l.take i ++ (l.drop i).filter (inV v) = l) ∨ ∃ t : Nat, r = (t : Int) ∧ t < l.length ∧ l.take i ++ (l.drop i).filter (inV v) = l.take t ++ (l.drop (t + 1)).filter (inV v)) := by
  induction d with
  | zero =>
    intro i h
    refine ⟨-1, Ev.one (fun k => ?_), .inl ⟨rfl, ?_⟩⟩
    · simp only [slices_IndexFunc_at68.l0]
      rw [if_neg (by omega)]
    · rw [List.drop_of_length_le (by omega), List.take_of_length_le (by omega)]
      simp
  | succ d ih =>
    intro i h
    have hlt : i < l.length := by omega
    by_cases hc : inV v l[i] = true
    · obtain ⟨r, hr, he⟩ := ih (i + 1) (by omega)
      have e2 : l.take i ++ (l.drop i).filter (inV v) = l.take (i + 1) ++ (l.drop (i + 1)).filter (inV v) := by
        rw [drop_cons l i hlt, List.filter_cons_of_pos hc, List.take_succ_eq_append_getElem hlt, List.append_assoc, List.singleton_append]
      rw [← e2] at he
      refine ⟨r, Ev.step (fun k => ?_) hr, he⟩
      simp only [slices_IndexFunc_at68.l0]
      rw [if_pos (by omega), if_pos (by omega), if_pos (by omega), rdEvent_get l i hlt, voice_1, hc, Option.bind_some, w64_nat i (by omega)]
      rfl
    · refine ⟨(i : Int), Ev.one (fun k => ?_), .inr ⟨i, rfl, hlt, ?_⟩⟩
      · rw [Bool.not_eq_true] at hc
        simp only [slices_IndexFunc_at68.l0]
        rw [if_pos (by omega), if_pos (by omega), if_pos (by omega), rdEvent_get l i hlt, voice_1, hc, Option.bind_some]
        rfl
      · rw [drop_cons l i hlt, List.filter_cons_of_neg hc]
theorem voice_delete (v : Int) (d : Nat) : ∀ (X : List S73) (i j : Nat), j + d = X.length → i ≤ j → X.length ≤ 1048576 → Ev (fun k => slices_DeleteFunc_at68.l0 k X (i : Int) (j : Int) [v]) (X.take i ++ (X.drop j).filter (inV v)) := by
  induction d with
  | zero =>
    intro X i j h hij hX
    rw [List.drop_of_length_le (by omega)]
    refine Ev.one (fun k => ?_)
    simp only [slices_DeleteFunc_at68.l0]
    rw [if_neg (by omega), if_pos (by omega), if_pos (by omega)]
    simp
  | succ d ih =>
    intro X i j h hij hX
    have hlt : j < X.length := by omega
    rw [drop_cons X j hlt]
    by_cases hc : inV v X[j] = true
    · refine Ev.step (f := fun k => slices_DeleteFunc_at68.l0 k (X.set i X[j]) ((i + 1 : Nat) : Int) ((j + 1 : Nat) : Int) [v]) (fun k => ?_) ?_
      · simp only [slices_DeleteFunc_at68.l0]
        rw [if_pos (by omega), if_pos (by omega), rdEvent_get X j hlt, voice_1, hc, Option.bind_some, Bool.not_true, if_neg (by decide), if_pos (by omega), if_pos (by omega), w64_nat i (by omega), w64_nat j (by omega), Int.toNat_natCast]
      · have h2 := ih (X.set i X[j]) (i + 1) (j + 1) (by simp; omega) (by omega) (by simp; omega)
        rw [set_take X i _ (by omega), List.drop_set_of_lt (by omega)] at h2
        rw [List.filter_cons_of_pos hc]
        simpa using h2
    · have h2 := ih X i (j + 1) (by omega) (by omega) hX
      rw [List.filter_cons_of_neg hc]
      rw [Bool.not_eq_true] at hc
      refine Ev.step (fun k => ?_) h2
      simp only [slices_DeleteFunc_at68.l0]
      rw [if_pos (by omega), if_pos (by omega), rdEvent_get X j hlt, voice_1, hc, Option.bind_some, Bool.not_false, if_pos rfl, w64_nat j (by omega)]
theorem impl_voice (l : List S73) (v : Int) (hl : l.length ≤ 1048576) : Ev (fun k => impl_VoiceOf.f k l v) (l.filter (inV v)) := by
  have hcl : impl_Event_67.f l = some l := by
    simp only [impl_Event_67.f, Option.bind_some, List.nil_append]
    rw [if_pos (by simp; omega)]
  obtain ⟨r, hr, he⟩ := voice_index l v hl l.length 0 (by omega)
  simp only [impl_VoiceOf.f, hcl, Option.bind_some, slices_DeleteFunc_at68.f, slices_IndexFunc_at68.f]
  rw [List.take_zero, List.drop_zero, List.nil_append] at he
  rcases he with ⟨rfl, h⟩ | ⟨t, rfl, ht, h⟩
  · refine Ev.bind hr ?_
    simp only [if_true]
    rw [h]
    exact Ev.now _
  · refine Ev.bind hr ?_
    have hn : ¬ (t : Int) = -1 := by omega
    simp only [hn, if_false]
    rw [h, w64_nat t (by omega)]
    exact voice_delete v (l.length - (t + 1)) l t (t + 1) (by omega) (by omega) hl

theorem l1In_eq (a b c : Int) : spec_l1In.f a b c = some (decide (b ≤ a ∧ a ≤ c)) := by
  unfold spec_l1In.f
  split <;> simp <;> omega

theorem spec_ok (a b c d : Int) : spec_l8Ok.f a b c d = some (evOk ⟨a, b, c, d⟩) := by
  simp only [spec_l8Ok.f, l1In_eq, Option.bind_some, decide_eq_true_eq, evOk]
  by_cases h0 : 0 ≤ a ∧ a ≤ 2000
  · by_cases h1 : 1 ≤ b ∧ b ≤ 96
    · by_cases h2 : 21 ≤ c ∧ c ≤ 108
      · simp only [h0, h1, h2, and_self, if_true, true_and]
      · simp only [h0, h1, h2, and_self, if_true, if_false, false_and, and_false, decide_false]
    · simp only [h0, h1, and_self, if_true, if_false, false_and, and_false, decide_false]
  · simp only [h0, if_false, false_and, decide_false]

theorem spec_before (a b : S73) : spec_l8Before.f a.f0 a.f1 a.f2 a.f3 b.f0 b.f1 b.f2 b.f3 = some (evLt a b) := by
  unfold spec_l8Before.f evLt
  repeat' split
  all_goals rfl

theorem spec_score_ev (l : List S73) (hl : l.length ≤ 1048576) (d : Nat) : ∀ (i : Nat) (p : Option S73), i + d = l.length → (i = 0 ∧ p = none ∨ ∃ h : i - 1 < l.length, 0 < i ∧ p = some l[i - 1]) →
    Ev (fun k => spec_IsScore.l0 k l (i : Int)) (scL p (l.drop i) && decide (l.length ≤ 40)) := by
  induction d with
  | zero =>
    intro i p hi hp
    rw [List.drop_of_length_le (by omega)]
    refine Ev.one (fun k => ?_)
    simp only [spec_IsScore.l0, scL, Bool.true_and]
    rw [if_neg (by omega)]
    refine congrArg some (decide_eq_decide.2 ?_)
    omega
  | succ d ih =>
    intro i p hi hp
    have hlt : i < l.length := by omega
    rw [drop_cons l i hlt]
    have next := ih (i + 1) (some l[i]) (by omega) (.inr ⟨by omega, by omega, rfl⟩)
    by_cases h0 : evOk l[i] = true
    · rcases hp with ⟨rfl, rfl⟩ | ⟨hi1, hpos, rfl⟩
      · refine Ev.step (f := fun k => spec_IsScore.l0 k l ((0 + 1 : Nat) : Int)) (fun k => ?_) ?_
        · simp only [spec_IsScore.l0, spec_ok, Option.bind_some]
          rw [if_pos (by omega), if_pos (by omega), rdEvent_get l 0 hlt, if_pos h0, if_neg (by omega), w64_nat 0 (by omega)]
        · rw [scL, h0, evNext, Bool.true_and, Bool.true_and]
          exact next
      · have hw : wrap64 ((i : Int) - 1) = ((i - 1 : Nat) : Int) := by unfold wrap64; omega
        by_cases h2 : evLt l[i - 1] l[i] = true
        · rw [scL, h0, evNext, h2, Bool.true_and, Bool.true_and]
          refine Ev.step (fun k => ?_) next
          simp only [spec_IsScore.l0, spec_ok, Option.bind_some]
          rw [if_pos (by omega), if_pos (by omega), rdEvent_get l i hlt, if_pos h0, if_pos (by omega), hw, if_pos (by omega), if_pos (by omega), rdEvent_get l (i - 1) hi1, spec_before, Option.bind_some, if_pos h2, w64_nat i (by omega)]
        · rw [Bool.not_eq_true] at h2
          rw [scL, h0, evNext, h2, Bool.and_false, Bool.false_and, Bool.false_and]
          refine Ev.one (fun k => ?_)
          simp only [spec_IsScore.l0, spec_ok, Option.bind_some]
          rw [if_pos (by omega), if_pos (by omega), rdEvent_get l i hlt, if_pos h0, if_pos (by omega), hw, if_pos (by omega), if_pos (by omega), rdEvent_get l (i - 1) hi1, spec_before, Option.bind_some, h2]
          rfl
    · have h0' := h0
      rw [Bool.not_eq_true] at h0'
      rw [scL, h0', Bool.false_and, Bool.false_and, Bool.false_and]
      refine Ev.one (fun k => ?_)
      simp only [spec_IsScore.l0, spec_ok, Option.bind_some]
      rw [if_pos (by omega), if_pos (by omega), rdEvent_get l i hlt, if_neg h0]

theorem spec_score (l : List S73) (hl : l.length ≤ 1048576) : Ev (fun k => spec_IsScore.f k l) (isScore l) := spec_score_ev l hl l.length 0 none (by omega) (.inl ⟨rfl, rfl⟩)

theorem inRange_eq (a b c : Int) : impl_InRange.f a b c = some (decide (b ≤ a ∧ a ≤ c)) := by
  unfold impl_InRange.f
  split <;> simp <;> omega

def cmp3 (a b : Int) : Int := if a < b then -1 else if a > b then 1 else 0

theorem compare_eq (a b : Int) : cmp_Compare_int.f a b = some (cmp3 a b) := by
  have h : ∀ x : Int, (x != x) = false := fun x => by simp
  simp only [cmp_Compare_int.f, cmp_isNaN_int.f, Option.bind_some, h, cmp3]
  simp only [Bool.false_eq_true, if_false]
  split
  · rfl
  · split <;> rfl

theorem or_step (l : List Int) (i : Nat) (r : Int) (hl : l.length ≤ 1048576) (hi : i < l.length) (h : l[i] = 0) (he : Ev (fun k => cmp_Or_int.l0 k 0 l (l.length : Int) ((i + 1 : Nat) : Int)) r) : Ev (fun k => cmp_Or_int.l0 k 0 l (l.length : Int) (i : Int)) r := by
  refine Ev.step (fun k => ?_) he
  simp only [cmp_Or_int.l0]
  rw [if_pos (by omega), if_pos (by omega), if_pos (by omega), rd_get l i hi, if_pos h, w64_nat i (by omega)]

theorem or_hit (l : List Int) (i : Nat) (hi : i < l.length) (h : ¬ l[i] = 0) : Ev (fun k => cmp_Or_int.l0 k 0 l (l.length : Int) (i : Int)) l[i] := by
  refine Ev.one (fun k => ?_)
  simp only [cmp_Or_int.l0]
  rw [if_pos (by omega), if_pos (by omega), if_pos (by omega), rd_get l i hi, if_neg h]

theorem or_end (l : List Int) : Ev (fun k => cmp_Or_int.l0 k 0 l (l.length : Int) ((l.length : Nat) : Int)) 0 := by
  refine Ev.one (fun k => ?_)
  simp only [cmp_Or_int.l0]
  rw [if_neg (by omega)]

theorem or2_ev (a b : Int) : Ev (fun k => cmp_Or_int.f k [a, b]) (if a = 0 then b else a) := by
  show Ev (fun k => cmp_Or_int.l0 k 0 [a, b] (([a, b] : List Int).length : Int) ((0 : Nat) : Int)) _
  by_cases ha : a = 0
  · rw [if_pos ha]
    refine or_step [a, b] 0 b (by simp) (by simp) ha ?_
    by_cases hb : b = 0
    · rw [hb]
      exact or_step [a, 0] 1 0 (by simp) (by simp) rfl (or_end _)
    · exact or_hit [a, b] 1 (by simp) hb
  · rw [if_neg ha]
    exact or_hit [a, b] 0 (by simp) ha

theorem or3_ev (a b c : Int) : Ev (fun k => cmp_Or_int.f k [a, b, c]) (if a = 0 then (if b = 0 then c else b) else a) := by
  show Ev (fun k => cmp_Or_int.l0 k 0 [a, b, c] (([a, b, c] : List Int).length : Int) ((0 : Nat) : Int)) _
  by_cases ha : a = 0
  · rw [if_pos ha]
    refine or_step [a, b, c] 0 _ (by simp) (by simp) ha ?_
    by_cases hb : b = 0
    · rw [if_pos hb]
      refine or_step [a, b, c] 1 _ (by simp) (by simp) hb ?_
      by_cases hc : c = 0
      · rw [hc]
        exact or_step [a, b, 0] 2 0 (by simp) (by simp) rfl (or_end _)
      · exact or_hit [a, b, c] 2 (by simp) hc
    · rw [if_neg hb]
      exact or_hit [a, b, c] 1 (by simp) hb
  · rw [if_neg ha]
    exact or_hit [a, b, c] 0 (by simp) ha

theorem impl_order (a b : S73) : Ev (fun k => impl_eventOrder.f k a.f0 a.f1 a.f2 a.f3 b.f0 b.f1 b.f2 b.f3) (if cmp3 a.f0 b.f0 = 0 then (if cmp3 a.f3 b.f3 = 0 then cmp3 a.f2 b.f2 else cmp3 a.f3 b.f3) else cmp3 a.f0 b.f0) := by
  simp only [impl_eventOrder.f, compare_eq, Option.bind_some]
  exact Ev.bind (or3_ev _ _ _) (Ev.now _)

theorem order_lt (a b : S73) : ((if cmp3 a.f0 b.f0 = 0 then (if cmp3 a.f3 b.f3 = 0 then cmp3 a.f2 b.f2 else cmp3 a.f3 b.f3) else cmp3 a.f0 b.f0) ≥ 0) ↔ ¬ evLt a b = true := by
  unfold cmp3 evLt
  repeat' split
  all_goals (simp <;> omega)

theorem impl_score_ev (l : List S73) (hl : l.length ≤ 1048576) (d : Nat) : ∀ (i : Nat) (p : Option S73), i + d = l.length → (i = 0 ∧ p = none ∨ ∃ h : i - 1 < l.length, 0 < i ∧ p = some l[i - 1]) →
    Ev (fun k => impl_IsScore.l0 k l l (l.length : Int) (i : Int)) (scL p (l.drop i) && decide (l.length ≤ 40)) := by
  induction d with
  | zero =>
    intro i p hi hp
    rw [List.drop_of_length_le (by omega)]
    refine Ev.one (fun k => ?_)
    simp only [impl_IsScore.l0, scL, Bool.true_and]
    rw [if_neg (by omega)]
    refine congrArg some (decide_eq_decide.2 ?_)
    omega
  | succ d ih =>
    intro i p hi hp
    have hlt : i < l.length := by omega
    rw [drop_cons l i hlt]
    have next := ih (i + 1) (some l[i]) (by omega) (.inr ⟨by omega, by omega, rfl⟩)
    by_cases h0 : evOk l[i] = true
    · have hx : (0 ≤ l[i].f0 ∧ l[i].f0 ≤ 2000) ∧ (1 ≤ l[i].f1 ∧ l[i].f1 ≤ 96) ∧ (21 ≤ l[i].f2 ∧ l[i].f2 ≤ 108) ∧ (1 ≤ l[i].f3 ∧ l[i].f3 ≤ 4) := by simpa only [evOk, decide_eq_true_eq] using h0
      rcases hp with ⟨rfl, rfl⟩ | ⟨hi1, hpos, rfl⟩
      · refine Ev.step (f := fun k => impl_IsScore.l0 k l l (l.length : Int) ((0 + 1 : Nat) : Int)) (fun k => ?_) ?_
        · simp only [impl_IsScore.l0, inRange_eq, Option.bind_some]
          rw [if_pos (by omega), if_pos (by omega), if_pos (by omega), rdEvent_get l 0 hlt, if_pos (decide_eq_true hx.1), if_pos (decide_eq_true hx.2.1), if_pos (decide_eq_true hx.2.2.1), if_pos (decide_eq_true hx.2.2.2), if_neg (by omega), w64_nat 0 (by omega)]
        · rw [scL, h0, evNext, Bool.true_and, Bool.true_and]
          exact next
      · have hw : wrap64 ((i : Int) - 1) = ((i - 1 : Nat) : Int) := by unfold wrap64; omega
        refine Ev.step (f := fun k => (impl_eventOrder.f k l[i - 1].f0 l[i - 1].f1 l[i - 1].f2 l[i - 1].f3 l[i].f0 l[i].f1 l[i].f2 l[i].f3).bind fun t => if t ≥ 0 then some false else impl_IsScore.l0 k l l (l.length : Int) ((i + 1 : Nat) : Int)) (fun k => ?_) ?_
        · simp only [impl_IsScore.l0, inRange_eq, Option.bind_some]
          rw [if_pos (by omega), if_pos (by omega), if_pos (by omega), rdEvent_get l i hlt, if_pos (decide_eq_true hx.1), if_pos (decide_eq_true hx.2.1), if_pos (decide_eq_true hx.2.2.1), if_pos (decide_eq_true hx.2.2.2), if_pos (by omega), hw, if_pos (by omega), if_pos (by omega), rdEvent_get l (i - 1) hi1, w64_nat i (by omega)]
        · refine Ev.bind (impl_order _ _) ?_
          by_cases h2 : evLt l[i - 1] l[i] = true
          · simp only [if_neg (fun h => (order_lt _ _).1 h h2)]
            rw [scL, h0, evNext, h2, Bool.true_and, Bool.true_and]
            exact next
          · simp only [if_pos ((order_lt _ _).2 h2)]
            rw [Bool.not_eq_true] at h2
            rw [scL, h0, evNext, h2, Bool.and_false, Bool.false_and, Bool.false_and]
            exact Ev.now _
    · have h0' := h0
      rw [Bool.not_eq_true] at h0'
      rw [scL, h0', Bool.false_and, Bool.false_and, Bool.false_and]
      have hx : ¬ ((0 ≤ l[i].f0 ∧ l[i].f0 ≤ 2000) ∧ (1 ≤ l[i].f1 ∧ l[i].f1 ≤ 96) ∧ (21 ≤ l[i].f2 ∧ l[i].f2 ≤ 108) ∧ (1 ≤ l[i].f3 ∧ l[i].f3 ≤ 4)) := by simpa only [evOk, decide_eq_true_eq] using h0
      refine Ev.one (fun k => ?_)
      simp only [impl_IsScore.l0, inRange_eq, Option.bind_some]
      rw [if_pos (by omega), if_pos (by omega), if_pos (by omega), rdEvent_get l i hlt]
      by_cases g0 : 0 ≤ l[i].f0 ∧ l[i].f0 ≤ 2000
      · rw [if_pos (decide_eq_true g0)]
        by_cases g1 : 1 ≤ l[i].f1 ∧ l[i].f1 ≤ 96
        · rw [if_pos (decide_eq_true g1)]
          by_cases g2 : 21 ≤ l[i].f2 ∧ l[i].f2 ≤ 108
          · rw [if_pos (decide_eq_true g2)]
            by_cases g3 : 1 ≤ l[i].f3 ∧ l[i].f3 ≤ 4
            · exact absurd ⟨g0, g1, g2, g3⟩ hx
            · rw [if_neg (by simpa using g3)]
          · rw [if_neg (by simpa using g2)]
        · rw [if_neg (by simpa using g1)]
      · rw [if_neg (by simpa using g0)]

theorem impl_score (l : List S73) (hl : l.length ≤ 1048576) : Ev (fun k => impl_IsScore.f k l) (isScore l) := impl_score_ev l hl l.length 0 none (by omega) (.inl ⟨rfl, rfl⟩)

def fitL (lo hi : Int) (l : List S73) : Bool := l.all (fun x => decide (lo ≤ x.f2 ∧ x.f2 ≤ hi))
theorem spec_fits_loop (l : List S73) (lo hi : Int) (hl : l.length ≤ 1048576) (d : Nat) : ∀ i : Nat, i + d = l.length → Ev (fun k => spec_FitsRange.l0 k l lo hi (i : Int)) (fitL lo hi (l.drop i) && isScore l) := by
  induction d with
  | zero =>
    intro i h
    rw [List.drop_of_length_le (by omega)]
    refine Ev.step (f := fun k => (spec_IsScore.f k l).bind fun t => some t) (fun k => ?_) (Ev.bind (spec_score l hl) (Ev.now _))
    simp only [spec_FitsRange.l0]
    rw [if_neg (by omega)]
  | succ d ih =>
    intro i h
    have hlt : i < l.length := by omega
    rw [drop_cons l i hlt]
    simp only [fitL, List.all_cons]
    by_cases hc : lo ≤ l[i].f2 ∧ l[i].f2 ≤ hi
    · rw [decide_eq_true hc, Bool.true_and]
      refine Ev.step (fun k => ?_) (ih (i + 1) (by omega))
      simp only [spec_FitsRange.l0, l1In_eq, Option.bind_some]
      rw [if_pos (by omega), if_pos (by omega), rdEvent_get l i hlt, if_pos (decide_eq_true hc), w64_nat i (by omega)]
    · rw [decide_eq_false hc, Bool.false_and, Bool.false_and]
      refine Ev.one (fun k => ?_)
      simp only [spec_FitsRange.l0, l1In_eq, Option.bind_some]
      rw [if_pos (by omega), if_pos (by omega), rdEvent_get l i hlt, if_neg (by simpa using hc)]
theorem spec_fits (l : List S73) (lo hi : Int) (hl : l.length ≤ 1048576) : Ev (fun k => spec_FitsRange.f k l lo hi) (fitL lo hi l && isScore l) := spec_fits_loop l lo hi hl l.length 0 (by omega)
theorem impl_fits_loop (l : List S73) (lo hi : Int) (hl : l.length ≤ 1048576) (d : Nat) : ∀ i : Nat, i + d = l.length → Ev (fun k => impl_FitsRange.l0 k l lo hi l (l.length : Int) (i : Int)) (fitL lo hi (l.drop i) && isScore l) := by
  induction d with
  | zero =>
    intro i h
    rw [List.drop_of_length_le (by omega)]
    refine Ev.step (f := fun k => (impl_IsScore.f k l).bind fun t => some t) (fun k => ?_) (Ev.bind (impl_score l hl) (Ev.now _))
    simp only [impl_FitsRange.l0]
    rw [if_neg (by omega)]
  | succ d ih =>
    intro i h
    have hlt : i < l.length := by omega
    rw [drop_cons l i hlt]
    simp only [fitL, List.all_cons]
    by_cases hc : lo ≤ l[i].f2 ∧ l[i].f2 ≤ hi
    · rw [decide_eq_true hc, Bool.true_and]
      refine Ev.step (fun k => ?_) (ih (i + 1) (by omega))
      simp only [impl_FitsRange.l0, inRange_eq, Option.bind_some]
      rw [if_pos (by omega), if_pos (by omega), if_pos (by omega), rdEvent_get l i hlt, if_pos (decide_eq_true hc), w64_nat i (by omega)]
    · rw [decide_eq_false hc, Bool.false_and, Bool.false_and]
      refine Ev.one (fun k => ?_)
      simp only [impl_FitsRange.l0, inRange_eq, Option.bind_some]
      rw [if_pos (by omega), if_pos (by omega), if_pos (by omega), rdEvent_get l i hlt, if_neg (by simpa using hc)]
theorem impl_fits (l : List S73) (lo hi : Int) (hl : l.length ≤ 1048576) : Ev (fun k => impl_FitsRange.f k l lo hi) (fitL lo hi l && isScore l) := impl_fits_loop l lo hi hl l.length 0 (by omega)

def canP (lo hi : Int) (vs : List Int) (l : List S73) (v : Int) : Bool := decide (v ∈ vs) && (isScore l && (fitL lo hi (l.filter (inV v)) && isScore (l.filter (inV v))))
theorem filter_len (l : List S73) (v : Int) (hl : l.length ≤ 1048576) : (l.filter (inV v)).length ≤ 1048576 := Nat.le_trans (List.length_filter_le _ _) hl
theorem spec_can (a lo hi : Int) (vs : List Int) (l : List S73) (v : Int) (hv : vs.length ≤ 1048576) (hl : l.length ≤ 1048576) : Ev (fun k => spec_CanPlay.f k a lo hi vs l v) (canP lo hi vs l v) := by
  simp only [spec_CanPlay.f, canP]
  refine Ev.bind (has_ev vs v hv) ?_
  by_cases h1 : v ∈ vs
  · simp only [h1, decide_true, if_true, Bool.true_and]
    refine Ev.bind (spec_score l hl) ?_
    by_cases h2 : isScore l = true
    · simp only [h2, if_true, Bool.true_and]
      refine Ev.bind (spec_voice l v hl) ?_
      exact Ev.bind (spec_fits _ lo hi (filter_len l v hl)) (Ev.now _)
    · rw [Bool.not_eq_true] at h2
      simp only [h2, Bool.false_and, Bool.false_eq_true, if_false]
      exact Ev.now _
  · simp only [h1, decide_false, Bool.false_and, Bool.false_eq_true, if_false]
    exact Ev.now _
theorem impl_can (a lo hi : Int) (vs : List Int) (l : List S73) (v : Int) (hv : vs.length ≤ 1048576) (hl : l.length ≤ 1048576) : Ev (fun k => impl_CanPlay.f k a lo hi vs l v) (canP lo hi vs l v) := by
  simp only [impl_CanPlay.f, canP]
  refine Ev.bind (contains_ev vs v hv) ?_
  by_cases h1 : v ∈ vs
  · simp only [h1, decide_true, if_true, Bool.true_and]
    refine Ev.bind (impl_score l hl) ?_
    by_cases h2 : isScore l = true
    · simp only [h2, if_true, Bool.true_and]
      refine Ev.bind (impl_voice l v hl) ?_
      exact Ev.bind (impl_fits _ lo hi (filter_len l v hl)) (Ev.now _)
    · rw [Bool.not_eq_true] at h2
      simp only [h2, Bool.false_and, Bool.false_eq_true, if_false]
      exact Ev.now _
  · simp only [h1, decide_false, Bool.false_and, Bool.false_eq_true, if_false]
    exact Ev.now _

theorem toIntS_ev (l : List Int) (hl : l.length ≤ 35184372088832) : Ev (fun k => laws_toIntS.f k l) l := by
  have key := copyLoop (fun k x3 i => laws_toIntS.l0 k l x3 i) l (fun x => x) (by
    intro x3 i r hi hx h
    refine Ev.step (fun k => ?_) h
    simp only [laws_toIntS.l0]
    rw [if_pos (by omega), if_pos (by omega), if_pos (by omega), rd_get l i hi, w64_nat i (by omega), Int.toNat_natCast]) (by
    intro x3
    refine Ev.one (fun k => ?_)
    simp only [laws_toIntS.l0]
    rw [if_neg (by omega)]) (List.replicate l.length 0) (by simp)
  rw [List.map_id' l] at key
  refine Ev.congr (fun k => ?_) key
  simp only [laws_toIntS.f, Int.toNat_natCast]
  rw [if_pos (by omega), if_pos hl]

theorem eqIntS_ev (l : List Int) (hl : l.length ≤ 140737488355328) : Ev (fun k => laws_eqIntS.f k l l) true := by
  have key := eqLoop (fun k i => laws_eqIntS.l0 k l l i) l (by
    intro i r hi h
    refine Ev.step (fun k => ?_) h
    simp only [laws_eqIntS.l0]
    rw [if_pos (by omega), if_pos (by omega), if_pos (by omega), if_pos trivial, w64_nat i (by omega)]) (by
    refine Ev.one (fun k => ?_)
    simp only [laws_eqIntS.l0]
    rw [if_neg (by omega)])
  refine Ev.congr (fun k => ?_) key
  simp only [laws_eqIntS.f]
  rw [if_pos trivial]

theorem rdPlayer_get (l : List S36) (i : Nat) (h : i < l.length) : rd_T36 l (i : Int) = l[i] := by
  simp [rd_T36, List.getD, List.getElem?_eq_getElem h]
theorem rdlPlayer_get (l : List S31) (i : Nat) (h : i < l.length) : rd_T31 l (i : Int) = l[i] := by
  simp [rd_T31, List.getD, List.getElem?_eq_getElem h]

def cvPlayer (x : S31) : S36 := ⟨x.f0, x.f1, x.f2, x.f3⟩

theorem szPlayer_ev (x : S31) (b : Int) (hb : 0 ≤ b) (hb2 : b ≤ 1048576) (h0 : x.f3.length ≤ 9223372036854775807) : laws_szPlayer.f x.f0 x.f1 x.f2 x.f3 b = some (if b < (x.f3.length : Int) then -1 else b - (x.f3.length : Int)) := by
  simp only [laws_szPlayer.f, laws_szIntS.f]
  rw [w64 (by omega) (by omega)]
  by_cases h : b < (x.f3.length : Int)
  · rw [if_pos (by omega), if_pos h]
    rfl
  · rw [if_neg (by omega), if_neg h]
    simp only [Option.bind_some]
    rw [if_neg (by omega)]

theorem szPlayerS_loop (l : List S31) (hl : l.length ≤ 1048576) (hx : ∀ x ∈ l, x.f3.length ≤ 9223372036854775807) (d : Nat) : ∀ (i : Nat) (b : Int), i + d = l.length → 0 ≤ b → b ≤ 1048576 →
    ∃ r, Ev (fun k => laws_szPlayerS.l0 k l b (i : Int)) r ∧ (r < 0 ∨ 0 ≤ r ∧ r ≤ 1048576 ∧ ∀ (j : Nat) (h : j < l.length), i ≤ j → l[j].f3.length ≤ 1048576) := by
  induction d with
  | zero =>
    intro i b hi h0 h1
    refine ⟨b, Ev.one (fun k => ?_), .inr ⟨h0, h1, fun j h hj => by omega⟩⟩
    simp only [laws_szPlayerS.l0]
    rw [if_neg (by omega)]
  | succ d ih =>
    intro i b hi h0 h1
    have hlt : i < l.length := by omega
    have hsz := szPlayer_ev l[i] b h0 h1 (hx _ (List.getElem_mem hlt))
    by_cases hc : b < (l[i].f3.length : Int)
    · refine ⟨-1, Ev.one (fun k => ?_), .inl (by omega)⟩
      simp only [laws_szPlayerS.l0]
      rw [if_pos (by omega), if_pos (by omega), rdlPlayer_get l i hlt, hsz, if_pos hc]
      rfl
    · obtain ⟨r, hr, hor⟩ := ih (i + 1) (b - (l[i].f3.length : Int)) (by omega) (by omega) (by omega)
      refine ⟨r, Ev.step (fun k => ?_) hr, ?_⟩
      · simp only [laws_szPlayerS.l0]
        rw [if_pos (by omega), if_pos (by omega), rdlPlayer_get l i hlt, hsz, if_neg hc]
        simp only [Option.bind_some]
        rw [if_neg (by omega), w64_nat i (by omega)]
      · rcases hor with h | ⟨h2, h3, h4⟩
        · exact .inl h
        · refine .inr ⟨h2, h3, fun j hj hij => ?_⟩
          rcases Nat.eq_or_lt_of_le hij with rfl | hlt2
          · omega
          · exact h4 j hj (by omega)

theorem szPlayerS_ev (l : List S31) (b : Int) (hb : 0 ≤ b) (hb2 : b ≤ 1048576) (h0 : l.length ≤ 9223372036854775807) (hx : ∀ x ∈ l, x.f3.length ≤ 9223372036854775807) :
    ∃ r, Ev (fun k => laws_szPlayerS.f k l b) r ∧ (r < 0 ∨ 0 ≤ r ∧ r ≤ 1048576 ∧ l.length ≤ 1048576 ∧ ∀ x ∈ l, x.f3.length ≤ 1048576) := by
  by_cases hc : b < (l.length : Int)
  · refine ⟨-1, Ev.one (fun k => ?_), .inl (by omega)⟩
    simp only [laws_szPlayerS.f]
    rw [w64 (by omega) (by omega), if_pos (by omega)]
  · obtain ⟨r, hr, hor⟩ := szPlayerS_loop l (by omega) hx l.length 0 (b - (l.length : Int)) (by omega) (by omega) (by omega)
    refine ⟨r, Ev.congr (fun k => ?_) hr, ?_⟩
    · simp only [laws_szPlayerS.f]
      rw [w64 (by omega) (by omega), if_neg (by omega)]
      rfl
    · rcases hor with h | ⟨h2, h3, h4⟩
      · exact .inl h
      · refine .inr ⟨h2, h3, by omega, fun x hx => ?_⟩
        obtain ⟨j, hj, rfl⟩ := List.getElem_of_mem hx
        exact h4 j hj (by omega)

theorem toPlayerS_ev (l : List S31) (hl : l.length ≤ 1048576) (hx : ∀ x ∈ l, x.f3.length ≤ 1048576) : Ev (fun k => laws_toPlayerS.f k l) (l.map cvPlayer) := by
  have key := copyLoop (fun k x3 i => laws_toPlayerS.l0 k l x3 i) l cvPlayer (by
    intro x3 i r hi hx3 h
    refine Ev.step (f := fun k => (laws_toPlayer.f k l[i].f0 l[i].f1 l[i].f2 l[i].f3).bind fun t => laws_toPlayerS.l0 k l (x3.set i (⟨t.1, t.2.1, t.2.2.1, t.2.2.2⟩ : S36)) ((i + 1 : Nat) : Int)) (fun k => ?_) ?_
    · have hc : (i : Int) < (x3.length : Int) := by omega
      simp only [laws_toPlayerS.l0, hc, if_true, Int.toNat_natCast]
      rw [if_pos (by omega), if_pos (by omega), rdlPlayer_get l i hi, w64_nat i (by omega)]
    · refine Ev.bind (a := (l[i].f0, l[i].f1, l[i].f2, l[i].f3)) ?_ h
      simp only [laws_toPlayer.f]
      exact Ev.bind (toIntS_ev l[i].f3 (by have := hx _ (List.getElem_mem hi); omega)) (Ev.now _)) (by
    intro x3
    refine Ev.one (fun k => ?_)
    simp only [laws_toPlayerS.l0]
    rw [if_neg (by omega)]) (List.replicate l.length z36) (by simp)
  refine Ev.congr (fun k => ?_) key
  simp only [laws_toPlayerS.f, Int.toNat_natCast]
  rw [if_pos (by omega), if_pos (by omega)]

theorem eqPlayerS_ev (l : List S36) (hl : l.length ≤ 1048576) (hx : ∀ x ∈ l, x.f3.length ≤ 1048576) : Ev (fun k => laws_eqPlayerS.f k l l) true := by
  have key := eqLoop (fun k i => laws_eqPlayerS.l0 k l l i) l (by
    intro i r hi h
    refine Ev.step (f := fun k => (laws_eqPlayer.f k l[i].f0 l[i].f1 l[i].f2 l[i].f3 l[i].f0 l[i].f1 l[i].f2 l[i].f3).bind fun t => if t = true then laws_eqPlayerS.l0 k l l ((i + 1 : Nat) : Int) else some false) (fun k => ?_) ?_
    · simp only [laws_eqPlayerS.l0]
      rw [if_pos (by omega), if_pos (by omega), if_pos (by omega), rdPlayer_get l i hi, w64_nat i (by omega)]
    · refine Ev.bind (a := true) ?_ ?_
      · simp only [laws_eqPlayer.f, if_true]
        refine Ev.bind (eqIntS_ev l[i].f3 (by have := hx _ (List.getElem_mem hi); omega)) ?_
        simp only [if_true]
        exact Ev.now true
      · simp only [if_true]
        exact h) (by
    refine Ev.one (fun k => ?_)
    simp only [laws_eqPlayerS.l0]
    rw [if_neg (by omega)])
  refine Ev.congr (fun k => ?_) key
  simp only [laws_eqPlayerS.f, if_true]

def nextOk (p : Option Int) (x : Int) : Bool := match p with
  | none => true
  | some y => decide (y < x)
/-- All in bounds, each more than the one before. -/
def asc (lo hi : Int) : Option Int → List Int → Bool
  | _, [] => true
  | p, x :: l => (decide (lo ≤ x ∧ x ≤ hi) && nextOk p x) && asc lo hi (some x) l
def pv (l : List Int) (i : Nat) : Option Int := if i = 0 then none else l[i - 1]?
theorem pv_succ (l : List Int) (i : Nat) (h : i < l.length) : pv l (i + 1) = some l[i] := by
  simp [pv, List.getElem?_eq_getElem h]

theorem ascending_loop (l : List Int) (lo hi : Int) (hl : l.length ≤ 1048576) (d : Nat) : ∀ i : Nat, i + d = l.length →
    Ev (fun k => impl_ascending.l0 k l lo hi l (l.length : Int) (i : Int)) (asc lo hi (pv l i) (l.drop i)) := by
  induction d with
  | zero =>
    intro i h
    rw [List.drop_of_length_le (by omega)]
    refine Ev.one (fun k => ?_)
    simp only [impl_ascending.l0, asc]
    rw [if_neg (by omega)]
  | succ d ih =>
    intro i h
    have hlt : i < l.length := by omega
    have ih := ih (i + 1) (by omega)
    rw [pv_succ l i hlt] at ih
    rw [drop_cons l i hlt]
    simp only [asc]
    by_cases hc : lo ≤ l[i] ∧ l[i] ≤ hi
    · rw [decide_eq_true hc, Bool.true_and]
      rcases Nat.eq_zero_or_pos i with h0 | h0
      · subst h0
        refine Ev.step (fun k => ?_) (by rw [show nextOk (pv l 0) l[0] = true from rfl, Bool.true_and]; exact ih)
        simp only [impl_ascending.l0, inRange_eq, Option.bind_some]
        rw [if_pos (by omega), if_pos (by omega), if_pos (by omega), rd_get l 0 hlt, if_pos (decide_eq_true hc), if_neg (by omega), w64_nat 0 (by omega)]
      · have e1 : wrap64 ((i : Int) - 1) = ((i - 1 : Nat) : Int) := by rw [w64 (by omega) (by omega)]; omega
        have e2 : pv l i = some l[i - 1] := by simp [pv, List.getElem?_eq_getElem (show i - 1 < l.length by omega)]; omega
        by_cases hn : l[i - 1] < l[i]
        · refine Ev.step (fun k => ?_) (by rw [e2, show nextOk (some l[i - 1]) l[i] = true from decide_eq_true hn, Bool.true_and]; exact ih)
          simp only [impl_ascending.l0, inRange_eq, Option.bind_some, e1]
          rw [if_pos (by omega), if_pos (by omega), if_pos (by omega), rd_get l i hlt, rd_get l (i - 1) (by omega), if_pos (decide_eq_true hc), if_pos (by omega), if_pos (by omega), if_pos (by omega), if_neg (by omega), w64_nat i (by omega)]
        · rw [e2, show nextOk (some l[i - 1]) l[i] = false from decide_eq_false hn, Bool.false_and]
          refine Ev.one (fun k => ?_)
          simp only [impl_ascending.l0, inRange_eq, Option.bind_some, e1]
          rw [if_pos (by omega), if_pos (by omega), if_pos (by omega), rd_get l i hlt, rd_get l (i - 1) (by omega), if_pos (decide_eq_true hc), if_pos (by omega), if_pos (by omega), if_pos (by omega), if_pos (by omega)]
    · rw [decide_eq_false hc, Bool.false_and, Bool.false_and]
      refine Ev.one (fun k => ?_)
      simp only [impl_ascending.l0, inRange_eq, Option.bind_some]
      rw [if_pos (by omega), if_pos (by omega), if_pos (by omega), rd_get l i hlt, if_neg (by simpa using hc)]

theorem ascending_ev (l : List Int) (lo hi : Int) (hl : l.length ≤ 1048576) : Ev (fun k => impl_ascending.f k l lo hi) (asc lo hi none l) := ascending_loop l lo hi hl l.length 0 (by omega)

def plRange (x : S36) : Bool := decide (21 ≤ x.f1 ∧ x.f1 ≤ x.f2 ∧ x.f2 ≤ 108)
def plL : Option Int → List S36 → Bool
  | _, [] => true
  | p, x :: l => ((decide (1 ≤ x.f0 ∧ x.f0 ≤ 99) && (plRange x && nextOk p x.f0)) && asc 1 4 none x.f3) && plL (some x.f0) l
def arePlayers (l : List S36) : Bool := plL none l && decide (l.length ≤ 8)

theorem plL_eq (l : List S36) : ∀ p, plL p l = (l.all (fun x => plRange x && asc 1 4 none x.f3) && asc 1 99 p (l.map (·.f0))) := by
  induction l with
  | nil => intro p; rfl
  | cons x l ih =>
    intro p
    simp only [plL, List.all_cons, List.map_cons, asc, ih]
    generalize decide (1 ≤ x.f0 ∧ x.f0 ≤ 99) = a
    generalize plRange x = b
    generalize nextOk p x.f0 = c
    generalize asc 1 4 none x.f3 = d
    generalize l.all _ = e
    generalize asc _ _ _ _ = f
    cases a <;> cases b <;> cases c <;> cases d <;> cases e <;> cases f <;> rfl

def pvp (l : List S36) (i : Nat) : Option Int := if i = 0 then none else l[i - 1]?.map (·.f0)
theorem pvp_succ (l : List S36) (i : Nat) (h : i < l.length) : pvp l (i + 1) = some l[i].f0 := by
  simp [pvp, List.getElem?_eq_getElem h]

theorem spec_voices (l : List S36) (i : Nat) (hi : i < l.length) (hl : l.length ≤ 1048576) (a b c : Int) (v : List Int) (hv : v.length ≤ 1048576) (r : Bool) (next : Ev (fun k => spec_ArePlayers.l0 k l ((i + 1 : Nat) : Int)) r) (d : Nat) : ∀ j : Nat, j + d = v.length →
    Ev (fun k => spec_ArePlayers.l1 k l (i : Int) (j : Int) a b c v) (asc 1 4 (pv v j) (v.drop j) && r) := by
  induction d with
  | zero =>
    intro j h
    rw [List.drop_of_length_le (by omega)]
    refine Ev.step (fun k => ?_) (by rw [show asc 1 4 (pv v j) [] = true from rfl, Bool.true_and]; exact next)
    simp only [spec_ArePlayers.l1]
    rw [if_neg (by omega), w64_nat i (by omega)]
  | succ d ih =>
    intro j h
    have hlt : j < v.length := by omega
    have ih := ih (j + 1) (by omega)
    rw [pv_succ v j hlt] at ih
    rw [drop_cons v j hlt]
    simp only [asc]
    by_cases hc : 1 ≤ v[j] ∧ v[j] ≤ 4
    · rw [decide_eq_true hc, Bool.true_and]
      rcases Nat.eq_zero_or_pos j with h0 | h0
      · subst h0
        refine Ev.step (fun k => ?_) (by rw [show nextOk (pv v 0) v[0] = true from rfl, Bool.true_and]; exact ih)
        simp only [spec_ArePlayers.l1, l1In_eq, Option.bind_some]
        rw [if_pos (by omega), if_pos (by omega), rd_get v 0 hlt, if_pos (decide_eq_true hc), if_neg (by omega), w64_nat 0 (by omega)]
      · have e1 : wrap64 ((j : Int) - 1) = ((j - 1 : Nat) : Int) := by rw [w64 (by omega) (by omega)]; omega
        have e2 : pv v j = some v[j - 1] := by simp [pv, List.getElem?_eq_getElem (show j - 1 < v.length by omega)]; omega
        by_cases hn : v[j - 1] < v[j]
        · refine Ev.step (fun k => ?_) (by rw [e2, show nextOk (some v[j - 1]) v[j] = true from decide_eq_true hn, Bool.true_and]; exact ih)
          simp only [spec_ArePlayers.l1, l1In_eq, Option.bind_some, e1]
          rw [if_pos (by omega), if_pos (by omega), rd_get v j hlt, rd_get v (j - 1) (by omega), if_pos (decide_eq_true hc), if_pos (by omega), if_pos (by omega), if_pos (by omega), if_neg (by omega), w64_nat j (by omega)]
        · rw [e2, show nextOk (some v[j - 1]) v[j] = false from decide_eq_false hn, Bool.false_and, Bool.false_and]
          refine Ev.one (fun k => ?_)
          simp only [spec_ArePlayers.l1, l1In_eq, Option.bind_some, e1]
          rw [if_pos (by omega), if_pos (by omega), rd_get v j hlt, rd_get v (j - 1) (by omega), if_pos (decide_eq_true hc), if_pos (by omega), if_pos (by omega), if_pos (by omega), if_pos (by omega)]
    · rw [decide_eq_false hc, Bool.false_and, Bool.false_and, Bool.false_and]
      refine Ev.one (fun k => ?_)
      simp only [spec_ArePlayers.l1, l1In_eq, Option.bind_some]
      rw [if_pos (by omega), if_pos (by omega), rd_get v j hlt, if_neg (by simpa using hc)]

theorem spec_players_loop (l : List S36) (hl : l.length ≤ 1048576) (hx : ∀ x ∈ l, x.f3.length ≤ 1048576) (d : Nat) : ∀ i : Nat, i + d = l.length →
    Ev (fun k => spec_ArePlayers.l0 k l (i : Int)) (plL (pvp l i) (l.drop i) && decide (l.length ≤ 8)) := by
  induction d with
  | zero =>
    intro i h
    rw [List.drop_of_length_le (by omega)]
    refine Ev.one (fun k => ?_)
    simp only [spec_ArePlayers.l0, plL, Bool.true_and]
    rw [if_neg (by omega)]
    exact congrArg some (decide_eq_decide.2 (by omega))
  | succ d ih =>
    intro i h
    have hlt : i < l.length := by omega
    have ih := ih (i + 1) (by omega)
    rw [pvp_succ l i hlt] at ih
    rw [drop_cons l i hlt]
    simp only [plL]
    refine Ev.step (f := fun k => spec_ArePlayers.j1 k l (i : Int) (!(decide (1 ≤ l[i].f0 ∧ l[i].f0 ≤ 99) && (plRange l[i] && nextOk (pvp l i) l[i].f0))) l[i].f0 l[i].f1 l[i].f2 l[i].f3) (fun k => ?_) ?_
    · simp only [spec_ArePlayers.l0, l1In_eq, Option.bind_some]
      rw [if_pos (by omega), if_pos (by omega), rdPlayer_get l i hlt]
      by_cases hc : 1 ≤ l[i].f0 ∧ l[i].f0 ≤ 99
      · rw [if_pos (decide_eq_true hc), decide_eq_true hc, Bool.true_and]
        by_cases h1 : l[i].f1 < 21
        · rw [if_pos h1, show plRange l[i] = false from decide_eq_false (by omega)]; rfl
        · rw [if_neg h1]
          by_cases h2 : l[i].f1 > l[i].f2
          · rw [if_pos h2, show plRange l[i] = false from decide_eq_false (by omega)]; rfl
          · rw [if_neg h2]
            by_cases h3 : l[i].f2 > 108
            · rw [if_pos h3, show plRange l[i] = false from decide_eq_false (by omega)]; rfl
            · rw [if_neg h3, show plRange l[i] = true from decide_eq_true (by omega), Bool.true_and]
              rcases Nat.eq_zero_or_pos i with h0 | h0
              · subst h0
                rw [if_neg (by omega)]; rfl
              · have e1 : wrap64 ((i : Int) - 1) = ((i - 1 : Nat) : Int) := by rw [w64 (by omega) (by omega)]; omega
                have e2 : pvp l i = some l[i - 1].f0 := by simp [pvp, List.getElem?_eq_getElem (show i - 1 < l.length by omega)]; omega
                rw [if_pos (by omega), e1, if_pos (by omega), if_pos (by omega), rdPlayer_get l (i - 1) (by omega), e2]
                refine congrArg (fun z => spec_ArePlayers.j1 k l (i : Int) z l[i].f0 l[i].f1 l[i].f2 l[i].f3) ?_
                simp only [nextOk]
                by_cases hn : l[i - 1].f0 < l[i].f0
                · rw [decide_eq_true hn, decide_eq_false (by omega)]; rfl
                · rw [decide_eq_false hn, decide_eq_true (by omega)]; rfl
      · rw [if_neg (by simpa using hc), decide_eq_false hc, Bool.false_and]; rfl
    · generalize (decide (1 ≤ l[i].f0 ∧ l[i].f0 ≤ 99) && (plRange l[i] && nextOk (pvp l i) l[i].f0)) = q
      cases q
      · refine Ev.one (fun k => ?_)
        simp [spec_ArePlayers.j1]
      · rw [Bool.true_and, Bool.and_assoc]
        refine Ev.step (f := fun k => spec_ArePlayers.l1 k l (i : Int) 0 l[i].f0 l[i].f1 l[i].f2 l[i].f3) (fun k => ?_) (spec_voices l i hlt hl _ _ _ l[i].f3 (hx _ (List.getElem_mem hlt)) _ ih l[i].f3.length 0 (by omega))
        simp [spec_ArePlayers.j1]

theorem spec_players (l : List S36) (hl : l.length ≤ 1048576) (hx : ∀ x ∈ l, x.f3.length ≤ 1048576) : Ev (fun k => spec_ArePlayers.f k l) (arePlayers l) := spec_players_loop l hl hx l.length 0 (by omega)

theorem impl_players_loop (l : List S36) (hl : l.length ≤ 1048576) (hx : ∀ x ∈ l, x.f3.length ≤ 1048576) (d : Nat) : ∀ i : Nat, i + d = l.length →
    Ev (fun k => impl_ArePlayers.l0 k l ((l.take i).map (·.f0)) l (l.length : Int) (i : Int)) ((l.drop i).all (fun x => plRange x && asc 1 4 none x.f3) && (decide (l.length ≤ 8) && asc 1 99 none (l.map (·.f0)))) := by
  induction d with
  | zero =>
    intro i h
    obtain rfl : i = l.length := by omega
    rw [List.drop_of_length_le (by omega), List.take_of_length_le (by omega)]
    simp only [List.all_nil, Bool.true_and]
    by_cases h8 : (l.length : Int) ≤ 8
    · rw [decide_eq_true (by omega : l.length ≤ 8), Bool.true_and]
      refine Ev.step (f := fun k => (impl_ascending.f k (l.map (·.f0)) 1 99).bind fun t => some t) (fun k => ?_) (Ev.bind (ascending_ev _ 1 99 (by simp; omega)) (Ev.now _))
      simp only [impl_ArePlayers.l0]
      rw [if_neg (by omega), if_pos h8]
    · rw [decide_eq_false (by omega : ¬ l.length ≤ 8), Bool.false_and]
      refine Ev.one (fun k => ?_)
      simp only [impl_ArePlayers.l0]
      rw [if_neg (by omega), if_neg h8]
  | succ d ih =>
    intro i h
    have hlt : i < l.length := by omega
    have ih := ih (i + 1) (by omega)
    have et : (l.take (i + 1)).map (·.f0) = (l.take i).map (·.f0) ++ [l[i].f0] := by rw [List.take_succ_eq_append_getElem hlt, List.map_append]; rfl
    rw [et] at ih
    have hlen : ((l.take i).map (·.f0)).length < 17592186044416 := by simp; omega
    have hv := ascending_ev l[i].f3 1 4 (hx _ (List.getElem_mem hlt))
    rw [drop_cons l i hlt, List.all_cons]
    by_cases h1 : 21 ≤ l[i].f1 ∧ l[i].f1 ≤ l[i].f2
    · by_cases h2 : l[i].f2 > 108
      · rw [show plRange l[i] = false from decide_eq_false (by omega), Bool.false_and, Bool.false_and, Bool.false_and]
        refine Ev.one (fun k => ?_)
        simp only [impl_ArePlayers.l0, inRange_eq, Option.bind_some]
        rw [if_pos (by omega), if_pos (by omega), if_pos (by omega), rdPlayer_get l i hlt, if_pos (decide_eq_true h1), if_pos h2]
      · rw [show plRange l[i] = true from decide_eq_true (by omega), Bool.true_and, Bool.and_assoc]
        refine Ev.step (f := fun k => (impl_ascending.f k l[i].f3 1 4).bind fun t => if t = true then impl_ArePlayers.l0 k l ((l.take i).map (·.f0) ++ [l[i].f0]) l (l.length : Int) ((i + 1 : Nat) : Int) else some false) (fun k => ?_) ?_
        · simp only [impl_ArePlayers.l0, inRange_eq, Option.bind_some]
          rw [if_pos (by omega), if_pos (by omega), if_pos (by omega), rdPlayer_get l i hlt, if_pos (decide_eq_true h1), if_neg h2, if_pos hlen, w64_nat i (by omega)]
        · refine Ev.bind hv ?_
          generalize asc 1 4 none l[i].f3 = q
          cases q
          · simp only [Bool.false_eq_true, if_false, Bool.false_and]
            exact Ev.now false
          · simp only [if_true, Bool.true_and]
            exact ih
    · rw [show plRange l[i] = false from decide_eq_false (by omega), Bool.false_and, Bool.false_and, Bool.false_and]
      refine Ev.one (fun k => ?_)
      simp only [impl_ArePlayers.l0, inRange_eq, Option.bind_some]
      rw [if_pos (by omega), if_pos (by omega), if_pos (by omega), rdPlayer_get l i hlt, if_neg (by simpa using h1)]

theorem impl_players (l : List S36) (hl : l.length ≤ 1048576) (hx : ∀ x ∈ l, x.f3.length ≤ 1048576) : Ev (fun k => impl_ArePlayers.f k l) (arePlayers l) := by
  have e : arePlayers l = (l.all (fun x => plRange x && asc 1 4 none x.f3) && (decide (l.length ≤ 8) && asc 1 99 none (l.map (·.f0)))) := by
    rw [arePlayers, plL_eq, Bool.and_assoc, Bool.and_comm (asc 1 99 none _)]
  rw [e]
  exact impl_players_loop l hl hx l.length 0 (by omega)

def good (L : List S36) (S : List S73) (n v : Int) : Bool := L.any (fun p => decide (p.f0 = n) && canP p.f1 p.f2 p.f3 S v)
def seatL (L : List S36) (S : List S73) (A : List Int) : Nat → List Int → Bool
  | _, [] => true
  | i, a :: r => (!decide (a ∈ A.take i) && good L S a ((i : Int) + 1)) && seatL L S A (i + 1) r
def specL (L : List S36) (S : List S73) (A : List Int) (E : Bool) : Nat → List Int → Bool
  | _, [] => E
  | i, a :: r => good L S a ((i : Int) + 1) && (!decide (a ∈ A.take i) && specL L S A E (i + 1) r)
theorem specL_eq (L : List S36) (S : List S73) (A : List Int) (E : Bool) (r : List Int) : ∀ i, specL L S A E i r = (E && seatL L S A i r) := by
  induction r with
  | nil => intro i; simp [specL, seatL]
  | cons a r ih =>
    intro i
    rw [specL, seatL, ih]
    cases good L S a ((i : Int) + 1) <;> cases E <;> simp
def isSeat (L : List S36) (S : List S73) (A : List Int) : Bool := (arePlayers L && (isScore S && decide (A.length ≤ 4))) && seatL L S A 0 A

theorem seat_1 (p : S36) (S : List S73) (n v : Int) (hp : p.f3.length ≤ 1048576) (hS : S.length ≤ 1048576) : Ev (fun k => impl_IsSeating_1.f k p.f0 p.f1 p.f2 p.f3 [n] [S] [v]) (decide (p.f0 = n) && canP p.f1 p.f2 p.f3 S (wrap64 (v + 1))) := by
  have e1 : rd [n] 0 = n := rfl
  have e3 : rd [v] 0 = v := rfl
  have h1 : 0 < (([n] : List Int).length : Int) := by simp
  have h2 : 0 < (([S] : List (List S73)).length : Int) := by simp
  have h3 : 0 < (([v] : List Int).length : Int) := by simp
  simp only [impl_IsSeating_1.f, h1, h2, h3, e1, e3, if_true]
  by_cases h : p.f0 = n
  · simp only [h, if_true, decide_true, Bool.true_and]
    exact Ev.bind (impl_can n p.f1 p.f2 p.f3 S (wrap64 (v + 1)) hp hS) (Ev.now _)
  · simp only [h, if_false, decide_false, Bool.false_and]
    exact Ev.now _
theorem seat_index (L : List S36) (S : List S73) (n v : Int) (hL : L.length ≤ 1048576) (hx : ∀ x ∈ L, x.f3.length ≤ 1048576) (hS : S.length ≤ 1048576) (d : Nat) : ∀ i : Nat, i + d = L.length →
    ∃ r, Ev (fun k => slices_IndexFunc_at57.l0 k L (L.length : Int) (i : Int) [n] [S] [v]) r ∧ decide (r ≥ 0) = good (L.drop i) S n (wrap64 (v + 1)) := by
  induction d with
  | zero =>
    intro i h
    refine ⟨-1, Ev.one (fun k => ?_), by rw [List.drop_of_length_le (by omega)]; rfl⟩
    simp only [slices_IndexFunc_at57.l0]
    rw [if_neg (by omega)]
  | succ d ih =>
    intro i h
    have hlt : i < L.length := by omega
    obtain ⟨r, hr, he⟩ := ih (i + 1) (by omega)
    have hb := seat_1 L[i] S n v (hx _ (List.getElem_mem hlt)) hS
    rw [drop_cons L i hlt]
    simp only [good, List.any_cons] at he ⊢
    cases hq : (decide (L[i].f0 = n) && canP L[i].f1 L[i].f2 L[i].f3 S (wrap64 (v + 1)))
    · rw [hq] at hb
      refine ⟨r, Ev.step (f := fun k => (impl_IsSeating_1.f k L[i].f0 L[i].f1 L[i].f2 L[i].f3 [n] [S] [v]).bind fun t => if t = true then some (i : Int) else slices_IndexFunc_at57.l0 k L (L.length : Int) ((i + 1 : Nat) : Int) [n] [S] [v]) (fun k => ?_) ?_, by rw [Bool.false_or]; exact he⟩
      · simp only [slices_IndexFunc_at57.l0]
        rw [if_pos (by omega), if_pos (by omega), if_pos (by omega), rdPlayer_get L i hlt, w64_nat i (by omega)]
      · refine Ev.bind hb ?_
        simp only [Bool.false_eq_true, if_false]
        exact hr
    · rw [hq] at hb
      refine ⟨(i : Int), Ev.step (f := fun k => (impl_IsSeating_1.f k L[i].f0 L[i].f1 L[i].f2 L[i].f3 [n] [S] [v]).bind fun t => if t = true then some (i : Int) else slices_IndexFunc_at57.l0 k L (L.length : Int) ((i + 1 : Nat) : Int) [n] [S] [v]) (fun k => ?_) ?_, by simp⟩
      · simp only [slices_IndexFunc_at57.l0]
        rw [if_pos (by omega), if_pos (by omega), if_pos (by omega), rdPlayer_get L i hlt, w64_nat i (by omega)]
      · refine Ev.bind hb ?_
        simp only [if_true]
        exact Ev.now _
theorem seat_contains (L : List S36) (S : List S73) (n : Int) (i : Nat) (hi : i ≤ 1048576) (hL : L.length ≤ 1048576) (hx : ∀ x ∈ L, x.f3.length ≤ 1048576) (hS : S.length ≤ 1048576) : Ev (fun k => slices_ContainsFunc_at57.f k L [n] [S] [(i : Int)]) (good L S n ((i : Int) + 1)) := by
  obtain ⟨r, hr, he⟩ := seat_index L S n (i : Int) hL hx hS L.length 0 (by omega)
  rw [List.drop_zero, w64 (x := (i : Int) + 1) (by omega) (by omega)] at he
  simp only [slices_ContainsFunc_at57.f]
  rw [← he]
  exact Ev.bind hr (Ev.now _)
theorem impl_seat_loop (L : List S36) (S : List S73) (A : List Int) (hA : A.length ≤ 1048576) (hL : L.length ≤ 1048576) (hx : ∀ x ∈ L, x.f3.length ≤ 1048576) (hS : S.length ≤ 1048576) (d : Nat) : ∀ i : Nat, i + d = A.length → Ev (fun k => impl_IsSeating.l0 k L A A (A.length : Int) (i : Int) S) (seatL L S A i (A.drop i)) := by
  induction d with
  | zero =>
    intro i h
    rw [List.drop_of_length_le (by omega)]
    refine Ev.one (fun k => ?_)
    simp only [impl_IsSeating.l0]
    rw [if_neg (by omega)]
    rfl
  | succ d ih =>
    intro i h
    have hlt : i < A.length := by omega
    rw [drop_cons A i hlt, seatL]
    refine Ev.step (f := fun k => (slices_Contains_int_int.f k (A.take i) A[i]).bind fun t => if t = true then some false else (slices_ContainsFunc_at57.f k L [A[i]] [S] [(i : Int)]).bind fun t => if t = true then impl_IsSeating.l0 k L A A (A.length : Int) ((i + 1 : Nat) : Int) S else some false) (fun k => ?_) (Ev.bind (contains_ev (A.take i) A[i] (by simp; omega)) ?_)
    · simp only [impl_IsSeating.l0, Int.toNat_natCast]
      rw [if_pos (by omega), if_pos (by omega), if_pos (by omega), if_pos (by omega), rd_get A i hlt, w64_nat i (by omega)]
    · by_cases h1 : A[i] ∈ A.take i
      · simp only [h1, decide_true, if_true, Bool.not_true, Bool.false_and]
        exact Ev.now _
      · simp only [h1, decide_false, Bool.false_eq_true, if_false, Bool.not_false, Bool.true_and]
        refine Ev.bind (seat_contains L S A[i] i (by omega) hL hx hS) ?_
        cases good L S A[i] ((i : Int) + 1)
        · simp only [Bool.false_eq_true, if_false, Bool.false_and]
          exact Ev.now _
        · simp only [if_true, Bool.true_and]
          exact ih (i + 1) (by omega)
theorem impl_seat (L : List S36) (S : List S73) (A : List Int) (hA : A.length ≤ 1048576) (hL : L.length ≤ 1048576) (hx : ∀ x ∈ L, x.f3.length ≤ 1048576) (hS : S.length ≤ 1048576) : Ev (fun k => impl_IsSeating.f k L S A) (isSeat L S A) := by
  have hbad : Ev (fun k => impl_IsSeating.j0 k L A true S) false := Ev.one (fun k => by simp only [impl_IsSeating.j0, if_true])
  simp only [impl_IsSeating.f, isSeat]
  refine Ev.bind (impl_players L hL hx) ?_
  cases arePlayers L
  · simp only [Bool.false_eq_true, if_false, Bool.false_and]
    exact hbad
  · simp only [if_true, Bool.true_and]
    refine Ev.bind (impl_score S hS) ?_
    cases isScore S
    · simp only [Bool.false_eq_true, if_false, Bool.false_and]
      exact hbad
    · simp only [if_true, Bool.true_and]
      by_cases h4 : A.length ≤ 4
      · rw [decide_eq_true h4, Bool.true_and, decide_eq_false (show ¬ (A.length : Int) > 4 by omega)]
        refine Ev.step (fun k => ?_) (impl_seat_loop L S A hA hL hx hS A.length 0 (by omega))
        simp only [impl_IsSeating.j0, Bool.false_eq_true, if_false]
        rfl
      · rw [decide_eq_false h4, Bool.false_and, decide_eq_true (show (A.length : Int) > 4 by omega)]
        exact hbad
theorem spec_seat_in (L : List S36) (S : List S73) (A : List Int) (hA : A.length ≤ 1048576) (hL : L.length ≤ 1048576) (hx : ∀ x ∈ L, x.f3.length ≤ 1048576) (hS : S.length ≤ 1048576) (i : Nat) (hi : i < A.length) (R : Bool) (hR : Ev (fun k => spec_IsSeating.l0 k L S A ((i + 1 : Nat) : Int)) R) (d : Nat) :
    ∀ (j : Nat) (g : Bool), j + d = L.length → Ev (fun k => spec_IsSeating.l1 k L S A (i : Int) g (j : Int)) ((g || good (L.drop j) S A[i] ((i : Int) + 1)) && (!decide (A[i] ∈ A.take i) && R)) := by
  induction d with
  | zero =>
    intro j g h
    rw [List.drop_of_length_le (by omega)]
    simp only [good, List.any_nil, Bool.or_false]
    cases g
    · rw [Bool.false_and]
      refine Ev.one (fun k => ?_)
      simp only [spec_IsSeating.l1, Bool.false_eq_true, if_false]
      rw [if_neg (by omega)]
    · rw [Bool.true_and]
      refine Ev.step (f := fun k => (spec_l27Has.f k (A.take i) A[i]).bind fun t => if t = true then some false else spec_IsSeating.l0 k L S A ((i + 1 : Nat) : Int)) (fun k => ?_) (Ev.bind (has_ev (A.take i) A[i] (by simp; omega)) ?_)
      · simp only [spec_IsSeating.l1, if_true, Int.toNat_natCast]
        rw [if_neg (by omega), if_pos (by omega), if_pos (by omega), if_pos (by omega), rd_get A i hi, w64_nat i (by omega)]
      · by_cases h1 : A[i] ∈ A.take i
        · simp only [h1, decide_true, if_true, Bool.not_true, Bool.false_and]
          exact Ev.now _
        · simp only [h1, decide_false, Bool.false_eq_true, if_false, Bool.not_false, Bool.true_and]
          exact hR
  | succ d ih =>
    intro j g h
    have hlt : j < L.length := by omega
    rw [drop_cons L j hlt]
    cases g
    · simp only [good, List.any_cons, Bool.false_or]
      by_cases hc : L[j].f0 = A[i]
      · have h2 := ih (j + 1) (canP L[j].f1 L[j].f2 L[j].f3 S ((i : Int) + 1)) (by omega)
        simp only [good] at h2
        simp only [hc, decide_true, Bool.true_and]
        refine Ev.step (f := fun k => (spec_CanPlay.f k A[i] L[j].f1 L[j].f2 L[j].f3 S ((i : Int) + 1)).bind fun t => spec_IsSeating.l1 k L S A (i : Int) t ((j + 1 : Nat) : Int)) (fun k => ?_) (Ev.bind (spec_can A[i] L[j].f1 L[j].f2 L[j].f3 S _ (hx _ (List.getElem_mem hlt)) hS) h2)
        simp only [spec_IsSeating.l1, Bool.false_eq_true, if_false]
        rw [if_pos (by omega), if_pos (by omega), if_pos (by omega), if_pos (by omega), rdPlayer_get L j hlt, rd_get A i hi, if_pos hc, hc, w64 (x := (i : Int) + 1) (by omega) (by omega), w64_nat j (by omega)]
      · have h2 := ih (j + 1) false (by omega)
        simp only [good, Bool.false_or] at h2
        simp only [hc, decide_false, Bool.false_and, Bool.false_or]
        refine Ev.step (fun k => ?_) h2
        simp only [spec_IsSeating.l1, Bool.false_eq_true, if_false]
        rw [if_pos (by omega), if_pos (by omega), if_pos (by omega), if_pos (by omega), rdPlayer_get L j hlt, rd_get A i hi, if_neg hc, w64_nat j (by omega)]
    · have h2 := ih (j + 1) true (by omega)
      rw [Bool.true_or] at h2 ⊢
      refine Ev.step (fun k => ?_) h2
      simp only [spec_IsSeating.l1, if_true]
      rw [if_pos (by omega), w64_nat j (by omega)]
theorem spec_seat_loop (L : List S36) (S : List S73) (A : List Int) (hA : A.length ≤ 1048576) (hL : L.length ≤ 1048576) (hx : ∀ x ∈ L, x.f3.length ≤ 1048576) (hS : S.length ≤ 1048576) (d : Nat) : ∀ i : Nat, i + d = A.length →
    Ev (fun k => spec_IsSeating.l0 k L S A (i : Int)) (specL L S A (arePlayers L && (isScore S && decide (A.length ≤ 4))) i (A.drop i)) := by
  induction d with
  | zero =>
    intro i h
    rw [List.drop_of_length_le (by omega), specL]
    refine Ev.step (f := fun k => (spec_ArePlayers.f k L).bind fun t => if t = true then ((spec_IsScore.f k S).bind fun t => if t = true then some (decide ((A.length : Int) ≤ 4)) else some false) else some false) (fun k => ?_) (Ev.bind (spec_players L hL hx) ?_)
    · simp only [spec_IsSeating.l0]
      rw [if_neg (by omega)]
    · cases arePlayers L
      · simp only [Bool.false_eq_true, if_false, Bool.false_and]
        exact Ev.now _
      · simp only [if_true, Bool.true_and]
        refine Ev.bind (spec_score S hS) ?_
        cases isScore S
        · simp only [Bool.false_eq_true, if_false, Bool.false_and]
          exact Ev.now _
        · simp only [if_true, Bool.true_and]
          rw [show decide (A.length ≤ 4) = decide ((A.length : Int) ≤ 4) from decide_eq_decide.2 (by omega)]
          exact Ev.now _
  | succ d ih =>
    intro i h
    have hlt : i < A.length := by omega
    rw [drop_cons A i hlt, specL]
    have h2 := spec_seat_in L S A hA hL hx hS i hlt _ (ih (i + 1) (by omega)) L.length 0 false (by omega)
    rw [List.drop_zero, Bool.false_or] at h2
    refine Ev.step (fun k => ?_) h2
    simp only [spec_IsSeating.l0]
    rw [if_pos (by omega)]
    rfl
theorem spec_seat (L : List S36) (S : List S73) (A : List Int) (hA : A.length ≤ 1048576) (hL : L.length ≤ 1048576) (hx : ∀ x ∈ L, x.f3.length ≤ 1048576) (hS : S.length ≤ 1048576) : Ev (fun k => spec_IsSeating.f k L S A) (isSeat L S A) := by
  have h := spec_seat_loop L S A hA hL hx hS A.length 0 (by omega)
  rw [specL_eq, List.drop_zero] at h
  exact h

def subL (A : List Int) (S : List S73) (v : Int) : List S36 → Int × Bool
  | [] => (0, false)
  | p :: r => if p.f0 ∈ A then subL A S v r else if canP p.f1 p.f2 p.f3 S v = true then (p.f0, true) else subL A S v r
def subR (L : List S36) (S : List S73) (A : List Int) (v : Int) : Int × Bool := if isSeat L S A = true then (if 1 ≤ v ∧ v ≤ (A.length : Int) then subL A S v L else (0, false)) else (0, false)
theorem impl_sub_loop (L : List S36) (S : List S73) (A : List Int) (v : Int) (hA : A.length ≤ 1048576) (hL : L.length ≤ 1048576) (hx : ∀ x ∈ L, x.f3.length ≤ 1048576) (hS : S.length ≤ 1048576) (d : Nat) : ∀ i : Nat, i + d = L.length → Ev (fun k => impl_Substitute.l0 k S A v L (L.length : Int) (i : Int)) (subL A S v (L.drop i)) := by
  induction d with
  | zero =>
    intro i h
    rw [List.drop_of_length_le (by omega)]
    refine Ev.one (fun k => ?_)
    simp only [impl_Substitute.l0]
    rw [if_neg (by omega)]
    rfl
  | succ d ih =>
    intro i h
    have hlt : i < L.length := by omega
    rw [drop_cons L i hlt, subL]
    refine Ev.step (f := fun k => (slices_Contains_int_int.f k A L[i].f0).bind fun t => if t = true then impl_Substitute.l0 k S A v L (L.length : Int) ((i + 1 : Nat) : Int) else (impl_CanPlay.f k L[i].f0 L[i].f1 L[i].f2 L[i].f3 S v).bind fun t => if t = true then some (L[i].f0, true) else impl_Substitute.l0 k S A v L (L.length : Int) ((i + 1 : Nat) : Int)) (fun k => ?_) (Ev.bind (contains_ev A L[i].f0 hA) ?_)
    · simp only [impl_Substitute.l0]
      rw [if_pos (by omega), if_pos (by omega), if_pos (by omega), rdPlayer_get L i hlt, w64_nat i (by omega)]
    · by_cases h1 : L[i].f0 ∈ A
      · simp only [h1, decide_true, if_true]
        exact ih (i + 1) (by omega)
      · simp only [h1, decide_false, Bool.false_eq_true, if_false]
        refine Ev.bind (impl_can L[i].f0 L[i].f1 L[i].f2 L[i].f3 S v (hx _ (List.getElem_mem hlt)) hS) ?_
        cases canP L[i].f1 L[i].f2 L[i].f3 S v
        · simp only [Bool.false_eq_true, if_false]
          exact ih (i + 1) (by omega)
        · simp only [if_true]
          exact Ev.now _
theorem spec_sub_loop (L : List S36) (S : List S73) (A : List Int) (v : Int) (hA : A.length ≤ 1048576) (hL : L.length ≤ 1048576) (hx : ∀ x ∈ L, x.f3.length ≤ 1048576) (hS : S.length ≤ 1048576) (d : Nat) : ∀ i : Nat, i + d = L.length → Ev (fun k => spec_Substitute.l0 k L S A v (i : Int)) (subL A S v (L.drop i)) := by
  induction d with
  | zero =>
    intro i h
    rw [List.drop_of_length_le (by omega)]
    refine Ev.one (fun k => ?_)
    simp only [spec_Substitute.l0]
    rw [if_neg (by omega)]
    rfl
  | succ d ih =>
    intro i h
    have hlt : i < L.length := by omega
    rw [drop_cons L i hlt, subL]
    refine Ev.step (f := fun k => (spec_l27Has.f k A L[i].f0).bind fun t => if t = true then spec_Substitute.l0 k L S A v ((i + 1 : Nat) : Int) else (spec_CanPlay.f k L[i].f0 L[i].f1 L[i].f2 L[i].f3 S v).bind fun t => if t = true then some (L[i].f0, true) else spec_Substitute.l0 k L S A v ((i + 1 : Nat) : Int)) (fun k => ?_) (Ev.bind (has_ev A L[i].f0 hA) ?_)
    · simp only [spec_Substitute.l0]
      rw [if_pos (by omega), if_pos (by omega), rdPlayer_get L i hlt, w64_nat i (by omega)]
    · by_cases h1 : L[i].f0 ∈ A
      · simp only [h1, decide_true, if_true]
        exact ih (i + 1) (by omega)
      · simp only [h1, decide_false, Bool.false_eq_true, if_false]
        refine Ev.bind (spec_can L[i].f0 L[i].f1 L[i].f2 L[i].f3 S v (hx _ (List.getElem_mem hlt)) hS) ?_
        cases canP L[i].f1 L[i].f2 L[i].f3 S v
        · simp only [Bool.false_eq_true, if_false]
          exact ih (i + 1) (by omega)
        · simp only [if_true]
          exact Ev.now _
theorem impl_sub (L : List S36) (S : List S73) (A : List Int) (v : Int) (hA : A.length ≤ 1048576) (hL : L.length ≤ 1048576) (hx : ∀ x ∈ L, x.f3.length ≤ 1048576) (hS : S.length ≤ 1048576) : Ev (fun k => impl_Substitute.f k L S A v) (subR L S A v) := by
  have hbad : Ev (fun k => impl_Substitute.j0 k L S A v true) (0, false) := Ev.one (fun k => by simp only [impl_Substitute.j0, if_true])
  simp only [impl_Substitute.f, subR, inRange_eq, Option.bind_some]
  refine Ev.bind (impl_seat L S A hA hL hx hS) ?_
  by_cases h : isSeat L S A = true
  · simp only [h, if_true]
    by_cases h2 : 1 ≤ v ∧ v ≤ (A.length : Int)
    · rw [if_pos h2, decide_eq_true h2]
      refine Ev.step (fun k => ?_) (impl_sub_loop L S A v hA hL hx hS L.length 0 (by omega))
      simp only [impl_Substitute.j0, Bool.not_true, Bool.false_eq_true, if_false]
      rfl
    · rw [if_neg h2, decide_eq_false h2]
      exact hbad
  · simp only [h, if_false]
    exact hbad
theorem spec_sub (L : List S36) (S : List S73) (A : List Int) (v : Int) (hA : A.length ≤ 1048576) (hL : L.length ≤ 1048576) (hx : ∀ x ∈ L, x.f3.length ≤ 1048576) (hS : S.length ≤ 1048576) : Ev (fun k => spec_Substitute.f k L S A v) (subR L S A v) := by
  have hbad : Ev (fun k => spec_Substitute.j0 k L S A v true) (0, false) := Ev.one (fun k => by simp only [spec_Substitute.j0, if_true])
  simp only [spec_Substitute.f, subR, l1In_eq, Option.bind_some]
  refine Ev.bind (spec_seat L S A hA hL hx hS) ?_
  by_cases h : isSeat L S A = true
  · simp only [h, if_true]
    by_cases h2 : 1 ≤ v ∧ v ≤ (A.length : Int)
    · rw [if_pos h2, decide_eq_true h2]
      refine Ev.step (fun k => ?_) (spec_sub_loop L S A v hA hL hx hS L.length 0 (by omega))
      simp only [spec_Substitute.j0, Bool.not_true, Bool.false_eq_true, if_false]
      rfl
    · rw [if_neg h2, decide_eq_false h2]
      exact hbad
  · simp only [h, if_false]
    exact hbad

theorem rdlEvent_get (l : List S75) (i : Nat) (h : i < l.length) : rd_T75 l (i : Int) = l[i] := by
  simp [rd_T75, List.getD, List.getElem?_eq_getElem h]

def cvEvent (x : S75) : S73 := ⟨x.f0, x.f1, x.f2, x.f3⟩

theorem toEventS_ev (l : List S75) (hl : l.length ≤ 1048576) : Ev (fun k => laws_toEventS.f k l) (l.map cvEvent) := by
  have key := copyLoop (fun k x3 i => laws_toEventS.l0 k l x3 i) l cvEvent (by
    intro x3 i r hi hx h
    refine Ev.step (fun k => ?_) h
    simp only [laws_toEventS.l0, laws_toEvent.f, Option.bind_some]
    rw [if_pos (by omega), if_pos (by omega), if_pos (by omega), rdlEvent_get l i hi, w64_nat i (by omega), Int.toNat_natCast]
    rfl) (by
    intro x3
    refine Ev.one (fun k => ?_)
    simp only [laws_toEventS.l0]
    rw [if_neg (by omega)]) (List.replicate l.length z73) (by simp)
  refine Ev.congr (fun k => ?_) key
  simp only [laws_toEventS.f, Int.toNat_natCast]
  rw [if_pos (by omega), if_pos (by omega)]

theorem eqEventS_ev (l : List S73) (hl : l.length ≤ 140737488355328) : Ev (fun k => laws_eqEventS.f k l l) true := by
  have key := eqLoop (fun k i => laws_eqEventS.l0 k l l i) l (by
    intro i r hi h
    refine Ev.step (fun k => ?_) h
    simp only [laws_eqEventS.l0, laws_eqEvent.f, if_true, Option.bind_some]
    rw [if_pos (by omega), if_pos (by omega), if_pos (by omega), w64_nat i (by omega)]) (by
    refine Ev.one (fun k => ?_)
    simp only [laws_eqEventS.l0]
    rw [if_neg (by omega)])
  refine Ev.congr (fun k => ?_) key
  simp only [laws_eqEventS.f, if_true]

theorem szEventS_ev (l : List S75) (b : Int) (hb : 0 ≤ b) (hb2 : b ≤ 1048576) (h0 : l.length ≤ 9223372036854775807) : laws_szEventS.f l b = some (if b < (l.length : Int) then -1 else b - (l.length : Int)) := by
  simp only [laws_szEventS.f]
  rw [w64 (by omega) (by omega)]
  split
  · rw [if_pos (by omega)]
  · rw [if_neg (by omega)]

theorem FnExactSubstitute : ∀ (l0 : List (S31)) (l1 : List (S75)) (l2 : List Int) (a3 : Int), (l0.length ≤ maxLen ∧ l0.length * 48 ≤ 140737488351232 ∧ ∀ l0' ∈ l0, ((Lit.int .i64 l0'.f0).wf = true) ∧ ((Lit.int .i64 l0'.f1).wf = true) ∧ ((Lit.int .i64 l0'.f2).wf = true) ∧ (l0'.f3.length ≤ maxLen ∧ l0'.f3.length * 8 ≤ 140737488351232 ∧ ∀ l0'_f3' ∈ l0'.f3, (Lit.int .i64 l0'_f3').wf = true)) → (l1.length ≤ maxLen ∧ l1.length * 32 ≤ 140737488351232 ∧ ∀ l1' ∈ l1, ((Lit.int .i64 l1'.f0).wf = true) ∧ ((Lit.int .i64 l1'.f1).wf = true) ∧ ((Lit.int .i64 l1'.f2).wf = true) ∧ ((Lit.int .i64 l1'.f3).wf = true)) → (l2.length ≤ maxLen ∧ l2.length * 8 ≤ 140737488351232 ∧ ∀ l2' ∈ l2, (Lit.int .i64 l2').wf = true) → ((Lit.int .i64 a3).wf = true) → ∃ k, laws_FnExactSubstitute.f k l0 l1 l2 a3 = some true := by
  intro L S A v h0 h1 h2 _
  have hmL : L.length ≤ 9223372036854775807 := h0.1
  have hmS : S.length ≤ 9223372036854775807 := h1.1
  refine Ev.rounds (g := fun k => laws_FnExactSubstitute.f k L S A v) ?_
  simp only [laws_FnExactSubstitute.f]
  by_cases hA : (A.length : Int) > 1048576
  · simp only [hA, if_true]
    exact Ev.now true
  · simp only [hA, if_false]
    obtain ⟨r, hr, hor⟩ := szPlayerS_ev L 1048576 (by omega) (by omega) hmL (fun x hx => (h0.2.2 x hx).2.2.2.1)
    refine Ev.bind hr ?_
    rcases hor with h | ⟨g1, g2, hlL, hxL⟩
    · simp only [h, if_true]
      exact Ev.now true
    · have hn : ¬ r < 0 := by omega
      simp only [hn, if_false]
      simp only [szEventS_ev S r g1 (by omega) hmS, Option.bind_some]
      by_cases h3 : r < (S.length : Int)
      · simp only [h3, if_true]
        exact Ev.now true
      · have hn2 : ¬ r - (S.length : Int) < 0 := by omega
        simp only [h3, hn2, if_false]
        have tL := toPlayerS_ev L hlL hxL
        have tS := toEventS_ev S (by omega)
        have tA := toIntS_ev A (by omega)
        have hlL' : (L.map cvPlayer).length ≤ 1048576 := by simpa using hlL
        have hlS' : (S.map cvEvent).length ≤ 1048576 := by simp; omega
        have hxL' : ∀ x ∈ L.map cvPlayer, x.f3.length ≤ 1048576 := by
          intro x hx0
          obtain ⟨y, hy, rfl⟩ := List.mem_map.1 hx0
          exact hxL y hy
        refine Ev.bind tL ?_
        refine Ev.bind tS ?_
        refine Ev.bind tA ?_
        refine Ev.bind (spec_sub _ _ A v (by omega) hlL' hxL' hlS') ?_
        refine Ev.bind tL ?_
        refine Ev.bind tS ?_
        refine Ev.bind tA ?_
        refine Ev.bind (impl_sub _ _ A v (by omega) hlL' hxL' hlS') ?_
        simp only [bne_self_eq_false, if_true]
        refine Ev.step (fun k => by simp only [laws_FnExactSubstitute.j0, Bool.false_eq_true, if_false]; rfl) ?_
        refine Ev.bind tL ?_
        refine Ev.bind (eqPlayerS_ev _ hlL' hxL') ?_
        simp only [if_true]
        refine Ev.bind tS ?_
        refine Ev.bind (eqEventS_ev _ (by omega)) ?_
        simp only [if_true]
        refine Ev.bind tA ?_
        refine Ev.bind (eqIntS_ev A (by omega)) ?_
        simp only [if_true]
        exact Ev.now true

end Go.Proofs.Ytkonalnohdplnaa.Pure
