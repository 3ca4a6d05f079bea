/- The plain statement of the law FnLetters: what its printed function answers; no conditions but that the numbers are Go's ints and the slices no longer than memory. -/
import Derived.Test.YthndhplhaaaafaaQFnLettersx5
set_option linter.unusedVariables false
set_option linter.unusedSimpArgs false
namespace Go.Proofs.Ythndhplhaaaafaa.Pure
open Go.RowKit Go.Proofs.Ythndhplhaaaafaa.QFnLetters Go.Proofs.YthndhplhaaaafaaW.PrintWords Go.Proofs.YthndhplhaaaafaaW.PrintLast Go.Proofs.YthndhplhaaaafaaW.PrintMore

theorem inRange_eq (a b c : Int) : impl_InRange.f a b c = some (decide (b ≤ a ∧ a ≤ c)) := by
  unfold impl_InRange.f
  split <;> simp <;> omega

theorem wf64 {x : Int} (h : (Lit.int .i64 x).wf = true) : -9223372036854775808 ≤ x ∧ x ≤ 9223372036854775807 := by
  simp only [Lit.wf, IntKind.min, IntKind.max, IntKind.signed, IntKind.bits, Bool.and_eq_true, decide_eq_true_eq, if_true] at h
  omega

theorem w64 {x : Int} (h1 : -9223372036854775808 ≤ x) (h2 : x ≤ 9223372036854775807) : wrap64 x = x := by
  unfold wrap64
  omega

theorem w64_nat (i : Nat) (h : i ≤ 9223372036854775806) : wrap64 ((i : Int) + 1) = ((i + 1 : Nat) : Int) := by
  unfold wrap64
  omega

theorem drop_cons {α : Type} (l : List α) (i : Nat) (h : i < l.length) : l.drop i = l[i] :: l.drop (i + 1) := List.drop_eq_getElem_cons h

theorem set_take {β : Type} (x : List β) (i : Nat) (v : β) (h : i < x.length) : (x.set i v).take (i + 1) = x.take i ++ [v] := by
  apply List.ext_getElem?
  intro j
  rcases Nat.lt_trichotomy j i with hj | hj | hj
  · rw [List.getElem?_take_of_lt (by omega), List.getElem?_set_ne (by omega), List.getElem?_append_left (by simp; omega), List.getElem?_take_of_lt (by omega)]
  · subst hj
    rw [List.getElem?_take_of_lt (by omega), List.getElem?_set_self (by omega), List.getElem?_append_right (by simp; omega)]
    simp [Nat.min_eq_left (Nat.le_of_lt h)]
  · rw [List.getElem?_take_eq_none (by omega), List.getElem?_append_right (by simp; omega)]
    simp
    omega

theorem copyLoop {α β : Type} (F : Nat → List β → Int → Option (List β)) (x0 : List α) (cv : α → β)
    (h1 : ∀ (x3 : List β) (i : Nat) (r : List β) (hi : i < x0.length), x3.length = x0.length → Ev (fun k => F k (x3.set i (cv x0[i])) ((i + 1 : Nat) : Int)) r → Ev (fun k => F k x3 (i : Int)) r)
    (h2 : ∀ x3 : List β, Ev (fun k => F k x3 (x0.length : Int)) x3) (init : List β) (hl : init.length = x0.length) : Ev (fun k => F k init 0) (x0.map cv) := by
  have key : ∀ (d i : Nat) (x3 : List β), i + d = x0.length → x3.length = x0.length → x3.take i = (x0.map cv).take i → Ev (fun k => F k x3 (i : Int)) (x0.map cv) := by
    intro d
    induction d with
    | zero =>
      intro i x3 hi hx ht
      obtain rfl : i = x0.length := by omega
      have e : x3 = x0.map cv := by
        rw [← hx, List.take_length] at ht
        rw [ht, hx]
        exact List.take_of_length_le (by simp)
      have := h2 x3
      rw [e] at this
      rw [e]
      exact this
    | succ d ih =>
      intro i x3 hi hx ht
      have hlt : i < x0.length := by omega
      refine h1 x3 i _ hlt hx (ih (i + 1) _ (by omega) (by rw [List.length_set]; exact hx) ?_)
      rw [set_take x3 i _ (by omega), ht]
      rw [List.take_succ_eq_append_getElem (by simpa using hlt)]
      simp
  have := key x0.length 0 init (by omega) hl (by simp)
  exact this

theorem eqLoop {α : Type} (F : Nat → Int → Option Bool) (x0 : List α)
    (h1 : ∀ (i : Nat) (r : Bool) (_ : i < x0.length), Ev (fun k => F k ((i + 1 : Nat) : Int)) r → Ev (fun k => F k (i : Int)) r)
    (h2 : Ev (fun k => F k (x0.length : Int)) true) : Ev (fun k => F k 0) true := by
  have key : ∀ (d i : Nat), i + d = x0.length → Ev (fun k => F k (i : Int)) true := by
    intro d
    induction d with
    | zero =>
      intro i hi
      obtain rfl : i = x0.length := by omega
      exact h2
    | succ d ih =>
      intro i hi
      exact h1 i true (by omega) (ih (i + 1) (by omega))
  exact key x0.length 0 (by omega)

theorem ite_eq_of {α : Type} {p : Prop} [Decidable p] {a b : α} (h : p) : (if p then a else b) = a := if_pos h

theorem Ev.one {α : Type} {g : Nat → Option α} {r : α} (h : ∀ k, g (k + 1) = some r) : Ev g r := Ev.step (f := fun _ => some r) h (Ev.now r)
theorem rdLetter_get (l : List S44) (i : Nat) (h : i < l.length) : rd_T44 l (i : Int) = l[i] := by
  simp [rd_T44, List.getD, List.getElem?_eq_getElem h]

/-- The letters from number i on, the one before them at bar p. -/

def areL : Int → Int → List S44 → Bool
  | _, _, [] => true
  | i, p, x :: l => decide (x.f0 = i ∧ 1 ≤ x.f1 ∧ x.f1 ≤ 500 ∧ p < x.f1) && areL (i + 1) x.f1 l

def areLR (l : List S44) : Bool := areL 0 0 l && decide (l.length ≤ 26)

theorem impl_areL_ev (l : List S44) (hl : l.length ≤ 1048576) (d : Nat) : ∀ (i : Nat) (p : Int), i + d = l.length → (i = 0 ∧ p = 0 ∨ ∃ h : i - 1 < l.length, 0 < i ∧ p = (l[i - 1]).f1) →
    Ev (fun k => impl_AreLetters.l0 k l l (l.length : Int) (i : Int)) (areL i p (l.drop i) && decide (l.length ≤ 26)) := by
  induction d with
  | zero =>
    intro i p hi hp
    rw [List.drop_of_length_le (by omega)]
    refine Ev.one (fun k => ?_)
    simp only [impl_AreLetters.l0, areL, Bool.true_and]
    rw [if_neg (by omega)]
    refine congrArg some (decide_eq_decide.2 ?_)
    omega
  | succ d ih =>
    intro i p hi hp
    have hlt : i < l.length := by omega
    rw [drop_cons l i hlt]
    have next := ih (i + 1) l[i].f1 (by omega) (.inr ⟨by omega, by omega, rfl⟩)
    by_cases h0 : l[i].f0 = (i : Int)
    · by_cases h1 : 1 ≤ l[i].f1 ∧ l[i].f1 ≤ 500
      · rcases hp with ⟨rfl, rfl⟩ | ⟨hi1, hpos, rfl⟩
        · refine Ev.step (f := fun k => impl_AreLetters.l0 k l l (l.length : Int) ((0 + 1 : Nat) : Int)) (fun k => ?_) ?_
          · simp only [impl_AreLetters.l0, inRange_eq, Option.bind_some]
            rw [if_pos (by omega), if_pos (by omega), if_pos (by omega), rdLetter_get l 0 hlt, if_pos h0, if_pos (decide_eq_true h1), if_neg (by omega), w64_nat 0 (by omega)]
          · rw [areL, decide_eq_true ⟨h0, h1.1, h1.2, by omega⟩, Bool.true_and]
            exact next
        · have hw : wrap64 ((i : Int) - 1) = ((i - 1 : Nat) : Int) := by unfold wrap64; omega
          by_cases h2 : (l[i - 1]).f1 ≥ l[i].f1
          · rw [areL, decide_eq_false (by omega), Bool.false_and, Bool.false_and]
            refine Ev.one (fun k => ?_)
            simp only [impl_AreLetters.l0, inRange_eq, Option.bind_some]
            rw [if_pos (by omega), if_pos (by omega), if_pos (by omega), rdLetter_get l i hlt, if_pos h0, if_pos (decide_eq_true h1), if_pos (by omega), hw, if_pos (by omega), if_pos (by omega), rdLetter_get l (i - 1) hi1, if_pos h2]
          · rw [areL, decide_eq_true ⟨h0, h1.1, h1.2, by omega⟩, Bool.true_and]
            refine Ev.step (fun k => ?_) next
            simp only [impl_AreLetters.l0, inRange_eq, Option.bind_some]
            rw [if_pos (by omega), if_pos (by omega), if_pos (by omega), rdLetter_get l i hlt, if_pos h0, if_pos (decide_eq_true h1), if_pos (by omega), hw, if_pos (by omega), if_pos (by omega), rdLetter_get l (i - 1) hi1, if_neg h2, w64_nat i (by omega)]
      · rw [areL, decide_eq_false (by omega), Bool.false_and, Bool.false_and]
        refine Ev.one (fun k => ?_)
        simp only [impl_AreLetters.l0, inRange_eq, Option.bind_some]
        rw [if_pos (by omega), if_pos (by omega), if_pos (by omega), rdLetter_get l i hlt, if_pos h0, if_neg (by simpa using h1)]
    · rw [areL, decide_eq_false (by omega), Bool.false_and, Bool.false_and]
      refine Ev.one (fun k => ?_)
      simp only [impl_AreLetters.l0]
      rw [if_pos (by omega), if_pos (by omega), if_pos (by omega), rdLetter_get l i hlt, if_neg h0]

theorem impl_areLR (l : List S44) (hl : l.length ≤ 1048576) : Ev (fun k => impl_AreLetters.f k l) (areLR l) := impl_areL_ev l hl l.length 0 0 (by omega) (.inl ⟨rfl, rfl⟩)
theorem drop_set_lt {α : Type} (l : List α) (i j : Nat) (v : α) (h : i < j) : (l.set i v).drop j = l.drop j := by
  apply List.ext_getElem?
  intro q
  rw [List.getElem?_drop, List.getElem?_drop, List.getElem?_set_ne (by omega)]

theorem mapLoop {β ρ : Type} (F : Nat → List β → Int → Option ρ) (l : List β) (tr : β → β) (r : ρ)
    (h1 : ∀ (x3 : List β) (i : Nat) (hi : i < l.length), x3.length = l.length → x3[i]? = some l[i] → Ev (fun k => F k (x3.set i (tr l[i])) ((i + 1 : Nat) : Int)) r → Ev (fun k => F k x3 (i : Int)) r)
    (h2 : Ev (fun k => F k (l.map tr) (l.length : Int)) r) : Ev (fun k => F k l 0) r := by
  have key : ∀ (d i : Nat) (x3 : List β), i + d = l.length → x3.length = l.length → x3.take i = (l.map tr).take i → x3.drop i = l.drop i → Ev (fun k => F k x3 (i : Int)) r := by
    intro d
    induction d with
    | zero =>
      intro i x3 hi hx ht _
      obtain rfl : i = l.length := by omega
      have e : x3 = l.map tr := by
        rw [← hx, List.take_length] at ht
        rw [ht, hx]
        exact List.take_of_length_le (by simp)
      rw [e]
      exact h2
    | succ d ih =>
      intro i x3 hi hx ht hd
      have hlt : i < l.length := by omega
      refine h1 x3 i hlt hx ?_ (ih (i + 1) _ (by omega) (by rw [List.length_set]; exact hx) ?_ ?_)
      · have := congrArg (fun q => q[0]?) hd
        simp only [List.getElem?_drop, Nat.add_zero] at this
        rw [this, List.getElem?_eq_getElem hlt]
      · rw [set_take x3 i _ (by omega), ht, List.take_succ_eq_append_getElem (by simpa using hlt)]
        simp
      · rw [drop_set_lt _ _ _ _ (by omega), ← List.drop_drop, hd, List.drop_drop]
  exact key l.length 0 l (by omega) rfl (by simp) rfl

def insB (a n : Int) (x : S44) : S44 := if x.f1 ≥ a then ⟨x.f0, x.f1 + n⟩ else x

theorem areL_b (l : List S44) : ∀ i p, areL i p l = true → ∀ x ∈ l, 1 ≤ x.f1 ∧ x.f1 ≤ 500 := by
  induction l with
  | nil => intro i p _ x hx; simp at hx
  | cons y l ih =>
    intro i p h x hx
    simp only [areL, Bool.and_eq_true, decide_eq_true_eq] at h
    rcases List.mem_cons.1 hx with rfl | hx
    · omega
    · exact ih _ _ h.2 x hx

theorem set_self {α : Type} (x : List α) (i : Nat) (v : α) (h : x[i]? = some v) : x.set i v = x := by
  apply List.ext_getElem?
  intro j
  by_cases hj : i = j
  · subst hj
    have hlt := (List.getElem?_eq_some_iff.1 h).1
    rw [List.getElem?_set_self hlt, h]
  · rw [List.getElem?_set_ne hj]

def insR (l : List S44) (a n : Int) : List S44 × Bool := if areLR l = true ∧ (1 ≤ a ∧ a ≤ 500) ∧ (1 ≤ n ∧ n ≤ 500) then (if areLR (l.map (insB a n)) = true then (l.map (insB a n), true) else (l, false)) else (l, false)

theorem impl_ins_ev (l : List S44) (a n : Int) (ha : areLR l = true) (h1 : 1 ≤ a ∧ a ≤ 500) (h2 : 1 ≤ n ∧ n ≤ 500) :
    Ev (fun k => impl_InsertBars.l0 k l a n l (l.length : Int) 0) (if areLR (l.map (insB a n)) = true then (l.map (insB a n), true) else (l, false)) := by
  have hL : areL 0 0 l = true ∧ l.length ≤ 26 := by simpa [areLR] using ha
  refine mapLoop (fun k x i => impl_InsertBars.l0 k l a n x (l.length : Int) i) l (insB a n) _ ?_ ?_
  · intro x3 i hi hx hxi h
    have hb := areL_b l _ _ hL.1 _ (List.getElem_mem hi)
    have hr : rd_T44 x3 (i : Int) = l[i] := by
      rw [rdLetter_get x3 i (by omega)]
      rw [List.getElem?_eq_getElem (by omega)] at hxi
      exact Option.some.inj hxi
    refine Ev.step (fun k => ?_) h
    simp only [impl_InsertBars.l0, hr, Int.toNat_natCast]
    rw [if_pos (by omega), if_pos (by omega), if_pos (by omega), w64_nat i (by omega)]
    unfold insB
    by_cases hc : l[i].f1 ≥ a
    · rw [if_pos hc, if_pos hc, w64 (by omega) (by omega)]
    · rw [if_neg hc, if_neg hc, set_self x3 i _ hxi]
  · refine Ev.step (f := fun k => (impl_AreLetters.f k (l.map (insB a n))).bind fun t => if t = true then some (l.map (insB a n), true) else ((impl_Letter.f l).bind fun y => some (y, false))) (fun k => ?_) (Ev.bind (impl_areLR _ (by simp; omega)) ?_)
    · simp only [impl_InsertBars.l0]
      rw [if_neg (by omega)]
    · by_cases hc : areLR (l.map (insB a n)) = true
      · simp only [hc, if_true]
        exact Ev.now _
      · have hlen : 0 + l.length < 8796093022208 := by omega
        simp only [hc, Bool.false_eq_true, if_false, impl_Letter.f, Option.bind_some, List.length_nil, hlen, if_true, List.nil_append]
        exact Ev.now _

theorem impl_insR (l : List S44) (a n : Int) (hl : l.length ≤ 1048576) : Ev (fun k => impl_InsertBars.f k l a n) (insR l a n) := by
  have stop : Ev (fun k => impl_InsertBars.j0 k l a n l true) (l, false) := Ev.one (fun k => by simp only [impl_InsertBars.j0, if_true])
  have hlen : 0 + l.length < 8796093022208 := by omega
  simp only [impl_InsertBars.f, impl_Letter.f, Option.bind_some, List.length_nil, hlen, if_true, List.nil_append, inRange_eq]
  refine Ev.bind (impl_areLR l hl) ?_
  unfold insR
  by_cases h0 : areLR l = true
  · by_cases h1 : 1 ≤ a ∧ a ≤ 500
    · by_cases h2 : 1 ≤ n ∧ n ≤ 500
      · rw [if_pos ⟨h0, h1, h2⟩]
        simp only [h0, decide_eq_true h1, decide_eq_true h2, if_true, Bool.not_true]
        refine Ev.step (fun k => ?_) (impl_ins_ev l a n h0 h1 h2)
        simp only [impl_InsertBars.j0, Bool.false_eq_true, if_false]
      · rw [if_neg (fun h => h2 h.2.2)]
        simp only [h0, decide_eq_true h1, decide_eq_false h2, if_true, Bool.not_false]
        exact stop
    · rw [if_neg (fun h => h1 h.2.1)]
      simp only [h0, decide_eq_false h1, Bool.false_eq_true, if_true, if_false]
      exact stop
  · rw [if_neg (fun h => h0 h.1)]
    simp only [h0, Bool.false_eq_true, if_false]
    exact stop

theorem insR_len (l : List S44) (a n : Int) : (insR l a n).1.length = l.length := by
  unfold insR
  split
  · split <;> simp
  · rfl
theorem areL_dec (l : List S44) : ∀ (i p : Int), areL i p l = true → ∀ (j : Nat) (h : j < l.length), l[j].f0 = i + j ∧ p < l[j].f1 ∧ 1 ≤ l[j].f1 ∧ l[j].f1 ≤ 500 := by
  induction l with
  | nil => intro i p _ j h; simp at h
  | cons y l ih =>
    intro i p h j hj
    simp only [areL, Bool.and_eq_true, decide_eq_true_eq] at h
    cases j with
    | zero => simp only [List.getElem_cons_zero]; omega
    | succ j =>
      have := ih _ _ h.2 j (by simpa using hj)
      simp only [List.getElem_cons_succ]
      omega

theorem areL_mono0 (l : List S44) : ∀ (i p : Int), areL i p l = true → ∀ (a b : Nat) (ha : a < l.length) (hb : b < l.length), a ≤ b → l[a].f1 ≤ l[b].f1 := by
  induction l with
  | nil => intro i p _ a b ha; simp at ha
  | cons y l ih =>
    intro i p h a b ha hb hab
    have h' := h
    simp only [areL, Bool.and_eq_true, decide_eq_true_eq] at h
    cases b with
    | zero =>
      obtain rfl : a = 0 := by omega
      exact Int.le_refl _
    | succ b =>
      have hb' : b < l.length := by simpa using hb
      cases a with
      | zero =>
        have := areL_dec l _ _ h.2 b hb'
        simp only [List.getElem_cons_zero, List.getElem_cons_succ]
        omega
      | succ a =>
        simp only [List.getElem_cons_succ]
        exact ih _ _ h.2 a b (by simpa using ha) hb' (by omega)

theorem areL_mono (l : List S44) (h : areL 0 0 l = true) (a : Nat) (ha : a < l.length) (b : Nat) (hb : b < l.length) (hab : a ≤ b) : l[a].f1 ≤ l[b].f1 := areL_mono0 l 0 0 h a b ha hb hab

/-- Letters without those of the removed bars a .. a + n - 1, numbered anew. -/

def remL (a n : Int) : List S44 → List S44 → List S44
  | [], out => out
  | x :: l, out => remL a n l (if x.f1 ≥ a + n then out ++ [⟨out.length, x.f1 - n⟩] else if x.f1 ≥ a then out else out ++ [⟨out.length, x.f1⟩])

/-- While no letter has been removed, the numbers are as they were. -/

theorem impl_rem_ev (l : List S44) (a n : Int) (hl : l.length ≤ 26) (ha : areL 0 0 l = true) (h1 : 1 ≤ a ∧ a ≤ 500) (h2 : 1 ≤ n ∧ n ≤ 500) (d : Nat) : ∀ (i : Nat) (out : List S44), i + d = l.length → out.length ≤ i → (out.length = i ∨ ∀ (j : Nat) (h : j < l.length), i ≤ j → l[j].f1 ≥ a) →
    Ev (fun k => impl_RemoveBars.l0 k a n out l (l.length : Int) (i : Int)) (remL a n (l.drop i) out, true) := by
  induction d with
  | zero =>
    intro i out hi ho _
    rw [List.drop_of_length_le (by omega)]
    refine Ev.one (fun k => ?_)
    simp only [impl_RemoveBars.l0, remL]
    rw [if_neg (by omega)]
  | succ d ih =>
    intro i out hi ho hp
    have hlt : i < l.length := by omega
    rw [drop_cons l i hlt]
    have hx := areL_dec l 0 0 ha i hlt
    have hmono : ∀ (j : Nat) (h : j < l.length), i ≤ j → l[i].f1 ≤ l[j].f1 := areL_mono l ha i hlt
    by_cases hc : l[i].f1 < a
    · have hlen : out.length = i := by
        rcases hp with h | h
        · exact h
        · have := h i hlt (Nat.le_refl _); omega
      have e : (⟨(out.length : Int), l[i].f1⟩ : S44) = ⟨l[i].f0, l[i].f1⟩ := by rw [hlen, hx.1, Int.zero_add]
      refine Ev.step (fun k => ?_) (by rw [remL, if_neg (by omega), if_neg (by omega), e]; exact ih (i + 1) _ (by omega) (by simp; omega) (.inl (by simp; omega)))
      simp only [impl_RemoveBars.l0]
      rw [if_pos (by omega), if_pos (by omega), if_pos (by omega), rdLetter_get l i hlt, if_pos hc, if_pos (by omega), w64_nat i (by omega)]
    · have hall : ∀ (j : Nat) (h : j < l.length), i + 1 ≤ j → l[j].f1 ≥ a := fun j h hj => by have := hmono j h (by omega); omega
      by_cases hd : l[i].f1 ≥ a + n
      · refine Ev.step (fun k => ?_) (by rw [remL, if_pos hd]; exact ih (i + 1) _ (by omega) (by simp; omega) (.inr hall))
        simp only [impl_RemoveBars.l0]
        rw [if_pos (by omega), if_pos (by omega), if_pos (by omega), rdLetter_get l i hlt, if_neg hc, w64 (x := a + n) (by omega) (by omega), if_pos hd, if_pos (by omega), w64_nat i (by omega), w64 (by omega) (by omega)]
      · refine Ev.step (fun k => ?_) (by rw [remL, if_neg hd, if_pos (by omega)]; exact ih (i + 1) out (by omega) (by omega) (.inr hall))
        simp only [impl_RemoveBars.l0]
        rw [if_pos (by omega), if_pos (by omega), if_pos (by omega), rdLetter_get l i hlt, if_neg hc, w64 (x := a + n) (by omega) (by omega), if_neg hd, w64_nat i (by omega)]

def remR (l : List S44) (a n : Int) : List S44 × Bool := if areLR l = true ∧ (1 ≤ a ∧ a ≤ 500) ∧ (1 ≤ n ∧ n ≤ 500) then (remL a n l [], true) else (l, false)

theorem areLR_iff (l : List S44) : areLR l = true ↔ areL 0 0 l = true ∧ l.length ≤ 26 := by simp [areLR]

theorem impl_remR (l : List S44) (a n : Int) (hl : l.length ≤ 1048576) : Ev (fun k => impl_RemoveBars.f k l a n) (remR l a n) := by
  have stop : ∀ c : Bool, c = true → Ev (fun k => impl_RemoveBars.j0 k l a n c) (l, false) := by
    rintro c rfl
    refine Ev.one (fun k => ?_)
    simp only [impl_RemoveBars.j0, if_true, impl_Letter.f, Option.bind_some, List.length_nil, List.nil_append]
    rw [if_pos (by omega)]
    rfl
  simp only [impl_RemoveBars.f, inRange_eq, Option.bind_some]
  refine Ev.bind (impl_areLR l hl) ?_
  unfold remR
  by_cases h0 : areLR l = true
  · by_cases h1 : 1 ≤ a ∧ a ≤ 500
    · by_cases h2 : 1 ≤ n ∧ n ≤ 500
      · have h00 := (areLR_iff l).1 h0
        simp only [h0, h1, h2, and_self, decide_true, if_true, Bool.not_true]
        refine Ev.step (f := fun k => impl_RemoveBars.l0 k a n [] l (l.length : Int) 0) (fun k => ?_) (impl_rem_ev l a n h00.2 h00.1 h1 h2 l.length 0 [] (by omega) (by simp) (.inl rfl))
        simp only [impl_RemoveBars.j0, Bool.false_eq_true, if_false]
      · simp only [h0, h1, h2, and_self, and_false, decide_true, decide_false, if_true, if_false]
        exact stop _ rfl
    · simp only [h0, h1, false_and, and_false, decide_false, Bool.false_eq_true, if_true, if_false]
      exact stop _ rfl
  · simp only [h0, false_and, if_false]
    exact stop _ rfl
/-- The last letter not behind a bar, from number i on; n: the one before. -/

def nearL (b : Int) : Int → List S44 → Int → Int
  | _, [], n => n
  | i, x :: l, n => nearL b (i + 1) l (if x.f1 ≤ b then i else n)

def nearA (l : List S44) (b v : Int) : Int × Int := if v < 0 then (-1, 0) else (v, b - (rd_T44 l v).f1)

def nearR (l : List S44) (b : Int) : Int × Int :=
  if areLR l = true then (if 1 ≤ b ∧ b ≤ 1000 then nearA l b (nearL b 0 l (-1)) else (-1, 0)) else (-1, 0)

theorem areL_at (l : List S44) : ∀ (i p : Int), areL i p l = true → ∀ (j : Nat) (h : j < l.length), l[j].f0 = i + j ∧ 1 ≤ l[j].f1 ∧ l[j].f1 ≤ 500 := by
  induction l with
  | nil => intro i p _ j h; simp at h
  | cons y l ih =>
    intro i p h j hj
    simp only [areL, Bool.and_eq_true, decide_eq_true_eq] at h
    cases j with
    | zero => simp only [List.getElem_cons_zero]; omega
    | succ j =>
      have := ih _ _ h.2 j (by simpa using hj)
      simp only [List.getElem_cons_succ]
      omega

theorem areLR_at (l : List S44) (h : areLR l = true) (j : Nat) (hj : j < l.length) : l[j].f0 = j ∧ 1 ≤ l[j].f1 ∧ l[j].f1 ≤ 500 := by
  simp only [areLR, Bool.and_eq_true] at h
  have := areL_at l _ _ h.1 j hj
  omega

theorem impl_near_ev (l : List S44) (b : Int) (hl : l.length ≤ 1048576) (ha : areLR l = true) (hb : 1 ≤ b ∧ b ≤ 1000) (d : Nat) : ∀ (i : Nat) (n m : Int), i + d = l.length → (n < 0 ∧ n = -1 ∧ m = 0 ∨ 0 ≤ n ∧ m = b - (rd_T44 l n).f1) →
    Ev (fun k => impl_Nearest.l0 k b n m l (l.length : Int) (i : Int)) (nearA l b (nearL b i (l.drop i) n)) := by
  induction d with
  | zero =>
    intro i n m hi hn
    rw [List.drop_of_length_le (by omega)]
    simp only [nearL]
    refine Ev.one (fun k => ?_)
    simp only [impl_Nearest.l0]
    rw [if_neg (by omega)]
    rcases hn with ⟨h1, h2, h3⟩ | ⟨h1, h2⟩
    · unfold nearA
      rw [if_pos h1, h2, h3]
    · unfold nearA
      rw [if_neg (by omega), h2]
  | succ d ih =>
    intro i n m hi hn
    have hlt : i < l.length := by omega
    rw [drop_cons l i hlt]
    simp only [nearL]
    have hx := areLR_at l ha i hlt
    by_cases hc : l[i].f1 ≤ b
    · simp only [hc, if_true]
      refine Ev.step (fun k => ?_) (ih (i + 1) i (b - l[i].f1) (by omega) (.inr ⟨by omega, by rw [rdLetter_get l i hlt]⟩))
      simp only [impl_Nearest.l0]
      rw [if_pos (by omega), if_pos (by omega), if_pos (by omega), rdLetter_get l i hlt, if_pos hc, w64_nat i (by omega), hx.1, w64 (by omega) (by omega)]
    · simp only [hc, if_false]
      refine Ev.step (fun k => ?_) (ih (i + 1) n m (by omega) hn)
      simp only [impl_Nearest.l0]
      rw [if_pos (by omega), if_pos (by omega), if_pos (by omega), rdLetter_get l i hlt, if_neg hc, w64_nat i (by omega)]

theorem impl_nearR (l : List S44) (b : Int) (hl : l.length ≤ 1048576) : Ev (fun k => impl_Nearest.f k l b) (nearR l b) := by
  unfold nearR
  have stop : Ev (fun k => impl_Nearest.j0 k l b (-1) 0 false) (-1, 0) := by
    refine Ev.one (fun k => ?_)
    simp only [impl_Nearest.j0, Bool.false_eq_true, if_false]
  simp only [impl_Nearest.f, inRange_eq, Option.bind_some]
  refine Ev.bind (impl_areLR l hl) ?_
  by_cases ha : areLR l = true
  · by_cases hb : 1 ≤ b ∧ b ≤ 1000
    · simp only [ha, hb, and_self, decide_true, if_true]
      refine Ev.step (f := fun k => impl_Nearest.l0 k b (-1) 0 l (l.length : Int) 0) (fun k => ?_) (impl_near_ev l b hl ha hb l.length 0 (-1) 0 (by omega) (.inl ⟨by omega, rfl, rfl⟩))
      simp only [impl_Nearest.j0, if_true]
    · simp only [ha, hb, decide_false, if_true, if_false]
      exact stop
  · simp only [ha, Bool.false_eq_true, if_false]
    exact stop
theorem areL_bars (l : List S44) : ∀ i p, areL i p l = true → ∀ x ∈ l, 1 ≤ x.f1 ∧ x.f1 ≤ 500 := by
  induction l with
  | nil => intro i p _ x hx; simp at hx
  | cons y l ih =>
    intro i p h x hx
    simp only [areL, Bool.and_eq_true, decide_eq_true_eq] at h
    rcases List.mem_cons.1 hx with rfl | hx
    · omega
    · exact ih _ _ h.2 x hx

def locR (l : List S44) (a b : Int) : Int := if areLR l = true then (if 0 ≤ a ∧ a ≤ (l.length : Int) - 1 then (if -500 ≤ b ∧ b ≤ 500 then (if (rd_T44 l a).f1 + b > 0 then (rd_T44 l a).f1 + b else 0) else 0) else 0) else 0

theorem rd_bars (l : List S44) (a : Int) (h : areLR l = true) (h1 : 0 ≤ a ∧ a ≤ (l.length : Int) - 1) : 1 ≤ (rd_T44 l a).f1 ∧ (rd_T44 l a).f1 ≤ 500 := by
  obtain ⟨n, rfl⟩ := Int.eq_ofNat_of_zero_le h1.1
  have hn : n < l.length := by omega
  have e : rd_T44 l ((n : Nat) : Int) = l[n] := rdLetter_get l n hn
  rw [e]
  simp only [areLR, Bool.and_eq_true] at h
  exact areL_bars l _ _ h.1 _ (List.getElem_mem hn)

theorem impl_loc (l : List S44) (a b : Int) (hl : l.length ≤ 1048576) : Ev (fun k => impl_Locate.f k l a b) (locR l a b) := by
  simp only [impl_Locate.f, inRange_eq, Option.bind_some, mx]
  refine Ev.bind (impl_areLR l hl) ?_
  rw [w64 (by omega) (by omega)]
  unfold locR
  by_cases h0 : areLR l = true
  · by_cases h1 : 0 ≤ a ∧ a ≤ (l.length : Int) - 1
    · by_cases h2 : -500 ≤ b ∧ b ≤ 500
      · have hb := rd_bars l a h0 h1
        simp only [h0, h1, h2, and_self, decide_true, if_true]
        rw [if_pos (by omega), w64 (by omega) (by omega)]
        have e : (if (rd_T44 l a).f1 + b < 0 then (0 : Int) else (rd_T44 l a).f1 + b) = if (rd_T44 l a).f1 + b > 0 then (rd_T44 l a).f1 + b else 0 := by split <;> split <;> omega
        rw [e]
        exact Ev.now _
      · simp only [h0, h1, h2, and_self, decide_true, decide_false, Bool.false_eq_true, if_true, if_false]
        exact Ev.now _
    · simp only [h0, h1, decide_false, Bool.false_eq_true, if_true, if_false]
      exact Ev.now _
  · simp only [h0, Bool.false_eq_true, if_false]
    exact Ev.now _
theorem rd_get (l : List Int) (i : Nat) (h : i < l.length) : rd l (i : Int) = l[i] := by
  simp [rd, List.getD, List.getElem?_eq_getElem h]
theorem and255 (x : Int) : 0 ≤ Go.bits .and .i64 x 255 ∧ Go.bits .and .i64 x 255 ≤ 255 := by
  have key : (BitVec.ofInt 64 x &&& BitVec.ofInt 64 255).toNat ≤ 255 := by
    rw [BitVec.toNat_and]
    exact Nat.le_trans Nat.and_le_right (by decide)
  have e : Go.bits .and .i64 x 255 = IntKind.i64.wrap ((BitVec.ofInt 64 x &&& BitVec.ofInt 64 255).toNat : Int) := rfl
  rw [e]
  generalize (BitVec.ofInt 64 x &&& BitVec.ofInt 64 255).toNat = n at key
  rw [Go.IntKind.wrap_i64]
  omega

/-- Where the drawing stands. -/

def At (c : List Int) (p : Int) : Prop := 0 ≤ p ∧ p ≤ (c.length : Int)

theorem byte_ev (c : List Int) (hc : c.length ≤ 1048576) (p s : Int) (hp : At c p) : ∃ b p' s', spec_l1Byte.f c p s = some (b, p', s') ∧ (0 ≤ b ∧ b ≤ 255) ∧ At c p' := by
  simp only [spec_l1Byte.f]
  unfold At at *
  split
  · rename_i h
    rw [if_pos hp.1]
    refine ⟨_, _, _, rfl, and255 _, ?_⟩
    rw [w64 (by omega) (by omega)]
    omega
  · exact ⟨_, _, _, rfl, and255 _, hp⟩

theorem below_ev (c : List Int) (hc : c.length ≤ 1048576) (p s n : Int) (hp : At c p) : ∃ r p' s', spec_l1Below.f c p s n = some (r, p', s') ∧ (0 ≤ r ∧ (r < n ∨ n ≤ 0)) ∧ At c p' := by
  simp only [spec_l1Below.f]
  by_cases h0 : n ≤ 0
  · rw [if_pos h0]
    exact ⟨_, _, _, rfl, ⟨by omega, .inr h0⟩, hp⟩
  · rw [if_neg h0]
    obtain ⟨b, p1, s1, e1, hb, hp1⟩ := byte_ev c hc p s hp
    obtain ⟨b2, p2, s2, e2, hb2, hp2⟩ := byte_ev c hc p1 s1 hp1
    obtain ⟨b3, p3, s3, e3, hb3, hp3⟩ := byte_ev c hc p2 s2 hp2
    by_cases h1 : n ≤ 256
    · rw [if_pos h1, e1]
      simp only [Option.bind_some]
      rw [if_neg (by omega)]
      refine ⟨_, _, _, rfl, ⟨?_, .inl ?_⟩, hp1⟩
      · exact Int.tmod_nonneg _ hb.1
      · exact Int.tmod_lt_of_pos _ (by omega)
    · rw [if_neg h1, e1]
      simp only [Option.bind_some, e2, e3]
      rw [if_neg (by omega), w64 (x := b * 65536) (by omega) (by omega), w64 (x := b2 * 256) (by omega) (by omega), w64 (x := b * 65536 + b2 * 256) (by omega) (by omega), w64 (x := b * 65536 + b2 * 256 + b3) (by omega) (by omega)]
      refine ⟨_, _, _, rfl, ⟨?_, .inl ?_⟩, hp3⟩
      · exact Int.tmod_nonneg _ (by omega)
      · exact Int.tmod_lt_of_pos _ (by omega)

theorem int_ev (c : List Int) (hc : c.length ≤ 1048576) (p s : Int) (hp : At c p) (l : List Int) (h0 : 0 < l.length) : ∃ r p' s', spec_l1Int.f c p s l = some (r, p', s') ∧ r ∈ l ∧ At c p' := by
  obtain ⟨r, p', s', e, hr, hp'⟩ := below_ev c hc p s (l.length : Int) hp
  simp only [spec_l1Int.f, e, Option.bind_some]
  rw [if_pos hr.1, if_pos (by omega)]
  have hlt : r.toNat < l.length := by omega
  have er : rd l r = l[r.toNat] := by simp [rd, List.getD, List.getElem?_eq_getElem hlt]
  exact ⟨_, _, _, rfl, by rw [er]; exact List.getElem_mem hlt, hp'⟩

theorem new_loop (c : List Int) (hc : c.length ≤ 1048576) (d : Nat) : ∀ (i : Nat) (s : Int), i + d = c.length → ∃ s', Ev (fun k => spec_l1New.l0 k c s (i : Int)) (c, 0, s') := by
  induction d with
  | zero =>
    intro i s hi
    refine ⟨s, Ev.one (fun k => ?_)⟩
    simp only [spec_l1New.l0]
    rw [if_neg (by omega)]
  | succ d ih =>
    intro i s hi
    by_cases h : (i : Int) < 4000
    · obtain ⟨s', h'⟩ := ih (i + 1) (Go.bits .and .i64 (wrap64 ((wrap64 ((wrap64 (s * 137)) + (wrap64 (rd c (i : Int))))) + 11)) 1073741823) (by omega)
      refine ⟨s', Ev.step (fun k => ?_) h'⟩
      simp only [spec_l1New.l0]
      rw [if_pos (by omega), if_pos h, if_pos (by omega), w64_nat i (by omega)]
    · refine ⟨s, Ev.one (fun k => ?_)⟩
      simp only [spec_l1New.l0]
      rw [if_pos (by omega), if_neg h]

theorem new_ev (c : List Int) (hc : c.length ≤ 1048576) : ∃ s, Ev (fun k => spec_l1New.f k c) (c, 0, s) := new_loop c hc c.length 0 _ (by omega)

theorem at_zero (c : List Int) : At c 0 := ⟨Int.le_refl 0, Int.natCast_nonneg _⟩

theorem drawL_loop (c : List Int) (hc : c.length ≤ 1048576) (n : Nat) : ∀ (l : List S44) (b p s : Int), At c p → l.length + n ≤ 100 → ∃ l' p' s', Ev (fun k => spec_l26Draw.l0 k l b (n : Int) c p s) (l', p', s') ∧ l'.length ≤ 100 ∧ At c p' := by
  induction n with
  | zero =>
    intro l b p s hp hl
    refine ⟨l, p, s, Ev.one (fun k => ?_), by omega, hp⟩
    simp only [spec_l26Draw.l0]
    rw [if_neg (by omega)]
  | succ n ih =>
    intro l b p s hp hl
    obtain ⟨r, p1, s1, e1, _, h1⟩ := below_ev c hc p s 9 hp
    obtain ⟨l', p', s', h', hl', hp'⟩ := ih (l ++ [⟨(l.length : Int), wrap64 (wrap64 (b + 1) + r)⟩]) (wrap64 (wrap64 (b + 1) + r)) p1 s1 h1 (by simp; omega)
    refine ⟨l', p', s', Ev.step (fun k => ?_) h', hl', hp'⟩
    simp only [spec_l26Draw.l0, e1, Option.bind_some]
    rw [if_pos (by omega), if_pos (by omega), w64 (x := ((n + 1 : Nat) : Int) - 1) (by omega) (by omega), show ((n + 1 : Nat) : Int) - 1 = (n : Int) by omega]

theorem drawL_ev (c : List Int) (hc : c.length ≤ 1048576) (p s : Int) (hp : At c p) : ∃ l p' s', Ev (fun k => spec_l26Draw.f k c p s) (l, p', s') ∧ l.length ≤ 100 ∧ At c p' := by
  obtain ⟨r2, p2, s2, e2, hr2, h2⟩ := below_ev c hc p s 6 hp
  obtain ⟨l, p', s', h, hl, hp'⟩ := drawL_loop c hc r2.toNat [] 0 p2 s2 h2 (by simp; omega)
  refine ⟨l, p', s', ?_, hl, hp'⟩
  rw [Int.toNat_of_nonneg hr2.1] at h
  simp only [spec_l26Draw.f, e2, Option.bind_some]
  exact h

theorem anyL_ev (c : List Int) (hc : c.length ≤ 1048576) (p s : Int) (hp : At c p) : ∃ l p' s', Ev (fun k => spec_l26Any.f k c p s) (l, p', s') ∧ l.length ≤ 100 ∧ At c p' := by
  obtain ⟨l, p1, s1, h, hl, h1⟩ := drawL_ev c hc p s hp
  by_cases h0 : (l.length : Int) = 0
  · refine ⟨l, p1, s1, ?_, hl, h1⟩
    simp only [spec_l26Any.f]
    refine Ev.bind h ?_
    simp only [h0, if_true]
    exact Ev.now _
  · obtain ⟨i, p2, s2, e2, hi, h2⟩ := below_ev c hc p1 s1 (l.length : Int) h1
    obtain ⟨j, p3, s3, e3, hj, h3⟩ := below_ev c hc p2 s2 9 h2
    obtain ⟨a, pa, sa, ea, _, ha⟩ := int_ev c hc p3 s3 h3 [0, 1, 9] (by decide)
    obtain ⟨b, pb, sb, eb, _, hb⟩ := int_ev c hc p3 s3 h3 [0, 1, 500, 501] (by decide)
    have hil : i < (l.length : Int) := by omega
    by_cases j0 : j = 0
    · refine ⟨l.set i.toNat ⟨a, (rd_T44 l i).f1⟩, pa, sa, ?_, by simpa using hl, ha⟩
      simp only [spec_l26Any.f]
      refine Ev.bind h ?_
      simp only [h0, if_false, e2, e3, Option.bind_some, j0, if_true, ea, hi.1, hil]
      exact Ev.now _
    · by_cases j1 : j = 1
      · refine ⟨l.set i.toNat ⟨(rd_T44 l i).f0, b⟩, pb, sb, ?_, by simpa using hl, hb⟩
        simp only [spec_l26Any.f]
        refine Ev.bind h ?_
        simp only [h0, if_false, e2, e3, Option.bind_some, j0, j1, if_true, eb, hi.1, hil]
        exact Ev.now _
      · refine ⟨l, p3, s3, ?_, hl, h3⟩
        simp only [spec_l26Any.f]
        refine Ev.bind h ?_
        simp only [h0, if_false, e2, e3, Option.bind_some, j0, j1]
        exact Ev.now _

theorem drawIns_ev (c : List Int) (hc : c.length ≤ 1048576) : ∃ l a b, Ev (fun k => spec_DrawInsertBars.f k c) (l, a, b) ∧ l.length ≤ 100 := by
  obtain ⟨s, hn⟩ := new_ev c hc
  obtain ⟨l, p', s', h, hl, hp⟩ := anyL_ev c hc 0 s (at_zero c)
  obtain ⟨a, p2, s2, e2, _, h2⟩ := int_ev c hc p' s' hp [1, 5, 9, 20, 500, 0, 501] (by decide)
  obtain ⟨b, p3, s3, e3, _, _⟩ := int_ev c hc p2 s2 h2 [1, 2, 7, 490, 500, 0, 501] (by decide)
  refine ⟨l, a, b, ?_, hl⟩
  simp only [spec_DrawInsertBars.f]
  refine Ev.bind hn (Ev.bind h ?_)
  simp only [e2, e3, Option.bind_some]
  exact Ev.now _

theorem drawNear_ev (c : List Int) (hc : c.length ≤ 1048576) : ∃ l a, Ev (fun k => spec_DrawNearest.f k c) (l, a) ∧ l.length ≤ 100 := by
  obtain ⟨s, hn⟩ := new_ev c hc
  obtain ⟨l, p', s', h, hl, hp⟩ := anyL_ev c hc 0 s (at_zero c)
  obtain ⟨a, p2, s2, e2, _, _⟩ := int_ev c hc p' s' hp [0, 1, 5, 12, 30, 1000, 1001] (by decide)
  refine ⟨l, a, ?_, hl⟩
  simp only [spec_DrawNearest.f]
  refine Ev.bind hn (Ev.bind h ?_)
  simp only [e2, Option.bind_some]
  exact Ev.now _
theorem rem_ins (a n : Int) (hn : 1 ≤ n) (l : List S44) : ∀ (out : List S44) (p : Int), areL (out.length : Int) p l = true → remL a n (l.map (insB a n)) out = out ++ l := by
  induction l with
  | nil => intro out p _; simp [remL]
  | cons x l ih =>
    intro out p h
    simp only [areL, Bool.and_eq_true, decide_eq_true_eq] at h
    obtain ⟨⟨h0, h1, h2, h3⟩, hr⟩ := h
    have ex : ∀ b : Int, b = x.f1 → (⟨(out.length : Int), b⟩ : S44) = x := by
      rintro b rfl
      cases x
      simp only at h0
      simp [h0]
    have nx := ih (out ++ [x]) x.f1 (by rw [List.length_append]; exact hr)
    rw [List.append_assoc] at nx
    rw [List.map_cons, remL]
    by_cases hx : x.f1 ≥ a
    · have e : insB a n x = ⟨x.f0, x.f1 + n⟩ := if_pos hx
      rw [e]
      simp only
      rw [if_pos (by omega), ex (x.f1 + n - n) (by omega)]
      exact nx
    · have e : insB a n x = x := if_neg hx
      rw [e, if_neg (by omega), if_neg (by omega), ex x.f1 rfl]
      exact nx

def lastB : Int → List S44 → Int
  | p, [] => p
  | _, x :: l => lastB x.f1 l

theorem lastB_snoc (x : S44) (l : List S44) : ∀ p, lastB p (l ++ [x]) = x.f1 := by
  induction l with
  | nil => intro p; rfl
  | cons y l ih => intro p; exact ih _

theorem areL_snoc (x : S44) (l : List S44) : ∀ i p, areL i p l = true → x.f0 = i + l.length → 1 ≤ x.f1 → x.f1 ≤ 500 → lastB p l < x.f1 → areL i p (l ++ [x]) = true := by
  induction l with
  | nil =>
    intro i p _ h0 h1 h2 h3
    simp only [List.length_nil, lastB] at h0 h3
    simp only [List.nil_append, areL, Bool.and_true, decide_eq_true_eq]
    omega
  | cons y l ih =>
    intro i p h h0 h1 h2 h3
    simp only [List.cons_append, areL, Bool.and_eq_true, decide_eq_true_eq] at h ⊢
    refine ⟨h.1, ih _ _ h.2 ?_ h1 h2 h3⟩
    rw [h0, List.length_cons]
    omega

theorem rem_are (a n : Int) (h1 : 1 ≤ a) (h2 : 1 ≤ n) (l : List S44) : ∀ (out : List S44) (i p : Int), areL i p l = true → areL 0 0 out = true → lastB 0 out ≤ p → (lastB 0 out < a ∨ lastB 0 out ≤ p - n) → areL 0 0 (remL a n l out) = true ∧ (remL a n l out).length ≤ out.length + l.length := by
  induction l with
  | nil => intro out i p _ ho _ _; exact ⟨ho, by simp [remL]⟩
  | cons x l ih =>
    intro out i p h ho hq hr
    simp only [areL, Bool.and_eq_true, decide_eq_true_eq] at h
    obtain ⟨⟨_, b1, b2, b3⟩, hl⟩ := h
    rw [remL]
    by_cases c1 : x.f1 ≥ a + n
    · rw [if_pos c1]
      have s := areL_snoc ⟨(out.length : Int), x.f1 - n⟩ out 0 0 ho (by simp) (by simp only; omega) (by simp only; omega) (by simp only; omega)
      have := ih (out ++ [⟨(out.length : Int), x.f1 - n⟩]) (i + 1) x.f1 hl s (by rw [lastB_snoc]; simp only; omega) (by rw [lastB_snoc]; simp only; omega)
      refine ⟨this.1, Nat.le_trans this.2 ?_⟩
      simp only [List.length_append, List.length_cons, List.length_nil]
      omega
    · rw [if_neg c1]
      by_cases c2 : x.f1 ≥ a
      · rw [if_pos c2]
        have := ih out (i + 1) x.f1 hl ho (by omega) (by omega)
        refine ⟨this.1, Nat.le_trans this.2 ?_⟩
        simp only [List.length_cons]
        omega
      · rw [if_neg c2]
        have s := areL_snoc ⟨(out.length : Int), x.f1⟩ out 0 0 ho (by simp) (by simp only; omega) (by simp only; omega) (by simp only; omega)
        have := ih (out ++ [⟨(out.length : Int), x.f1⟩]) (i + 1) x.f1 hl s (by rw [lastB_snoc]; simp only; omega) (by rw [lastB_snoc]; simp only; omega)
        refine ⟨this.1, Nat.le_trans this.2 ?_⟩
        simp only [List.length_append, List.length_cons, List.length_nil]
        omega

theorem near_prop (b : Int) (l : List S44) : ∀ (i n : Int), (n < 0 ∨ n < i) → nearL b i l n = n ∨ ∃ j : Nat, ∃ h : j < l.length, nearL b i l n = i + j ∧ l[j].f1 ≤ b := by
  induction l with
  | nil => intro i n _; exact .inl rfl
  | cons x l ih =>
    intro i n hn
    rw [nearL]
    by_cases hx : x.f1 ≤ b
    · rw [if_pos hx]
      rcases ih (i + 1) i (.inr (by omega)) with h | ⟨j, hj, h, hb⟩
      · exact .inr ⟨0, by simp, by simpa using h, hx⟩
      · exact .inr ⟨j + 1, by simpa using hj, by rw [h]; omega, by simpa using hb⟩
    · rw [if_neg hx]
      rcases ih (i + 1) n (by omega) with h | ⟨j, hj, h, hb⟩
      · exact .inl h
      · exact .inr ⟨j + 1, by simpa using hj, by rw [h]; omega, by simpa using hb⟩

theorem text_some (a : Int) (h : 0 ≤ a ∧ a ≤ 25) : ∃ t, impl_LetterText.f a = some t ∧ ¬ t.toList = ([] : List UInt8) := by
  refine ⟨_, by simp only [impl_LetterText.f, inRange_eq, Option.bind_some]; rw [if_pos (decide_eq_true h)], ?_⟩
  have : a = 0 ∨ a = 1 ∨ a = 2 ∨ a = 3 ∨ a = 4 ∨ a = 5 ∨ a = 6 ∨ a = 7 ∨ a = 8 ∨ a = 9 ∨ a = 10 ∨ a = 11 ∨ a = 12 ∨ a = 13 ∨ a = 14 ∨ a = 15 ∨ a = 16 ∨ a = 17 ∨ a = 18 ∨ a = 19 ∨ a = 20 ∨ a = 21 ∨ a = 22 ∨ a = 23 ∨ a = 24 ∨ a = 25 := by omega
  rcases this with rfl | rfl | rfl | rfl | rfl | rfl | rfl | rfl | rfl | rfl | rfl | rfl | rfl | rfl | rfl | rfl | rfl | rfl | rfl | rfl | rfl | rfl | rfl | rfl | rfl | rfl <;> decide +kernel

theorem end_ev (c : List Int) (hc : c.length ≤ 1048576) : Ev (fun k => laws_FnLetters.j3 k c false) true := by
  obtain ⟨l, b, hd, hl⟩ := drawNear_ev c hc
  refine Ev.step (f := fun k => (spec_DrawNearest.f k c).bind fun bt281 => (impl_Nearest.f k bt281.1 bt281.2).bind fun bt285 => if bt285.1 ≥ 0 then ((impl_Locate.f k bt281.1 bt285.1 0).bind fun t287 => if (wrap64 (t287 + bt285.2)) = bt281.2 then (if bt285.2 < 0 then some false else ((impl_LetterText.f bt285.1).bind fun t288 => if t288.toList = ([] : List UInt8) then some false else some true)) else some false) else some (bt285.2 == 0)) (fun k => by simp only [laws_FnLetters.j3, Bool.false_eq_true, if_false]) ?_
  refine Ev.bind hd (Ev.bind (impl_nearR l b (by omega)) ?_)
  have dull : nearR l b = (-1, 0) → Ev (fun k => if (nearR l b).1 ≥ 0 then ((impl_Locate.f k l (nearR l b).1 0).bind fun t287 => if (wrap64 (t287 + (nearR l b).2)) = b then (if (nearR l b).2 < 0 then some false else ((impl_LetterText.f (nearR l b).1).bind fun t288 => if t288.toList = ([] : List UInt8) then some false else some true)) else some false) else some ((nearR l b).2 == 0)) true := by
    intro e
    rw [e]
    have hn : ¬ (-1 : Int) ≥ 0 := by omega
    simp only [hn, if_false]
    exact Ev.now true
  by_cases ha : areLR l = true
  · by_cases hb : 1 ≤ b ∧ b ≤ 1000
    · have e0 : nearR l b = nearA l b (nearL b 0 l (-1)) := by rw [nearR, if_pos ha, if_pos hb]
      rcases near_prop b l 0 (-1) (.inl (by omega)) with h | ⟨j, hj, h, hjb⟩
      · exact dull (by rw [e0, h]; rfl)
      · have hat := areLR_at l ha j hj
        have hlen : l.length ≤ 26 := ((areLR_iff l).1 ha).2
        have er : rd_T44 l ((j : Nat) : Int) = l[j] := rdLetter_get l j hj
        have e1 : nearR l b = ((j : Int), b - l[j].f1) := by
          rw [e0, h, Int.zero_add, nearA, if_neg (by omega), er]
        have e2 : locR l (j : Int) 0 = l[j].f1 := by
          rw [locR, if_pos ha, if_pos (by omega), if_pos (by omega), er, if_pos (by omega)]
          omega
        obtain ⟨t, ht, htn⟩ := text_some (j : Int) (by omega)
        have hl0 := impl_loc l (j : Int) 0 (by omega)
        rw [e2] at hl0
        rw [e1]
        have n1 : (j : Int) ≥ 0 := by omega
        have n2 : wrap64 (l[j].f1 + (b - l[j].f1)) = b := by rw [w64 (by omega) (by omega)]; omega
        have n3 : ¬ b - l[j].f1 < 0 := by omega
        simp only [n1, if_true]
        refine Ev.bind hl0 ?_
        simp only [n2, n3, if_true, if_false, ht, Option.bind_some, htn]
        exact Ev.now true
    · exact dull (by rw [nearR, if_pos ha, if_neg hb])
  · exact dull (by rw [nearR, if_neg ha])

theorem mid_ev (c : List Int) (hc : c.length ≤ 1048576) : Ev (fun k => laws_FnLetters.j2 k c) true := by
  obtain ⟨l, a, n, hd, hl⟩ := drawIns_ev c hc
  have hd2 : Ev (fun k => spec_DrawRemoveBars.f k c) (l, a, n) := by
    simp only [spec_DrawRemoveBars.f]
    exact Ev.bind hd (Ev.now _)
  refine Ev.step (fun k => by simp only [laws_FnLetters.j2]; rfl) (Ev.bind hd2 (Ev.bind (impl_remR l a n (by omega)) ?_))
  by_cases h : areLR l = true ∧ (1 ≤ a ∧ a ≤ 500) ∧ (1 ≤ n ∧ n ≤ 500)
  · have e : remR l a n = (remL a n l [], true) := if_pos h
    have h0 := (areLR_iff l).1 h.1
    obtain ⟨r1, r2⟩ := rem_are a n h.2.1.1 h.2.2.1 l [] 0 0 h0.1 rfl (Int.le_refl _) (.inl (by simp only [lastB]; omega))
    simp only [List.length_nil, Nat.zero_add] at r2
    have ra : areLR (remL a n l []) = true := (areLR_iff _).2 ⟨r1, by omega⟩
    have hi := impl_areLR (remL a n l []) (by omega)
    rw [ra] at hi
    rw [e]
    simp only [if_true]
    refine Ev.bind hi ?_
    have n1 : decide (((remL a n l []).length : Int) > (l.length : Int)) = false := decide_eq_false (by omega)
    simp only [if_true, n1]
    exact end_ev c hc
  · have e : remR l a n = (l, false) := if_neg h
    rw [e]
    simp only [Bool.false_eq_true, if_false]
    exact end_ev c hc

theorem same_ev (c : List Int) (hc : c.length ≤ 1048576) (l : List S44) (a n : Int) (hl : l.length ≤ 100) (h1 : 1 ≤ a ∧ a ≤ 500) (h2 : 1 ≤ n ∧ n ≤ 500) (ha : areLR l = true) (d : Nat) : ∀ i : Nat, i + d = l.length → Ev (fun k => laws_FnLetters.l0 k c l a n (l.map (insB a n)) l (i : Int)) true := by
  induction d with
  | zero =>
    intro i hi
    refine Ev.step (fun k => ?_) (mid_ev c hc)
    simp only [laws_FnLetters.l0]
    rw [if_neg (by omega)]
  | succ d ih =>
    intro i hi
    have hlt : i < l.length := by omega
    have hat := areLR_at l ha i hlt
    have hm : i < (l.map (insB a n)).length := by simpa using hlt
    have e1 : rd_T44 (l.map (insB a n)) (i : Int) = insB a n l[i] := by rw [rdLetter_get _ i hm, List.getElem_map]
    refine Ev.step (fun k => ?_) (ih (i + 1) (by omega))
    simp only [laws_FnLetters.l0, e1, rdLetter_get l i hlt, beq_self_eq_true, Bool.not_true, Bool.or_self, Bool.false_eq_true, if_false, List.length_map]
    rw [if_pos (by omega), if_pos (by omega), if_pos (by omega), if_pos (by omega), w64_nat i (by omega)]
    unfold insB
    by_cases hx : l[i].f1 ≥ a
    · rw [if_pos hx]
      simp only
      rw [if_neg (by omega), if_neg (by omega), w64 (by omega) (by omega), if_pos rfl]
    · rw [if_neg hx, if_pos rfl]

theorem FnLetters : ∀ (l0 : List Int), (l0.length ≤ maxLen ∧ l0.length * 1 ≤ 140737488351232 ∧ ∀ l0' ∈ l0, (Lit.int .u8 l0').wf = true) → ∃ k, laws_FnLetters.f k l0 = some true := by
  intro c h0
  refine Ev.rounds (g := fun k => laws_FnLetters.f k c) ?_
  simp only [laws_FnLetters.f, laws_big.f, Option.bind_some]
  by_cases hb : (c.length : Int) > 1048576
  · simp only [hb, decide_true, if_true]
    exact Ev.now true
  · have hc : c.length ≤ 1048576 := by omega
    simp only [hb, decide_false, Bool.false_eq_true, if_false]
    obtain ⟨l, a, n, hd, hl⟩ := drawIns_ev c hc
    refine Ev.bind hd ?_
    refine Ev.bind (impl_insR l a n (by omega)) ?_
    by_cases h : areLR l = true ∧ (1 ≤ a ∧ a ≤ 500) ∧ (1 ≤ n ∧ n ≤ 500)
    · by_cases hm : areLR (l.map (insB a n)) = true
      · have e : insR l a n = (l.map (insB a n), true) := by rw [insR, if_pos h, if_pos hm]
        have h00 := (areLR_iff l).1 h.1
        have er : remR (l.map (insB a n)) a n = (l, true) := by
          rw [remR, if_pos ⟨hm, h.2⟩, rem_ins a n h.2.2.1 l [] 0 h00.1]
          rfl
        have hi := impl_areLR (l.map (insB a n)) (by simp; omega)
        have hr := impl_remR (l.map (insB a n)) a n (by simp; omega)
        rw [er] at hr
        rw [hm] at hi
        rw [e]
        simp only [if_true]
        refine Ev.bind hr ?_
        refine Ev.bind hi ?_
        simp only [if_true, bne_self_eq_false]
        refine Ev.step (fun k => by simp only [laws_FnLetters.j0, Bool.false_eq_true, if_false]; rfl) ?_
        exact same_ev c hc l a n hl h.2.1 h.2.2 h.1 l.length 0 (by omega)
      · have e : insR l a n = (l, false) := by rw [insR, if_pos h, if_neg hm]
        rw [e]
        simp only [Bool.false_eq_true, if_false]
        exact mid_ev c hc
    · have e : insR l a n = (l, false) := by rw [insR, if_neg h]
      rw [e]
      simp only [Bool.false_eq_true, if_false]
      exact mid_ev c hc

end Go.Proofs.Ythndhplhaaaafaa.Pure
