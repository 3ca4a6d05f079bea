/- The plain statement of the law FnExactInsertBars: what its printed function answers; no conditions but that the numbers are Go's ints and the slices no longer than memory. -/
import Derived.Test.YthndhplhaaaafaaQFnExactInsertBarsx4
set_option linter.unusedVariables false
set_option linter.unusedSimpArgs false
namespace Go.Proofs.Ythndhplhaaaafaa.Pure
open Go.RowKit Go.Proofs.Ythndhplhaaaafaa.QFnExactInsertBars Go.Proofs.YthndhplhaaaafaaW.PrintWords Go.Proofs.YthndhplhaaaafaaW.PrintLast Go.Proofs.YthndhplhaaaafaaW.PrintMore

theorem l1In_eq (a b c : Int) : spec_l1In.f a b c = some (decide (b ≤ a ∧ a ≤ c)) := by
  unfold spec_l1In.f
  split <;> simp <;> omega

theorem inRange_eq (a b c : Int) : impl_InRange.f a b c = some (decide (b ≤ a ∧ a ≤ c)) := by
  unfold impl_InRange.f
  split <;> simp <;> omega

theorem wf64 {x : Int} (h : (Lit.int .i64 x).wf = true) : -9223372036854775808 ≤ x ∧ x ≤ 9223372036854775807 := by
  simp only [Lit.wf, IntKind.min, IntKind.max, IntKind.signed, IntKind.bits, Bool.and_eq_true, decide_eq_true_eq, if_true] at h
  omega

theorem w64 {x : Int} (h1 : -9223372036854775808 ≤ x) (h2 : x ≤ 9223372036854775807) : wrap64 x = x := by
  unfold wrap64
  omega

theorem w64_nat (i : Nat) (h : i ≤ 9223372036854775806) : wrap64 ((i : Int) + 1) = ((i + 1 : Nat) : Int) := by
  unfold wrap64
  omega

theorem drop_cons {α : Type} (l : List α) (i : Nat) (h : i < l.length) : l.drop i = l[i] :: l.drop (i + 1) := List.drop_eq_getElem_cons h

theorem set_take {β : Type} (x : List β) (i : Nat) (v : β) (h : i < x.length) : (x.set i v).take (i + 1) = x.take i ++ [v] := by
  apply List.ext_getElem?
  intro j
  rcases Nat.lt_trichotomy j i with hj | hj | hj
  · rw [List.getElem?_take_of_lt (by omega), List.getElem?_set_ne (by omega), List.getElem?_append_left (by simp; omega), List.getElem?_take_of_lt (by omega)]
  · subst hj
    rw [List.getElem?_take_of_lt (by omega), List.getElem?_set_self (by omega), List.getElem?_append_right (by simp; omega)]
    simp [Nat.min_eq_left (Nat.le_of_lt h)]
  · rw [List.getElem?_take_eq_none (by omega), List.getElem?_append_right (by simp; omega)]
    simp
    omega

theorem copyLoop {α β : Type} (F : Nat → List β → Int → Option (List β)) (x0 : List α) (cv : α → β)
    (h1 : ∀ (x3 : List β) (i : Nat) (r : List β) (hi : i < x0.length), x3.length = x0.length → Ev (fun k => F k (x3.set i (cv x0[i])) ((i + 1 : Nat) : Int)) r → Ev (fun k => F k x3 (i : Int)) r)
    (h2 : ∀ x3 : List β, Ev (fun k => F k x3 (x0.length : Int)) x3) (init : List β) (hl : init.length = x0.length) : Ev (fun k => F k init 0) (x0.map cv) := by
  have key : ∀ (d i : Nat) (x3 : List β), i + d = x0.length → x3.length = x0.length → x3.take i = (x0.map cv).take i → Ev (fun k => F k x3 (i : Int)) (x0.map cv) := by
    intro d
    induction d with
    | zero =>
      intro i x3 hi hx ht
      obtain rfl : i = x0.length := by omega
      have e : x3 = x0.map cv := by
        rw [← hx, List.take_length] at ht
        rw [ht, hx]
        exact List.take_of_length_le (by simp)
      have := h2 x3
      rw [e] at this
      rw [e]
      exact this
    | succ d ih =>
      intro i x3 hi hx ht
      have hlt : i < x0.length := by omega
      refine h1 x3 i _ hlt hx (ih (i + 1) _ (by omega) (by rw [List.length_set]; exact hx) ?_)
      rw [set_take x3 i _ (by omega), ht]
      rw [List.take_succ_eq_append_getElem (by simpa using hlt)]
      simp
  have := key x0.length 0 init (by omega) hl (by simp)
  exact this

theorem eqLoop {α : Type} (F : Nat → Int → Option Bool) (x0 : List α)
    (h1 : ∀ (i : Nat) (r : Bool) (_ : i < x0.length), Ev (fun k => F k ((i + 1 : Nat) : Int)) r → Ev (fun k => F k (i : Int)) r)
    (h2 : Ev (fun k => F k (x0.length : Int)) true) : Ev (fun k => F k 0) true := by
  have key : ∀ (d i : Nat), i + d = x0.length → Ev (fun k => F k (i : Int)) true := by
    intro d
    induction d with
    | zero =>
      intro i hi
      obtain rfl : i = x0.length := by omega
      exact h2
    | succ d ih =>
      intro i hi
      exact h1 i true (by omega) (ih (i + 1) (by omega))
  exact key x0.length 0 (by omega)

theorem ite_eq_of {α : Type} {p : Prop} [Decidable p] {a b : α} (h : p) : (if p then a else b) = a := if_pos h

theorem Ev.one {α : Type} {g : Nat → Option α} {r : α} (h : ∀ k, g (k + 1) = some r) : Ev g r := Ev.step (f := fun _ => some r) h (Ev.now r)

theorem rdLetter_get (l : List S44) (i : Nat) (h : i < l.length) : rd_T44 l (i : Int) = l[i] := by
  simp [rd_T44, List.getD, List.getElem?_eq_getElem h]

theorem rdlLetter_get (l : List S49) (i : Nat) (h : i < l.length) : rd_T49 l (i : Int) = l[i] := by
  simp [rd_T49, List.getD, List.getElem?_eq_getElem h]

def cvLetter (x : S49) : S44 := ⟨x.f0, x.f1⟩

theorem toLetterS_ev (l : List S49) (hl : l.length ≤ 1048576) : Ev (fun k => laws_toLetterS.f k l) (l.map cvLetter) := by
  have key := copyLoop (fun k x3 i => laws_toLetterS.l0 k l x3 i) l cvLetter (by
    intro x3 i r hi hx h
    refine Ev.step (fun k => ?_) h
    simp only [laws_toLetterS.l0, laws_toLetter.f, Option.bind_some]
    rw [if_pos (by omega), if_pos (by omega), if_pos (by omega), rdlLetter_get l i hi, w64_nat i (by omega), Int.toNat_natCast]
    rfl) (by
    intro x3
    refine Ev.one (fun k => ?_)
    simp only [laws_toLetterS.l0]
    rw [if_neg (by omega)]) (List.replicate l.length z44) (by simp)
  refine Ev.congr (fun k => ?_) key
  simp only [laws_toLetterS.f, Int.toNat_natCast]
  rw [if_pos (by omega), if_pos (by omega)]

theorem eqLetterS_ev (l : List S44) (hl : l.length ≤ 140737488355328) : Ev (fun k => laws_eqLetterS.f k l l) true := by
  have key := eqLoop (fun k i => laws_eqLetterS.l0 k l l i) l (by
    intro i r hi h
    refine Ev.step (fun k => ?_) h
    simp only [laws_eqLetterS.l0, laws_eqLetter.f, if_true, Option.bind_some]
    rw [if_pos (by omega), if_pos (by omega), if_pos (by omega), w64_nat i (by omega)]) (by
    refine Ev.one (fun k => ?_)
    simp only [laws_eqLetterS.l0]
    rw [if_neg (by omega)])
  refine Ev.congr (fun k => ?_) key
  simp only [laws_eqLetterS.f, if_true]

theorem szLetterS_ev (l : List S49) (b : Int) (hb : 0 ≤ b) (hb2 : b ≤ 1048576) (h0 : l.length ≤ 9223372036854775807) : laws_szLetterS.f l b = some (if b < (l.length : Int) then -1 else b - (l.length : Int)) := by
  simp only [laws_szLetterS.f]
  rw [w64 (by omega) (by omega)]
  split
  · rw [if_pos (by omega)]
  · rw [if_neg (by omega)]

/-- The letters from number i on, the one before them at bar p. -/
def areL : Int → Int → List S44 → Bool
  | _, _, [] => true
  | i, p, x :: l => decide (x.f0 = i ∧ 1 ≤ x.f1 ∧ x.f1 ≤ 500 ∧ p < x.f1) && areL (i + 1) x.f1 l

def areLR (l : List S44) : Bool := areL 0 0 l && decide (l.length ≤ 26)

theorem spec_areL_ev (l : List S44) (hl : l.length ≤ 1048576) (d : Nat) : ∀ (i : Nat) (p : Int), i + d = l.length → (i = 0 ∧ p = 0 ∨ ∃ h : i - 1 < l.length, 0 < i ∧ p = (l[i - 1]).f1) →
    Ev (fun k => spec_AreLetters.l0 k l (i : Int)) (areL i p (l.drop i) && decide (l.length ≤ 26)) := by
  induction d with
  | zero =>
    intro i p hi hp
    rw [List.drop_of_length_le (by omega)]
    refine Ev.one (fun k => ?_)
    simp only [spec_AreLetters.l0, areL, Bool.true_and]
    rw [if_neg (by omega)]
    refine congrArg some (decide_eq_decide.2 ?_)
    omega
  | succ d ih =>
    intro i p hi hp
    have hlt : i < l.length := by omega
    rw [drop_cons l i hlt]
    have next := ih (i + 1) l[i].f1 (by omega) (.inr ⟨by omega, by omega, rfl⟩)
    by_cases h0 : l[i].f0 = (i : Int)
    · by_cases h1 : 1 ≤ l[i].f1 ∧ l[i].f1 ≤ 500
      · rcases hp with ⟨rfl, rfl⟩ | ⟨hi1, hpos, rfl⟩
        · refine Ev.step (f := fun k => spec_AreLetters.l0 k l ((0 + 1 : Nat) : Int)) (fun k => ?_) ?_
          · simp only [spec_AreLetters.l0, l1In_eq, Option.bind_some]
            rw [if_pos (by omega), if_pos (by omega), rdLetter_get l 0 hlt, if_pos h0, if_pos (decide_eq_true h1), if_neg (by omega), w64_nat 0 (by omega)]
          · rw [areL, decide_eq_true ⟨h0, h1.1, h1.2, by omega⟩, Bool.true_and]
            exact next
        · have hw : wrap64 ((i : Int) - 1) = ((i - 1 : Nat) : Int) := by unfold wrap64; omega
          by_cases h2 : (l[i - 1]).f1 ≥ l[i].f1
          · rw [areL, decide_eq_false (by omega), Bool.false_and, Bool.false_and]
            refine Ev.one (fun k => ?_)
            simp only [spec_AreLetters.l0, l1In_eq, Option.bind_some]
            rw [if_pos (by omega), if_pos (by omega), rdLetter_get l i hlt, if_pos h0, if_pos (decide_eq_true h1), if_pos (by omega), hw, if_pos (by omega), if_pos (by omega), rdLetter_get l (i - 1) hi1, if_pos h2]
          · rw [areL, decide_eq_true ⟨h0, h1.1, h1.2, by omega⟩, Bool.true_and]
            refine Ev.step (fun k => ?_) next
            simp only [spec_AreLetters.l0, l1In_eq, Option.bind_some]
            rw [if_pos (by omega), if_pos (by omega), rdLetter_get l i hlt, if_pos h0, if_pos (decide_eq_true h1), if_pos (by omega), hw, if_pos (by omega), if_pos (by omega), rdLetter_get l (i - 1) hi1, if_neg h2, w64_nat i (by omega)]
      · rw [areL, decide_eq_false (by omega), Bool.false_and, Bool.false_and]
        refine Ev.one (fun k => ?_)
        simp only [spec_AreLetters.l0, l1In_eq, Option.bind_some]
        rw [if_pos (by omega), if_pos (by omega), rdLetter_get l i hlt, if_pos h0, if_neg (by simpa using h1)]
    · rw [areL, decide_eq_false (by omega), Bool.false_and, Bool.false_and]
      refine Ev.one (fun k => ?_)
      simp only [spec_AreLetters.l0]
      rw [if_pos (by omega), if_pos (by omega), rdLetter_get l i hlt, if_neg h0]

theorem impl_areL_ev (l : List S44) (hl : l.length ≤ 1048576) (d : Nat) : ∀ (i : Nat) (p : Int), i + d = l.length → (i = 0 ∧ p = 0 ∨ ∃ h : i - 1 < l.length, 0 < i ∧ p = (l[i - 1]).f1) →
    Ev (fun k => impl_AreLetters.l0 k l l (l.length : Int) (i : Int)) (areL i p (l.drop i) && decide (l.length ≤ 26)) := by
  induction d with
  | zero =>
    intro i p hi hp
    rw [List.drop_of_length_le (by omega)]
    refine Ev.one (fun k => ?_)
    simp only [impl_AreLetters.l0, areL, Bool.true_and]
    rw [if_neg (by omega)]
    refine congrArg some (decide_eq_decide.2 ?_)
    omega
  | succ d ih =>
    intro i p hi hp
    have hlt : i < l.length := by omega
    rw [drop_cons l i hlt]
    have next := ih (i + 1) l[i].f1 (by omega) (.inr ⟨by omega, by omega, rfl⟩)
    by_cases h0 : l[i].f0 = (i : Int)
    · by_cases h1 : 1 ≤ l[i].f1 ∧ l[i].f1 ≤ 500
      · rcases hp with ⟨rfl, rfl⟩ | ⟨hi1, hpos, rfl⟩
        · refine Ev.step (f := fun k => impl_AreLetters.l0 k l l (l.length : Int) ((0 + 1 : Nat) : Int)) (fun k => ?_) ?_
          · simp only [impl_AreLetters.l0, inRange_eq, Option.bind_some]
            rw [if_pos (by omega), if_pos (by omega), if_pos (by omega), rdLetter_get l 0 hlt, if_pos h0, if_pos (decide_eq_true h1), if_neg (by omega), w64_nat 0 (by omega)]
          · rw [areL, decide_eq_true ⟨h0, h1.1, h1.2, by omega⟩, Bool.true_and]
            exact next
        · have hw : wrap64 ((i : Int) - 1) = ((i - 1 : Nat) : Int) := by unfold wrap64; omega
          by_cases h2 : (l[i - 1]).f1 ≥ l[i].f1
          · rw [areL, decide_eq_false (by omega), Bool.false_and, Bool.false_and]
            refine Ev.one (fun k => ?_)
            simp only [impl_AreLetters.l0, inRange_eq, Option.bind_some]
            rw [if_pos (by omega), if_pos (by omega), if_pos (by omega), rdLetter_get l i hlt, if_pos h0, if_pos (decide_eq_true h1), if_pos (by omega), hw, if_pos (by omega), if_pos (by omega), rdLetter_get l (i - 1) hi1, if_pos h2]
          · rw [areL, decide_eq_true ⟨h0, h1.1, h1.2, by omega⟩, Bool.true_and]
            refine Ev.step (fun k => ?_) next
            simp only [impl_AreLetters.l0, inRange_eq, Option.bind_some]
            rw [if_pos (by omega), if_pos (by omega), if_pos (by omega), rdLetter_get l i hlt, if_pos h0, if_pos (decide_eq_true h1), if_pos (by omega), hw, if_pos (by omega), if_pos (by omega), rdLetter_get l (i - 1) hi1, if_neg h2, w64_nat i (by omega)]
      · rw [areL, decide_eq_false (by omega), Bool.false_and, Bool.false_and]
        refine Ev.one (fun k => ?_)
        simp only [impl_AreLetters.l0, inRange_eq, Option.bind_some]
        rw [if_pos (by omega), if_pos (by omega), if_pos (by omega), rdLetter_get l i hlt, if_pos h0, if_neg (by simpa using h1)]
    · rw [areL, decide_eq_false (by omega), Bool.false_and, Bool.false_and]
      refine Ev.one (fun k => ?_)
      simp only [impl_AreLetters.l0]
      rw [if_pos (by omega), if_pos (by omega), if_pos (by omega), rdLetter_get l i hlt, if_neg h0]

theorem spec_areLR (l : List S44) (hl : l.length ≤ 1048576) : Ev (fun k => spec_AreLetters.f k l) (areLR l) := spec_areL_ev l hl l.length 0 0 (by omega) (.inl ⟨rfl, rfl⟩)
theorem impl_areLR (l : List S44) (hl : l.length ≤ 1048576) : Ev (fun k => impl_AreLetters.f k l) (areLR l) := impl_areL_ev l hl l.length 0 0 (by omega) (.inl ⟨rfl, rfl⟩)

theorem drop_set_lt {α : Type} (l : List α) (i j : Nat) (v : α) (h : i < j) : (l.set i v).drop j = l.drop j := by
  apply List.ext_getElem?
  intro q
  rw [List.getElem?_drop, List.getElem?_drop, List.getElem?_set_ne (by omega)]

theorem mapLoop {β ρ : Type} (F : Nat → List β → Int → Option ρ) (l : List β) (tr : β → β) (r : ρ)
    (h1 : ∀ (x3 : List β) (i : Nat) (hi : i < l.length), x3.length = l.length → x3[i]? = some l[i] → Ev (fun k => F k (x3.set i (tr l[i])) ((i + 1 : Nat) : Int)) r → Ev (fun k => F k x3 (i : Int)) r)
    (h2 : Ev (fun k => F k (l.map tr) (l.length : Int)) r) : Ev (fun k => F k l 0) r := by
  have key : ∀ (d i : Nat) (x3 : List β), i + d = l.length → x3.length = l.length → x3.take i = (l.map tr).take i → x3.drop i = l.drop i → Ev (fun k => F k x3 (i : Int)) r := by
    intro d
    induction d with
    | zero =>
      intro i x3 hi hx ht _
      obtain rfl : i = l.length := by omega
      have e : x3 = l.map tr := by
        rw [← hx, List.take_length] at ht
        rw [ht, hx]
        exact List.take_of_length_le (by simp)
      rw [e]
      exact h2
    | succ d ih =>
      intro i x3 hi hx ht hd
      have hlt : i < l.length := by omega
      refine h1 x3 i hlt hx ?_ (ih (i + 1) _ (by omega) (by rw [List.length_set]; exact hx) ?_ ?_)
      · have := congrArg (fun q => q[0]?) hd
        simp only [List.getElem?_drop, Nat.add_zero] at this
        rw [this, List.getElem?_eq_getElem hlt]
      · rw [set_take x3 i _ (by omega), ht, List.take_succ_eq_append_getElem (by simpa using hlt)]
        simp
      · rw [drop_set_lt _ _ _ _ (by omega), ← List.drop_drop, hd, List.drop_drop]
  exact key l.length 0 l (by omega) rfl (by simp) rfl

def insB (a n : Int) (x : S44) : S44 := if x.f1 ≥ a then ⟨x.f0, x.f1 + n⟩ else x

theorem areL_b (l : List S44) : ∀ i p, areL i p l = true → ∀ x ∈ l, 1 ≤ x.f1 ∧ x.f1 ≤ 500 := by
  induction l with
  | nil => intro i p _ x hx; simp at hx
  | cons y l ih =>
    intro i p h x hx
    simp only [areL, Bool.and_eq_true, decide_eq_true_eq] at h
    rcases List.mem_cons.1 hx with rfl | hx
    · omega
    · exact ih _ _ h.2 x hx

theorem set_self {α : Type} (x : List α) (i : Nat) (v : α) (h : x[i]? = some v) : x.set i v = x := by
  apply List.ext_getElem?
  intro j
  by_cases hj : i = j
  · subst hj
    have hlt := (List.getElem?_eq_some_iff.1 h).1
    rw [List.getElem?_set_self hlt, h]
  · rw [List.getElem?_set_ne hj]

def insR (l : List S44) (a n : Int) : List S44 × Bool := if areLR l = true ∧ (1 ≤ a ∧ a ≤ 500) ∧ (1 ≤ n ∧ n ≤ 500) then (if areLR (l.map (insB a n)) = true then (l.map (insB a n), true) else (l, false)) else (l, false)

theorem spec_ins_ev (l : List S44) (a n : Int) (ha : areLR l = true) (h1 : 1 ≤ a ∧ a ≤ 500) (h2 : 1 ≤ n ∧ n ≤ 500) :
    Ev (fun k => spec_InsertBars.l0 k l a n l 0) (if areLR (l.map (insB a n)) = true then (l.map (insB a n), true) else (l, false)) := by
  have hL : areL 0 0 l = true ∧ l.length ≤ 26 := by simpa [areLR] using ha
  refine mapLoop (fun k x i => spec_InsertBars.l0 k l a n x i) l (insB a n) _ ?_ ?_
  · intro x3 i hi hx hxi h
    have hb := areL_b l _ _ hL.1 _ (List.getElem_mem hi)
    have hr : rd_T44 x3 (i : Int) = l[i] := by
      rw [rdLetter_get x3 i (by omega)]
      rw [List.getElem?_eq_getElem (by omega)] at hxi
      exact Option.some.inj hxi
    refine Ev.step (fun k => ?_) h
    simp only [spec_InsertBars.l0, hr, Int.toNat_natCast]
    rw [if_pos (by omega), if_pos (by omega), w64_nat i (by omega)]
    unfold insB
    by_cases hc : l[i].f1 ≥ a
    · rw [if_pos hc, if_pos hc, w64 (by omega) (by omega)]
    · rw [if_neg hc, if_neg hc, set_self x3 i _ hxi]
  · refine Ev.step (f := fun k => (spec_AreLetters.f k (l.map (insB a n))).bind fun t => if t = true then some (l.map (insB a n), true) else ((some ([] : List S44)).bind fun y => if y.length + l.length < 8796093022208 then some (y ++ l, false) else none)) (fun k => ?_) (Ev.bind (spec_areLR _ (by simp; omega)) ?_)
    · simp only [spec_InsertBars.l0, List.length_map]
      rw [if_neg (by omega)]
    · by_cases hc : areLR (l.map (insB a n)) = true
      · simp only [hc, if_true]
        exact Ev.now _
      · have hlen : 0 + l.length < 8796093022208 := by omega
        simp only [hc, Bool.false_eq_true, if_false, Option.bind_some, List.length_nil, hlen, if_true, List.nil_append]
        exact Ev.now _

theorem impl_ins_ev (l : List S44) (a n : Int) (ha : areLR l = true) (h1 : 1 ≤ a ∧ a ≤ 500) (h2 : 1 ≤ n ∧ n ≤ 500) :
    Ev (fun k => impl_InsertBars.l0 k l a n l (l.length : Int) 0) (if areLR (l.map (insB a n)) = true then (l.map (insB a n), true) else (l, false)) := by
  have hL : areL 0 0 l = true ∧ l.length ≤ 26 := by simpa [areLR] using ha
  refine mapLoop (fun k x i => impl_InsertBars.l0 k l a n x (l.length : Int) i) l (insB a n) _ ?_ ?_
  · intro x3 i hi hx hxi h
    have hb := areL_b l _ _ hL.1 _ (List.getElem_mem hi)
    have hr : rd_T44 x3 (i : Int) = l[i] := by
      rw [rdLetter_get x3 i (by omega)]
      rw [List.getElem?_eq_getElem (by omega)] at hxi
      exact Option.some.inj hxi
    refine Ev.step (fun k => ?_) h
    simp only [impl_InsertBars.l0, hr, Int.toNat_natCast]
    rw [if_pos (by omega), if_pos (by omega), if_pos (by omega), w64_nat i (by omega)]
    unfold insB
    by_cases hc : l[i].f1 ≥ a
    · rw [if_pos hc, if_pos hc, w64 (by omega) (by omega)]
    · rw [if_neg hc, if_neg hc, set_self x3 i _ hxi]
  · refine Ev.step (f := fun k => (impl_AreLetters.f k (l.map (insB a n))).bind fun t => if t = true then some (l.map (insB a n), true) else ((impl_Letter.f l).bind fun y => some (y, false))) (fun k => ?_) (Ev.bind (impl_areLR _ (by simp; omega)) ?_)
    · simp only [impl_InsertBars.l0]
      rw [if_neg (by omega)]
    · by_cases hc : areLR (l.map (insB a n)) = true
      · simp only [hc, if_true]
        exact Ev.now _
      · have hlen : 0 + l.length < 8796093022208 := by omega
        simp only [hc, Bool.false_eq_true, if_false, impl_Letter.f, Option.bind_some, List.length_nil, hlen, if_true, List.nil_append]
        exact Ev.now _

theorem spec_insR (l : List S44) (a n : Int) (hl : l.length ≤ 1048576) : Ev (fun k => spec_InsertBars.f k l a n) (insR l a n) := by
  have stop : Ev (fun k => spec_InsertBars.j0 k l a n l true) (l, false) := Ev.one (fun k => by simp only [spec_InsertBars.j0, if_true])
  have hlen : 0 + l.length < 8796093022208 := by omega
  simp only [spec_InsertBars.f, Option.bind_some, List.length_nil, hlen, if_true, List.nil_append, l1In_eq]
  refine Ev.bind (spec_areLR l hl) ?_
  unfold insR
  by_cases h0 : areLR l = true
  · by_cases h1 : 1 ≤ a ∧ a ≤ 500
    · by_cases h2 : 1 ≤ n ∧ n ≤ 500
      · rw [if_pos ⟨h0, h1, h2⟩]
        simp only [h0, decide_eq_true h1, decide_eq_true h2, if_true, Bool.not_true]
        refine Ev.step (fun k => ?_) (spec_ins_ev l a n h0 h1 h2)
        simp only [spec_InsertBars.j0, Bool.false_eq_true, if_false]
      · rw [if_neg (fun h => h2 h.2.2)]
        simp only [h0, decide_eq_true h1, decide_eq_false h2, if_true, Bool.not_false]
        exact stop
    · rw [if_neg (fun h => h1 h.2.1)]
      simp only [h0, decide_eq_false h1, Bool.false_eq_true, if_true, if_false]
      exact stop
  · rw [if_neg (fun h => h0 h.1)]
    simp only [h0, Bool.false_eq_true, if_false]
    exact stop

theorem impl_insR (l : List S44) (a n : Int) (hl : l.length ≤ 1048576) : Ev (fun k => impl_InsertBars.f k l a n) (insR l a n) := by
  have stop : Ev (fun k => impl_InsertBars.j0 k l a n l true) (l, false) := Ev.one (fun k => by simp only [impl_InsertBars.j0, if_true])
  have hlen : 0 + l.length < 8796093022208 := by omega
  simp only [impl_InsertBars.f, impl_Letter.f, Option.bind_some, List.length_nil, hlen, if_true, List.nil_append, inRange_eq]
  refine Ev.bind (impl_areLR l hl) ?_
  unfold insR
  by_cases h0 : areLR l = true
  · by_cases h1 : 1 ≤ a ∧ a ≤ 500
    · by_cases h2 : 1 ≤ n ∧ n ≤ 500
      · rw [if_pos ⟨h0, h1, h2⟩]
        simp only [h0, decide_eq_true h1, decide_eq_true h2, if_true, Bool.not_true]
        refine Ev.step (fun k => ?_) (impl_ins_ev l a n h0 h1 h2)
        simp only [impl_InsertBars.j0, Bool.false_eq_true, if_false]
      · rw [if_neg (fun h => h2 h.2.2)]
        simp only [h0, decide_eq_true h1, decide_eq_false h2, if_true, Bool.not_false]
        exact stop
    · rw [if_neg (fun h => h1 h.2.1)]
      simp only [h0, decide_eq_false h1, Bool.false_eq_true, if_true, if_false]
      exact stop
  · rw [if_neg (fun h => h0 h.1)]
    simp only [h0, Bool.false_eq_true, if_false]
    exact stop

theorem insR_len (l : List S44) (a n : Int) : (insR l a n).1.length = l.length := by
  unfold insR
  split
  · split <;> simp
  · rfl

theorem markLoop {β : Type} (C : Nat → Nat) (mkv : Nat → β) (F : Nat → List β → Int → Int → Option (Int × List β)) (n : Nat)
    (h1 : ∀ (x3 : List β) (i : Nat) (r : Int × List β), i < n → x3.length = n → Ev (fun k => F k (x3.set i (mkv i)) ((C (i + 1) : Nat) : Int) ((i + 1 : Nat) : Int)) r → Ev (fun k => F k x3 ((C i : Nat) : Int) (i : Int)) r)
    (h2 : ∀ x3 : List β, x3.length = n → Ev (fun k => F k x3 ((C n : Nat) : Int) (n : Int)) (((C n : Nat) : Int), x3)) (init : List β) (hl : init.length = n) :
    Ev (fun k => F k init ((C 0 : Nat) : Int) ((0 : Nat) : Int)) (((C n : Nat) : Int), (List.range n).map mkv) := by
  have key : ∀ (d i : Nat) (x3 : List β), i + d = n → x3.length = n → x3.take i = (List.range i).map mkv → Ev (fun k => F k x3 ((C i : Nat) : Int) (i : Int)) (((C n : Nat) : Int), (List.range n).map mkv) := by
    intro d
    induction d with
    | zero =>
      intro i x3 hi hx ht
      obtain rfl : i = n := by omega
      have e : x3 = (List.range i).map mkv := by
        rw [← ht, ← hx, List.take_length]
      have := h2 x3 hx
      rw [← e]
      exact this
    | succ d ih =>
      intro i x3 hi hx ht
      refine h1 x3 i _ (by omega) hx (ih (i + 1) _ (by omega) (by rw [List.length_set]; exact hx) ?_)
      rw [set_take x3 i _ (by omega), ht, List.range_succ, List.map_append]
      rfl
  exact key n 0 init (by omega) hl (by simp)

theorem heldLoop (C : Nat → Nat) (F : Nat → Int → Int → Option Int) (n : Nat)
    (h1 : ∀ (i : Nat) (r : Int), i < n → Ev (fun k => F k ((C (i + 1) : Nat) : Int) ((i + 1 : Nat) : Int)) r → Ev (fun k => F k ((C i : Nat) : Int) (i : Int)) r)
    (h2 : Ev (fun k => F k ((C n : Nat) : Int) (n : Int)) ((C n : Nat) : Int)) : Ev (fun k => F k ((C 0 : Nat) : Int) ((0 : Nat) : Int)) ((C n : Nat) : Int) := by
  have key : ∀ (d i : Nat), i + d = n → Ev (fun k => F k ((C i : Nat) : Int) (i : Int)) ((C n : Nat) : Int) := by
    intro d
    induction d with
    | zero =>
      intro i hi
      obtain rfl : i = n := by omega
      exact h2
    | succ d ih =>
      intro i hi
      exact h1 i _ (by omega) (ih (i + 1) (by omega))
  exact key n 0 (by omega)

def mkLetter (q : Nat) : S44 := ⟨((1 + 2 * q : Nat) : Int), ((1 + 2 * q + 1 : Nat) : Int)⟩

theorem rdLetter_set (l : List S44) (i : Nat) (h : i < l.length) (v : S44) : rd_T44 (l.set i v) (i : Int) = v := by
  simp [rd_T44, List.getD, List.getElem?_set_self h]

theorem markLetterS_ev (l : List S44) (hl : l.length ≤ 1048576) : Ev (fun k => laws_markLetterS.f k l 1) (((1 + 2 * l.length : Nat) : Int), (List.range l.length).map mkLetter) := by
  have key := markLoop (fun i => 1 + 2 * i) mkLetter (fun k x c i => laws_markLetterS.l0 k x c i) l.length (by
    intro x3 i r hi hx h
    simp only [show 1 + 2 * (i + 1) = 1 + 2 * i + 1 + 1 by omega] at h
    refine Ev.step (fun k => ?_) h
    have hx' : i < x3.length := by omega
    simp only [laws_markLetterS.l0, Option.bind_some, Int.toNat_natCast]
    rw [if_pos (by omega), if_pos (by omega), w64_nat (1 + 2 * i) (by omega), w64_nat (1 + 2 * i + 1) (by omega), w64_nat i (by omega)]
    simp only [rdLetter_set, List.length_set, hx', List.set_set, mkLetter]) (by
    intro x3 hx
    refine Ev.one (fun k => ?_)
    simp only [laws_markLetterS.l0]
    rw [if_neg (by omega)]) l rfl
  exact key

theorem heldLetterS_ev (n : Nat) (hl : n ≤ 1048576) : Ev (fun k => laws_heldLetterS.f k ((List.range n).map mkLetter) 1) ((1 + 2 * n : Nat) : Int) := by
  have key := heldLoop (fun i => 1 + 2 * i) (fun k c i => laws_heldLetterS.l0 k ((List.range n).map mkLetter) c i) n (by
    intro i r hi h
    simp only [show 1 + 2 * (i + 1) = 1 + 2 * i + 1 + 1 by omega] at h
    refine Ev.step (fun k => ?_) h
    simp only [laws_heldLetterS.l0, List.length_map, List.length_range]
    rw [if_pos (by omega), if_pos (by omega), rdLetter_get _ i (by simpa using hi), w64_nat (1 + 2 * i) (by omega), w64_nat (1 + 2 * i + 1) (by omega), w64_nat i (by omega)]
    simp only [List.getElem_map, List.getElem_range, mkLetter, if_true]) (by
    refine Ev.one (fun k => ?_)
    simp only [laws_heldLetterS.l0, List.length_map, List.length_range]
    rw [if_neg (by omega)])
  exact key

theorem FnExactInsertBars : ∀ (l0 : List (S49)) (a1 : Int) (a2 : Int), (l0.length ≤ maxLen ∧ l0.length * 16 ≤ 140737488351232 ∧ ∀ l0' ∈ l0, ((Lit.int .i64 l0'.f0).wf = true) ∧ ((Lit.int .i64 l0'.f1).wf = true)) → ((Lit.int .i64 a1).wf = true) → ((Lit.int .i64 a2).wf = true) → ∃ k, laws_FnExactInsertBars.f k l0 a1 a2 = some true := by
  intro l0 a n h0 _ _
  have hm : l0.length ≤ 9223372036854775807 := h0.1
  refine Ev.rounds (g := fun k => laws_FnExactInsertBars.f k l0 a n) ?_
  simp only [laws_FnExactInsertBars.f, szLetterS_ev l0 1048576 (by omega) (by omega) hm, Option.bind_some]
  by_cases hb : (1048576 : Int) < (l0.length : Int)
  · simp only [hb, if_true]
    exact Ev.now true
  · have hs := spec_insR (l0.map cvLetter) a n (by simp; omega)
    have hi := impl_insR (l0.map cvLetter) a n (by simp; omega)
    have hlen := insR_len (l0.map cvLetter) a n
    rw [List.length_map] at hlen
    have ht := toLetterS_ev l0 (by omega)
    have he := eqLetterS_ev (l0.map cvLetter) (by simp; omega)
    have hr := eqLetterS_ev (insR (l0.map cvLetter) a n).1 (by omega)
    have hma := markLetterS_ev (l0.map cvLetter) (by simp; omega)
    have hmr := markLetterS_ev (insR (l0.map cvLetter) a n).1 (by omega)
    have hhe := heldLetterS_ev (insR (l0.map cvLetter) a n).1.length (by omega)
    have hn : ¬ (1048576 - (l0.length : Int) < 0) := by omega
    simp only [hb, hn, if_false]
    refine Ev.bind ht ?_
    refine Ev.bind hs ?_
    refine Ev.bind ht ?_
    refine Ev.bind hi ?_
    refine Ev.bind hr ?_
    simp only [bne_self_eq_false, if_true]
    refine Ev.step (fun k => by simp only [laws_FnExactInsertBars.j0, Bool.false_eq_true, if_false]; rfl) ?_
    refine Ev.bind ht ?_
    refine Ev.bind he ?_
    simp only [if_true]
    refine Ev.bind hma ?_
    have hneg : ∀ q : Nat, ¬ ((q : Int) < 0) := fun q => by omega
    simp only [hneg, if_false]
    refine Ev.bind hr ?_
    simp only [bne_self_eq_false, if_true]
    refine Ev.step (fun k => by simp only [laws_FnExactInsertBars.j1, Bool.false_eq_true, if_false]; rfl) ?_
    refine Ev.bind hmr ?_
    refine Ev.bind hhe ?_
    simp only [hneg, if_false, if_true]
    refine Ev.bind ht ?_
    refine Ev.bind hi ?_
    refine Ev.bind hr ?_
    simp only [bne_self_eq_false, if_true]
    refine Ev.step (fun k => by simp only [laws_FnExactInsertBars.j2, Bool.false_eq_true, if_false]; rfl) ?_
    refine Ev.bind hhe ?_
    simp only [hneg, if_false, if_true]
    exact Ev.now true

end Go.Proofs.Ythndhplhaaaafaa.Pure
