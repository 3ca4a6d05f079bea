/- The plain statement of the law FnExactNearest: what its printed function answers; no conditions but that the numbers are Go's ints and the slices no longer than memory. -/
import Derived.Test.YthndhplhaaaafaaPFnExactNearestx4
set_option linter.unusedVariables false
set_option linter.unusedSimpArgs false
namespace Go.Proofs.Ythndhplhaaaafaa.Pure
open Go.RowKit Go.Proofs.Ythndhplhaaaafaa.PFnExactNearest Go.Proofs.YthndhplhaaaafaaW.PrintWords Go.Proofs.YthndhplhaaaafaaW.PrintLast Go.Proofs.YthndhplhaaaafaaW.PrintMore

theorem l1In_eq (a b c : Int) : spec_l1In.f a b c = some (decide (b ≤ a ∧ a ≤ c)) := by
  unfold spec_l1In.f
  split <;> simp <;> omega

theorem inRange_eq (a b c : Int) : impl_InRange.f a b c = some (decide (b ≤ a ∧ a ≤ c)) := by
  unfold impl_InRange.f
  split <;> simp <;> omega

theorem wf64 {x : Int} (h : (Lit.int .i64 x).wf = true) : -9223372036854775808 ≤ x ∧ x ≤ 9223372036854775807 := by
  simp only [Lit.wf, IntKind.min, IntKind.max, IntKind.signed, IntKind.bits, Bool.and_eq_true, decide_eq_true_eq, if_true] at h
  omega

theorem w64 {x : Int} (h1 : -9223372036854775808 ≤ x) (h2 : x ≤ 9223372036854775807) : wrap64 x = x := by
  unfold wrap64
  omega

theorem w64_nat (i : Nat) (h : i ≤ 9223372036854775806) : wrap64 ((i : Int) + 1) = ((i + 1 : Nat) : Int) := by
  unfold wrap64
  omega

theorem drop_cons {α : Type} (l : List α) (i : Nat) (h : i < l.length) : l.drop i = l[i] :: l.drop (i + 1) := List.drop_eq_getElem_cons h

theorem set_take {β : Type} (x : List β) (i : Nat) (v : β) (h : i < x.length) : (x.set i v).take (i + 1) = x.take i ++ [v] := by
  apply List.ext_getElem?
  intro j
  rcases Nat.lt_trichotomy j i with hj | hj | hj
  · rw [List.getElem?_take_of_lt (by omega), List.getElem?_set_ne (by omega), List.getElem?_append_left (by simp; omega), List.getElem?_take_of_lt (by omega)]
  · subst hj
    rw [List.getElem?_take_of_lt (by omega), List.getElem?_set_self (by omega), List.getElem?_append_right (by simp; omega)]
    simp [Nat.min_eq_left (Nat.le_of_lt h)]
  · rw [List.getElem?_take_eq_none (by omega), List.getElem?_append_right (by simp; omega)]
    simp
    omega

theorem copyLoop {α β : Type} (F : Nat → List β → Int → Option (List β)) (x0 : List α) (cv : α → β)
    (h1 : ∀ (x3 : List β) (i : Nat) (r : List β) (hi : i < x0.length), x3.length = x0.length → Ev (fun k => F k (x3.set i (cv x0[i])) ((i + 1 : Nat) : Int)) r → Ev (fun k => F k x3 (i : Int)) r)
    (h2 : ∀ x3 : List β, Ev (fun k => F k x3 (x0.length : Int)) x3) (init : List β) (hl : init.length = x0.length) : Ev (fun k => F k init 0) (x0.map cv) := by
  have key : ∀ (d i : Nat) (x3 : List β), i + d = x0.length → x3.length = x0.length → x3.take i = (x0.map cv).take i → Ev (fun k => F k x3 (i : Int)) (x0.map cv) := by
    intro d
    induction d with
    | zero =>
      intro i x3 hi hx ht
      obtain rfl : i = x0.length := by omega
      have e : x3 = x0.map cv := by
        rw [← hx, List.take_length] at ht
        rw [ht, hx]
        exact List.take_of_length_le (by simp)
      have := h2 x3
      rw [e] at this
      rw [e]
      exact this
    | succ d ih =>
      intro i x3 hi hx ht
      have hlt : i < x0.length := by omega
      refine h1 x3 i _ hlt hx (ih (i + 1) _ (by omega) (by rw [List.length_set]; exact hx) ?_)
      rw [set_take x3 i _ (by omega), ht]
      rw [List.take_succ_eq_append_getElem (by simpa using hlt)]
      simp
  have := key x0.length 0 init (by omega) hl (by simp)
  exact this

theorem eqLoop {α : Type} (F : Nat → Int → Option Bool) (x0 : List α)
    (h1 : ∀ (i : Nat) (r : Bool) (_ : i < x0.length), Ev (fun k => F k ((i + 1 : Nat) : Int)) r → Ev (fun k => F k (i : Int)) r)
    (h2 : Ev (fun k => F k (x0.length : Int)) true) : Ev (fun k => F k 0) true := by
  have key : ∀ (d i : Nat), i + d = x0.length → Ev (fun k => F k (i : Int)) true := by
    intro d
    induction d with
    | zero =>
      intro i hi
      obtain rfl : i = x0.length := by omega
      exact h2
    | succ d ih =>
      intro i hi
      exact h1 i true (by omega) (ih (i + 1) (by omega))
  exact key x0.length 0 (by omega)

theorem ite_eq_of {α : Type} {p : Prop} [Decidable p] {a b : α} (h : p) : (if p then a else b) = a := if_pos h

theorem Ev.one {α : Type} {g : Nat → Option α} {r : α} (h : ∀ k, g (k + 1) = some r) : Ev g r := Ev.step (f := fun _ => some r) h (Ev.now r)

theorem rdLetter_get (l : List S44) (i : Nat) (h : i < l.length) : rd_T44 l (i : Int) = l[i] := by
  simp [rd_T44, List.getD, List.getElem?_eq_getElem h]

theorem rdlLetter_get (l : List S49) (i : Nat) (h : i < l.length) : rd_T49 l (i : Int) = l[i] := by
  simp [rd_T49, List.getD, List.getElem?_eq_getElem h]

def cvLetter (x : S49) : S44 := ⟨x.f0, x.f1⟩

theorem toLetterS_ev (l : List S49) (hl : l.length ≤ 1048576) : Ev (fun k => laws_toLetterS.f k l) (l.map cvLetter) := by
  have key := copyLoop (fun k x3 i => laws_toLetterS.l0 k l x3 i) l cvLetter (by
    intro x3 i r hi hx h
    refine Ev.step (fun k => ?_) h
    simp only [laws_toLetterS.l0, laws_toLetter.f, Option.bind_some]
    rw [if_pos (by omega), if_pos (by omega), if_pos (by omega), rdlLetter_get l i hi, w64_nat i (by omega), Int.toNat_natCast]
    rfl) (by
    intro x3
    refine Ev.one (fun k => ?_)
    simp only [laws_toLetterS.l0]
    rw [if_neg (by omega)]) (List.replicate l.length z44) (by simp)
  refine Ev.congr (fun k => ?_) key
  simp only [laws_toLetterS.f, Int.toNat_natCast]
  rw [if_pos (by omega), if_pos (by omega)]

theorem eqLetterS_ev (l : List S44) (hl : l.length ≤ 140737488355328) : Ev (fun k => laws_eqLetterS.f k l l) true := by
  have key := eqLoop (fun k i => laws_eqLetterS.l0 k l l i) l (by
    intro i r hi h
    refine Ev.step (fun k => ?_) h
    simp only [laws_eqLetterS.l0, laws_eqLetter.f, if_true, Option.bind_some]
    rw [if_pos (by omega), if_pos (by omega), if_pos (by omega), w64_nat i (by omega)]) (by
    refine Ev.one (fun k => ?_)
    simp only [laws_eqLetterS.l0]
    rw [if_neg (by omega)])
  refine Ev.congr (fun k => ?_) key
  simp only [laws_eqLetterS.f, if_true]

theorem szLetterS_ev (l : List S49) (b : Int) (hb : 0 ≤ b) (hb2 : b ≤ 1048576) (h0 : l.length ≤ 9223372036854775807) : laws_szLetterS.f l b = some (if b < (l.length : Int) then -1 else b - (l.length : Int)) := by
  simp only [laws_szLetterS.f]
  rw [w64 (by omega) (by omega)]
  split
  · rw [if_pos (by omega)]
  · rw [if_neg (by omega)]

/-- The letters from number i on, the one before them at bar p. -/
def areL : Int → Int → List S44 → Bool
  | _, _, [] => true
  | i, p, x :: l => decide (x.f0 = i ∧ 1 ≤ x.f1 ∧ x.f1 ≤ 500 ∧ p < x.f1) && areL (i + 1) x.f1 l

def areLR (l : List S44) : Bool := areL 0 0 l && decide (l.length ≤ 26)

theorem spec_areL_ev (l : List S44) (hl : l.length ≤ 1048576) (d : Nat) : ∀ (i : Nat) (p : Int), i + d = l.length → (i = 0 ∧ p = 0 ∨ ∃ h : i - 1 < l.length, 0 < i ∧ p = (l[i - 1]).f1) →
    Ev (fun k => spec_AreLetters.l0 k l (i : Int)) (areL i p (l.drop i) && decide (l.length ≤ 26)) := by
  induction d with
  | zero =>
    intro i p hi hp
    rw [List.drop_of_length_le (by omega)]
    refine Ev.one (fun k => ?_)
    simp only [spec_AreLetters.l0, areL, Bool.true_and]
    rw [if_neg (by omega)]
    refine congrArg some (decide_eq_decide.2 ?_)
    omega
  | succ d ih =>
    intro i p hi hp
    have hlt : i < l.length := by omega
    rw [drop_cons l i hlt]
    have next := ih (i + 1) l[i].f1 (by omega) (.inr ⟨by omega, by omega, rfl⟩)
    by_cases h0 : l[i].f0 = (i : Int)
    · by_cases h1 : 1 ≤ l[i].f1 ∧ l[i].f1 ≤ 500
      · rcases hp with ⟨rfl, rfl⟩ | ⟨hi1, hpos, rfl⟩
        · refine Ev.step (f := fun k => spec_AreLetters.l0 k l ((0 + 1 : Nat) : Int)) (fun k => ?_) ?_
          · simp only [spec_AreLetters.l0, l1In_eq, Option.bind_some]
            rw [if_pos (by omega), if_pos (by omega), rdLetter_get l 0 hlt, if_pos h0, if_pos (decide_eq_true h1), if_neg (by omega), w64_nat 0 (by omega)]
          · rw [areL, decide_eq_true ⟨h0, h1.1, h1.2, by omega⟩, Bool.true_and]
            exact next
        · have hw : wrap64 ((i : Int) - 1) = ((i - 1 : Nat) : Int) := by unfold wrap64; omega
          by_cases h2 : (l[i - 1]).f1 ≥ l[i].f1
          · rw [areL, decide_eq_false (by omega), Bool.false_and, Bool.false_and]
            refine Ev.one (fun k => ?_)
            simp only [spec_AreLetters.l0, l1In_eq, Option.bind_some]
            rw [if_pos (by omega), if_pos (by omega), rdLetter_get l i hlt, if_pos h0, if_pos (decide_eq_true h1), if_pos (by omega), hw, if_pos (by omega), if_pos (by omega), rdLetter_get l (i - 1) hi1, if_pos h2]
          · rw [areL, decide_eq_true ⟨h0, h1.1, h1.2, by omega⟩, Bool.true_and]
            refine Ev.step (fun k => ?_) next
            simp only [spec_AreLetters.l0, l1In_eq, Option.bind_some]
            rw [if_pos (by omega), if_pos (by omega), rdLetter_get l i hlt, if_pos h0, if_pos (decide_eq_true h1), if_pos (by omega), hw, if_pos (by omega), if_pos (by omega), rdLetter_get l (i - 1) hi1, if_neg h2, w64_nat i (by omega)]
      · rw [areL, decide_eq_false (by omega), Bool.false_and, Bool.false_and]
        refine Ev.one (fun k => ?_)
        simp only [spec_AreLetters.l0, l1In_eq, Option.bind_some]
        rw [if_pos (by omega), if_pos (by omega), rdLetter_get l i hlt, if_pos h0, if_neg (by simpa using h1)]
    · rw [areL, decide_eq_false (by omega), Bool.false_and, Bool.false_and]
      refine Ev.one (fun k => ?_)
      simp only [spec_AreLetters.l0]
      rw [if_pos (by omega), if_pos (by omega), rdLetter_get l i hlt, if_neg h0]

theorem impl_areL_ev (l : List S44) (hl : l.length ≤ 1048576) (d : Nat) : ∀ (i : Nat) (p : Int), i + d = l.length → (i = 0 ∧ p = 0 ∨ ∃ h : i - 1 < l.length, 0 < i ∧ p = (l[i - 1]).f1) →
    Ev (fun k => impl_AreLetters.l0 k l l (l.length : Int) (i : Int)) (areL i p (l.drop i) && decide (l.length ≤ 26)) := by
  induction d with
  | zero =>
    intro i p hi hp
    rw [List.drop_of_length_le (by omega)]
    refine Ev.one (fun k => ?_)
    simp only [impl_AreLetters.l0, areL, Bool.true_and]
    rw [if_neg (by omega)]
    refine congrArg some (decide_eq_decide.2 ?_)
    omega
  | succ d ih =>
    intro i p hi hp
    have hlt : i < l.length := by omega
    rw [drop_cons l i hlt]
    have next := ih (i + 1) l[i].f1 (by omega) (.inr ⟨by omega, by omega, rfl⟩)
    by_cases h0 : l[i].f0 = (i : Int)
    · by_cases h1 : 1 ≤ l[i].f1 ∧ l[i].f1 ≤ 500
      · rcases hp with ⟨rfl, rfl⟩ | ⟨hi1, hpos, rfl⟩
        · refine Ev.step (f := fun k => impl_AreLetters.l0 k l l (l.length : Int) ((0 + 1 : Nat) : Int)) (fun k => ?_) ?_
          · simp only [impl_AreLetters.l0, inRange_eq, Option.bind_some]
            rw [if_pos (by omega), if_pos (by omega), if_pos (by omega), rdLetter_get l 0 hlt, if_pos h0, if_pos (decide_eq_true h1), if_neg (by omega), w64_nat 0 (by omega)]
          · rw [areL, decide_eq_true ⟨h0, h1.1, h1.2, by omega⟩, Bool.true_and]
            exact next
        · have hw : wrap64 ((i : Int) - 1) = ((i - 1 : Nat) : Int) := by unfold wrap64; omega
          by_cases h2 : (l[i - 1]).f1 ≥ l[i].f1
          · rw [areL, decide_eq_false (by omega), Bool.false_and, Bool.false_and]
            refine Ev.one (fun k => ?_)
            simp only [impl_AreLetters.l0, inRange_eq, Option.bind_some]
            rw [if_pos (by omega), if_pos (by omega), if_pos (by omega), rdLetter_get l i hlt, if_pos h0, if_pos (decide_eq_true h1), if_pos (by omega), hw, if_pos (by omega), if_pos (by omega), rdLetter_get l (i - 1) hi1, if_pos h2]
          · rw [areL, decide_eq_true ⟨h0, h1.1, h1.2, by omega⟩, Bool.true_and]
            refine Ev.step (fun k => ?_) next
            simp only [impl_AreLetters.l0, inRange_eq, Option.bind_some]
            rw [if_pos (by omega), if_pos (by omega), if_pos (by omega), rdLetter_get l i hlt, if_pos h0, if_pos (decide_eq_true h1), if_pos (by omega), hw, if_pos (by omega), if_pos (by omega), rdLetter_get l (i - 1) hi1, if_neg h2, w64_nat i (by omega)]
      · rw [areL, decide_eq_false (by omega), Bool.false_and, Bool.false_and]
        refine Ev.one (fun k => ?_)
        simp only [impl_AreLetters.l0, inRange_eq, Option.bind_some]
        rw [if_pos (by omega), if_pos (by omega), if_pos (by omega), rdLetter_get l i hlt, if_pos h0, if_neg (by simpa using h1)]
    · rw [areL, decide_eq_false (by omega), Bool.false_and, Bool.false_and]
      refine Ev.one (fun k => ?_)
      simp only [impl_AreLetters.l0]
      rw [if_pos (by omega), if_pos (by omega), if_pos (by omega), rdLetter_get l i hlt, if_neg h0]

theorem spec_areLR (l : List S44) (hl : l.length ≤ 1048576) : Ev (fun k => spec_AreLetters.f k l) (areLR l) := spec_areL_ev l hl l.length 0 0 (by omega) (.inl ⟨rfl, rfl⟩)
theorem impl_areLR (l : List S44) (hl : l.length ≤ 1048576) : Ev (fun k => impl_AreLetters.f k l) (areLR l) := impl_areL_ev l hl l.length 0 0 (by omega) (.inl ⟨rfl, rfl⟩)

/-- The last letter not behind a bar, from number i on; n: the one before. -/
def nearL (b : Int) : Int → List S44 → Int → Int
  | _, [], n => n
  | i, x :: l, n => nearL b (i + 1) l (if x.f1 ≤ b then i else n)

def nearA (l : List S44) (b v : Int) : Int × Int := if v < 0 then (-1, 0) else (v, b - (rd_T44 l v).f1)

def nearR (l : List S44) (b : Int) : Int × Int :=
  if areLR l = true then (if 1 ≤ b ∧ b ≤ 1000 then nearA l b (nearL b 0 l (-1)) else (-1, 0)) else (-1, 0)

theorem areL_at (l : List S44) : ∀ (i p : Int), areL i p l = true → ∀ (j : Nat) (h : j < l.length), l[j].f0 = i + j ∧ 1 ≤ l[j].f1 ∧ l[j].f1 ≤ 500 := by
  induction l with
  | nil => intro i p _ j h; simp at h
  | cons y l ih =>
    intro i p h j hj
    simp only [areL, Bool.and_eq_true, decide_eq_true_eq] at h
    cases j with
    | zero => simp only [List.getElem_cons_zero]; omega
    | succ j =>
      have := ih _ _ h.2 j (by simpa using hj)
      simp only [List.getElem_cons_succ]
      omega

theorem areLR_at (l : List S44) (h : areLR l = true) (j : Nat) (hj : j < l.length) : l[j].f0 = j ∧ 1 ≤ l[j].f1 ∧ l[j].f1 ≤ 500 := by
  simp only [areLR, Bool.and_eq_true] at h
  have := areL_at l _ _ h.1 j hj
  omega

theorem spec_near_ev (l : List S44) (b : Int) (hl : l.length ≤ 1048576) (ha : areLR l = true) (hb : 1 ≤ b ∧ b ≤ 1000) (d : Nat) : ∀ (i : Nat) (n : Int), i + d = l.length → -1 ≤ n → n < i →
    Ev (fun k => spec_Nearest.l0 k l b n (i : Int)) (nearA l b (nearL b i (l.drop i) n)) := by
  induction d with
  | zero =>
    intro i n hi h0 h1
    rw [List.drop_of_length_le (by omega)]
    simp only [nearL]
    refine Ev.step (f := fun k => spec_Nearest.j1 k l b n (i : Int) false) (fun k => ?_) ?_
    · simp only [spec_Nearest.l0]
      rw [if_neg (by omega)]
    · refine Ev.one (fun k => ?_)
      simp only [spec_Nearest.j1, Bool.false_eq_true, if_false, nearA]
      by_cases hn : n < 0
      · rw [if_pos hn, if_pos hn]
      · rw [if_neg hn, if_neg hn]
        obtain ⟨m, rfl⟩ := Int.eq_ofNat_of_zero_le (Int.not_lt.1 hn)
        have hm : m < l.length := by omega
        have e : rd_T44 l ((m : Nat) : Int) = l[m] := rdLetter_get l m hm
        have := areLR_at l ha m hm
        rw [e, if_pos (by omega), if_pos (by omega), w64 (by omega) (by omega)]
  | succ d ih =>
    intro i n hi h0 h1
    have hlt : i < l.length := by omega
    rw [drop_cons l i hlt]
    simp only [nearL]
    refine Ev.step (f := fun k => (spec_AreLetters.f k l).bind fun t121 => if t121 = true then ((spec_l1In.f b 1 1000).bind fun t122 => spec_Nearest.j1 k l b n (i : Int) t122) else spec_Nearest.j1 k l b n (i : Int) false) (fun k => ?_) ?_
    · simp only [spec_Nearest.l0]
      rw [if_pos (by omega)]
    · refine Ev.bind (spec_areLR l hl) ?_
      simp only [ha, if_true, l1In_eq, Option.bind_some]
      rw [decide_eq_true hb]
      by_cases hc : l[i].f1 ≤ b
      · simp only [hc, if_true]
        refine Ev.step (fun k => ?_) (ih (i + 1) i (by omega) (by omega) (by omega))
        simp only [spec_Nearest.j1, if_true]
        rw [if_pos (by omega), if_pos (by omega), rdLetter_get l i hlt, if_pos hc, w64_nat i (by omega)]
      · simp only [hc, if_false]
        refine Ev.step (fun k => ?_) (ih (i + 1) n (by omega) (by omega) (by omega))
        simp only [spec_Nearest.j1, if_true]
        rw [if_pos (by omega), if_pos (by omega), rdLetter_get l i hlt, if_neg hc, w64_nat i (by omega)]

theorem spec_nearR (l : List S44) (b : Int) (hl : l.length ≤ 1048576) : Ev (fun k => spec_Nearest.f k l b) (nearR l b) := by
  unfold nearR
  have stop : ∀ (i : Int), Ev (fun k => spec_Nearest.j1 k l b (-1) i false) (-1, 0) := by
    intro i
    refine Ev.one (fun k => ?_)
    simp only [spec_Nearest.j1, Bool.false_eq_true, if_false]
    rfl
  by_cases hz : l.length = 0
  · obtain rfl : l = [] := List.length_eq_zero_iff.1 hz
    have e : (if areLR ([] : List S44) = true then (if 1 ≤ b ∧ b ≤ 1000 then nearA [] b (nearL b 0 [] (-1)) else (-1, 0)) else (-1, 0)) = (-1, 0) := by
      split
      · split
        · rfl
        · rfl
      · rfl
    rw [e]
    refine Ev.step (f := fun k => spec_Nearest.j1 k [] b (-1) 0 false) (fun k => ?_) (stop 0)
    simp only [spec_Nearest.f, spec_Nearest.l0]
    rfl
  · by_cases ha : areLR l = true
    · by_cases hb : 1 ≤ b ∧ b ≤ 1000
      · simp only [ha, hb, and_self, if_true]
        exact spec_near_ev l b hl ha hb l.length 0 (-1) (by omega) (by omega) (by omega)
      · simp only [ha, hb, if_true, if_false]
        refine Ev.step (f := fun k => (spec_AreLetters.f k l).bind fun t121 => if t121 = true then ((spec_l1In.f b 1 1000).bind fun t122 => spec_Nearest.j1 k l b (-1) 0 t122) else spec_Nearest.j1 k l b (-1) 0 false) (fun k => ?_) ?_
        · simp only [spec_Nearest.f, spec_Nearest.l0]
          rw [if_pos (by omega)]
        · refine Ev.bind (spec_areLR l hl) ?_
          simp only [ha, if_true, l1In_eq, Option.bind_some]
          rw [decide_eq_false hb]
          exact stop 0
    · simp only [ha, Bool.false_eq_true, if_false]
      refine Ev.step (f := fun k => (spec_AreLetters.f k l).bind fun t121 => if t121 = true then ((spec_l1In.f b 1 1000).bind fun t122 => spec_Nearest.j1 k l b (-1) 0 t122) else spec_Nearest.j1 k l b (-1) 0 false) (fun k => ?_) ?_
      · simp only [spec_Nearest.f, spec_Nearest.l0]
        rw [if_pos (by omega)]
      · refine Ev.bind (spec_areLR l hl) ?_
        simp only [ha, Bool.false_eq_true, if_false]
        exact stop 0

theorem impl_near_ev (l : List S44) (b : Int) (hl : l.length ≤ 1048576) (ha : areLR l = true) (hb : 1 ≤ b ∧ b ≤ 1000) (d : Nat) : ∀ (i : Nat) (n m : Int), i + d = l.length → (n < 0 ∧ n = -1 ∧ m = 0 ∨ 0 ≤ n ∧ m = b - (rd_T44 l n).f1) →
    Ev (fun k => impl_Nearest.l0 k b n m l (l.length : Int) (i : Int)) (nearA l b (nearL b i (l.drop i) n)) := by
  induction d with
  | zero =>
    intro i n m hi hn
    rw [List.drop_of_length_le (by omega)]
    simp only [nearL]
    refine Ev.one (fun k => ?_)
    simp only [impl_Nearest.l0]
    rw [if_neg (by omega)]
    rcases hn with ⟨h1, h2, h3⟩ | ⟨h1, h2⟩
    · unfold nearA
      rw [if_pos h1, h2, h3]
    · unfold nearA
      rw [if_neg (by omega), h2]
  | succ d ih =>
    intro i n m hi hn
    have hlt : i < l.length := by omega
    rw [drop_cons l i hlt]
    simp only [nearL]
    have hx := areLR_at l ha i hlt
    by_cases hc : l[i].f1 ≤ b
    · simp only [hc, if_true]
      refine Ev.step (fun k => ?_) (ih (i + 1) i (b - l[i].f1) (by omega) (.inr ⟨by omega, by rw [rdLetter_get l i hlt]⟩))
      simp only [impl_Nearest.l0]
      rw [if_pos (by omega), if_pos (by omega), if_pos (by omega), rdLetter_get l i hlt, if_pos hc, w64_nat i (by omega), hx.1, w64 (by omega) (by omega)]
    · simp only [hc, if_false]
      refine Ev.step (fun k => ?_) (ih (i + 1) n m (by omega) hn)
      simp only [impl_Nearest.l0]
      rw [if_pos (by omega), if_pos (by omega), if_pos (by omega), rdLetter_get l i hlt, if_neg hc, w64_nat i (by omega)]

theorem impl_nearR (l : List S44) (b : Int) (hl : l.length ≤ 1048576) : Ev (fun k => impl_Nearest.f k l b) (nearR l b) := by
  unfold nearR
  have stop : Ev (fun k => impl_Nearest.j0 k l b (-1) 0 false) (-1, 0) := by
    refine Ev.one (fun k => ?_)
    simp only [impl_Nearest.j0, Bool.false_eq_true, if_false]
  simp only [impl_Nearest.f, inRange_eq, Option.bind_some]
  refine Ev.bind (impl_areLR l hl) ?_
  by_cases ha : areLR l = true
  · by_cases hb : 1 ≤ b ∧ b ≤ 1000
    · simp only [ha, hb, and_self, decide_true, if_true]
      refine Ev.step (f := fun k => impl_Nearest.l0 k b (-1) 0 l (l.length : Int) 0) (fun k => ?_) (impl_near_ev l b hl ha hb l.length 0 (-1) 0 (by omega) (.inl ⟨by omega, rfl, rfl⟩))
      simp only [impl_Nearest.j0, if_true]
    · simp only [ha, hb, decide_false, if_true, if_false]
      exact stop
  · simp only [ha, Bool.false_eq_true, if_false]
    exact stop

theorem FnExactNearest : ∀ (l0 : List (S49)) (a1 : Int), (l0.length ≤ maxLen ∧ l0.length * 16 ≤ 140737488351232 ∧ ∀ l0' ∈ l0, ((Lit.int .i64 l0'.f0).wf = true) ∧ ((Lit.int .i64 l0'.f1).wf = true)) → ((Lit.int .i64 a1).wf = true) → ∃ k, laws_FnExactNearest.f k l0 a1 = some true := by
  intro l0 b h0 _
  have hm : l0.length ≤ 9223372036854775807 := h0.1
  refine Ev.rounds (g := fun k => laws_FnExactNearest.f k l0 b) ?_
  simp only [laws_FnExactNearest.f, szLetterS_ev l0 1048576 (by omega) (by omega) hm, Option.bind_some]
  by_cases hb : (1048576 : Int) < (l0.length : Int)
  · simp only [hb, if_true]
    exact Ev.now true
  · have hs := spec_nearR (l0.map cvLetter) b (by simp; omega)
    have hi := impl_nearR (l0.map cvLetter) b (by simp; omega)
    have ht := toLetterS_ev l0 (by omega)
    have he := eqLetterS_ev (l0.map cvLetter) (by simp; omega)
    have hn : ¬ (1048576 - (l0.length : Int) < 0) := by omega
    simp only [hb, hn, if_false]
    refine Ev.bind ht ?_
    refine Ev.bind hs ?_
    refine Ev.bind ht ?_
    refine Ev.bind hi ?_
    simp only [bne_self_eq_false, if_true]
    refine Ev.step (f := fun k => (laws_toLetterS.f k l0).bind fun t => (laws_eqLetterS.f k (l0.map cvLetter) t).bind fun t => if t = true then some true else some false) (fun k => ?_) ?_
    · simp only [laws_FnExactNearest.j0, Bool.false_eq_true, if_false]
    · refine Ev.bind ht ?_
      refine Ev.bind he ?_
      simp only [if_true]
      exact Ev.now true

end Go.Proofs.Ythndhplhaaaafaa.Pure
