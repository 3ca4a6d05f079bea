/- The plain statement of the law FnExactFreeBars: what its printed function answers; no conditions but that the numbers are Go's ints and the slices no longer than memory. -/
import Derived.Test.YthlipgfmfgangaaQFnExactFreeBarsx5
set_option linter.unusedVariables false
set_option linter.unusedSimpArgs false
namespace Go.Proofs.Ythlipgfmfgangaa.Pure
open Go.RowKit Go.Proofs.Ythlipgfmfgangaa.QFnExactFreeBars Go.Proofs.YthlipgfmfgangaaW.PrintWords Go.Proofs.YthlipgfmfgangaaW.PrintLast Go.Proofs.YthlipgfmfgangaaW.PrintMore

theorem wf64 {x : Int} (h : (Lit.int .i64 x).wf = true) : -9223372036854775808 ≤ x ∧ x ≤ 9223372036854775807 := by
  simp only [Lit.wf, IntKind.min, IntKind.max, IntKind.signed, IntKind.bits, Bool.and_eq_true, decide_eq_true_eq, if_true] at h
  omega

theorem w64 {x : Int} (h1 : -9223372036854775808 ≤ x) (h2 : x ≤ 9223372036854775807) : wrap64 x = x := by
  unfold wrap64
  omega

theorem w64_nat (i : Nat) (h : i ≤ 9223372036854775806) : wrap64 ((i : Int) + 1) = ((i + 1 : Nat) : Int) := by
  unfold wrap64
  omega

theorem drop_cons {α : Type} (l : List α) (i : Nat) (h : i < l.length) : l.drop i = l[i] :: l.drop (i + 1) := List.drop_eq_getElem_cons h

theorem set_take {β : Type} (x : List β) (i : Nat) (v : β) (h : i < x.length) : (x.set i v).take (i + 1) = x.take i ++ [v] := by
  apply List.ext_getElem?
  intro j
  rcases Nat.lt_trichotomy j i with hj | hj | hj
  · rw [List.getElem?_take_of_lt (by omega), List.getElem?_set_ne (by omega), List.getElem?_append_left (by simp; omega), List.getElem?_take_of_lt (by omega)]
  · subst hj
    rw [List.getElem?_take_of_lt (by omega), List.getElem?_set_self (by omega), List.getElem?_append_right (by simp; omega)]
    simp [Nat.min_eq_left (Nat.le_of_lt h)]
  · rw [List.getElem?_take_eq_none (by omega), List.getElem?_append_right (by simp; omega)]
    simp
    omega

theorem copyLoop {α β : Type} (F : Nat → List β → Int → Option (List β)) (x0 : List α) (cv : α → β)
    (h1 : ∀ (x3 : List β) (i : Nat) (r : List β) (hi : i < x0.length), x3.length = x0.length → Ev (fun k => F k (x3.set i (cv x0[i])) ((i + 1 : Nat) : Int)) r → Ev (fun k => F k x3 (i : Int)) r)
    (h2 : ∀ x3 : List β, Ev (fun k => F k x3 (x0.length : Int)) x3) (init : List β) (hl : init.length = x0.length) : Ev (fun k => F k init 0) (x0.map cv) := by
  have key : ∀ (d i : Nat) (x3 : List β), i + d = x0.length → x3.length = x0.length → x3.take i = (x0.map cv).take i → Ev (fun k => F k x3 (i : Int)) (x0.map cv) := by
    intro d
    induction d with
    | zero =>
      intro i x3 hi hx ht
      obtain rfl : i = x0.length := by omega
      have e : x3 = x0.map cv := by
        rw [← hx, List.take_length] at ht
        rw [ht, hx]
        exact List.take_of_length_le (by simp)
      have := h2 x3
      rw [e] at this
      rw [e]
      exact this
    | succ d ih =>
      intro i x3 hi hx ht
      have hlt : i < x0.length := by omega
      refine h1 x3 i _ hlt hx (ih (i + 1) _ (by omega) (by rw [List.length_set]; exact hx) ?_)
      rw [set_take x3 i _ (by omega), ht]
      rw [List.take_succ_eq_append_getElem (by simpa using hlt)]
      simp
  have := key x0.length 0 init (by omega) hl (by simp)
  exact this

theorem eqLoop {α : Type} (F : Nat → Int → Option Bool) (x0 : List α)
    (h1 : ∀ (i : Nat) (r : Bool) (_ : i < x0.length), Ev (fun k => F k ((i + 1 : Nat) : Int)) r → Ev (fun k => F k (i : Int)) r)
    (h2 : Ev (fun k => F k (x0.length : Int)) true) : Ev (fun k => F k 0) true := by
  have key : ∀ (d i : Nat), i + d = x0.length → Ev (fun k => F k (i : Int)) true := by
    intro d
    induction d with
    | zero =>
      intro i hi
      obtain rfl : i = x0.length := by omega
      exact h2
    | succ d ih =>
      intro i hi
      exact h1 i true (by omega) (ih (i + 1) (by omega))
  exact key x0.length 0 (by omega)

theorem ite_eq_of {α : Type} {p : Prop} [Decidable p] {a b : α} (h : p) : (if p then a else b) = a := if_pos h

theorem Ev.one {α : Type} {g : Nat → Option α} {r : α} (h : ∀ k, g (k + 1) = some r) : Ev g r := Ev.step (f := fun _ => some r) h (Ev.now r)

theorem l1In_eq (a b c : Int) : spec_l1In.f a b c = some (decide (b ≤ a ∧ a ≤ c)) := by
  unfold spec_l1In.f
  split <;> simp <;> omega

theorem inRange_eq (a b c : Int) : impl_InRange.f a b c = some (decide (b ≤ a ∧ a ≤ c)) := by
  unfold impl_InRange.f
  split <;> simp <;> omega

theorem rdSign_get (l : List S66) (i : Nat) (h : i < l.length) : rd_T66 l (i : Int) = l[i] := by
  simp [rd_T66, List.getD, List.getElem?_eq_getElem h]

/-- A sign of a part that begins at tick a, behind a rest or not. -/
def signOk (a : Int) (r : Bool) (x : S66) : Bool := decide (x.f0 = a ∧ (1 ≤ x.f1 ∧ x.f1 ≤ 3000) ∧ (¬ x.f2 = 0 → (21 ≤ x.f2 ∧ x.f2 ≤ 108) ∧ x.f1 ≤ 96) ∧ ¬ (x.f2 = 0 ∧ r = true))

def partL : Int → Bool → List S66 → Bool
  | _, _, [] => true
  | a, r, x :: l => signOk a r x && partL (a + x.f1) (decide (x.f2 = 0)) l

theorem spec_part_ev (l : List S66) (hl : l.length ≤ 1048576) (d : Nat) : ∀ (i : Nat) (a : Int) (p : Bool), i + d = l.length → 0 ≤ a → a ≤ 3000 * i → (i = 0 ∧ p = false ∨ ∃ h : i - 1 < l.length, 0 < i ∧ p = decide ((l[i - 1]).f2 = 0)) →
    Ev (fun k => spec_IsPart.l0 k l a (i : Int)) (partL a p (l.drop i)) := by
  induction d with
  | zero =>
    intro i a p hi h0 h1 hp
    rw [List.drop_of_length_le (by omega)]
    refine Ev.one (fun k => ?_)
    simp only [spec_IsPart.l0, partL]
    rw [if_neg (by omega)]
  | succ d ih =>
    intro i a p hi h0 h1 hp
    have hlt : i < l.length := by omega
    rw [drop_cons l i hlt, partL]
    have hpi : i = 0 → p = false := by
      rintro rfl
      rcases hp with ⟨_, h⟩ | ⟨_, h, _⟩
      · exact h
      · omega
    have hpr : ∀ h : 0 < i, ∃ h2 : i - 1 < l.length, p = decide ((l[i - 1]).f2 = 0) := by
      intro h
      rcases hp with ⟨h3, _⟩ | ⟨h2, _, h3⟩
      · omega
      · exact ⟨h2, h3⟩
    by_cases hc : signOk a p l[i] = true
    · have hx : l[i].f0 = a ∧ (1 ≤ l[i].f1 ∧ l[i].f1 ≤ 3000) ∧ (¬ l[i].f2 = 0 → (21 ≤ l[i].f2 ∧ l[i].f2 ≤ 108) ∧ l[i].f1 ≤ 96) ∧ ¬ (l[i].f2 = 0 ∧ p = true) := by simpa only [signOk, decide_eq_true_eq] using hc
      rw [hc, Bool.true_and]
      refine Ev.step (fun k => ?_) (ih (i + 1) (a + l[i].f1) (decide (l[i].f2 = 0)) (by omega) (by omega) (by omega) (.inr ⟨by omega, by omega, rfl⟩))
      simp only [spec_IsPart.l0, l1In_eq, Option.bind_some]
      rw [if_pos (by omega), if_pos (by omega), rdSign_get l i hlt, if_pos hx.1, if_pos (decide_eq_true hx.2.1), w64 (x := a + l[i].f1) (by omega) (by omega), w64_nat i (by omega)]
      by_cases h2 : l[i].f2 = 0
      · rw [if_pos h2]
        by_cases hi0 : 0 < i
        · obtain ⟨hi1, hpe⟩ := hpr hi0
          have hw : wrap64 ((i : Int) - 1) = ((i - 1 : Nat) : Int) := by unfold wrap64; omega
          have hn : ¬ (l[i - 1]).f2 = 0 := by
            intro h3
            exact hx.2.2.2 ⟨h2, by rw [hpe]; exact decide_eq_true h3⟩
          rw [if_pos (by omega), hw, if_pos (by omega), if_pos (by omega), rdSign_get l (i - 1) hi1, if_neg hn]
        · rw [if_neg (by omega)]
      · have h3 := hx.2.2.1 h2
        rw [if_neg h2, if_pos (decide_eq_true h3.1), if_neg (by omega)]
        split <;> rfl
    · have hx : ¬ (l[i].f0 = a ∧ (1 ≤ l[i].f1 ∧ l[i].f1 ≤ 3000) ∧ (¬ l[i].f2 = 0 → (21 ≤ l[i].f2 ∧ l[i].f2 ≤ 108) ∧ l[i].f1 ≤ 96) ∧ ¬ (l[i].f2 = 0 ∧ p = true)) := by simpa only [signOk, decide_eq_true_eq] using hc
      rw [Bool.not_eq_true] at hc
      rw [hc, Bool.false_and]
      refine Ev.one (fun k => ?_)
      simp only [spec_IsPart.l0, l1In_eq, Option.bind_some]
      rw [if_pos (by omega), if_pos (by omega), rdSign_get l i hlt]
      by_cases h1' : l[i].f0 = a
      · rw [if_pos h1']
        by_cases h2 : 1 ≤ l[i].f1 ∧ l[i].f1 ≤ 3000
        · rw [if_pos (decide_eq_true h2)]
          by_cases h3 : l[i].f2 = 0
          · rw [if_pos h3]
            have hpt : p = true := by
              cases p with
              | true => rfl
              | false => exact absurd ⟨h1', h2, fun h => absurd h3 h, by simp⟩ hx
            have hi0 : 0 < i := by
              rcases Nat.eq_zero_or_pos i with h | h
              · rw [hpi h] at hpt
                cases hpt
              · exact h
            obtain ⟨hi1, hpe⟩ := hpr hi0
            have hw : wrap64 ((i : Int) - 1) = ((i - 1 : Nat) : Int) := by unfold wrap64; omega
            rw [if_pos (by omega), hw, if_pos (by omega), if_pos (by omega), rdSign_get l (i - 1) hi1, if_pos (by rw [hpe] at hpt; simpa using hpt)]
          · rw [if_neg h3]
            by_cases h4 : 21 ≤ l[i].f2 ∧ l[i].f2 ≤ 108
            · rw [if_pos (decide_eq_true h4)]
              by_cases h5 : l[i].f1 > 96
              · rw [if_pos h5]
              · exact absurd ⟨h1', h2, fun _ => ⟨h4, by omega⟩, fun h => h3 h.1⟩ hx
            · rw [if_neg (by simpa using h4)]
        · rw [if_neg (by simpa using h2)]
      · rw [if_neg h1']

theorem impl_part_ev (l : List S66) (hl : l.length ≤ 1048576) (d : Nat) : ∀ (i : Nat) (a : Int) (p : Bool), i + d = l.length → 0 ≤ a → a ≤ 3000 * i → (i = 0 ∧ p = false ∨ ∃ h : i - 1 < l.length, 0 < i ∧ p = decide ((l[i - 1]).f2 = 0)) →
    Ev (fun k => impl_IsPart.l0 k l a l (l.length : Int) (i : Int)) (partL a p (l.drop i)) := by
  induction d with
  | zero =>
    intro i a p hi h0 h1 hp
    rw [List.drop_of_length_le (by omega)]
    refine Ev.one (fun k => ?_)
    simp only [impl_IsPart.l0, partL]
    rw [if_neg (by omega)]
  | succ d ih =>
    intro i a p hi h0 h1 hp
    have hlt : i < l.length := by omega
    rw [drop_cons l i hlt, partL]
    have hpi : i = 0 → p = false := by
      rintro rfl
      rcases hp with ⟨_, h⟩ | ⟨_, h, _⟩
      · exact h
      · omega
    have hpr : ∀ h : 0 < i, ∃ h2 : i - 1 < l.length, p = decide ((l[i - 1]).f2 = 0) := by
      intro h
      rcases hp with ⟨h3, _⟩ | ⟨h2, _, h3⟩
      · omega
      · exact ⟨h2, h3⟩
    by_cases hc : signOk a p l[i] = true
    · have hx : l[i].f0 = a ∧ (1 ≤ l[i].f1 ∧ l[i].f1 ≤ 3000) ∧ (¬ l[i].f2 = 0 → (21 ≤ l[i].f2 ∧ l[i].f2 ≤ 108) ∧ l[i].f1 ≤ 96) ∧ ¬ (l[i].f2 = 0 ∧ p = true) := by simpa only [signOk, decide_eq_true_eq] using hc
      rw [hc, Bool.true_and]
      refine Ev.step (fun k => ?_) (ih (i + 1) (a + l[i].f1) (decide (l[i].f2 = 0)) (by omega) (by omega) (by omega) (.inr ⟨by omega, by omega, rfl⟩))
      simp only [impl_IsPart.l0, inRange_eq, Option.bind_some]
      rw [if_pos (by omega), if_pos (by omega), if_pos (by omega), rdSign_get l i hlt, if_pos hx.1, if_pos (decide_eq_true hx.2.1), w64 (x := a + l[i].f1) (by omega) (by omega), w64_nat i (by omega)]
      by_cases h2 : l[i].f2 = 0
      · rw [if_pos h2]
        by_cases hi0 : 0 < i
        · obtain ⟨hi1, hpe⟩ := hpr hi0
          have hw : wrap64 ((i : Int) - 1) = ((i - 1 : Nat) : Int) := by unfold wrap64; omega
          have hn : ¬ (l[i - 1]).f2 = 0 := by
            intro h3
            exact hx.2.2.2 ⟨h2, by rw [hpe]; exact decide_eq_true h3⟩
          rw [if_pos (by omega), hw, if_pos (by omega), if_pos (by omega), rdSign_get l (i - 1) hi1, if_neg hn]
        · rw [if_neg (by omega)]
      · have h3 := hx.2.2.1 h2
        rw [if_neg h2, if_pos (decide_eq_true h3.1), if_neg (by omega)]
    · have hx : ¬ (l[i].f0 = a ∧ (1 ≤ l[i].f1 ∧ l[i].f1 ≤ 3000) ∧ (¬ l[i].f2 = 0 → (21 ≤ l[i].f2 ∧ l[i].f2 ≤ 108) ∧ l[i].f1 ≤ 96) ∧ ¬ (l[i].f2 = 0 ∧ p = true)) := by simpa only [signOk, decide_eq_true_eq] using hc
      rw [Bool.not_eq_true] at hc
      rw [hc, Bool.false_and]
      refine Ev.one (fun k => ?_)
      simp only [impl_IsPart.l0, inRange_eq, Option.bind_some]
      rw [if_pos (by omega), if_pos (by omega), if_pos (by omega), rdSign_get l i hlt]
      by_cases h1' : l[i].f0 = a
      · rw [if_pos h1']
        by_cases h2 : 1 ≤ l[i].f1 ∧ l[i].f1 ≤ 3000
        · rw [if_pos (decide_eq_true h2)]
          by_cases h3 : l[i].f2 = 0
          · rw [if_pos h3]
            have hpt : p = true := by
              cases p with
              | true => rfl
              | false => exact absurd ⟨h1', h2, fun h => absurd h3 h, by simp⟩ hx
            have hi0 : 0 < i := by
              rcases Nat.eq_zero_or_pos i with h | h
              · rw [hpi h] at hpt
                cases hpt
              · exact h
            obtain ⟨hi1, hpe⟩ := hpr hi0
            have hw : wrap64 ((i : Int) - 1) = ((i - 1 : Nat) : Int) := by unfold wrap64; omega
            rw [if_pos (by omega), hw, if_pos (by omega), if_pos (by omega), rdSign_get l (i - 1) hi1, if_pos (by rw [hpe] at hpt; simpa using hpt)]
          · rw [if_neg h3]
            by_cases h4 : 21 ≤ l[i].f2 ∧ l[i].f2 ≤ 108
            · rw [if_pos (decide_eq_true h4)]
              by_cases h5 : l[i].f1 > 96
              · rw [if_pos h5]
              · exact absurd ⟨h1', h2, fun _ => ⟨h4, by omega⟩, fun h => h3 h.1⟩ hx
            · rw [if_neg (by simpa using h4)]
        · rw [if_neg (by simpa using h2)]
      · rw [if_neg h1']

def isPart (l : List S66) : Bool := partL 0 false l
theorem spec_part (l : List S66) (hl : l.length ≤ 1048576) : Ev (fun k => spec_IsPart.f k l) (isPart l) := spec_part_ev l hl l.length 0 0 false (by omega) (by omega) (by omega) (.inl ⟨rfl, rfl⟩)
theorem impl_part (l : List S66) (hl : l.length ≤ 1048576) : Ev (fun k => impl_IsPart.f k l) (isPart l) := impl_part_ev l hl l.length 0 0 false (by omega) (by omega) (by omega) (.inl ⟨rfl, rfl⟩)

theorem partL_at (l : List S66) : ∀ (a : Int) (p : Bool) (m : Nat), partL a p l = true → 0 ≤ a → a ≤ 3000 * m → ∀ (i : Nat) (h : i < l.length), 0 ≤ l[i].f0 ∧ l[i].f0 ≤ 3000 * (m + i) ∧ 1 ≤ l[i].f1 ∧ l[i].f1 ≤ 3000 := by
  induction l with
  | nil => intro a p m _ _ _ i h; simp at h
  | cons x l ih =>
    intro a p m h h0 h1 i hi
    simp only [partL, Bool.and_eq_true, signOk, decide_eq_true_eq] at h
    cases i with
    | zero => simp only [List.getElem_cons_zero]; omega
    | succ i =>
      have := ih _ _ (m + 1) h.2 (by omega) (by omega) i (by simpa using hi)
      simp only [List.getElem_cons_succ]
      omega

def isMeter (b u : Int) : Bool := decide ((1 ≤ b ∧ b ≤ 12) ∧ (u = 1 ∨ u = 2 ∨ u = 4 ∨ u = 8))
/-- How many ticks a bar has. -/
def barLong (b u : Int) : Int := if isMeter b u = true then b * (48 / u) else 0

theorem spec_meter (b u : Int) : spec_IsMeter.f b u = some (isMeter b u) := by
  simp only [spec_IsMeter.f, l1In_eq, Option.bind_some, isMeter]
  by_cases h : 1 ≤ b ∧ b ≤ 12
  · rw [if_pos (decide_eq_true h)]
    by_cases h1 : u = 1
    · rw [if_pos h1]; exact congrArg some (decide_eq_true ⟨h, .inl h1⟩).symm
    · by_cases h2 : u = 2
      · rw [if_neg h1, if_pos h2]; exact congrArg some (decide_eq_true ⟨h, .inr (.inl h2)⟩).symm
      · by_cases h4 : u = 4
        · rw [if_neg h1, if_neg h2, if_pos h4]; exact congrArg some (decide_eq_true ⟨h, .inr (.inr (.inl h4))⟩).symm
        · rw [if_neg h1, if_neg h2, if_neg h4]
          by_cases h8 : u = 8
          · rw [decide_eq_true ⟨h, .inr (.inr (.inr h8))⟩, h8]; rfl
          · rw [decide_eq_false (by omega)]; exact congrArg some (beq_eq_false_iff_ne.2 h8)
  · rw [if_neg (by simpa using h), decide_eq_false (by omega)]

theorem impl_meter (b u : Int) : impl_IsMeter.f b u = some (isMeter b u) := by
  rw [← spec_meter]
  simp only [impl_IsMeter.f, spec_IsMeter.f, l1In_eq, inRange_eq]

theorem isMeter_iff {b u : Int} (h : isMeter b u = true) : (1 ≤ b ∧ b ≤ 12) ∧ (u = 1 ∨ u = 2 ∨ u = 4 ∨ u = 8) := by simpa [isMeter] using h

theorem meter_div {b u : Int} (h : isMeter b u = true) : ¬ u = 0 ∧ 6 ≤ 48 / u ∧ 48 / u ≤ 48 ∧ wrap64 (Int.tdiv (48 : Int) u) = 48 / u ∧ wrap64 (b * (48 / u)) = b * (48 / u) ∧ 6 ≤ b * (48 / u) ∧ b * (48 / u) ≤ 576 := by
  obtain ⟨h1, h2⟩ := isMeter_iff h
  rcases h2 with rfl | rfl | rfl | rfl
  all_goals
    refine ⟨by omega, by omega, by omega, (w64 (by decide) (by decide)).trans (by decide), ?_, ?_, ?_⟩
    · simp only [show (48 : Int) / 1 = 48 from rfl, show (48 : Int) / 2 = 24 from rfl, show (48 : Int) / 4 = 12 from rfl, show (48 : Int) / 8 = 6 from rfl]
      exact w64 (by omega) (by omega)
    · simp only [show (48 : Int) / 1 = 48 from rfl, show (48 : Int) / 2 = 24 from rfl, show (48 : Int) / 4 = 12 from rfl, show (48 : Int) / 8 = 6 from rfl]
      omega
    · simp only [show (48 : Int) / 1 = 48 from rfl, show (48 : Int) / 2 = 24 from rfl, show (48 : Int) / 4 = 12 from rfl, show (48 : Int) / 8 = 6 from rfl]
      omega

theorem spec_bar (b u : Int) : spec_BarLong.f b u = some (barLong b u) := by
  simp only [spec_BarLong.f, spec_meter, Option.bind_some, barLong]
  split
  · rename_i h
    obtain ⟨h0, _, _, h1, h2, _⟩ := meter_div h
    simp only [spec_l10Beat.f, h0, if_false, Option.bind_some]
    rw [h1, h2]
  · rfl

theorem impl_bar (b u : Int) : impl_BarLong.f b u = some (barLong b u) := by
  simp only [impl_BarLong.f, impl_meter, Option.bind_some, barLong]
  split
  · rename_i h
    obtain ⟨h0, _, _, h1, h2, _⟩ := meter_div h
    simp only [impl_Meter_beat.f, h0, if_false, Option.bind_some]
    rw [h1, h2]
  · rfl

theorem barLong_bound (b u : Int) (h : isMeter b u = true) : 6 ≤ barLong b u ∧ barLong b u ≤ 576 := by
  obtain ⟨_, _, _, _, _, h1, h2⟩ := meter_div h
  unfold barLong
  rw [if_pos h]
  exact ⟨h1, h2⟩

/-- Is a stretch of ticks free? -/
def frOne (a b : Int) (c : Bool) (x : S66) : Bool := if c = true then (if x.f2 = 0 then true else if x.f0 + x.f1 ≤ a then true else decide (x.f0 ≥ b)) else false
def fr (a b : Int) : Bool → List S66 → Bool
  | c, [] => c
  | c, x :: l => fr a b (frOne a b c x) l
def frs (p : List S66) (L : Int) : Nat → Nat → List Bool → List Bool
  | _, 0, out => out
  | i, d + 1, out => frs p L (i + 1) d (out ++ [fr ((i : Int) * L) ((i : Int) * L + L) true p])
def freeR (p : List S66) (b u n : Int) : List Bool := if isPart p = true ∧ isMeter b u = true ∧ (0 ≤ n ∧ n ≤ 60) then frs p (barLong b u) 0 n.toNat [] else []

theorem part_at (p : List S66) (h : isPart p = true) (i : Nat) (hi : i < p.length) : 0 ≤ p[i].f0 ∧ p[i].f0 ≤ 3000 * i ∧ 1 ≤ p[i].f1 ∧ p[i].f1 ≤ 3000 := by
  have := partL_at p 0 false 0 h (by omega) (by omega) i hi
  omega

theorem bar_mul (i : Nat) (L : Int) (hi : i ≤ 60) (h0 : 6 ≤ L) (h1 : L ≤ 576) : 0 ≤ (i : Int) * L ∧ (i : Int) * L ≤ 34560 := by
  refine ⟨Int.mul_nonneg (by omega) (by omega), ?_⟩
  have h2 : (i : Int) * L ≤ 60 * L := Int.mul_le_mul_of_nonneg_right (by omega) (by omega)
  omega

theorem spec_fr_ev (p : List S66) (hp : p.length ≤ 1048576) (hP : isPart p = true) (b u n : Int) (out : List Bool) (ho : out.length ≤ 60) (i : Nat) (hi : i < 60) (A B : Int) (r : List Bool)
    (next : ∀ c : Bool, c = fr A B true p → Ev (fun k => spec_FreeBars.l0 k p n (out ++ [c]) ((i + 1 : Nat) : Int) b u) r) (d : Nat) : ∀ (j : Nat) (c : Bool), j + d = p.length → fr A B c (p.drop j) = fr A B true p →
    Ev (fun k => spec_FreeBars.l1 k p n out (i : Int) A B c (j : Int) b u) r := by
  induction d with
  | zero =>
    intro j c hj hc
    rw [List.drop_of_length_le (by omega)] at hc
    refine Ev.step (fun k => ?_) (next c hc)
    simp only [spec_FreeBars.l1]
    rw [if_neg (by omega), if_pos (by omega), w64_nat i (by omega)]
  | succ d ih =>
    intro j c hj hc
    have hlt : j < p.length := by omega
    have hx := part_at p hP j hlt
    rw [drop_cons p j hlt, fr] at hc
    refine Ev.step (fun k => ?_) (ih (j + 1) _ (by omega) hc)
    simp only [spec_FreeBars.l1]
    rw [if_pos (by omega), rdSign_get p j hlt, w64_nat j (by omega), w64 (x := p[j].f0 + p[j].f1) (by omega) (by omega)]
    unfold frOne
    by_cases h1 : c = true
    · simp only [h1, if_true]
      rw [if_pos (by omega)]
      by_cases h2 : p[j].f2 = 0
      · simp only [h2, if_true]
      · by_cases h3 : p[j].f0 + p[j].f1 ≤ A
        · simp only [h2, h3, if_true, if_false]
        · simp only [h2, h3, if_false]
    · simp only [h1, Bool.false_eq_true, if_false]

theorem impl_fr_ev (p : List S66) (hp : p.length ≤ 1048576) (hP : isPart p = true) (L n : Int) (out : List Bool) (ho : out.length ≤ 60) (i : Nat) (hi : i < 60) (h0 : 6 ≤ L) (h576 : L ≤ 576) (r : List Bool)
    (next : ∀ c : Bool, c = fr ((i : Int) * L) ((i : Int) * L + L) true p → Ev (fun k => impl_FreeBars.l0 k p (out ++ [c]) L n ((i + 1 : Nat) : Int)) r) (d : Nat) : ∀ (j : Nat) (c : Bool), j + d = p.length → fr ((i : Int) * L) ((i : Int) * L + L) c (p.drop j) = fr ((i : Int) * L) ((i : Int) * L + L) true p →
    Ev (fun k => impl_FreeBars.l1 k p out L (i : Int) c n (i : Int) p (p.length : Int) (j : Int)) r := by
  have hm := bar_mul i L (by omega) h0 h576
  have hm2 := bar_mul (i + 1) L (by omega) h0 h576
  have hs : ((i + 1 : Nat) : Int) * L = (i : Int) * L + L := by
    rw [Int.natCast_add, Int.add_mul]
    simp
  induction d with
  | zero =>
    intro j c hj hc
    rw [List.drop_of_length_le (by omega)] at hc
    refine Ev.step (fun k => ?_) (next c hc)
    simp only [impl_FreeBars.l1]
    rw [if_neg (by omega), if_pos (by omega), w64_nat i (by omega)]
  | succ d ih =>
    intro j c hj hc
    have hlt : j < p.length := by omega
    have hx := part_at p hP j hlt
    rw [drop_cons p j hlt, fr] at hc
    refine Ev.step (fun k => ?_) (ih (j + 1) _ (by omega) hc)
    simp only [impl_FreeBars.l1]
    rw [if_pos (by omega), if_pos (by omega), if_pos (by omega), rdSign_get p j hlt, w64_nat j (by omega), w64_nat i (by omega), w64 (x := p[j].f0 + p[j].f1) (by omega) (by omega), w64 (x := (i : Int) * L) (by omega) (by omega), w64 (x := ((i + 1 : Nat) : Int) * L) (by omega) (by omega), hs]
    unfold frOne
    by_cases h1 : c = true
    · simp only [h1, if_true]
      by_cases h2 : p[j].f2 = 0
      · simp only [h2, if_true]
      · by_cases h3 : p[j].f0 + p[j].f1 ≤ (i : Int) * L
        · simp only [h2, h3, if_true, if_false]
        · simp only [h2, h3, if_false]
    · simp only [h1, Bool.false_eq_true, if_false]

theorem spec_frs_ev (p : List S66) (hp : p.length ≤ 1048576) (hP : isPart p = true) (b u : Int) (hM : isMeter b u = true) (n : Nat) (hn : n ≤ 60) (d : Nat) : ∀ (i : Nat) (out : List Bool), i + d = n → out.length = i →
    Ev (fun k => spec_FreeBars.l0 k p (n : Int) out (i : Int) b u) (frs p (barLong b u) i d out) := by
  have hb := barLong_bound b u hM
  induction d with
  | zero =>
    intro i out hi ho
    refine Ev.one (fun k => ?_)
    simp only [spec_FreeBars.l0, frs]
    rw [if_neg (by omega)]
  | succ d ih =>
    intro i out hi ho
    have hm := bar_mul i (barLong b u) (by omega) hb.1 hb.2
    refine Ev.step (f := fun k => spec_FreeBars.l1 k p (n : Int) out (i : Int) ((i : Int) * barLong b u) ((i : Int) * barLong b u + barLong b u) true 0 b u) (fun k => ?_) ?_
    · simp only [spec_FreeBars.l0, spec_bar, Option.bind_some]
      rw [if_pos (by omega), w64 (x := (i : Int) * barLong b u) (by omega) (by omega), w64 (by omega) (by omega)]
    · refine spec_fr_ev p hp hP b u n out (by omega) i (by omega) _ _ _ ?_ p.length 0 true (by omega) rfl
      rintro c rfl
      rw [frs]
      exact ih (i + 1) _ (by omega) (by simp; omega)

theorem impl_frs_ev (p : List S66) (hp : p.length ≤ 1048576) (hP : isPart p = true) (L : Int) (h0 : 6 ≤ L) (h576 : L ≤ 576) (n : Nat) (hn : n ≤ 60) (d : Nat) : ∀ (i : Nat) (out : List Bool), i + d = n → out.length = i →
    Ev (fun k => impl_FreeBars.l0 k p out L (n : Int) (i : Int)) (frs p L i d out) := by
  induction d with
  | zero =>
    intro i out hi ho
    refine Ev.one (fun k => ?_)
    simp only [impl_FreeBars.l0, frs]
    rw [if_neg (by omega)]
  | succ d ih =>
    intro i out hi ho
    refine Ev.step (f := fun k => impl_FreeBars.l1 k p out L (i : Int) true (n : Int) (i : Int) p (p.length : Int) 0) (fun k => ?_) ?_
    · simp only [impl_FreeBars.l0]
      rw [if_pos (by omega)]
    · refine impl_fr_ev p hp hP L n out (by omega) i (by omega) h0 h576 _ ?_ p.length 0 true (by omega) rfl
      rintro c rfl
      rw [frs]
      exact ih (i + 1) _ (by omega) (by simp; omega)

theorem spec_freeR (p : List S66) (b u n : Int) (hp : p.length ≤ 1048576) : Ev (fun k => spec_FreeBars.f k p b u n) (freeR p b u n) := by
  have stop : ∀ c : Bool, c = true → Ev (fun k => spec_FreeBars.j0 k p n [] c b u) [] := by
    rintro c rfl
    exact Ev.one (fun k => by simp only [spec_FreeBars.j0, if_true])
  simp only [spec_FreeBars.f, spec_meter, l1In_eq, Option.bind_some]
  refine Ev.bind (spec_part p hp) ?_
  unfold freeR
  by_cases h0 : isPart p = true
  · by_cases h1 : isMeter b u = true
    · by_cases h2 : 0 ≤ n ∧ n ≤ 60
      · obtain ⟨m, rfl⟩ := Int.eq_ofNat_of_zero_le h2.1
        simp only [h0, h1, h2, and_self, decide_true, if_true, Bool.not_true, Int.toNat_natCast]
        refine Ev.step (fun k => ?_) (spec_frs_ev p hp h0 b u h1 m (by omega) m 0 [] (by omega) rfl)
        simp only [spec_FreeBars.j0, Bool.false_eq_true, if_false]
        rfl
      · simp only [h0, h1, h2, and_false, decide_false, if_true, if_false]
        exact stop _ rfl
    · simp only [h0, h1, false_and, and_false, Bool.false_eq_true, if_true, if_false]
      exact stop _ rfl
  · simp only [h0, false_and, Bool.false_eq_true, if_false]
    exact stop _ rfl

theorem impl_freeR (p : List S66) (b u n : Int) (hp : p.length ≤ 1048576) : Ev (fun k => impl_FreeBars.f k p b u n) (freeR p b u n) := by
  have stop : ∀ c : Bool, c = true → Ev (fun k => impl_FreeBars.j0 k p n [] c b u) [] := by
    rintro c rfl
    exact Ev.one (fun k => by simp only [impl_FreeBars.j0, if_true])
  simp only [impl_FreeBars.f, impl_meter, inRange_eq, Option.bind_some]
  refine Ev.bind (impl_part p hp) ?_
  unfold freeR
  by_cases h0 : isPart p = true
  · by_cases h1 : isMeter b u = true
    · by_cases h2 : 0 ≤ n ∧ n ≤ 60
      · obtain ⟨m, rfl⟩ := Int.eq_ofNat_of_zero_le h2.1
        have hb := barLong_bound b u h1
        simp only [h0, h1, h2, and_self, decide_true, if_true, Bool.not_true, Int.toNat_natCast]
        refine Ev.step (fun k => ?_) (impl_frs_ev p hp h0 (barLong b u) hb.1 hb.2 m (by omega) m 0 [] (by omega) rfl)
        simp only [impl_FreeBars.j0, Bool.false_eq_true, if_false, impl_bar, Option.bind_some]
        rfl
      · simp only [h0, h1, h2, and_false, decide_false, if_true, if_false]
        exact stop _ rfl
    · simp only [h0, h1, false_and, and_false, Bool.false_eq_true, if_true, if_false]
      exact stop _ rfl
  · simp only [h0, false_and, Bool.false_eq_true, if_false]
    exact stop _ rfl

theorem frs_len (p : List S66) (L : Int) (d : Nat) : ∀ i out, (frs p L i d out).length = out.length + d := by
  induction d with
  | zero => intro i out; rfl
  | succ d ih => intro i out; rw [frs, ih]; simp; omega

theorem freeR_len (p : List S66) (b u n : Int) : (freeR p b u n).length ≤ 60 := by
  unfold freeR
  split
  · rename_i h
    rw [frs_len]
    simp
    omega
  · simp

theorem markLoop {β : Type} (C : Nat → Nat) (mkv : Nat → β) (F : Nat → List β → Int → Int → Option (Int × List β)) (n : Nat)
    (h1 : ∀ (x3 : List β) (i : Nat) (r : Int × List β), i < n → x3.length = n → Ev (fun k => F k (x3.set i (mkv i)) ((C (i + 1) : Nat) : Int) ((i + 1 : Nat) : Int)) r → Ev (fun k => F k x3 ((C i : Nat) : Int) (i : Int)) r)
    (h2 : ∀ x3 : List β, x3.length = n → Ev (fun k => F k x3 ((C n : Nat) : Int) (n : Int)) (((C n : Nat) : Int), x3)) (init : List β) (hl : init.length = n) :
    Ev (fun k => F k init ((C 0 : Nat) : Int) ((0 : Nat) : Int)) (((C n : Nat) : Int), (List.range n).map mkv) := by
  have key : ∀ (d i : Nat) (x3 : List β), i + d = n → x3.length = n → x3.take i = (List.range i).map mkv → Ev (fun k => F k x3 ((C i : Nat) : Int) (i : Int)) (((C n : Nat) : Int), (List.range n).map mkv) := by
    intro d
    induction d with
    | zero =>
      intro i x3 hi hx ht
      obtain rfl : i = n := by omega
      have e : x3 = (List.range i).map mkv := by
        rw [← ht, ← hx, List.take_length]
      have := h2 x3 hx
      rw [← e]
      exact this
    | succ d ih =>
      intro i x3 hi hx ht
      refine h1 x3 i _ (by omega) hx (ih (i + 1) _ (by omega) (by rw [List.length_set]; exact hx) ?_)
      rw [set_take x3 i _ (by omega), ht, List.range_succ, List.map_append]
      rfl
  exact key n 0 init (by omega) hl (by simp)

theorem heldLoop (C : Nat → Nat) (F : Nat → Int → Int → Option Int) (n : Nat)
    (h1 : ∀ (i : Nat) (r : Int), i < n → Ev (fun k => F k ((C (i + 1) : Nat) : Int) ((i + 1 : Nat) : Int)) r → Ev (fun k => F k ((C i : Nat) : Int) (i : Int)) r)
    (h2 : Ev (fun k => F k ((C n : Nat) : Int) (n : Int)) ((C n : Nat) : Int)) : Ev (fun k => F k ((C 0 : Nat) : Int) ((0 : Nat) : Int)) ((C n : Nat) : Int) := by
  have key : ∀ (d i : Nat), i + d = n → Ev (fun k => F k ((C i : Nat) : Int) (i : Int)) ((C n : Nat) : Int) := by
    intro d
    induction d with
    | zero =>
      intro i hi
      obtain rfl : i = n := by omega
      exact h2
    | succ d ih =>
      intro i hi
      exact h1 i _ (by omega) (ih (i + 1) (by omega))
  exact key n 0 (by omega)

theorem rdB_get (l : List Bool) (i : Nat) (h : i < l.length) : rdOf false l (i : Int) = l[i] := by
  simp [rdOf, List.getD, List.getElem?_eq_getElem h]

theorem eqBoolS_ev (l : List Bool) (hl : l.length ≤ 140737488355328) : Ev (fun k => laws_eqBoolS.f k l l) true := by
  have key := eqLoop (fun k i => laws_eqBoolS.l0 k l l i) l (by
    intro i r hi h
    refine Ev.step (fun k => ?_) h
    simp only [laws_eqBoolS.l0, bne_self_eq_false, Bool.false_eq_true, if_false]
    rw [if_pos (by omega), if_pos (by omega), if_pos (by omega), w64_nat i (by omega)]) (by
    refine Ev.one (fun k => ?_)
    simp only [laws_eqBoolS.l0]
    rw [if_neg (by omega)])
  refine Ev.congr (fun k => ?_) key
  simp only [laws_eqBoolS.f, if_true]

def mkBool (q : Nat) : Bool := Int.tmod ((1 + q : Nat) : Int) 3 == 0

theorem markBoolS_ev (l : List Bool) (hl : l.length ≤ 1048576) : Ev (fun k => laws_markBoolS.f k l 1) (((1 + l.length : Nat) : Int), (List.range l.length).map mkBool) := by
  have key := markLoop (fun i => 1 + i) mkBool (fun k x c i => laws_markBoolS.l0 k x c i) l.length (by
    intro x3 i r hi hx h
    refine Ev.step (fun k => ?_) h
    simp only [laws_markBoolS.l0, Int.toNat_natCast]
    rw [if_pos (by omega), if_pos (by omega), w64_nat (1 + i) (by omega), w64_nat i (by omega)]
    rfl) (by
    intro x3 hx
    refine Ev.one (fun k => ?_)
    simp only [laws_markBoolS.l0]
    rw [if_neg (by omega)]) l rfl
  exact key


theorem heldBoolS_ev (n : Nat) (hl : n ≤ 1048576) : Ev (fun k => laws_heldBoolS.f k ((List.range n).map mkBool) 1) ((1 + n : Nat) : Int) := by
  have key := heldLoop (fun i => 1 + i) (fun k c i => laws_heldBoolS.l0 k ((List.range n).map mkBool) c i) n (by
    intro i r hi h
    refine Ev.step (fun k => ?_) h
    simp only [laws_heldBoolS.l0, List.length_map, List.length_range]
    rw [if_pos (by omega), if_pos (by omega), rdB_get _ i (by simpa using hi), w64_nat (1 + i) (by omega), w64_nat i (by omega)]
    simp only [List.getElem_map, List.getElem_range, mkBool, bne_self_eq_false, Bool.false_eq_true, if_false]
    rfl) (by
    refine Ev.one (fun k => ?_)
    simp only [laws_heldBoolS.l0, List.length_map, List.length_range]
    rw [if_neg (by omega)])
  exact key

theorem rdlSign_get (l : List S68) (i : Nat) (h : i < l.length) : rd_T68 l (i : Int) = l[i] := by
  simp [rd_T68, List.getD, List.getElem?_eq_getElem h]

def cvSign (x : S68) : S66 := ⟨x.f0, x.f1, x.f2⟩

theorem toSignS_ev (l : List S68) (hl : l.length ≤ 1048576) : Ev (fun k => laws_toSignS.f k l) (l.map cvSign) := by
  have key := copyLoop (fun k x3 i => laws_toSignS.l0 k l x3 i) l cvSign (by
    intro x3 i r hi hx h
    refine Ev.step (fun k => ?_) h
    simp only [laws_toSignS.l0, laws_toSign.f, Option.bind_some]
    rw [if_pos (by omega), if_pos (by omega), if_pos (by omega), rdlSign_get l i hi, w64_nat i (by omega), Int.toNat_natCast]
    rfl) (by
    intro x3
    refine Ev.one (fun k => ?_)
    simp only [laws_toSignS.l0]
    rw [if_neg (by omega)]) (List.replicate l.length z66) (by simp)
  refine Ev.congr (fun k => ?_) key
  simp only [laws_toSignS.f, Int.toNat_natCast]
  rw [if_pos (by omega), if_pos (by omega)]

theorem eqSignS_ev (l : List S66) (hl : l.length ≤ 140737488355328) : Ev (fun k => laws_eqSignS.f k l l) true := by
  have key := eqLoop (fun k i => laws_eqSignS.l0 k l l i) l (by
    intro i r hi h
    refine Ev.step (fun k => ?_) h
    simp only [laws_eqSignS.l0, laws_eqSign.f, if_true, Option.bind_some]
    rw [if_pos (by omega), if_pos (by omega), if_pos (by omega), w64_nat i (by omega)]) (by
    refine Ev.one (fun k => ?_)
    simp only [laws_eqSignS.l0]
    rw [if_neg (by omega)])
  refine Ev.congr (fun k => ?_) key
  simp only [laws_eqSignS.f, if_true]

theorem szSignS_ev (l : List S68) (b : Int) (hb : 0 ≤ b) (hb2 : b ≤ 1048576) (h0 : l.length ≤ 9223372036854775807) : laws_szSignS.f l b = some (if b < (l.length : Int) then -1 else b - (l.length : Int)) := by
  simp only [laws_szSignS.f]
  rw [w64 (by omega) (by omega)]
  split
  · rw [if_pos (by omega)]
  · rw [if_neg (by omega)]

def mkSign (q : Nat) : S66 := ⟨((1 + 3 * q : Nat) : Int), ((1 + 3 * q + 1 : Nat) : Int), ((1 + 3 * q + 1 + 1 : Nat) : Int)⟩

theorem rdSign_set (l : List S66) (i : Nat) (h : i < l.length) (v : S66) : rd_T66 (l.set i v) (i : Int) = v := by
  simp [rd_T66, List.getD, List.getElem?_set_self h]

theorem markSignS_ev (l : List S66) (hl : l.length ≤ 1048576) : Ev (fun k => laws_markSignS.f k l 1) (((1 + 3 * l.length : Nat) : Int), (List.range l.length).map mkSign) := by
  have key := markLoop (fun i => 1 + 3 * i) mkSign (fun k x c i => laws_markSignS.l0 k x c i) l.length (by
    intro x3 i r hi hx h
    simp only [show 1 + 3 * (i + 1) = 1 + 3 * i + 1 + 1 + 1 by omega] at h
    refine Ev.step (fun k => ?_) h
    have hx' : i < x3.length := by omega
    simp only [laws_markSignS.l0, Option.bind_some, Int.toNat_natCast]
    rw [if_pos (by omega), if_pos (by omega), w64_nat (1 + 3 * i) (by omega), w64_nat (1 + 3 * i + 1) (by omega), w64_nat (1 + 3 * i + 1 + 1) (by omega), w64_nat i (by omega)]
    simp only [rdSign_set, List.length_set, hx', List.set_set, mkSign]) (by
    intro x3 hx
    refine Ev.one (fun k => ?_)
    simp only [laws_markSignS.l0]
    rw [if_neg (by omega)]) l rfl
  exact key


theorem FnExactFreeBars : ∀ (l0 : List (S68)) (a1_0 : Int) (a1_1 : Int) (a2 : Int), (l0.length ≤ maxLen ∧ l0.length * 24 ≤ 140737488351232 ∧ ∀ l0' ∈ l0, ((Lit.int .i64 l0'.f0).wf = true) ∧ ((Lit.int .i64 l0'.f1).wf = true) ∧ ((Lit.int .i64 l0'.f2).wf = true)) → ((Lit.int .i64 a1_0).wf = true) → ((Lit.int .i64 a1_1).wf = true) → ((Lit.int .i64 a2).wf = true) → ∃ k, laws_FnExactFreeBars.f k l0 a1_0 a1_1 a2 = some true := by
  intro p b u n h0 _ _ _
  have hm : p.length ≤ 9223372036854775807 := h0.1
  refine Ev.rounds (g := fun k => laws_FnExactFreeBars.f k p b u n) ?_
  simp only [laws_FnExactFreeBars.f, szSignS_ev p 1048576 (by omega) (by omega) hm, laws_toMeter.f, Option.bind_some]
  by_cases hb : (1048576 : Int) < (p.length : Int)
  · simp only [hb, if_true]
    exact Ev.now true
  · have hs := spec_freeR (p.map cvSign) b u n (by simp; omega)
    have hi := impl_freeR (p.map cvSign) b u n (by simp; omega)
    have hlen := freeR_len (p.map cvSign) b u n
    have ht := toSignS_ev p (by omega)
    have he := eqSignS_ev (p.map cvSign) (by simp; omega)
    have hr := eqBoolS_ev (freeR (p.map cvSign) b u n) (by omega)
    have hma := markSignS_ev (p.map cvSign) (by simp; omega)
    have hmr := markBoolS_ev (freeR (p.map cvSign) b u n) (by omega)
    have hhe := heldBoolS_ev (freeR (p.map cvSign) b u n).length (by omega)
    have hn : ¬ (1048576 - (p.length : Int) < 0) := by omega
    have hneg : ∀ q : Nat, ¬ ((q : Int) < 0) := fun q => by omega
    simp only [hb, hn, if_false]
    refine Ev.bind ht ?_
    refine Ev.bind hs ?_
    refine Ev.bind ht ?_
    refine Ev.bind hi ?_
    refine Ev.bind hr ?_
    simp only [if_true]
    refine Ev.bind ht ?_
    refine Ev.bind he ?_
    simp only [if_true]
    refine Ev.bind hma ?_
    simp only [hneg, if_false]
    refine Ev.bind hr ?_
    simp only [Bool.not_true]
    refine Ev.step (fun k => by simp only [laws_FnExactFreeBars.j0, Bool.false_eq_true, if_false]; rfl) ?_
    refine Ev.bind hmr ?_
    refine Ev.bind hhe ?_
    simp only [hneg, if_false, if_true]
    refine Ev.bind ht ?_
    simp only [laws_toMeter.f, Option.bind_some]
    refine Ev.bind hi ?_
    refine Ev.bind hr ?_
    simp only [if_true]
    refine Ev.bind hhe ?_
    simp only [hneg, if_false, if_true]
    exact Ev.now true

end Go.Proofs.Ythlipgfmfgangaa.Pure
