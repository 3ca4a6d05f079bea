/- The plain statement of the law FnExactCountCuts: what its printed function answers; no conditions but that the numbers are Go's ints and the slices no longer than memory. -/
import Derived.Test.YtmmeppkmdnjhlaaPFnExactCountCutsx1
set_option linter.unusedVariables false
set_option linter.unusedSimpArgs false
namespace Go.Proofs.Ytmmeppkmdnjhlaa.Pure
open Go.RowKit Go.Proofs.Ytmmeppkmdnjhlaa.PFnExactCountCuts Go.Proofs.YtmmeppkmdnjhlaaW.PrintWords Go.Proofs.YtmmeppkmdnjhlaaW.PrintLast Go.Proofs.YtmmeppkmdnjhlaaW.PrintMore

theorem wf64 {x : Int} (h : (Lit.int .i64 x).wf = true) : -9223372036854775808 ≤ x ∧ x ≤ 9223372036854775807 := by
  simp only [Lit.wf, IntKind.min, IntKind.max, IntKind.signed, IntKind.bits, Bool.and_eq_true, decide_eq_true_eq, if_true] at h
  omega

theorem w64 {x : Int} (h1 : -9223372036854775808 ≤ x) (h2 : x ≤ 9223372036854775807) : wrap64 x = x := by
  unfold wrap64
  omega

theorem w64_nat (i : Nat) (h : i ≤ 9223372036854775806) : wrap64 ((i : Int) + 1) = ((i + 1 : Nat) : Int) := by
  unfold wrap64
  omega

theorem drop_cons {α : Type} (l : List α) (i : Nat) (h : i < l.length) : l.drop i = l[i] :: l.drop (i + 1) := List.drop_eq_getElem_cons h

theorem set_take {β : Type} (x : List β) (i : Nat) (v : β) (h : i < x.length) : (x.set i v).take (i + 1) = x.take i ++ [v] := by
  apply List.ext_getElem?
  intro j
  rcases Nat.lt_trichotomy j i with hj | hj | hj
  · rw [List.getElem?_take_of_lt (by omega), List.getElem?_set_ne (by omega), List.getElem?_append_left (by simp; omega), List.getElem?_take_of_lt (by omega)]
  · subst hj
    rw [List.getElem?_take_of_lt (by omega), List.getElem?_set_self (by omega), List.getElem?_append_right (by simp; omega)]
    simp [Nat.min_eq_left (Nat.le_of_lt h)]
  · rw [List.getElem?_take_eq_none (by omega), List.getElem?_append_right (by simp; omega)]
    simp
    omega

theorem copyLoop {α β : Type} (F : Nat → List β → Int → Option (List β)) (x0 : List α) (cv : α → β)
    (h1 : ∀ (x3 : List β) (i : Nat) (r : List β) (hi : i < x0.length), x3.length = x0.length → Ev (fun k => F k (x3.set i (cv x0[i])) ((i + 1 : Nat) : Int)) r → Ev (fun k => F k x3 (i : Int)) r)
    (h2 : ∀ x3 : List β, Ev (fun k => F k x3 (x0.length : Int)) x3) (init : List β) (hl : init.length = x0.length) : Ev (fun k => F k init 0) (x0.map cv) := by
  have key : ∀ (d i : Nat) (x3 : List β), i + d = x0.length → x3.length = x0.length → x3.take i = (x0.map cv).take i → Ev (fun k => F k x3 (i : Int)) (x0.map cv) := by
    intro d
    induction d with
    | zero =>
      intro i x3 hi hx ht
      obtain rfl : i = x0.length := by omega
      have e : x3 = x0.map cv := by
        rw [← hx, List.take_length] at ht
        rw [ht, hx]
        exact List.take_of_length_le (by simp)
      have := h2 x3
      rw [e] at this
      rw [e]
      exact this
    | succ d ih =>
      intro i x3 hi hx ht
      have hlt : i < x0.length := by omega
      refine h1 x3 i _ hlt hx (ih (i + 1) _ (by omega) (by rw [List.length_set]; exact hx) ?_)
      rw [set_take x3 i _ (by omega), ht]
      rw [List.take_succ_eq_append_getElem (by simpa using hlt)]
      simp
  have := key x0.length 0 init (by omega) hl (by simp)
  exact this

theorem eqLoop {α : Type} (F : Nat → Int → Option Bool) (x0 : List α)
    (h1 : ∀ (i : Nat) (r : Bool) (_ : i < x0.length), Ev (fun k => F k ((i + 1 : Nat) : Int)) r → Ev (fun k => F k (i : Int)) r)
    (h2 : Ev (fun k => F k (x0.length : Int)) true) : Ev (fun k => F k 0) true := by
  have key : ∀ (d i : Nat), i + d = x0.length → Ev (fun k => F k (i : Int)) true := by
    intro d
    induction d with
    | zero =>
      intro i hi
      obtain rfl : i = x0.length := by omega
      exact h2
    | succ d ih =>
      intro i hi
      exact h1 i true (by omega) (ih (i + 1) (by omega))
  exact key x0.length 0 (by omega)

theorem ite_eq_of {α : Type} {p : Prop} [Decidable p] {a b : α} (h : p) : (if p then a else b) = a := if_pos h

theorem Ev.one {α : Type} {g : Nat → Option α} {r : α} (h : ∀ k, g (k + 1) = some r) : Ev g r := Ev.step (f := fun _ => some r) h (Ev.now r)

theorem rd_get (l : List Int) (i : Nat) (h : i < l.length) : rd l (i : Int) = l[i] := by
  simp [rd, List.getD, List.getElem?_eq_getElem h]

theorem toIntS_ev (l : List Int) (hl : l.length ≤ 35184372088832) : Ev (fun k => laws_toIntS.f k l) l := by
  have key := copyLoop (fun k x3 i => laws_toIntS.l0 k l x3 i) l (fun x => x) (by
    intro x3 i r hi hx h
    refine Ev.step (fun k => ?_) h
    simp only [laws_toIntS.l0]
    rw [if_pos (by omega), if_pos (by omega), if_pos (by omega), rd_get l i hi, w64_nat i (by omega), Int.toNat_natCast]) (by
    intro x3
    refine Ev.one (fun k => ?_)
    simp only [laws_toIntS.l0]
    rw [if_neg (by omega)]) (List.replicate l.length 0) (by simp)
  rw [List.map_id' l] at key
  refine Ev.congr (fun k => ?_) key
  simp only [laws_toIntS.f, Int.toNat_natCast]
  rw [if_pos (by omega), if_pos hl]

theorem eqIntS_ev (l : List Int) (hl : l.length ≤ 140737488355328) : Ev (fun k => laws_eqIntS.f k l l) true := by
  have key := eqLoop (fun k i => laws_eqIntS.l0 k l l i) l (by
    intro i r hi h
    refine Ev.step (fun k => ?_) h
    simp only [laws_eqIntS.l0]
    rw [if_pos (by omega), if_pos (by omega), if_pos (by omega), if_pos trivial, w64_nat i (by omega)]) (by
    refine Ev.one (fun k => ?_)
    simp only [laws_eqIntS.l0]
    rw [if_neg (by omega)])
  refine Ev.congr (fun k => ?_) key
  simp only [laws_eqIntS.f]
  rw [if_pos trivial]

def cuts : Int → List Int → Int → Int
  | _, [], n => n
  | p, x :: l, n => cuts x l (if x = p then n else n + 1)

theorem w64_pred (j : Nat) (h : j ≤ 9223372036854775806) : wrap64 (((j + 1 : Nat) : Int) - 1) = (j : Int) := by
  unfold wrap64
  omega

theorem spec_ev (l : List Int) (hl : l.length ≤ 1048576) (d : Nat) : ∀ (j : Nat) (n : Int) (hj : j < l.length), j + 1 + d = l.length → 0 ≤ n → n ≤ j → Ev (fun k => spec_CountCuts.l0 k l n ((j + 1 : Nat) : Int)) (cuts l[j] (l.drop (j + 1)) n) := by
  induction d with
  | zero =>
    intro j n hj hi h0 h1
    rw [List.drop_of_length_le (by omega)]
    refine Ev.one (fun k => ?_)
    simp only [spec_CountCuts.l0]
    rw [if_neg (by omega)]
    rfl
  | succ d ih =>
    intro j n hj hi h0 h1
    have hlt : j + 1 < l.length := by omega
    rw [drop_cons l (j + 1) hlt]
    by_cases hc : l[j + 1] = l[j]
    · refine Ev.step (fun k => ?_) (by rw [cuts, if_pos hc]; exact ih (j + 1) n (by omega) (by omega) (by omega) (by omega))
      simp only [spec_CountCuts.l0]
      rw [w64_pred j (by omega), if_pos (by omega), if_pos (by omega), if_pos (by omega), if_pos (by omega), rd_get l _ hlt, rd_get l _ hj, if_pos hc, w64_nat (j + 1) (by omega)]
    · refine Ev.step (fun k => ?_) (by rw [cuts, if_neg hc]; exact ih (j + 1) (n + 1) (by omega) (by omega) (by omega) (by omega))
      simp only [spec_CountCuts.l0]
      rw [w64_pred j (by omega), if_pos (by omega), if_pos (by omega), if_pos (by omega), if_pos (by omega), rd_get l _ hlt, rd_get l _ hj, if_neg hc, w64_nat (j + 1) (by omega), w64 (by omega) (by omega)]

theorem impl_ev (l : List Int) (hl : l.length ≤ 1048576) (d : Nat) : ∀ (j : Nat) (n : Int) (hj : j < l.length), j + 1 + d = l.length → 0 ≤ n → n ≤ j → Ev (fun k => impl_CountCuts.l0 k l n ((j + 1 : Nat) : Int)) (cuts l[j] (l.drop (j + 1)) n) := by
  induction d with
  | zero =>
    intro j n hj hi h0 h1
    rw [List.drop_of_length_le (by omega)]
    refine Ev.one (fun k => ?_)
    simp only [impl_CountCuts.l0]
    rw [if_neg (by omega)]
    rfl
  | succ d ih =>
    intro j n hj hi h0 h1
    have hlt : j + 1 < l.length := by omega
    rw [drop_cons l (j + 1) hlt]
    by_cases hc : l[j + 1] = l[j]
    · refine Ev.step (fun k => ?_) (by rw [cuts, if_pos hc]; exact ih (j + 1) n (by omega) (by omega) (by omega) (by omega))
      simp only [impl_CountCuts.l0, impl_unlike.f]
      rw [w64_pred j (by omega), if_pos (by omega), if_pos (by omega), if_pos (by omega), if_pos (by omega), rd_get l _ hlt, rd_get l _ hj, if_pos hc.symm, w64_nat (j + 1) (by omega)]
      simp only [Option.bind_some]
      rw [Int.add_zero, w64 (by omega) (by omega)]
    · refine Ev.step (fun k => ?_) (by rw [cuts, if_neg hc]; exact ih (j + 1) (n + 1) (by omega) (by omega) (by omega) (by omega))
      simp only [impl_CountCuts.l0, impl_unlike.f]
      rw [w64_pred j (by omega), if_pos (by omega), if_pos (by omega), if_pos (by omega), if_pos (by omega), rd_get l _ hlt, rd_get l _ hj, if_neg (fun h => hc h.symm), w64_nat (j + 1) (by omega)]
      simp only [Option.bind_some]
      rw [w64 (by omega) (by omega)]

theorem both_ev (l : List Int) (hl : l.length ≤ 1048576) : ∃ n : Int, Ev (fun k => spec_CountCuts.f k l) n ∧ Ev (fun k => impl_CountCuts.f k l) n := by
  rcases Nat.eq_zero_or_pos l.length with h | h
  · refine ⟨0, Ev.one (fun k => ?_), Ev.one (fun k => ?_)⟩
    · simp only [spec_CountCuts.f, spec_CountCuts.l0]
      rw [if_neg (by omega)]
    · simp only [impl_CountCuts.f, impl_CountCuts.l0]
      rw [if_neg (by omega)]
  · exact ⟨_, spec_ev l hl (l.length - 1) 0 0 h (by omega) (by omega) (by omega), impl_ev l hl (l.length - 1) 0 0 h (by omega) (by omega) (by omega)⟩

theorem FnExactCountCuts : ∀ (l0 : List Int), (l0.length ≤ maxLen ∧ l0.length * 8 ≤ 140737488351232 ∧ ∀ l0' ∈ l0, (Lit.int .i64 l0').wf = true) → ∃ k, laws_FnExactCountCuts.f k l0 = some true := by
  intro l _
  by_cases hb : (l.length : Int) > 1048576
  · exact ⟨0, by simp only [laws_FnExactCountCuts.f]; rw [if_pos hb]⟩
  · have hl : l.length ≤ 1048576 := by omega
    obtain ⟨n, hs, hi⟩ := both_ev l hl
    have ht := toIntS_ev l (by omega)
    have he := eqIntS_ev l (by omega)
    refine Ev.rounds (g := fun k => laws_FnExactCountCuts.f k l) ?_
    simp only [laws_FnExactCountCuts.f, if_neg hb]
    refine Ev.bind ht ?_
    refine Ev.bind hs ?_
    refine Ev.bind ht ?_
    refine Ev.bind hi ?_
    simp only [if_true]
    refine Ev.bind ht ?_
    refine Ev.bind he ?_
    simp only [if_true]
    exact Ev.now true

end Go.Proofs.Ytmmeppkmdnjhlaa.Pure
