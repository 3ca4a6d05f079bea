/- The plain statement of the law FnExactAreBreaks: what its printed function answers; no conditions but that the numbers are Go's ints and the slices no longer than memory. -/
import Derived.Test.YthlipgfmfgangaaPFnExactAreBreaksx2
set_option linter.unusedVariables false
set_option linter.unusedSimpArgs false
namespace Go.Proofs.Ythlipgfmfgangaa.Pure
open Go.RowKit Go.Proofs.Ythlipgfmfgangaa.PFnExactAreBreaks Go.Proofs.YthlipgfmfgangaaW.PrintWords Go.Proofs.YthlipgfmfgangaaW.PrintLast Go.Proofs.YthlipgfmfgangaaW.PrintMore

theorem wf64 {x : Int} (h : (Lit.int .i64 x).wf = true) : -9223372036854775808 ≤ x ∧ x ≤ 9223372036854775807 := by
  simp only [Lit.wf, IntKind.min, IntKind.max, IntKind.signed, IntKind.bits, Bool.and_eq_true, decide_eq_true_eq, if_true] at h
  omega

theorem w64 {x : Int} (h1 : -9223372036854775808 ≤ x) (h2 : x ≤ 9223372036854775807) : wrap64 x = x := by
  unfold wrap64
  omega

theorem w64_nat (i : Nat) (h : i ≤ 9223372036854775806) : wrap64 ((i : Int) + 1) = ((i + 1 : Nat) : Int) := by
  unfold wrap64
  omega

theorem drop_cons {α : Type} (l : List α) (i : Nat) (h : i < l.length) : l.drop i = l[i] :: l.drop (i + 1) := List.drop_eq_getElem_cons h

theorem set_take {β : Type} (x : List β) (i : Nat) (v : β) (h : i < x.length) : (x.set i v).take (i + 1) = x.take i ++ [v] := by
  apply List.ext_getElem?
  intro j
  rcases Nat.lt_trichotomy j i with hj | hj | hj
  · rw [List.getElem?_take_of_lt (by omega), List.getElem?_set_ne (by omega), List.getElem?_append_left (by simp; omega), List.getElem?_take_of_lt (by omega)]
  · subst hj
    rw [List.getElem?_take_of_lt (by omega), List.getElem?_set_self (by omega), List.getElem?_append_right (by simp; omega)]
    simp [Nat.min_eq_left (Nat.le_of_lt h)]
  · rw [List.getElem?_take_eq_none (by omega), List.getElem?_append_right (by simp; omega)]
    simp
    omega

theorem copyLoop {α β : Type} (F : Nat → List β → Int → Option (List β)) (x0 : List α) (cv : α → β)
    (h1 : ∀ (x3 : List β) (i : Nat) (r : List β) (hi : i < x0.length), x3.length = x0.length → Ev (fun k => F k (x3.set i (cv x0[i])) ((i + 1 : Nat) : Int)) r → Ev (fun k => F k x3 (i : Int)) r)
    (h2 : ∀ x3 : List β, Ev (fun k => F k x3 (x0.length : Int)) x3) (init : List β) (hl : init.length = x0.length) : Ev (fun k => F k init 0) (x0.map cv) := by
  have key : ∀ (d i : Nat) (x3 : List β), i + d = x0.length → x3.length = x0.length → x3.take i = (x0.map cv).take i → Ev (fun k => F k x3 (i : Int)) (x0.map cv) := by
    intro d
    induction d with
    | zero =>
      intro i x3 hi hx ht
      obtain rfl : i = x0.length := by omega
      have e : x3 = x0.map cv := by
        rw [← hx, List.take_length] at ht
        rw [ht, hx]
        exact List.take_of_length_le (by simp)
      have := h2 x3
      rw [e] at this
      rw [e]
      exact this
    | succ d ih =>
      intro i x3 hi hx ht
      have hlt : i < x0.length := by omega
      refine h1 x3 i _ hlt hx (ih (i + 1) _ (by omega) (by rw [List.length_set]; exact hx) ?_)
      rw [set_take x3 i _ (by omega), ht]
      rw [List.take_succ_eq_append_getElem (by simpa using hlt)]
      simp
  have := key x0.length 0 init (by omega) hl (by simp)
  exact this

theorem eqLoop {α : Type} (F : Nat → Int → Option Bool) (x0 : List α)
    (h1 : ∀ (i : Nat) (r : Bool) (_ : i < x0.length), Ev (fun k => F k ((i + 1 : Nat) : Int)) r → Ev (fun k => F k (i : Int)) r)
    (h2 : Ev (fun k => F k (x0.length : Int)) true) : Ev (fun k => F k 0) true := by
  have key : ∀ (d i : Nat), i + d = x0.length → Ev (fun k => F k (i : Int)) true := by
    intro d
    induction d with
    | zero =>
      intro i hi
      obtain rfl : i = x0.length := by omega
      exact h2
    | succ d ih =>
      intro i hi
      exact h1 i true (by omega) (ih (i + 1) (by omega))
  exact key x0.length 0 (by omega)

theorem ite_eq_of {α : Type} {p : Prop} [Decidable p] {a b : α} (h : p) : (if p then a else b) = a := if_pos h

theorem Ev.one {α : Type} {g : Nat → Option α} {r : α} (h : ∀ k, g (k + 1) = some r) : Ev g r := Ev.step (f := fun _ => some r) h (Ev.now r)

theorem rdB_get (l : List Bool) (i : Nat) (h : i < l.length) : rdOf false l (i : Int) = l[i] := by
  simp [rdOf, List.getD, List.getElem?_eq_getElem h]

theorem toBoolS_ev (l : List Bool) (hl : l.length ≤ 35184372088832) : Ev (fun k => laws_toBoolS.f k l) l := by
  have key := copyLoop (fun k x3 i => laws_toBoolS.l0 k l x3 i) l (fun x => x) (by
    intro x3 i r hi hx h
    refine Ev.step (fun k => ?_) h
    simp only [laws_toBoolS.l0]
    rw [if_pos (by omega), if_pos (by omega), if_pos (by omega), rdB_get l i hi, w64_nat i (by omega), Int.toNat_natCast]) (by
    intro x3
    refine Ev.one (fun k => ?_)
    simp only [laws_toBoolS.l0]
    rw [if_neg (by omega)]) (List.replicate l.length false) (by simp)
  rw [List.map_id' l] at key
  refine Ev.congr (fun k => ?_) key
  simp only [laws_toBoolS.f, Int.toNat_natCast]
  rw [if_pos (by omega), if_pos (by omega)]

theorem eqBoolS_ev (l : List Bool) (hl : l.length ≤ 140737488355328) : Ev (fun k => laws_eqBoolS.f k l l) true := by
  have key := eqLoop (fun k i => laws_eqBoolS.l0 k l l i) l (by
    intro i r hi h
    refine Ev.step (fun k => ?_) h
    simp only [laws_eqBoolS.l0, bne_self_eq_false, Bool.false_eq_true, if_false]
    rw [if_pos (by omega), if_pos (by omega), if_pos (by omega), w64_nat i (by omega)]) (by
    refine Ev.one (fun k => ?_)
    simp only [laws_eqBoolS.l0]
    rw [if_neg (by omega)])
  refine Ev.congr (fun k => ?_) key
  simp only [laws_eqBoolS.f, if_true]

theorem rd_get (l : List Int) (i : Nat) (h : i < l.length) : rd l (i : Int) = l[i] := by
  simp [rd, List.getD, List.getElem?_eq_getElem h]

theorem l1In_eq (a b c : Int) : spec_l1In.f a b c = some (decide (b ≤ a ∧ a ≤ c)) := by
  unfold spec_l1In.f
  split <;> simp <;> omega

def brk (f : List Bool) (m : Int) : Int → List Int → Bool
  | p, [] => decide ((f.length : Int) - p ≤ m)
  | p, b :: l => if p + 1 ≤ b ∧ b ≤ (f.length : Int) - 1 then (if rdOf false f (b - 1) = true then (if b - p > m then false else brk f m b l) else false) else false

theorem spec_brk_ev (f : List Bool) (m : Int) (l : List Int) (hf : f.length ≤ 1048576) (hl : l.length ≤ 1048576) (d : Nat) : ∀ (i : Nat) (p : Int), i + d = l.length → 0 ≤ p → p ≤ f.length →
    Ev (fun k => spec_AreBreaks.l0 k f m l p (i : Int)) (brk f m p (l.drop i)) := by
  induction d with
  | zero =>
    intro i p hi h0 h1
    rw [List.drop_of_length_le (by omega)]
    refine Ev.one (fun k => ?_)
    simp only [spec_AreBreaks.l0, brk]
    rw [if_neg (by omega), w64 (by omega) (by omega)]
  | succ d ih =>
    intro i p hi h0 h1
    have hlt : i < l.length := by omega
    rw [drop_cons l i hlt, brk]
    have start : ∀ k, spec_AreBreaks.l0 (k + 1) f m l p (i : Int) = if decide (p + 1 ≤ l[i] ∧ l[i] ≤ (f.length : Int) - 1) = true then (if 0 ≤ (wrap64 (l[i] - 1)) then (if (wrap64 (l[i] - 1)) < (f.length : Int) then (if (rdOf false f (wrap64 (l[i] - 1)) = true) then (if (wrap64 (l[i] - p)) > m then (some false) else (spec_AreBreaks.l0 k f m l l[i] ((i + 1 : Nat) : Int))) else (some false)) else (none)) else (none)) else (some false) := by
      intro k
      simp only [spec_AreBreaks.l0, l1In_eq, Option.bind_some]
      rw [if_pos (by omega), if_pos (by omega), rd_get l i hlt, w64_nat i (by omega), w64 (x := p + 1) (by omega) (by omega), w64 (x := (f.length : Int) - 1) (by omega) (by omega)]
    by_cases hc : p + 1 ≤ l[i] ∧ l[i] ≤ (f.length : Int) - 1
    · rw [if_pos hc]
      by_cases hd : rdOf false f (l[i] - 1) = true
      · rw [if_pos hd]
        by_cases he : l[i] - p > m
        · rw [if_pos he]
          refine Ev.one (fun k => ?_)
          rw [start, if_pos (decide_eq_true hc), w64 (x := l[i] - 1) (by omega) (by omega), if_pos (by omega), if_pos (by omega), if_pos hd, w64 (x := l[i] - p) (by omega) (by omega), if_pos he]
        · rw [if_neg he]
          refine Ev.step (fun k => ?_) (ih (i + 1) l[i] (by omega) (by omega) (by omega))
          rw [start, if_pos (decide_eq_true hc), w64 (x := l[i] - 1) (by omega) (by omega), if_pos (by omega), if_pos (by omega), if_pos hd, w64 (x := l[i] - p) (by omega) (by omega), if_neg he]
      · rw [if_neg hd]
        refine Ev.one (fun k => ?_)
        rw [start, if_pos (decide_eq_true hc), w64 (x := l[i] - 1) (by omega) (by omega), if_pos (by omega), if_pos (by omega), if_neg hd]
    · rw [if_neg hc]
      refine Ev.one (fun k => ?_)
      rw [start, if_neg (by simpa using hc)]

theorem impl_brk_ev (f : List Bool) (m : Int) (l : List Int) (hf : f.length ≤ 1048576) (hl : l.length ≤ 1048576) (d : Nat) : ∀ (i : Nat) (p : Int), i + d = l.length → 0 ≤ p → p ≤ f.length →
    Ev (fun k => impl_AreBreaks.l0 k f m p l (l.length : Int) (i : Int)) (brk f m p (l.drop i)) := by
  induction d with
  | zero =>
    intro i p hi h0 h1
    rw [List.drop_of_length_le (by omega)]
    refine Ev.one (fun k => ?_)
    simp only [impl_AreBreaks.l0, brk]
    rw [if_neg (by omega), w64 (by omega) (by omega)]
  | succ d ih =>
    intro i p hi h0 h1
    have hlt : i < l.length := by omega
    rw [drop_cons l i hlt, brk]
    have start : ∀ k, impl_AreBreaks.l0 (k + 1) f m p l (l.length : Int) (i : Int) = if l[i] ≤ p then (some false) else (if l[i] > (f.length : Int) - 1 then (some false) else (if 0 ≤ (wrap64 (l[i] - 1)) then (if (wrap64 (l[i] - 1)) < (f.length : Int) then (if (rdOf false f (wrap64 (l[i] - 1)) = true) then (if (wrap64 (l[i] - p)) > m then (some false) else (impl_AreBreaks.l0 k f m l[i] l (l.length : Int) ((i + 1 : Nat) : Int))) else (some false)) else (none)) else (none))) := by
      intro k
      simp only [impl_AreBreaks.l0]
      rw [if_pos (by omega), if_pos (by omega), if_pos (by omega), rd_get l i hlt, w64_nat i (by omega), w64 (x := (f.length : Int) - 1) (by omega) (by omega)]
    by_cases hc : p + 1 ≤ l[i] ∧ l[i] ≤ (f.length : Int) - 1
    · rw [if_pos hc]
      by_cases hd : rdOf false f (l[i] - 1) = true
      · rw [if_pos hd]
        by_cases he : l[i] - p > m
        · rw [if_pos he]
          refine Ev.one (fun k => ?_)
          rw [start, if_neg (by omega), if_neg (by omega), w64 (x := l[i] - 1) (by omega) (by omega), if_pos (by omega), if_pos (by omega), if_pos hd, w64 (x := l[i] - p) (by omega) (by omega), if_pos he]
        · rw [if_neg he]
          refine Ev.step (fun k => ?_) (ih (i + 1) l[i] (by omega) (by omega) (by omega))
          rw [start, if_neg (by omega), if_neg (by omega), w64 (x := l[i] - 1) (by omega) (by omega), if_pos (by omega), if_pos (by omega), if_pos hd, w64 (x := l[i] - p) (by omega) (by omega), if_neg he]
      · rw [if_neg hd]
        refine Ev.one (fun k => ?_)
        rw [start, if_neg (by omega), if_neg (by omega), w64 (x := l[i] - 1) (by omega) (by omega), if_pos (by omega), if_pos (by omega), if_neg hd]
    · rw [if_neg hc]
      refine Ev.one (fun k => ?_)
      rw [start]
      by_cases h : l[i] ≤ p
      · rw [if_pos h]
      · rw [if_neg h, if_pos (by omega)]

theorem spec_brk (f : List Bool) (m : Int) (l : List Int) (hf : f.length ≤ 1048576) (hl : l.length ≤ 1048576) : Ev (fun k => spec_AreBreaks.f k f m l) (brk f m 0 l) := spec_brk_ev f m l hf hl l.length 0 0 (by omega) (by omega) (by omega)
theorem impl_brk (f : List Bool) (m : Int) (l : List Int) (hf : f.length ≤ 1048576) (hl : l.length ≤ 1048576) : Ev (fun k => impl_AreBreaks.f k f m l) (brk f m 0 l) := impl_brk_ev f m l hf hl l.length 0 0 (by omega) (by omega) (by omega)

theorem toIntS_ev (l : List Int) (hl : l.length ≤ 35184372088832) : Ev (fun k => laws_toIntS.f k l) l := by
  have key := copyLoop (fun k x3 i => laws_toIntS.l0 k l x3 i) l (fun x => x) (by
    intro x3 i r hi hx h
    refine Ev.step (fun k => ?_) h
    simp only [laws_toIntS.l0]
    rw [if_pos (by omega), if_pos (by omega), if_pos (by omega), rd_get l i hi, w64_nat i (by omega), Int.toNat_natCast]) (by
    intro x3
    refine Ev.one (fun k => ?_)
    simp only [laws_toIntS.l0]
    rw [if_neg (by omega)]) (List.replicate l.length 0) (by simp)
  rw [List.map_id' l] at key
  refine Ev.congr (fun k => ?_) key
  simp only [laws_toIntS.f, Int.toNat_natCast]
  rw [if_pos (by omega), if_pos hl]

theorem eqIntS_ev (l : List Int) (hl : l.length ≤ 140737488355328) : Ev (fun k => laws_eqIntS.f k l l) true := by
  have key := eqLoop (fun k i => laws_eqIntS.l0 k l l i) l (by
    intro i r hi h
    refine Ev.step (fun k => ?_) h
    simp only [laws_eqIntS.l0]
    rw [if_pos (by omega), if_pos (by omega), if_pos (by omega), if_pos trivial, w64_nat i (by omega)]) (by
    refine Ev.one (fun k => ?_)
    simp only [laws_eqIntS.l0]
    rw [if_neg (by omega)])
  refine Ev.congr (fun k => ?_) key
  simp only [laws_eqIntS.f]
  rw [if_pos trivial]

theorem FnExactAreBreaks : ∀ (l0 : List Bool) (a1 : Int) (l2 : List Int), (l0.length ≤ maxLen ∧ l0.length * 1 ≤ 140737488351232 ∧ ∀ l0' ∈ l0, True) → ((Lit.int .i64 a1).wf = true) → (l2.length ≤ maxLen ∧ l2.length * 8 ≤ 140737488351232 ∧ ∀ l2' ∈ l2, (Lit.int .i64 l2').wf = true) → ∃ k, laws_FnExactAreBreaks.f k l0 a1 l2 = some true := by
  intro f m l _ _ _
  refine Ev.rounds (g := fun k => laws_FnExactAreBreaks.f k f m l) ?_
  simp only [laws_FnExactAreBreaks.f]
  by_cases hb : (f.length : Int) > 1048576
  · simp only [hb, if_true]
    exact Ev.now true
  · by_cases hc : (l.length : Int) > 1048576
    · simp only [hb, hc, if_true, if_false]
      exact Ev.now true
    · simp only [hb, hc, if_false]
      have hs := spec_brk f m l (by omega) (by omega)
      have hi := impl_brk f m l (by omega) (by omega)
      have hf := toBoolS_ev f (by omega)
      have ht := toIntS_ev l (by omega)
      have hef := eqBoolS_ev f (by omega)
      have he := eqIntS_ev l (by omega)
      refine Ev.bind hf ?_
      refine Ev.bind ht ?_
      refine Ev.bind hs ?_
      refine Ev.bind hf ?_
      refine Ev.bind ht ?_
      refine Ev.bind hi ?_
      simp only [bne_self_eq_false, Bool.false_eq_true, if_false]
      refine Ev.bind hf ?_
      refine Ev.bind hef ?_
      simp only [if_true]
      refine Ev.bind ht ?_
      refine Ev.bind he ?_
      simp only [if_true]
      exact Ev.now true

end Go.Proofs.Ythlipgfmfgangaa.Pure
