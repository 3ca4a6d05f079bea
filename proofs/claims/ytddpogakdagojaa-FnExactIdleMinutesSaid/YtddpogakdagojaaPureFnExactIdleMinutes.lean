/- The plain statement of the law FnExactIdleMinutes: what its printed function answers; no conditions but that the numbers are Go's ints and the slices no longer than memory. -/
import Derived.Test.YtddpogakdagojaaQFnExactIdleMinutesx9
set_option linter.unusedVariables false
set_option linter.unusedSimpArgs false
namespace Go.Proofs.Ytddpogakdagojaa.Pure
open Go.RowKit Go.Proofs.Ytddpogakdagojaa.QFnExactIdleMinutes Go.Proofs.YtddpogakdagojaaW.PrintWords Go.Proofs.YtddpogakdagojaaW.PrintLast Go.Proofs.YtddpogakdagojaaW.PrintMore

theorem wf64 {x : Int} (h : (Lit.int .i64 x).wf = true) : -9223372036854775808 ≤ x ∧ x ≤ 9223372036854775807 := by
  simp only [Lit.wf, IntKind.min, IntKind.max, IntKind.signed, IntKind.bits, Bool.and_eq_true, decide_eq_true_eq, if_true] at h
  omega

theorem w64 {x : Int} (h1 : -9223372036854775808 ≤ x) (h2 : x ≤ 9223372036854775807) : wrap64 x = x := by
  unfold wrap64
  omega

theorem w64_nat (i : Nat) (h : i ≤ 9223372036854775806) : wrap64 ((i : Int) + 1) = ((i + 1 : Nat) : Int) := by
  unfold wrap64
  omega

theorem drop_cons {α : Type} (l : List α) (i : Nat) (h : i < l.length) : l.drop i = l[i] :: l.drop (i + 1) := List.drop_eq_getElem_cons h

theorem set_take {β : Type} (x : List β) (i : Nat) (v : β) (h : i < x.length) : (x.set i v).take (i + 1) = x.take i ++ [v] := by
  apply List.ext_getElem?
  intro j
  rcases Nat.lt_trichotomy j i with hj | hj | hj
  · rw [List.getElem?_take_of_lt (by omega), List.getElem?_set_ne (by omega), List.getElem?_append_left (by simp; omega), List.getElem?_take_of_lt (by omega)]
  · subst hj
    rw [List.getElem?_take_of_lt (by omega), List.getElem?_set_self (by omega), List.getElem?_append_right (by simp; omega)]
    simp [Nat.min_eq_left (Nat.le_of_lt h)]
  · rw [List.getElem?_take_eq_none (by omega), List.getElem?_append_right (by simp; omega)]
    simp
    omega

theorem copyLoop {α β : Type} (F : Nat → List β → Int → Option (List β)) (x0 : List α) (cv : α → β)
    (h1 : ∀ (x3 : List β) (i : Nat) (r : List β) (hi : i < x0.length), x3.length = x0.length → Ev (fun k => F k (x3.set i (cv x0[i])) ((i + 1 : Nat) : Int)) r → Ev (fun k => F k x3 (i : Int)) r)
    (h2 : ∀ x3 : List β, Ev (fun k => F k x3 (x0.length : Int)) x3) (init : List β) (hl : init.length = x0.length) : Ev (fun k => F k init 0) (x0.map cv) := by
  have key : ∀ (d i : Nat) (x3 : List β), i + d = x0.length → x3.length = x0.length → x3.take i = (x0.map cv).take i → Ev (fun k => F k x3 (i : Int)) (x0.map cv) := by
    intro d
    induction d with
    | zero =>
      intro i x3 hi hx ht
      obtain rfl : i = x0.length := by omega
      have e : x3 = x0.map cv := by
        rw [← hx, List.take_length] at ht
        rw [ht, hx]
        exact List.take_of_length_le (by simp)
      have := h2 x3
      rw [e] at this
      rw [e]
      exact this
    | succ d ih =>
      intro i x3 hi hx ht
      have hlt : i < x0.length := by omega
      refine h1 x3 i _ hlt hx (ih (i + 1) _ (by omega) (by rw [List.length_set]; exact hx) ?_)
      rw [set_take x3 i _ (by omega), ht]
      rw [List.take_succ_eq_append_getElem (by simpa using hlt)]
      simp
  have := key x0.length 0 init (by omega) hl (by simp)
  exact this

theorem eqLoop {α : Type} (F : Nat → Int → Option Bool) (x0 : List α)
    (h1 : ∀ (i : Nat) (r : Bool) (_ : i < x0.length), Ev (fun k => F k ((i + 1 : Nat) : Int)) r → Ev (fun k => F k (i : Int)) r)
    (h2 : Ev (fun k => F k (x0.length : Int)) true) : Ev (fun k => F k 0) true := by
  have key : ∀ (d i : Nat), i + d = x0.length → Ev (fun k => F k (i : Int)) true := by
    intro d
    induction d with
    | zero =>
      intro i hi
      obtain rfl : i = x0.length := by omega
      exact h2
    | succ d ih =>
      intro i hi
      exact h1 i true (by omega) (ih (i + 1) (by omega))
  exact key x0.length 0 (by omega)

theorem ite_eq_of {α : Type} {p : Prop} [Decidable p] {a b : α} (h : p) : (if p then a else b) = a := if_pos h

theorem Ev.one {α : Type} {g : Nat → Option α} {r : α} (h : ∀ k, g (k + 1) = some r) : Ev g r := Ev.step (f := fun _ => some r) h (Ev.now r)

theorem rd_get (l : List Int) (i : Nat) (h : i < l.length) : rd l (i : Int) = l[i] := by
  simp [rd, List.getD, List.getElem?_eq_getElem h]

theorem index_loop (l : List Int) (n : Int) (hl : l.length ≤ 1048576) (d : Nat) : ∀ i : Nat, i + d = l.length → ∃ r, Ev (fun k => slices_Index_int_int.l0 k l n (l.length : Int) (i : Int)) r ∧ decide (r ≥ 0) = decide (n ∈ l.drop i) := by
  induction d with
  | zero =>
    intro i h
    rw [List.drop_of_length_le (by omega)]
    refine ⟨-1, Ev.one (fun k => ?_), by simp⟩
    simp only [slices_Index_int_int.l0]
    rw [if_neg (by omega)]
  | succ d ih =>
    intro i h
    have hlt : i < l.length := by omega
    rw [drop_cons l i hlt]
    by_cases hc : n = l[i]
    · refine ⟨(i : Int), Ev.one (fun k => ?_), by rw [decide_eq_true (show (i : Int) ≥ 0 by omega), hc]; exact (decide_eq_true List.mem_cons_self).symm⟩
      simp only [slices_Index_int_int.l0]
      rw [if_pos (by omega), if_pos (by omega), if_pos (by omega), rd_get l i hlt, if_pos hc]
    · obtain ⟨r, hr, he⟩ := ih (i + 1) (by omega)
      refine ⟨r, Ev.step (fun k => ?_) hr, he.trans (decide_eq_decide.2 (by rw [List.mem_cons]; exact (or_iff_right hc).symm))⟩
      simp only [slices_Index_int_int.l0]
      rw [if_pos (by omega), if_pos (by omega), if_pos (by omega), rd_get l i hlt, if_neg hc, w64_nat i (by omega)]
theorem contains_ev (l : List Int) (n : Int) (hl : l.length ≤ 1048576) : Ev (fun k => slices_Contains_int_int.f k l n) (decide (n ∈ l)) := by
  obtain ⟨r, hr, he⟩ := index_loop l n hl l.length 0 (by omega)
  rw [List.drop_zero] at he
  simp only [slices_Contains_int_int.f, slices_Index_int_int.f]
  rw [← he]
  exact Ev.bind hr (Ev.now _)

theorem has_loop (l : List Int) (n : Int) (hl : l.length ≤ 1048576) (d : Nat) : ∀ i : Nat, i + d = l.length → Ev (fun k => spec_l27Has.l0 k l n (i : Int)) (decide (n ∈ l.drop i)) := by
  induction d with
  | zero =>
    intro i h
    rw [List.drop_of_length_le (by omega)]
    refine Ev.one (fun k => ?_)
    simp only [spec_l27Has.l0]
    rw [if_neg (by omega)]
    simp
  | succ d ih =>
    intro i h
    have hlt : i < l.length := by omega
    rw [drop_cons l i hlt]
    by_cases hc : l[i] = n
    · refine Ev.one (fun k => ?_)
      simp only [spec_l27Has.l0]
      rw [if_pos (by omega), if_pos (by omega), rd_get l i hlt, if_pos hc]
      simp [hc]
    · refine Ev.step (fun k => ?_) (by rw [show decide (n ∈ l[i] :: l.drop (i + 1)) = decide (n ∈ l.drop (i + 1)) from decide_eq_decide.2 (by rw [List.mem_cons]; exact or_iff_right (Ne.symm hc))]; exact ih (i + 1) (by omega))
      simp only [spec_l27Has.l0]
      rw [if_pos (by omega), if_pos (by omega), rd_get l i hlt, if_neg hc, w64_nat i (by omega)]
theorem has_ev (l : List Int) (n : Int) (hl : l.length ≤ 1048576) : Ev (fun k => spec_l27Has.f k l n) (decide (n ∈ l)) := has_loop l n hl l.length 0 (by omega)

def nextOk (p : Option Int) (x : Int) : Bool := match p with
  | none => true
  | some y => decide (y < x)
/-- All in bounds, each more than the one before. -/
def asc (lo hi : Int) : Option Int → List Int → Bool
  | _, [] => true
  | p, x :: l => (decide (lo ≤ x ∧ x ≤ hi) && nextOk p x) && asc lo hi (some x) l
def pv (l : List Int) (i : Nat) : Option Int := if i = 0 then none else l[i - 1]?
theorem pv_succ (l : List Int) (i : Nat) (h : i < l.length) : pv l (i + 1) = some l[i] := by
  simp [pv, List.getElem?_eq_getElem h]

theorem l1In_eq (a b c : Int) : spec_l1In.f a b c = some (decide (b ≤ a ∧ a ≤ c)) := by
  unfold spec_l1In.f
  split <;> simp <;> omega

theorem inRange_eq (a b c : Int) : impl_InRange.f a b c = some (decide (b ≤ a ∧ a ≤ c)) := by
  unfold impl_InRange.f
  split <;> simp <;> omega

theorem ascending_loop (l : List Int) (lo hi : Int) (hl : l.length ≤ 1048576) (d : Nat) : ∀ i : Nat, i + d = l.length →
    Ev (fun k => impl_ascending.l0 k l lo hi l (l.length : Int) (i : Int)) (asc lo hi (pv l i) (l.drop i)) := by
  induction d with
  | zero =>
    intro i h
    rw [List.drop_of_length_le (by omega)]
    refine Ev.one (fun k => ?_)
    simp only [impl_ascending.l0, asc]
    rw [if_neg (by omega)]
  | succ d ih =>
    intro i h
    have hlt : i < l.length := by omega
    have ih := ih (i + 1) (by omega)
    rw [pv_succ l i hlt] at ih
    rw [drop_cons l i hlt]
    simp only [asc]
    by_cases hc : lo ≤ l[i] ∧ l[i] ≤ hi
    · rw [decide_eq_true hc, Bool.true_and]
      rcases Nat.eq_zero_or_pos i with h0 | h0
      · subst h0
        refine Ev.step (fun k => ?_) (by rw [show nextOk (pv l 0) l[0] = true from rfl, Bool.true_and]; exact ih)
        simp only [impl_ascending.l0, inRange_eq, Option.bind_some]
        rw [if_pos (by omega), if_pos (by omega), if_pos (by omega), rd_get l 0 hlt, if_pos (decide_eq_true hc), if_neg (by omega), w64_nat 0 (by omega)]
      · have e1 : wrap64 ((i : Int) - 1) = ((i - 1 : Nat) : Int) := by rw [w64 (by omega) (by omega)]; omega
        have e2 : pv l i = some l[i - 1] := by simp [pv, List.getElem?_eq_getElem (show i - 1 < l.length by omega)]; omega
        by_cases hn : l[i - 1] < l[i]
        · refine Ev.step (fun k => ?_) (by rw [e2, show nextOk (some l[i - 1]) l[i] = true from decide_eq_true hn, Bool.true_and]; exact ih)
          simp only [impl_ascending.l0, inRange_eq, Option.bind_some, e1]
          rw [if_pos (by omega), if_pos (by omega), if_pos (by omega), rd_get l i hlt, rd_get l (i - 1) (by omega), if_pos (decide_eq_true hc), if_pos (by omega), if_pos (by omega), if_pos (by omega), if_neg (by omega), w64_nat i (by omega)]
        · rw [e2, show nextOk (some l[i - 1]) l[i] = false from decide_eq_false hn, Bool.false_and]
          refine Ev.one (fun k => ?_)
          simp only [impl_ascending.l0, inRange_eq, Option.bind_some, e1]
          rw [if_pos (by omega), if_pos (by omega), if_pos (by omega), rd_get l i hlt, rd_get l (i - 1) (by omega), if_pos (decide_eq_true hc), if_pos (by omega), if_pos (by omega), if_pos (by omega), if_pos (by omega)]
    · rw [decide_eq_false hc, Bool.false_and, Bool.false_and]
      refine Ev.one (fun k => ?_)
      simp only [impl_ascending.l0, inRange_eq, Option.bind_some]
      rw [if_pos (by omega), if_pos (by omega), if_pos (by omega), rd_get l i hlt, if_neg (by simpa using hc)]

theorem ascending_ev (l : List Int) (lo hi : Int) (hl : l.length ≤ 1048576) : Ev (fun k => impl_ascending.f k l lo hi) (asc lo hi none l) := ascending_loop l lo hi hl l.length 0 (by omega)

theorem ids_loop (l : List Int) (hl : l.length ≤ 1048576) (d : Nat) : ∀ i : Nat, i + d = l.length →
    Ev (fun k => spec_l30Ids.l0 k l (i : Int)) (asc 1 99 (pv l i) (l.drop i)) := by
  induction d with
  | zero =>
    intro i h
    rw [List.drop_of_length_le (by omega)]
    refine Ev.one (fun k => ?_)
    simp only [spec_l30Ids.l0, asc]
    rw [if_neg (by omega)]
  | succ d ih =>
    intro i h
    have hlt : i < l.length := by omega
    have ih := ih (i + 1) (by omega)
    rw [pv_succ l i hlt] at ih
    rw [drop_cons l i hlt]
    simp only [asc]
    by_cases hc : 1 ≤ l[i] ∧ l[i] ≤ 99
    · rw [decide_eq_true hc, Bool.true_and]
      rcases Nat.eq_zero_or_pos i with h0 | h0
      · subst h0
        refine Ev.step (fun k => ?_) (by rw [show nextOk (pv l 0) l[0] = true from rfl, Bool.true_and]; exact ih)
        simp only [spec_l30Ids.l0, l1In_eq, Option.bind_some]
        rw [if_pos (by omega), if_pos (by omega), rd_get l 0 hlt, if_pos (decide_eq_true hc), if_neg (by omega), w64_nat 0 (by omega)]
      · have e1 : wrap64 ((i : Int) - 1) = ((i - 1 : Nat) : Int) := by rw [w64 (by omega) (by omega)]; omega
        have e2 : pv l i = some l[i - 1] := by simp [pv, List.getElem?_eq_getElem (show i - 1 < l.length by omega)]; omega
        by_cases hn : l[i - 1] < l[i]
        · refine Ev.step (fun k => ?_) (by rw [e2, show nextOk (some l[i - 1]) l[i] = true from decide_eq_true hn, Bool.true_and]; exact ih)
          simp only [spec_l30Ids.l0, l1In_eq, Option.bind_some, e1]
          rw [if_pos (by omega), if_pos (by omega), rd_get l i hlt, rd_get l (i - 1) (by omega), if_pos (decide_eq_true hc), if_pos (by omega), if_pos (by omega), if_pos (by omega), if_neg (by omega), w64_nat i (by omega)]
        · rw [e2, show nextOk (some l[i - 1]) l[i] = false from decide_eq_false hn, Bool.false_and]
          refine Ev.one (fun k => ?_)
          simp only [spec_l30Ids.l0, l1In_eq, Option.bind_some, e1]
          rw [if_pos (by omega), if_pos (by omega), rd_get l i hlt, rd_get l (i - 1) (by omega), if_pos (decide_eq_true hc), if_pos (by omega), if_pos (by omega), if_pos (by omega), if_pos (by omega)]
    · rw [decide_eq_false hc, Bool.false_and, Bool.false_and]
      refine Ev.one (fun k => ?_)
      simp only [spec_l30Ids.l0, l1In_eq, Option.bind_some]
      rw [if_pos (by omega), if_pos (by omega), rd_get l i hlt, if_neg (by simpa using hc)]

theorem ids_ev (l : List Int) (hl : l.length ≤ 1048576) : Ev (fun k => spec_l30Ids.f k l) (asc 1 99 none l) := ids_loop l hl l.length 0 (by omega)


theorem toIntS_ev (l : List Int) (hl : l.length ≤ 35184372088832) : Ev (fun k => laws_toIntS.f k l) l := by
  have key := copyLoop (fun k x3 i => laws_toIntS.l0 k l x3 i) l (fun x => x) (by
    intro x3 i r hi hx h
    refine Ev.step (fun k => ?_) h
    simp only [laws_toIntS.l0]
    rw [if_pos (by omega), if_pos (by omega), if_pos (by omega), rd_get l i hi, w64_nat i (by omega), Int.toNat_natCast]) (by
    intro x3
    refine Ev.one (fun k => ?_)
    simp only [laws_toIntS.l0]
    rw [if_neg (by omega)]) (List.replicate l.length 0) (by simp)
  rw [List.map_id' l] at key
  refine Ev.congr (fun k => ?_) key
  simp only [laws_toIntS.f, Int.toNat_natCast]
  rw [if_pos (by omega), if_pos hl]

theorem eqIntS_ev (l : List Int) (hl : l.length ≤ 140737488355328) : Ev (fun k => laws_eqIntS.f k l l) true := by
  have key := eqLoop (fun k i => laws_eqIntS.l0 k l l i) l (by
    intro i r hi h
    refine Ev.step (fun k => ?_) h
    simp only [laws_eqIntS.l0]
    rw [if_pos (by omega), if_pos (by omega), if_pos (by omega), if_pos trivial, w64_nat i (by omega)]) (by
    refine Ev.one (fun k => ?_)
    simp only [laws_eqIntS.l0]
    rw [if_neg (by omega)])
  refine Ev.congr (fun k => ?_) key
  simp only [laws_eqIntS.f]
  rw [if_pos trivial]

theorem rdHour_get (l : List S55) (i : Nat) (h : i < l.length) : rd_T55 l (i : Int) = l[i] := by
  simp [rd_T55, List.getD, List.getElem?_eq_getElem h]

theorem rdlHour_get (l : List S61) (i : Nat) (h : i < l.length) : rd_T61 l (i : Int) = l[i] := by
  simp [rd_T61, List.getD, List.getElem?_eq_getElem h]

theorem szHour_ev (x : S61) (b : Int) (hb : 0 ≤ b) (hb2 : b ≤ 1048576) (h0 : x.f1.length ≤ 9223372036854775807) : laws_szHour.f x.f0 x.f1 b = some (if b < (x.f1.length : Int) then -1 else b - (x.f1.length : Int)) := by
  simp only [laws_szHour.f, laws_szIntS.f]
  rw [w64 (by omega) (by omega)]
  by_cases h : b < (x.f1.length : Int)
  · rw [if_pos (by omega), if_pos h]
    rfl
  · rw [if_neg (by omega), if_neg h]
    simp only [Option.bind_some]
    rw [if_neg (by omega)]

theorem szHourS_loop (l : List S61) (hl : l.length ≤ 1048576) (hx : ∀ x ∈ l, x.f1.length ≤ 9223372036854775807) (d : Nat) : ∀ (i : Nat) (b : Int), i + d = l.length → 0 ≤ b → b ≤ 1048576 →
    ∃ r, Ev (fun k => laws_szHourS.l0 k l b (i : Int)) r ∧ (r < 0 ∨ 0 ≤ r ∧ r ≤ 1048576 ∧ ∀ (j : Nat) (h : j < l.length), i ≤ j → l[j].f1.length ≤ 1048576) := by
  induction d with
  | zero =>
    intro i b hi h0 h1
    refine ⟨b, Ev.one (fun k => ?_), .inr ⟨h0, h1, fun j h hj => by omega⟩⟩
    simp only [laws_szHourS.l0]
    rw [if_neg (by omega)]
  | succ d ih =>
    intro i b hi h0 h1
    have hlt : i < l.length := by omega
    have hsz := szHour_ev l[i] b h0 h1 (hx _ (List.getElem_mem hlt))
    by_cases hc : b < (l[i].f1.length : Int)
    · refine ⟨-1, Ev.one (fun k => ?_), .inl (by omega)⟩
      simp only [laws_szHourS.l0]
      rw [if_pos (by omega), if_pos (by omega), rdlHour_get l i hlt, hsz, if_pos hc]
      rfl
    · obtain ⟨r, hr, hor⟩ := ih (i + 1) (b - (l[i].f1.length : Int)) (by omega) (by omega) (by omega)
      refine ⟨r, Ev.step (fun k => ?_) hr, ?_⟩
      · simp only [laws_szHourS.l0]
        rw [if_pos (by omega), if_pos (by omega), rdlHour_get l i hlt, hsz, if_neg hc]
        simp only [Option.bind_some]
        rw [if_neg (by omega), w64_nat i (by omega)]
      · rcases hor with h | ⟨h2, h3, h4⟩
        · exact .inl h
        · refine .inr ⟨h2, h3, fun j hj hij => ?_⟩
          rcases Nat.eq_or_lt_of_le hij with rfl | hlt2
          · omega
          · exact h4 j hj (by omega)

theorem szHourS_ev (l : List S61) (b : Int) (hb : 0 ≤ b) (hb2 : b ≤ 1048576) (h0 : l.length ≤ 9223372036854775807) (hx : ∀ x ∈ l, x.f1.length ≤ 9223372036854775807) :
    ∃ r, Ev (fun k => laws_szHourS.f k l b) r ∧ (r < 0 ∨ 0 ≤ r ∧ r ≤ 1048576 ∧ l.length ≤ 1048576 ∧ ∀ x ∈ l, x.f1.length ≤ 1048576) := by
  by_cases hc : b < (l.length : Int)
  · refine ⟨-1, Ev.one (fun k => ?_), .inl (by omega)⟩
    simp only [laws_szHourS.f]
    rw [w64 (by omega) (by omega), if_pos (by omega)]
  · obtain ⟨r, hr, hor⟩ := szHourS_loop l (by omega) hx l.length 0 (b - (l.length : Int)) (by omega) (by omega) (by omega)
    refine ⟨r, Ev.congr (fun k => ?_) hr, ?_⟩
    · simp only [laws_szHourS.f]
      rw [w64 (by omega) (by omega), if_neg (by omega)]
      rfl
    · rcases hor with h | ⟨h2, h3, h4⟩
      · exact .inl h
      · refine .inr ⟨h2, h3, by omega, fun x hx => ?_⟩
        obtain ⟨j, hj, rfl⟩ := List.getElem_of_mem hx
        exact h4 j hj (by omega)

def cvHour (x : S61) : S55 := ⟨x.f0, x.f1⟩

theorem toHourS_ev (l : List S61) (hl : l.length ≤ 1048576) (hx : ∀ x ∈ l, x.f1.length ≤ 1048576) : Ev (fun k => laws_toHourS.f k l) (l.map cvHour) := by
  have key := copyLoop (fun k x3 i => laws_toHourS.l0 k l x3 i) l cvHour (by
    intro x3 i r hi hx3 h
    refine Ev.step (f := fun k => (laws_toHour.f k l[i].f0 l[i].f1).bind fun t => laws_toHourS.l0 k l (x3.set i (⟨t.1, t.2⟩ : S55)) ((i + 1 : Nat) : Int)) (fun k => ?_) ?_
    · have hc : (i : Int) < (x3.length : Int) := by omega
      simp only [laws_toHourS.l0, hc, if_true, Int.toNat_natCast]
      rw [if_pos (by omega), if_pos (by omega), rdlHour_get l i hi, w64_nat i (by omega)]
    · refine Ev.bind (a := (l[i].f0, l[i].f1)) ?_ h
      simp only [laws_toHour.f]
      exact Ev.bind (toIntS_ev l[i].f1 (by have := hx _ (List.getElem_mem hi); omega)) (Ev.now _)) (by
    intro x3
    refine Ev.one (fun k => ?_)
    simp only [laws_toHourS.l0]
    rw [if_neg (by omega)]) (List.replicate l.length z55) (by simp)
  refine Ev.congr (fun k => ?_) key
  simp only [laws_toHourS.f, Int.toNat_natCast]
  rw [if_pos (by omega), if_pos (by omega)]

theorem eqHourS_ev (l : List S55) (hl : l.length ≤ 1048576) (hx : ∀ x ∈ l, x.f1.length ≤ 1048576) : Ev (fun k => laws_eqHourS.f k l l) true := by
  have key := eqLoop (fun k i => laws_eqHourS.l0 k l l i) l (by
    intro i r hi h
    refine Ev.step (f := fun k => (laws_eqHour.f k l[i].f0 l[i].f1 l[i].f0 l[i].f1).bind fun t => if t = true then laws_eqHourS.l0 k l l ((i + 1 : Nat) : Int) else some false) (fun k => ?_) ?_
    · simp only [laws_eqHourS.l0]
      rw [if_pos (by omega), if_pos (by omega), if_pos (by omega), rdHour_get l i hi, w64_nat i (by omega)]
    · refine Ev.bind (a := true) ?_ ?_
      · simp only [laws_eqHour.f, if_true]
        refine Ev.bind (eqIntS_ev l[i].f1 (by have := hx _ (List.getElem_mem hi); omega)) ?_
        simp only [if_true]
        exact Ev.now true
      · simp only [if_true]
        exact h) (by
    refine Ev.one (fun k => ?_)
    simp only [laws_eqHourS.l0]
    rw [if_neg (by omega)])
  refine Ev.congr (fun k => ?_) key
  simp only [laws_eqHourS.f, if_true]

def hourOk (x : S55) : Bool := decide (0 ≤ x.f0 ∧ x.f0 ≤ 240) && asc 1 99 none x.f1
def areHours (l : List S55) : Bool := l.all hourOk && decide (l.length ≤ 10)

theorem spec_hours_loop (l : List S55) (hl : l.length ≤ 1048576) (hx : ∀ x ∈ l, x.f1.length ≤ 1048576) (d : Nat) : ∀ i : Nat, i + d = l.length →
    Ev (fun k => spec_AreHours.l0 k l (i : Int)) ((l.drop i).all hourOk && decide (l.length ≤ 10)) := by
  induction d with
  | zero =>
    intro i h
    rw [List.drop_of_length_le (by omega)]
    refine Ev.one (fun k => ?_)
    simp only [spec_AreHours.l0, List.all_nil, Bool.true_and]
    rw [if_neg (by omega)]
    exact congrArg some (decide_eq_decide.2 (by omega))
  | succ d ih =>
    intro i h
    have hlt : i < l.length := by omega
    have ih := ih (i + 1) (by omega)
    rw [drop_cons l i hlt, List.all_cons, hourOk, Bool.and_assoc, Bool.and_assoc]
    by_cases hc : 0 ≤ l[i].f0 ∧ l[i].f0 ≤ 240
    · rw [decide_eq_true hc, Bool.true_and]
      refine Ev.step (f := fun k => (spec_l30Ids.f k l[i].f1).bind fun t => if t = true then spec_AreHours.l0 k l ((i + 1 : Nat) : Int) else some false) (fun k => ?_) ?_
      · simp only [spec_AreHours.l0, l1In_eq, Option.bind_some]
        rw [if_pos (by omega), if_pos (by omega), rdHour_get l i hlt, if_pos (decide_eq_true hc), w64_nat i (by omega)]
      · refine Ev.bind (ids_ev _ (hx _ (List.getElem_mem hlt))) ?_
        generalize asc 1 99 none l[i].f1 = q
        cases q
        · simp only [Bool.false_eq_true, if_false, Bool.false_and]
          exact Ev.now false
        · simp only [if_true, Bool.true_and]
          exact ih
    · rw [decide_eq_false hc, Bool.false_and]
      refine Ev.one (fun k => ?_)
      simp only [spec_AreHours.l0, l1In_eq, Option.bind_some]
      rw [if_pos (by omega), if_pos (by omega), rdHour_get l i hlt, if_neg (by simpa using hc)]

theorem spec_hours (l : List S55) (hl : l.length ≤ 1048576) (hx : ∀ x ∈ l, x.f1.length ≤ 1048576) : Ev (fun k => spec_AreHours.f k l) (areHours l) := spec_hours_loop l hl hx l.length 0 (by omega)

theorem hour_bad (x : S55) (hx : x.f1.length ≤ 1048576) : Ev (fun k => impl_AreHours_1.f k x.f0 x.f1) (!hourOk x) := by
  simp only [impl_AreHours_1.f, inRange_eq, Option.bind_some, hourOk]
  by_cases hc : 0 ≤ x.f0 ∧ x.f0 ≤ 240
  · simp only [decide_eq_true hc, if_true, Bool.true_and]
    exact Ev.bind (ascending_ev _ 1 99 hx) (Ev.now _)
  · simp only [decide_eq_false hc, Bool.false_eq_true, if_false, Bool.false_and, Bool.not_false]
    exact Ev.now true

theorem index_hours (l : List S55) (hl : l.length ≤ 1048576) (hx : ∀ x ∈ l, x.f1.length ≤ 1048576) (d : Nat) : ∀ i : Nat, i + d = l.length →
    ∃ r, Ev (fun k => slices_IndexFunc_at43.l0 k l (l.length : Int) (i : Int)) r ∧ decide (r ≥ 0) = !(l.drop i).all hourOk := by
  induction d with
  | zero =>
    intro i h
    refine ⟨-1, Ev.one (fun k => ?_), by rw [List.drop_of_length_le (by omega)]; rfl⟩
    simp only [slices_IndexFunc_at43.l0]
    rw [if_neg (by omega)]
  | succ d ih =>
    intro i h
    have hlt : i < l.length := by omega
    obtain ⟨r, hr, he⟩ := ih (i + 1) (by omega)
    have hb := hour_bad l[i] (hx _ (List.getElem_mem hlt))
    rw [drop_cons l i hlt, List.all_cons]
    cases hq : hourOk l[i]
    · rw [hq] at hb
      refine ⟨(i : Int), Ev.step (f := fun k => (impl_AreHours_1.f k l[i].f0 l[i].f1).bind fun t => if t = true then some (i : Int) else slices_IndexFunc_at43.l0 k l (l.length : Int) ((i + 1 : Nat) : Int)) (fun k => ?_) ?_, by simp⟩
      · simp only [slices_IndexFunc_at43.l0]
        rw [if_pos (by omega), if_pos (by omega), if_pos (by omega), rdHour_get l i hlt, w64_nat i (by omega)]
      · refine Ev.bind hb ?_
        simp only [Bool.not_false, if_true]
        exact Ev.now _
    · rw [hq] at hb
      refine ⟨r, Ev.step (f := fun k => (impl_AreHours_1.f k l[i].f0 l[i].f1).bind fun t => if t = true then some (i : Int) else slices_IndexFunc_at43.l0 k l (l.length : Int) ((i + 1 : Nat) : Int)) (fun k => ?_) ?_, by rw [Bool.true_and]; exact he⟩
      · simp only [slices_IndexFunc_at43.l0]
        rw [if_pos (by omega), if_pos (by omega), if_pos (by omega), rdHour_get l i hlt, w64_nat i (by omega)]
      · refine Ev.bind hb ?_
        simp only [Bool.not_true, Bool.false_eq_true, if_false]
        exact hr

theorem impl_hours (l : List S55) (hl : l.length ≤ 1048576) (hx : ∀ x ∈ l, x.f1.length ≤ 1048576) : Ev (fun k => impl_AreHours.f k l) (areHours l) := by
  obtain ⟨r, hr, he⟩ := index_hours l hl hx l.length 0 (by omega)
  simp only [impl_AreHours.f, areHours]
  by_cases h : (l.length : Int) ≤ 10
  · simp only [h, if_true]
    rw [decide_eq_true (show l.length ≤ 10 by omega), Bool.and_true]
    refine Ev.bind (a := !l.all hourOk) ?_ ?_
    · simp only [slices_ContainsFunc_at43.f]
      refine Ev.bind hr ?_
      rw [he]
      exact Ev.now _
    · simp only [Bool.not_not]
      exact Ev.now _
  · simp only [h, if_false]
    rw [decide_eq_false (show ¬ l.length ≤ 10 by omega), Bool.and_false]
    exact Ev.now false

def allIn (a b : List Int) : Bool := a.all (fun x => decide (x ∈ b))
theorem spec_all_loop (a b : List Int) (ha : a.length ≤ 1048576) (hb : b.length ≤ 1048576) (d : Nat) : ∀ i : Nat, i + d = a.length → Ev (fun k => spec_l30All.l0 k a b (i : Int)) (allIn (a.drop i) b) := by
  induction d with
  | zero =>
    intro i h
    rw [List.drop_of_length_le (by omega)]
    refine Ev.one (fun k => ?_)
    simp only [spec_l30All.l0]
    rw [if_neg (by omega)]
    rfl
  | succ d ih =>
    intro i h
    have hlt : i < a.length := by omega
    rw [drop_cons a i hlt]
    simp only [allIn, List.all_cons]
    refine Ev.step (f := fun k => (spec_l27Has.f k b a[i]).bind fun t => if t = true then spec_l30All.l0 k a b ((i + 1 : Nat) : Int) else some false) (fun k => ?_) (Ev.bind (has_ev b a[i] hb) ?_)
    · simp only [spec_l30All.l0]
      rw [if_pos (by omega), if_pos (by omega), rd_get a i hlt, w64_nat i (by omega)]
    · by_cases hc : a[i] ∈ b
      · simp only [hc, decide_true, if_true, Bool.true_and]
        exact ih (i + 1) (by omega)
      · simp only [hc, decide_false, Bool.false_eq_true, if_false, Bool.false_and]
        exact Ev.now _
theorem spec_all (a b : List Int) (ha : a.length ≤ 1048576) (hb : b.length ≤ 1048576) : Ev (fun k => spec_l30All.f k a b) (allIn a b) := spec_all_loop a b ha hb a.length 0 (by omega)
theorem meets_1 (n : Int) (h : S55) (hb : h.f1.length ≤ 1048576) : Ev (fun k => impl_meets_1.f k n [h]) (!decide (n ∈ h.f1)) := by
  have e : rd_T55 [h] 0 = h := rfl
  have h1 : 0 < (([h] : List S55).length : Int) := by simp
  simp only [impl_meets_1.f, h1, if_true, e]
  exact Ev.bind (contains_ev h.f1 n hb) (Ev.now _)
theorem meets_index (a : List Int) (h : S55) (ha : a.length ≤ 1048576) (hb : h.f1.length ≤ 1048576) (d : Nat) : ∀ i : Nat, i + d = a.length →
    ∃ r, Ev (fun k => slices_IndexFunc_at67.l0 k a (a.length : Int) (i : Int) [h]) r ∧ decide (r ≥ 0) = !allIn (a.drop i) h.f1 := by
  induction d with
  | zero =>
    intro i hi
    refine ⟨-1, Ev.one (fun k => ?_), by rw [List.drop_of_length_le (by omega)]; rfl⟩
    simp only [slices_IndexFunc_at67.l0]
    rw [if_neg (by omega)]
  | succ d ih =>
    intro i hi
    have hlt : i < a.length := by omega
    obtain ⟨r, hr, he⟩ := ih (i + 1) (by omega)
    have hm := meets_1 a[i] h hb
    rw [drop_cons a i hlt]
    simp only [allIn, List.all_cons] at he ⊢
    by_cases hq : a[i] ∈ h.f1
    · rw [decide_eq_true hq] at hm
      refine ⟨r, Ev.step (f := fun k => (impl_meets_1.f k a[i] [h]).bind fun t => if t = true then some (i : Int) else slices_IndexFunc_at67.l0 k a (a.length : Int) ((i + 1 : Nat) : Int) [h]) (fun k => ?_) ?_, by rw [decide_eq_true hq, Bool.true_and]; exact he⟩
      · simp only [slices_IndexFunc_at67.l0]
        rw [if_pos (by omega), if_pos (by omega), if_pos (by omega), rd_get a i hlt, w64_nat i (by omega)]
      · refine Ev.bind hm ?_
        simp only [Bool.not_true, Bool.false_eq_true, if_false]
        exact hr
    · rw [decide_eq_false hq] at hm
      refine ⟨(i : Int), Ev.step (f := fun k => (impl_meets_1.f k a[i] [h]).bind fun t => if t = true then some (i : Int) else slices_IndexFunc_at67.l0 k a (a.length : Int) ((i + 1 : Nat) : Int) [h]) (fun k => ?_) ?_, by rw [decide_eq_false hq]; simp⟩
      · simp only [slices_IndexFunc_at67.l0]
        rw [if_pos (by omega), if_pos (by omega), if_pos (by omega), rd_get a i hlt, w64_nat i (by omega)]
      · refine Ev.bind hm ?_
        simp only [Bool.not_false, if_true]
        exact Ev.now _
theorem meets_ev (p : Int) (a : List Int) (q : Int) (b : List Int) (ha : a.length ≤ 1048576) (hb : b.length ≤ 1048576) : Ev (fun k => impl_meets.f k p a q b) (allIn a b) := by
  obtain ⟨r, hr, he⟩ := meets_index a ⟨q, b⟩ ha hb a.length 0 (by omega)
  rw [List.drop_zero] at he
  simp only [impl_meets.f, slices_ContainsFunc_at67.f]
  refine Ev.bind (a := !allIn a b) ?_ ?_
  · refine Ev.bind hr ?_
    rw [he]
    exact Ev.now _
  · simp only [Bool.not_not]
    exact Ev.now _

theorem rdPassage_get (l : List S59) (i : Nat) (h : i < l.length) : rd_T59 l (i : Int) = l[i] := by
  simp [rd_T59, List.getD, List.getElem?_eq_getElem h]

theorem rdlPassage_get (l : List S70) (i : Nat) (h : i < l.length) : rd_T70 l (i : Int) = l[i] := by
  simp [rd_T70, List.getD, List.getElem?_eq_getElem h]

theorem szPassage_ev (x : S70) (b : Int) (hb : 0 ≤ b) (hb2 : b ≤ 1048576) (h0 : x.f1.length ≤ 9223372036854775807) : laws_szPassage.f x.f0 x.f1 b = some (if b < (x.f1.length : Int) then -1 else b - (x.f1.length : Int)) := by
  simp only [laws_szPassage.f, laws_szIntS.f]
  rw [w64 (by omega) (by omega)]
  by_cases h : b < (x.f1.length : Int)
  · rw [if_pos (by omega), if_pos h]
    rfl
  · rw [if_neg (by omega), if_neg h]
    simp only [Option.bind_some]
    rw [if_neg (by omega)]

theorem szPassageS_loop (l : List S70) (hl : l.length ≤ 1048576) (hx : ∀ x ∈ l, x.f1.length ≤ 9223372036854775807) (d : Nat) : ∀ (i : Nat) (b : Int), i + d = l.length → 0 ≤ b → b ≤ 1048576 →
    ∃ r, Ev (fun k => laws_szPassageS.l0 k l b (i : Int)) r ∧ (r < 0 ∨ 0 ≤ r ∧ r ≤ 1048576 ∧ ∀ (j : Nat) (h : j < l.length), i ≤ j → l[j].f1.length ≤ 1048576) := by
  induction d with
  | zero =>
    intro i b hi h0 h1
    refine ⟨b, Ev.one (fun k => ?_), .inr ⟨h0, h1, fun j h hj => by omega⟩⟩
    simp only [laws_szPassageS.l0]
    rw [if_neg (by omega)]
  | succ d ih =>
    intro i b hi h0 h1
    have hlt : i < l.length := by omega
    have hsz := szPassage_ev l[i] b h0 h1 (hx _ (List.getElem_mem hlt))
    by_cases hc : b < (l[i].f1.length : Int)
    · refine ⟨-1, Ev.one (fun k => ?_), .inl (by omega)⟩
      simp only [laws_szPassageS.l0]
      rw [if_pos (by omega), if_pos (by omega), rdlPassage_get l i hlt, hsz, if_pos hc]
      rfl
    · obtain ⟨r, hr, hor⟩ := ih (i + 1) (b - (l[i].f1.length : Int)) (by omega) (by omega) (by omega)
      refine ⟨r, Ev.step (fun k => ?_) hr, ?_⟩
      · simp only [laws_szPassageS.l0]
        rw [if_pos (by omega), if_pos (by omega), rdlPassage_get l i hlt, hsz, if_neg hc]
        simp only [Option.bind_some]
        rw [if_neg (by omega), w64_nat i (by omega)]
      · rcases hor with h | ⟨h2, h3, h4⟩
        · exact .inl h
        · refine .inr ⟨h2, h3, fun j hj hij => ?_⟩
          rcases Nat.eq_or_lt_of_le hij with rfl | hlt2
          · omega
          · exact h4 j hj (by omega)

theorem szPassageS_ev (l : List S70) (b : Int) (hb : 0 ≤ b) (hb2 : b ≤ 1048576) (h0 : l.length ≤ 9223372036854775807) (hx : ∀ x ∈ l, x.f1.length ≤ 9223372036854775807) :
    ∃ r, Ev (fun k => laws_szPassageS.f k l b) r ∧ (r < 0 ∨ 0 ≤ r ∧ r ≤ 1048576 ∧ l.length ≤ 1048576 ∧ ∀ x ∈ l, x.f1.length ≤ 1048576) := by
  by_cases hc : b < (l.length : Int)
  · refine ⟨-1, Ev.one (fun k => ?_), .inl (by omega)⟩
    simp only [laws_szPassageS.f]
    rw [w64 (by omega) (by omega), if_pos (by omega)]
  · obtain ⟨r, hr, hor⟩ := szPassageS_loop l (by omega) hx l.length 0 (b - (l.length : Int)) (by omega) (by omega) (by omega)
    refine ⟨r, Ev.congr (fun k => ?_) hr, ?_⟩
    · simp only [laws_szPassageS.f]
      rw [w64 (by omega) (by omega), if_neg (by omega)]
      rfl
    · rcases hor with h | ⟨h2, h3, h4⟩
      · exact .inl h
      · refine .inr ⟨h2, h3, by omega, fun x hx => ?_⟩
        obtain ⟨j, hj, rfl⟩ := List.getElem_of_mem hx
        exact h4 j hj (by omega)

def cvPassage (x : S70) : S59 := ⟨x.f0, x.f1⟩

theorem toPassageS_ev (l : List S70) (hl : l.length ≤ 1048576) (hx : ∀ x ∈ l, x.f1.length ≤ 1048576) : Ev (fun k => laws_toPassageS.f k l) (l.map cvPassage) := by
  have key := copyLoop (fun k x3 i => laws_toPassageS.l0 k l x3 i) l cvPassage (by
    intro x3 i r hi hx3 h
    refine Ev.step (f := fun k => (laws_toPassage.f k l[i].f0 l[i].f1).bind fun t => laws_toPassageS.l0 k l (x3.set i (⟨t.1, t.2⟩ : S59)) ((i + 1 : Nat) : Int)) (fun k => ?_) ?_
    · have hc : (i : Int) < (x3.length : Int) := by omega
      simp only [laws_toPassageS.l0, hc, if_true, Int.toNat_natCast]
      rw [if_pos (by omega), if_pos (by omega), rdlPassage_get l i hi, w64_nat i (by omega)]
    · refine Ev.bind (a := (l[i].f0, l[i].f1)) ?_ h
      simp only [laws_toPassage.f]
      exact Ev.bind (toIntS_ev l[i].f1 (by have := hx _ (List.getElem_mem hi); omega)) (Ev.now _)) (by
    intro x3
    refine Ev.one (fun k => ?_)
    simp only [laws_toPassageS.l0]
    rw [if_neg (by omega)]) (List.replicate l.length z59) (by simp)
  refine Ev.congr (fun k => ?_) key
  simp only [laws_toPassageS.f, Int.toNat_natCast]
  rw [if_pos (by omega), if_pos (by omega)]

theorem eqPassageS_ev (l : List S59) (hl : l.length ≤ 1048576) (hx : ∀ x ∈ l, x.f1.length ≤ 1048576) : Ev (fun k => laws_eqPassageS.f k l l) true := by
  have key := eqLoop (fun k i => laws_eqPassageS.l0 k l l i) l (by
    intro i r hi h
    refine Ev.step (f := fun k => (laws_eqPassage.f k l[i].f0 l[i].f1 l[i].f0 l[i].f1).bind fun t => if t = true then laws_eqPassageS.l0 k l l ((i + 1 : Nat) : Int) else some false) (fun k => ?_) ?_
    · simp only [laws_eqPassageS.l0]
      rw [if_pos (by omega), if_pos (by omega), if_pos (by omega), rdPassage_get l i hi, w64_nat i (by omega)]
    · refine Ev.bind (a := true) ?_ ?_
      · simp only [laws_eqPassage.f, if_true]
        refine Ev.bind (eqIntS_ev l[i].f1 (by have := hx _ (List.getElem_mem hi); omega)) ?_
        simp only [if_true]
        exact Ev.now true
      · simp only [if_true]
        exact h) (by
    refine Ev.one (fun k => ?_)
    simp only [laws_eqPassageS.l0]
    rw [if_neg (by omega)])
  refine Ev.congr (fun k => ?_) key
  simp only [laws_eqPassageS.f, if_true]

def passageOk (x : S59) : Bool := decide (1 ≤ x.f0 ∧ x.f0 ≤ 60) && asc 1 99 none x.f1
def arePassages (l : List S59) : Bool := l.all passageOk && decide (l.length ≤ 10)

theorem spec_passages_loop (l : List S59) (hl : l.length ≤ 1048576) (hx : ∀ x ∈ l, x.f1.length ≤ 1048576) (d : Nat) : ∀ i : Nat, i + d = l.length →
    Ev (fun k => spec_ArePassages.l0 k l (i : Int)) ((l.drop i).all passageOk && decide (l.length ≤ 10)) := by
  induction d with
  | zero =>
    intro i h
    rw [List.drop_of_length_le (by omega)]
    refine Ev.one (fun k => ?_)
    simp only [spec_ArePassages.l0, List.all_nil, Bool.true_and]
    rw [if_neg (by omega)]
    exact congrArg some (decide_eq_decide.2 (by omega))
  | succ d ih =>
    intro i h
    have hlt : i < l.length := by omega
    have ih := ih (i + 1) (by omega)
    rw [drop_cons l i hlt, List.all_cons, passageOk, Bool.and_assoc, Bool.and_assoc]
    by_cases hc : 1 ≤ l[i].f0 ∧ l[i].f0 ≤ 60
    · rw [decide_eq_true hc, Bool.true_and]
      refine Ev.step (f := fun k => (spec_l30Ids.f k l[i].f1).bind fun t => if t = true then spec_ArePassages.l0 k l ((i + 1 : Nat) : Int) else some false) (fun k => ?_) ?_
      · simp only [spec_ArePassages.l0, l1In_eq, Option.bind_some]
        rw [if_pos (by omega), if_pos (by omega), rdPassage_get l i hlt, if_pos (decide_eq_true hc), w64_nat i (by omega)]
      · refine Ev.bind (ids_ev _ (hx _ (List.getElem_mem hlt))) ?_
        generalize asc 1 99 none l[i].f1 = q
        cases q
        · simp only [Bool.false_eq_true, if_false, Bool.false_and]
          exact Ev.now false
        · simp only [if_true, Bool.true_and]
          exact ih
    · rw [decide_eq_false hc, Bool.false_and]
      refine Ev.one (fun k => ?_)
      simp only [spec_ArePassages.l0, l1In_eq, Option.bind_some]
      rw [if_pos (by omega), if_pos (by omega), rdPassage_get l i hlt, if_neg (by simpa using hc)]

theorem spec_passages (l : List S59) (hl : l.length ≤ 1048576) (hx : ∀ x ∈ l, x.f1.length ≤ 1048576) : Ev (fun k => spec_ArePassages.f k l) (arePassages l) := spec_passages_loop l hl hx l.length 0 (by omega)

theorem passage_bad (x : S59) (hx : x.f1.length ≤ 1048576) : Ev (fun k => impl_ArePassages_1.f k x.f0 x.f1) (!passageOk x) := by
  simp only [impl_ArePassages_1.f, inRange_eq, Option.bind_some, passageOk]
  by_cases hc : 1 ≤ x.f0 ∧ x.f0 ≤ 60
  · simp only [decide_eq_true hc, if_true, Bool.true_and]
    exact Ev.bind (ascending_ev _ 1 99 hx) (Ev.now _)
  · simp only [decide_eq_false hc, Bool.false_eq_true, if_false, Bool.false_and, Bool.not_false]
    exact Ev.now true

theorem index_passages (l : List S59) (hl : l.length ≤ 1048576) (hx : ∀ x ∈ l, x.f1.length ≤ 1048576) (d : Nat) : ∀ i : Nat, i + d = l.length →
    ∃ r, Ev (fun k => slices_IndexFunc_at50.l0 k l (l.length : Int) (i : Int)) r ∧ decide (r ≥ 0) = !(l.drop i).all passageOk := by
  induction d with
  | zero =>
    intro i h
    refine ⟨-1, Ev.one (fun k => ?_), by rw [List.drop_of_length_le (by omega)]; rfl⟩
    simp only [slices_IndexFunc_at50.l0]
    rw [if_neg (by omega)]
  | succ d ih =>
    intro i h
    have hlt : i < l.length := by omega
    obtain ⟨r, hr, he⟩ := ih (i + 1) (by omega)
    have hb := passage_bad l[i] (hx _ (List.getElem_mem hlt))
    rw [drop_cons l i hlt, List.all_cons]
    cases hq : passageOk l[i]
    · rw [hq] at hb
      refine ⟨(i : Int), Ev.step (f := fun k => (impl_ArePassages_1.f k l[i].f0 l[i].f1).bind fun t => if t = true then some (i : Int) else slices_IndexFunc_at50.l0 k l (l.length : Int) ((i + 1 : Nat) : Int)) (fun k => ?_) ?_, by simp⟩
      · simp only [slices_IndexFunc_at50.l0]
        rw [if_pos (by omega), if_pos (by omega), if_pos (by omega), rdPassage_get l i hlt, w64_nat i (by omega)]
      · refine Ev.bind hb ?_
        simp only [Bool.not_false, if_true]
        exact Ev.now _
    · rw [hq] at hb
      refine ⟨r, Ev.step (f := fun k => (impl_ArePassages_1.f k l[i].f0 l[i].f1).bind fun t => if t = true then some (i : Int) else slices_IndexFunc_at50.l0 k l (l.length : Int) ((i + 1 : Nat) : Int)) (fun k => ?_) ?_, by rw [Bool.true_and]; exact he⟩
      · simp only [slices_IndexFunc_at50.l0]
        rw [if_pos (by omega), if_pos (by omega), if_pos (by omega), rdPassage_get l i hlt, w64_nat i (by omega)]
      · refine Ev.bind hb ?_
        simp only [Bool.not_true, Bool.false_eq_true, if_false]
        exact hr

theorem impl_passages (l : List S59) (hl : l.length ≤ 1048576) (hx : ∀ x ∈ l, x.f1.length ≤ 1048576) : Ev (fun k => impl_ArePassages.f k l) (arePassages l) := by
  obtain ⟨r, hr, he⟩ := index_passages l hl hx l.length 0 (by omega)
  simp only [impl_ArePassages.f, arePassages]
  by_cases h : (l.length : Int) ≤ 10
  · simp only [h, if_true]
    rw [decide_eq_true (show l.length ≤ 10 by omega), Bool.and_true]
    refine Ev.bind (a := !l.all passageOk) ?_ ?_
    · simp only [slices_ContainsFunc_at50.f]
      refine Ev.bind hr ?_
      rw [he]
      exact Ev.now _
    · simp only [Bool.not_not]
      exact Ev.now _
  · simp only [h, if_false]
    rw [decide_eq_false (show ¬ l.length ≤ 10 by omega), Bool.and_false]
    exact Ev.now false

def stepU (u : List Int) (a : Int) (p : S59) : List Int := u.set a.toNat (wrap64 (rd u a + p.f0))
def planL (H : List S55) : List S59 → List Int → List Int → Bool
  | p :: P, a :: A, u => if 0 ≤ a ∧ a ≤ (H.length : Int) - 1 then (if allIn p.f1 (rd_T55 H a).f1 = true then (if rd (stepU u a p) a > (rd_T55 H a).f0 then false else planL H P A (stepU u a p)) else false) else false
  | _, _, _ => true
def isPlan (P : List S59) (H : List S55) (A : List Int) : Bool := arePassages P && (areHours H && (decide (A.length = P.length) && planL H P A (List.replicate H.length 0)))

theorem rdHour_mem (H : List S55) (a : Int) (h : 0 ≤ a ∧ a ≤ (H.length : Int) - 1) : rd_T55 H a ∈ H := by
  obtain ⟨n, rfl⟩ := Int.eq_ofNat_of_zero_le h.1
  rw [rdHour_get H n (by omega)]
  exact List.getElem_mem _

theorem impl_plan_loop (P : List S59) (H : List S55) (A : List Int) (hP : P.length ≤ 1048576) (hH : H.length ≤ 1048576) (hPx : ∀ x ∈ P, x.f1.length ≤ 1048576) (hHx : ∀ x ∈ H, x.f1.length ≤ 1048576) (hA : A.length = P.length) (d : Nat) :
    ∀ (i : Nat) (u : List Int), i + d = A.length → u.length = H.length → Ev (fun k => impl_IsPlan.l0 k P H u A (A.length : Int) (i : Int)) (planL H (P.drop i) (A.drop i) u) := by
  induction d with
  | zero =>
    intro i u hi hu
    rw [List.drop_of_length_le (show A.length ≤ i by omega), List.drop_of_length_le (show P.length ≤ i by omega)]
    refine Ev.one (fun k => ?_)
    simp only [impl_IsPlan.l0]
    rw [if_neg (by omega)]
    rfl
  | succ d ih =>
    intro i u hi hu
    have hlt : i < A.length := by omega
    have hltP : i < P.length := by omega
    rw [drop_cons A i hlt, drop_cons P i hltP, planL]
    by_cases h1 : 0 ≤ A[i] ∧ A[i] ≤ (H.length : Int) - 1
    · rw [if_pos h1]
      have hm := meets_ev P[i].f0 P[i].f1 (rd_T55 H A[i]).f0 (rd_T55 H A[i]).f1 (hPx _ (List.getElem_mem hltP)) (hHx _ (rdHour_mem H _ h1))
      refine Ev.step (f := fun k => (impl_meets.f k P[i].f0 P[i].f1 (rd_T55 H A[i]).f0 (rd_T55 H A[i]).f1).bind fun t => impl_IsPlan.j2 k P H u (i : Int) A[i] A (A.length : Int) (i : Int) (!t)) (fun k => ?_) (Ev.bind hm ?_)
      · simp only [impl_IsPlan.l0, inRange_eq, Option.bind_some]
        rw [if_pos (by omega), if_pos (by omega), if_pos (by omega), rd_get A i hlt, w64 (x := (H.length : Int) - 1) (by omega) (by omega), if_pos (decide_eq_true h1), if_pos (by omega), if_pos (by omega), if_pos (by omega), rdPassage_get P i hltP]
      · by_cases h2 : allIn P[i].f1 (rd_T55 H A[i]).f1 = true
        · rw [if_pos h2, h2]
          by_cases h3 : rd (stepU u A[i] P[i]) A[i] > (rd_T55 H A[i]).f0
          · rw [if_pos h3]
            refine Ev.one (fun k => ?_)
            simp only [impl_IsPlan.j2, Bool.not_true, Bool.false_eq_true, if_false, Option.bind_some]
            rw [if_pos (by omega), if_pos (by omega), if_pos (by omega), if_pos (by omega), if_pos (by omega), rdPassage_get P i hltP]
            exact if_pos h3
          · rw [if_neg h3]
            refine Ev.step (fun k => ?_) (ih (i + 1) (stepU u A[i] P[i]) (by omega) (by simp [stepU, hu]))
            simp only [impl_IsPlan.j2, Bool.not_true, Bool.false_eq_true, if_false, Option.bind_some]
            rw [if_pos (by omega), if_pos (by omega), if_pos (by omega), if_pos (by omega), if_pos (by omega), rdPassage_get P i hltP, w64_nat i (by omega)]
            exact if_neg h3
        · rw [if_neg h2]
          rw [Bool.not_eq_true] at h2
          rw [h2]
          refine Ev.one (fun k => ?_)
          simp only [impl_IsPlan.j2, Bool.not_false, if_true]
    · rw [if_neg h1]
      refine Ev.step (f := fun k => impl_IsPlan.j2 k P H u (i : Int) A[i] A (A.length : Int) (i : Int) true) (fun k => ?_) (Ev.one (fun k => ?_))
      · simp only [impl_IsPlan.l0, inRange_eq, Option.bind_some]
        rw [if_pos (by omega), if_pos (by omega), if_pos (by omega), rd_get A i hlt, w64 (x := (H.length : Int) - 1) (by omega) (by omega), if_neg (by simpa using h1)]
      · simp only [impl_IsPlan.j2, if_true]

theorem spec_plan_loop (P : List S59) (H : List S55) (A : List Int) (hP : P.length ≤ 1048576) (hH : H.length ≤ 1048576) (hPx : ∀ x ∈ P, x.f1.length ≤ 1048576) (hHx : ∀ x ∈ H, x.f1.length ≤ 1048576) (hA : A.length = P.length) (d : Nat) :
    ∀ (i : Nat) (u : List Int), i + d = A.length → u.length = H.length → Ev (fun k => spec_IsPlan.l1 k P H A u (i : Int)) (planL H (P.drop i) (A.drop i) u) := by
  induction d with
  | zero =>
    intro i u hi hu
    rw [List.drop_of_length_le (show A.length ≤ i by omega), List.drop_of_length_le (show P.length ≤ i by omega)]
    refine Ev.one (fun k => ?_)
    simp only [spec_IsPlan.l1]
    rw [if_neg (by omega)]
    rfl
  | succ d ih =>
    intro i u hi hu
    have hlt : i < A.length := by omega
    have hltP : i < P.length := by omega
    rw [drop_cons A i hlt, drop_cons P i hltP, planL]
    by_cases h1 : 0 ≤ A[i] ∧ A[i] ≤ (H.length : Int) - 1
    · rw [if_pos h1]
      have hm := spec_all P[i].f1 (rd_T55 H A[i]).f1 (hPx _ (List.getElem_mem hltP)) (hHx _ (rdHour_mem H _ h1))
      refine Ev.step (f := fun k => (spec_l30All.f k P[i].f1 (rd_T55 H A[i]).f1).bind fun t => spec_IsPlan.j3 k P H A u (i : Int) A[i] (!t)) (fun k => ?_) (Ev.bind hm ?_)
      · simp only [spec_IsPlan.l1, l1In_eq, Option.bind_some]
        rw [if_pos (by omega), if_pos (by omega), if_pos (by omega), rd_get A i hlt, w64 (x := (H.length : Int) - 1) (by omega) (by omega), if_pos (decide_eq_true h1), if_pos (by omega), if_pos (by omega), rdPassage_get P i hltP]
      · by_cases h2 : allIn P[i].f1 (rd_T55 H A[i]).f1 = true
        · rw [if_pos h2, h2]
          by_cases h3 : rd (stepU u A[i] P[i]) A[i] > (rd_T55 H A[i]).f0
          · rw [if_pos h3]
            refine Ev.one (fun k => ?_)
            simp only [spec_IsPlan.j3, Bool.not_true, Bool.false_eq_true, if_false, Option.bind_some]
            rw [if_pos (by omega), if_pos (by omega), if_pos (by omega), if_pos (by omega), if_pos (by omega), rdPassage_get P i hltP]
            exact if_pos h3
          · rw [if_neg h3]
            refine Ev.step (fun k => ?_) (ih (i + 1) (stepU u A[i] P[i]) (by omega) (by simp [stepU, hu]))
            simp only [spec_IsPlan.j3, Bool.not_true, Bool.false_eq_true, if_false, Option.bind_some]
            rw [if_pos (by omega), if_pos (by omega), if_pos (by omega), if_pos (by omega), if_pos (by omega), rdPassage_get P i hltP, w64_nat i (by omega)]
            exact if_neg h3
        · rw [if_neg h2]
          rw [Bool.not_eq_true] at h2
          rw [h2]
          refine Ev.one (fun k => ?_)
          simp only [spec_IsPlan.j3, Bool.not_false, if_true]
    · rw [if_neg h1]
      refine Ev.step (f := fun k => spec_IsPlan.j3 k P H A u (i : Int) A[i] true) (fun k => ?_) (Ev.one (fun k => ?_))
      · simp only [spec_IsPlan.l1, l1In_eq, Option.bind_some]
        rw [if_pos (by omega), if_pos (by omega), if_pos (by omega), rd_get A i hlt, w64 (x := (H.length : Int) - 1) (by omega) (by omega), if_neg (by simpa using h1)]
      · simp only [spec_IsPlan.j3, if_true]

theorem spec_zeros_loop (P : List S59) (H : List S55) (A : List Int) (hH : H.length ≤ 1048576) (r : Bool) (h : Ev (fun k => spec_IsPlan.l1 k P H A (List.replicate H.length 0) 0) r) (d : Nat) :
    ∀ i : Nat, i + d = H.length → Ev (fun k => spec_IsPlan.l0 k P H A (List.replicate i 0) (i : Int)) r := by
  induction d with
  | zero =>
    intro i hi
    obtain rfl : i = H.length := by omega
    refine Ev.step (fun k => ?_) h
    simp only [spec_IsPlan.l0]
    rw [if_neg (by omega)]
  | succ d ih =>
    intro i hi
    refine Ev.step (fun k => ?_) (ih (i + 1) (by omega))
    simp only [spec_IsPlan.l0]
    rw [if_pos (by omega), if_pos (by simp; omega), w64_nat i (by omega), ← List.replicate_succ']

theorem impl_isPlan (P : List S59) (H : List S55) (A : List Int) (hP : P.length ≤ 1048576) (hH : H.length ≤ 1048576) (hPx : ∀ x ∈ P, x.f1.length ≤ 1048576) (hHx : ∀ x ∈ H, x.f1.length ≤ 1048576) (hA : A.length ≤ 1048576) : Ev (fun k => impl_IsPlan.f k P H A) (isPlan P H A) := by
  have hbad : Ev (fun k => impl_IsPlan.j0 k P H A true) false := Ev.one (fun k => by simp only [impl_IsPlan.j0, if_true])
  simp only [impl_IsPlan.f, isPlan]
  refine Ev.bind (impl_passages P hP hPx) ?_
  cases arePassages P
  · simp only [Bool.false_eq_true, if_false, Bool.false_and]
    exact hbad
  · simp only [if_true, Bool.true_and]
    refine Ev.bind (impl_hours H hH hHx) ?_
    cases areHours H
    · simp only [Bool.false_eq_true, if_false, Bool.false_and]
      exact hbad
    · simp only [if_true, Bool.true_and]
      by_cases hl : A.length = P.length
      · rw [decide_eq_true hl, Bool.true_and]
        rw [show ((A.length : Int) != (P.length : Int)) = false from bne_eq_false_iff_eq.2 (by omega)]
        have h := impl_plan_loop P H A hP hH hPx hHx hl A.length 0 (List.replicate H.length 0) (by omega) (by simp)
        refine Ev.step (fun k => ?_) h
        simp only [impl_IsPlan.j0, Bool.false_eq_true, if_false, Int.toNat_natCast]
        rw [if_pos (by omega), if_pos (by omega)]
        rfl
      · rw [decide_eq_false hl, Bool.false_and]
        rw [show ((A.length : Int) != (P.length : Int)) = true from bne_iff_ne.2 (by omega)]
        exact hbad

theorem spec_isPlan (P : List S59) (H : List S55) (A : List Int) (hP : P.length ≤ 1048576) (hH : H.length ≤ 1048576) (hPx : ∀ x ∈ P, x.f1.length ≤ 1048576) (hHx : ∀ x ∈ H, x.f1.length ≤ 1048576) (hA : A.length ≤ 1048576) : Ev (fun k => spec_IsPlan.f k P H A) (isPlan P H A) := by
  have hbad : Ev (fun k => spec_IsPlan.j0 k P H A true) false := Ev.one (fun k => by simp only [spec_IsPlan.j0, if_true])
  simp only [spec_IsPlan.f, isPlan]
  refine Ev.bind (spec_passages P hP hPx) ?_
  cases arePassages P
  · simp only [Bool.false_eq_true, if_false, Bool.false_and]
    exact hbad
  · simp only [if_true, Bool.true_and]
    refine Ev.bind (spec_hours H hH hHx) ?_
    cases areHours H
    · simp only [Bool.false_eq_true, if_false, Bool.false_and]
      exact hbad
    · simp only [if_true, Bool.true_and]
      by_cases hl : A.length = P.length
      · rw [decide_eq_true hl, Bool.true_and]
        rw [show ((A.length : Int) != (P.length : Int)) = false from bne_eq_false_iff_eq.2 (by omega)]
        have h := spec_plan_loop P H A hP hH hPx hHx hl A.length 0 (List.replicate H.length 0) (by omega) (by simp)
        refine Ev.step (fun k => ?_) (spec_zeros_loop P H A hH _ h H.length 0 (by omega))
        simp only [spec_IsPlan.j0, Bool.false_eq_true, if_false]
        rfl
      · rw [decide_eq_false hl, Bool.false_and]
        rw [show ((A.length : Int) != (P.length : Int)) = true from bne_iff_ne.2 (by omega)]
        exact hbad

def idleL (H : List S55) : List S59 → List Int → Int → Int
  | p :: P, a :: A, n => idleL H P A (wrap64 (n + (wrap64 (p.f0 * (wrap64 (((rd_T55 H a).f1.length : Int) - (p.f1.length : Int)))))))
  | _, _, n => n
def idle (P : List S59) (H : List S55) (A : List Int) : Int := if isPlan P H A = true then idleL H P A 0 else 0
theorem planL_ok (H : List S55) (P : List S59) : ∀ (A u : List Int), planL H P A u = true → A.length = P.length → ∀ x ∈ A, 0 ≤ x ∧ x ≤ (H.length : Int) - 1 := by
  induction P with
  | nil =>
    intro A u _ hl x hx
    have : A = [] := List.length_eq_zero_iff.1 hl
    rw [this] at hx
    simp at hx
  | cons p P ih =>
    intro A u h hl x hx
    cases A with
    | nil => simp at hx
    | cons a A =>
      rw [planL] at h
      by_cases h1 : 0 ≤ a ∧ a ≤ (H.length : Int) - 1
      · rw [if_pos h1] at h
        rcases List.mem_cons.1 hx with rfl | hx
        · exact h1
        · by_cases h2 : allIn p.f1 (rd_T55 H a).f1 = true
          · rw [if_pos h2] at h
            by_cases h3 : rd (stepU u a p) a > (rd_T55 H a).f0
            · rw [if_pos h3] at h; simp at h
            · rw [if_neg h3] at h
              exact ih A _ h (by simpa using hl) x hx
          · rw [if_neg h2] at h; simp at h
      · rw [if_neg h1] at h; simp at h
theorem isPlan_ok {P : List S59} {H : List S55} {A : List Int} (h : isPlan P H A = true) : A.length = P.length ∧ ∀ x ∈ A, 0 ≤ x ∧ x ≤ (H.length : Int) - 1 := by
  simp only [isPlan, Bool.and_eq_true, decide_eq_true_eq] at h
  exact ⟨h.2.2.1, planL_ok H P A _ h.2.2.2 h.2.2.1⟩
theorem impl_idle_loop (P : List S59) (H : List S55) (A : List Int) (hA : A.length ≤ 1048576) (hl : A.length = P.length) (ho : ∀ x ∈ A, 0 ≤ x ∧ x ≤ (H.length : Int) - 1) (d : Nat) :
    ∀ (i : Nat) (n : Int), i + d = A.length → Ev (fun k => impl_IdleMinutes.l0 k P H n A (A.length : Int) (i : Int)) (idleL H (P.drop i) (A.drop i) n) := by
  induction d with
  | zero =>
    intro i n hi
    rw [List.drop_of_length_le (show A.length ≤ i by omega), List.drop_of_length_le (show P.length ≤ i by omega)]
    refine Ev.one (fun k => ?_)
    simp only [impl_IdleMinutes.l0]
    rw [if_neg (by omega)]
    rfl
  | succ d ih =>
    intro i n hi
    have hlt : i < A.length := by omega
    have hltP : i < P.length := by omega
    have h1 := ho _ (List.getElem_mem hlt)
    rw [drop_cons A i hlt, drop_cons P i hltP, idleL]
    refine Ev.step (fun k => ?_) (ih (i + 1) _ (by omega))
    simp only [impl_IdleMinutes.l0]
    rw [if_pos (by omega), if_pos (by omega), if_pos (by omega), if_pos (by omega), rd_get A i hlt, if_pos (by omega), if_pos (by omega), rdPassage_get P i hltP, w64_nat i (by omega)]
theorem spec_idle_loop (P : List S59) (H : List S55) (A : List Int) (hP : P.length ≤ 1048576) (hH : H.length ≤ 1048576) (hPx : ∀ x ∈ P, x.f1.length ≤ 1048576) (hHx : ∀ x ∈ H, x.f1.length ≤ 1048576) (hA : A.length ≤ 1048576) (hl : A.length = P.length) (hp : isPlan P H A = true) (ho : ∀ x ∈ A, 0 ≤ x ∧ x ≤ (H.length : Int) - 1) (d : Nat) :
    ∀ (i : Nat) (n : Int), i + d = A.length → Ev (fun k => spec_IdleMinutes.l0 k P H A n (i : Int)) (idleL H (P.drop i) (A.drop i) n) := by
  induction d with
  | zero =>
    intro i n hi
    rw [List.drop_of_length_le (show A.length ≤ i by omega), List.drop_of_length_le (show P.length ≤ i by omega)]
    refine Ev.one (fun k => ?_)
    simp only [spec_IdleMinutes.l0]
    rw [if_neg (by omega)]
    rfl
  | succ d ih =>
    intro i n hi
    have hlt : i < A.length := by omega
    have hltP : i < P.length := by omega
    have h1 := ho _ (List.getElem_mem hlt)
    rw [drop_cons A i hlt, drop_cons P i hltP, idleL]
    refine Ev.step (f := fun k => (spec_IsPlan.f k P H A).bind fun t => if t = true then spec_IdleMinutes.l0 k P H A (wrap64 (n + (wrap64 (P[i].f0 * (wrap64 (((rd_T55 H A[i]).f1.length : Int) - (P[i].f1.length : Int))))))) ((i + 1 : Nat) : Int) else some n) (fun k => ?_) (Ev.bind (spec_isPlan P H A hP hH hPx hHx hA) ?_)
    · simp only [spec_IdleMinutes.l0]
      rw [if_pos (by omega)]
      refine congrArg _ (funext fun t => ?_)
      by_cases ht : t = true
      · rw [if_pos ht, if_pos ht, if_pos (by omega), if_pos (by omega), rd_get A i hlt, if_pos (by omega), if_pos (by omega), rdPassage_get P i hltP, w64_nat i (by omega)]
      · rw [if_neg ht, if_neg ht]
    · simp only [hp, if_true]
      exact ih (i + 1) _ (by omega)
def spec_IdleMinutes.q (k : Nat) (x0 : List S59) (x1 : List S55) (x2 : List Int) (t : Bool) : Option Int := if t = true then (if 0 ≤ (0 : Int) then (if (0 : Int) < (x2.length : Int) then (if 0 ≤ (rd x2 0) then (if (rd x2 0) < (x1.length : Int) then (spec_IdleMinutes.l0 k x0 x1 x2 (wrap64 (0 + (wrap64 (((rd_T59 x0 0).f0) * (wrap64 ((((rd_T55 x1 (rd x2 0)).f1).length : Int) - (((rd_T59 x0 0).f1).length : Int))))))) (wrap64 (0 + 1))) else (none)) else (none)) else (none)) else (none)) else (some 0)
theorem impl_idle (P : List S59) (H : List S55) (A : List Int) (hP : P.length ≤ 1048576) (hH : H.length ≤ 1048576) (hPx : ∀ x ∈ P, x.f1.length ≤ 1048576) (hHx : ∀ x ∈ H, x.f1.length ≤ 1048576) (hA : A.length ≤ 1048576) : Ev (fun k => impl_IdleMinutes.f k P H A) (idle P H A) := by
  simp only [impl_IdleMinutes.f, idle]
  refine Ev.bind (impl_isPlan P H A hP hH hPx hHx hA) ?_
  by_cases h : isPlan P H A = true
  · simp only [h, if_true]
    exact impl_idle_loop P H A hA (isPlan_ok h).1 (isPlan_ok h).2 A.length 0 0 (by omega)
  · simp only [h, if_false]
    exact Ev.now _
theorem spec_idle (P : List S59) (H : List S55) (A : List Int) (hP : P.length ≤ 1048576) (hH : H.length ≤ 1048576) (hPx : ∀ x ∈ P, x.f1.length ≤ 1048576) (hHx : ∀ x ∈ H, x.f1.length ≤ 1048576) (hA : A.length ≤ 1048576) : Ev (fun k => spec_IdleMinutes.f k P H A) (idle P H A) := by
  simp only [spec_IdleMinutes.f, idle]
  by_cases h : isPlan P H A = true
  · rw [if_pos h]
    exact spec_idle_loop P H A hP hH hPx hHx hA (isPlan_ok h).1 h (isPlan_ok h).2 A.length 0 0 (by omega)
  · rw [if_neg h]
    by_cases h0 : 0 < P.length
    · refine Ev.step (f := fun k => (spec_IsPlan.f k P H A).bind fun t => spec_IdleMinutes.q k P H A t) (fun k => ?_) (Ev.bind (spec_isPlan P H A hP hH hPx hHx hA) ?_)
      · simp only [spec_IdleMinutes.l0]
        rw [if_pos (by omega)]
        rfl
      · simp only [spec_IdleMinutes.q, h, if_false]
        exact Ev.now _
    · refine Ev.one (fun k => ?_)
      simp only [spec_IdleMinutes.l0]
      rw [if_neg (by omega)]

theorem FnExactIdleMinutes : ∀ (l0 : List (S70)) (l1 : List (S61)) (l2 : List Int), (l0.length ≤ maxLen ∧ l0.length * 32 ≤ 140737488351232 ∧ ∀ l0' ∈ l0, ((Lit.int .i64 l0'.f0).wf = true) ∧ (l0'.f1.length ≤ maxLen ∧ l0'.f1.length * 8 ≤ 140737488351232 ∧ ∀ l0'_f1' ∈ l0'.f1, (Lit.int .i64 l0'_f1').wf = true)) → (l1.length ≤ maxLen ∧ l1.length * 32 ≤ 140737488351232 ∧ ∀ l1' ∈ l1, ((Lit.int .i64 l1'.f0).wf = true) ∧ (l1'.f1.length ≤ maxLen ∧ l1'.f1.length * 8 ≤ 140737488351232 ∧ ∀ l1'_f1' ∈ l1'.f1, (Lit.int .i64 l1'_f1').wf = true)) → (l2.length ≤ maxLen ∧ l2.length * 8 ≤ 140737488351232 ∧ ∀ l2' ∈ l2, (Lit.int .i64 l2').wf = true) → ∃ k, laws_FnExactIdleMinutes.f k l0 l1 l2 = some true := by
  intro P H A h0 h1 h2
  have hmP : P.length ≤ 9223372036854775807 := h0.1
  have hmH : H.length ≤ 9223372036854775807 := h1.1
  refine Ev.rounds (g := fun k => laws_FnExactIdleMinutes.f k P H A) ?_
  simp only [laws_FnExactIdleMinutes.f]
  by_cases hA : (A.length : Int) > 1048576
  · simp only [hA, if_true]
    exact Ev.now true
  · simp only [hA, if_false]
    obtain ⟨r, hr, hor⟩ := szPassageS_ev P 1048576 (by omega) (by omega) hmP (fun x hx => (h0.2.2 x hx).2.1)
    refine Ev.bind hr ?_
    rcases hor with h | ⟨g1, g2, hlP, hxP⟩
    · simp only [h, if_true]
      exact Ev.now true
    · have hn : ¬ r < 0 := by omega
      simp only [hn, if_false]
      obtain ⟨q, hq, hoq⟩ := szHourS_ev H r g1 (by omega) hmH (fun x hx => (h1.2.2 x hx).2.1)
      refine Ev.bind hq ?_
      rcases hoq with h | ⟨g3, g4, hlH, hxH⟩
      · simp only [h, if_true]
        exact Ev.now true
      · have hn2 : ¬ q < 0 := by omega
        simp only [hn2, if_false]
        have tP := toPassageS_ev P hlP hxP
        have tH := toHourS_ev H hlH hxH
        have tA := toIntS_ev A (by omega)
        have hlP' : (P.map cvPassage).length ≤ 1048576 := by simpa using hlP
        have hlH' : (H.map cvHour).length ≤ 1048576 := by simpa using hlH
        have hxP' : ∀ x ∈ P.map cvPassage, x.f1.length ≤ 1048576 := by
          intro x hx0
          obtain ⟨y, hy, rfl⟩ := List.mem_map.1 hx0
          exact hxP y hy
        have hxH' : ∀ x ∈ H.map cvHour, x.f1.length ≤ 1048576 := by
          intro x hx0
          obtain ⟨y, hy, rfl⟩ := List.mem_map.1 hx0
          exact hxH y hy
        refine Ev.bind tP ?_
        refine Ev.bind tH ?_
        refine Ev.bind tA ?_
        refine Ev.bind (spec_idle _ _ A hlP' hlH' hxP' hxH' (by omega)) ?_
        refine Ev.bind tP ?_
        refine Ev.bind tH ?_
        refine Ev.bind tA ?_
        refine Ev.bind (impl_idle _ _ A hlP' hlH' hxP' hxH' (by omega)) ?_
        simp only [if_true]
        refine Ev.bind tP ?_
        refine Ev.bind (eqPassageS_ev _ hlP' hxP') ?_
        simp only [if_true]
        refine Ev.bind tH ?_
        refine Ev.bind (eqHourS_ev _ hlH' hxH') ?_
        simp only [if_true]
        refine Ev.bind tA ?_
        refine Ev.bind (eqIntS_ev A (by omega)) ?_
        simp only [if_true]
        exact Ev.now true

end Go.Proofs.Ytddpogakdagojaa.Pure
