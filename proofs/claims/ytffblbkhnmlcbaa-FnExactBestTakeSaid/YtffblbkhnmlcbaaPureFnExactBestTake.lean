/- The plain statement of the law FnExactBestTake: what its printed function answers; no conditions but that the numbers are Go's ints and the slices no longer than memory. -/
import Derived.Test.YtffblbkhnmlcbaaQFnExactBestTakex3
set_option linter.unusedVariables false
set_option linter.unusedSimpArgs false
namespace Go.Proofs.Ytffblbkhnmlcbaa.Pure
open Go.RowKit Go.Proofs.Ytffblbkhnmlcbaa.QFnExactBestTake Go.Proofs.YtffblbkhnmlcbaaW.PrintWords Go.Proofs.YtffblbkhnmlcbaaW.PrintLast Go.Proofs.YtffblbkhnmlcbaaW.PrintMore

theorem wf64 {x : Int} (h : (Lit.int .i64 x).wf = true) : -9223372036854775808 ≤ x ∧ x ≤ 9223372036854775807 := by
  simp only [Lit.wf, IntKind.min, IntKind.max, IntKind.signed, IntKind.bits, Bool.and_eq_true, decide_eq_true_eq, if_true] at h
  omega

theorem w64 {x : Int} (h1 : -9223372036854775808 ≤ x) (h2 : x ≤ 9223372036854775807) : wrap64 x = x := by
  unfold wrap64
  omega

theorem w64_nat (i : Nat) (h : i ≤ 9223372036854775806) : wrap64 ((i : Int) + 1) = ((i + 1 : Nat) : Int) := by
  unfold wrap64
  omega

theorem drop_cons {α : Type} (l : List α) (i : Nat) (h : i < l.length) : l.drop i = l[i] :: l.drop (i + 1) := List.drop_eq_getElem_cons h

theorem set_take {β : Type} (x : List β) (i : Nat) (v : β) (h : i < x.length) : (x.set i v).take (i + 1) = x.take i ++ [v] := by
  apply List.ext_getElem?
  intro j
  rcases Nat.lt_trichotomy j i with hj | hj | hj
  · rw [List.getElem?_take_of_lt (by omega), List.getElem?_set_ne (by omega), List.getElem?_append_left (by simp; omega), List.getElem?_take_of_lt (by omega)]
  · subst hj
    rw [List.getElem?_take_of_lt (by omega), List.getElem?_set_self (by omega), List.getElem?_append_right (by simp; omega)]
    simp [Nat.min_eq_left (Nat.le_of_lt h)]
  · rw [List.getElem?_take_eq_none (by omega), List.getElem?_append_right (by simp; omega)]
    simp
    omega

theorem copyLoop {α β : Type} (F : Nat → List β → Int → Option (List β)) (x0 : List α) (cv : α → β)
    (h1 : ∀ (x3 : List β) (i : Nat) (r : List β) (hi : i < x0.length), x3.length = x0.length → Ev (fun k => F k (x3.set i (cv x0[i])) ((i + 1 : Nat) : Int)) r → Ev (fun k => F k x3 (i : Int)) r)
    (h2 : ∀ x3 : List β, Ev (fun k => F k x3 (x0.length : Int)) x3) (init : List β) (hl : init.length = x0.length) : Ev (fun k => F k init 0) (x0.map cv) := by
  have key : ∀ (d i : Nat) (x3 : List β), i + d = x0.length → x3.length = x0.length → x3.take i = (x0.map cv).take i → Ev (fun k => F k x3 (i : Int)) (x0.map cv) := by
    intro d
    induction d with
    | zero =>
      intro i x3 hi hx ht
      obtain rfl : i = x0.length := by omega
      have e : x3 = x0.map cv := by
        rw [← hx, List.take_length] at ht
        rw [ht, hx]
        exact List.take_of_length_le (by simp)
      have := h2 x3
      rw [e] at this
      rw [e]
      exact this
    | succ d ih =>
      intro i x3 hi hx ht
      have hlt : i < x0.length := by omega
      refine h1 x3 i _ hlt hx (ih (i + 1) _ (by omega) (by rw [List.length_set]; exact hx) ?_)
      rw [set_take x3 i _ (by omega), ht]
      rw [List.take_succ_eq_append_getElem (by simpa using hlt)]
      simp
  have := key x0.length 0 init (by omega) hl (by simp)
  exact this

theorem eqLoop {α : Type} (F : Nat → Int → Option Bool) (x0 : List α)
    (h1 : ∀ (i : Nat) (r : Bool) (_ : i < x0.length), Ev (fun k => F k ((i + 1 : Nat) : Int)) r → Ev (fun k => F k (i : Int)) r)
    (h2 : Ev (fun k => F k (x0.length : Int)) true) : Ev (fun k => F k 0) true := by
  have key : ∀ (d i : Nat), i + d = x0.length → Ev (fun k => F k (i : Int)) true := by
    intro d
    induction d with
    | zero =>
      intro i hi
      obtain rfl : i = x0.length := by omega
      exact h2
    | succ d ih =>
      intro i hi
      exact h1 i true (by omega) (ih (i + 1) (by omega))
  exact key x0.length 0 (by omega)

theorem ite_eq_of {α : Type} {p : Prop} [Decidable p] {a b : α} (h : p) : (if p then a else b) = a := if_pos h

theorem Ev.one {α : Type} {g : Nat → Option α} {r : α} (h : ∀ k, g (k + 1) = some r) : Ev g r := Ev.step (f := fun _ => some r) h (Ev.now r)

theorem rd_get (l : List Int) (i : Nat) (h : i < l.length) : rd l (i : Int) = l[i] := by
  simp [rd, List.getD, List.getElem?_eq_getElem h]

theorem toIntS_ev (l : List Int) (hl : l.length ≤ 35184372088832) : Ev (fun k => laws_toIntS.f k l) l := by
  have key := copyLoop (fun k x3 i => laws_toIntS.l0 k l x3 i) l (fun x => x) (by
    intro x3 i r hi hx h
    refine Ev.step (fun k => ?_) h
    simp only [laws_toIntS.l0]
    rw [if_pos (by omega), if_pos (by omega), if_pos (by omega), rd_get l i hi, w64_nat i (by omega), Int.toNat_natCast]) (by
    intro x3
    refine Ev.one (fun k => ?_)
    simp only [laws_toIntS.l0]
    rw [if_neg (by omega)]) (List.replicate l.length 0) (by simp)
  rw [List.map_id' l] at key
  refine Ev.congr (fun k => ?_) key
  simp only [laws_toIntS.f, Int.toNat_natCast]
  rw [if_pos (by omega), if_pos hl]

theorem eqIntS_ev (l : List Int) (hl : l.length ≤ 140737488355328) : Ev (fun k => laws_eqIntS.f k l l) true := by
  have key := eqLoop (fun k i => laws_eqIntS.l0 k l l i) l (by
    intro i r hi h
    refine Ev.step (fun k => ?_) h
    simp only [laws_eqIntS.l0]
    rw [if_pos (by omega), if_pos (by omega), if_pos (by omega), if_pos trivial, w64_nat i (by omega)]) (by
    refine Ev.one (fun k => ?_)
    simp only [laws_eqIntS.l0]
    rw [if_neg (by omega)])
  refine Ev.congr (fun k => ?_) key
  simp only [laws_eqIntS.f]
  rw [if_pos trivial]

theorem rdLL_get (l : List (List Int)) (i : Nat) (h : i < l.length) : rd_L1 l (i : Int) = l[i] := by
  simp [rd_L1, List.getD, List.getElem?_eq_getElem h]

theorem szIntS_ev (l : List Int) (b : Int) (hb : 0 ≤ b) (hb2 : b ≤ 1048576) (h0 : l.length ≤ 9223372036854775807) : laws_szIntS.f l b = some (if b < (l.length : Int) then -1 else b - (l.length : Int)) := by
  simp only [laws_szIntS.f]
  rw [w64 (by omega) (by omega)]
  split
  · rw [if_pos (by omega)]
  · rw [if_neg (by omega)]

theorem szIntSS_loop (l : List (List Int)) (hl : l.length ≤ 1048576) (hx : ∀ x ∈ l, x.length ≤ 9223372036854775807) (d : Nat) : ∀ (i : Nat) (b : Int), i + d = l.length → 0 ≤ b → b ≤ 1048576 →
    ∃ r, Ev (fun k => laws_szIntSS.l0 k l b (i : Int)) r ∧ (r < 0 ∨ 0 ≤ r ∧ r ≤ 1048576 ∧ ∀ (j : Nat) (h : j < l.length), i ≤ j → l[j].length ≤ 1048576) := by
  induction d with
  | zero =>
    intro i b hi h0 h1
    refine ⟨b, Ev.one (fun k => ?_), .inr ⟨h0, h1, fun j h hj => by omega⟩⟩
    simp only [laws_szIntSS.l0]
    rw [if_neg (by omega)]
  | succ d ih =>
    intro i b hi h0 h1
    have hlt : i < l.length := by omega
    have hsz := szIntS_ev l[i] b h0 h1 (hx _ (List.getElem_mem hlt))
    by_cases hc : b < (l[i].length : Int)
    · refine ⟨-1, Ev.one (fun k => ?_), .inl (by omega)⟩
      simp only [laws_szIntSS.l0]
      rw [if_pos (by omega), if_pos (by omega), rdLL_get l i hlt, hsz, if_pos hc]
      rfl
    · obtain ⟨r, hr, hor⟩ := ih (i + 1) (b - (l[i].length : Int)) (by omega) (by omega) (by omega)
      refine ⟨r, Ev.step (fun k => ?_) hr, ?_⟩
      · simp only [laws_szIntSS.l0]
        rw [if_pos (by omega), if_pos (by omega), rdLL_get l i hlt, hsz, if_neg hc]
        simp only [Option.bind_some]
        rw [if_neg (by omega), w64_nat i (by omega)]
      · rcases hor with h | ⟨h2, h3, h4⟩
        · exact .inl h
        · refine .inr ⟨h2, h3, fun j hj hij => ?_⟩
          rcases Nat.eq_or_lt_of_le hij with rfl | hlt2
          · omega
          · exact h4 j hj (by omega)

theorem szIntSS_ev (l : List (List Int)) (b : Int) (hb : 0 ≤ b) (hb2 : b ≤ 1048576) (h0 : l.length ≤ 9223372036854775807) (hx : ∀ x ∈ l, x.length ≤ 9223372036854775807) :
    ∃ r, Ev (fun k => laws_szIntSS.f k l b) r ∧ (r < 0 ∨ 0 ≤ r ∧ r ≤ 1048576 ∧ l.length ≤ 1048576 ∧ ∀ x ∈ l, x.length ≤ 1048576) := by
  by_cases hc : b < (l.length : Int)
  · refine ⟨-1, Ev.one (fun k => ?_), .inl (by omega)⟩
    simp only [laws_szIntSS.f]
    rw [w64 (by omega) (by omega), if_pos (by omega)]
  · obtain ⟨r, hr, hor⟩ := szIntSS_loop l (by omega) hx l.length 0 (b - (l.length : Int)) (by omega) (by omega) (by omega)
    refine ⟨r, Ev.congr (fun k => ?_) hr, ?_⟩
    · simp only [laws_szIntSS.f]
      rw [w64 (by omega) (by omega), if_neg (by omega)]
      rfl
    · rcases hor with h | ⟨h2, h3, h4⟩
      · exact .inl h
      · refine .inr ⟨h2, h3, by omega, fun x hx => ?_⟩
        obtain ⟨j, hj, rfl⟩ := List.getElem_of_mem hx
        exact h4 j hj (by omega)

theorem toIntSS_ev (l : List (List Int)) (hl : l.length ≤ 1048576) (hx : ∀ x ∈ l, x.length ≤ 1048576) : Ev (fun k => laws_toIntSS.f k l) l := by
  have key := copyLoop (fun k x3 i => laws_toIntSS.l0 k l x3 i) l (fun x => x) (by
    intro x3 i r hi hx3 h
    refine Ev.step (f := fun k => (laws_toIntS.f k l[i]).bind fun t => laws_toIntSS.l0 k l (x3.set i t) ((i + 1 : Nat) : Int)) (fun k => ?_) ?_
    · have hc : (i : Int) < (x3.length : Int) := by omega
      simp only [laws_toIntSS.l0, hc, if_true, Int.toNat_natCast]
      rw [if_pos (by omega), if_pos (by omega), rdLL_get l i hi, w64_nat i (by omega)]
    · exact Ev.bind (toIntS_ev l[i] (by have := hx _ (List.getElem_mem hi); omega)) h) (by
    intro x3
    refine Ev.one (fun k => ?_)
    simp only [laws_toIntSS.l0]
    rw [if_neg (by omega)]) (List.replicate l.length []) (by simp)
  rw [List.map_id' l] at key
  refine Ev.congr (fun k => ?_) key
  simp only [laws_toIntSS.f, Int.toNat_natCast]
  rw [if_pos (by omega), if_pos (by omega)]

theorem eqIntSS_ev (l : List (List Int)) (hl : l.length ≤ 1048576) (hx : ∀ x ∈ l, x.length ≤ 1048576) : Ev (fun k => laws_eqIntSS.f k l l) true := by
  have key := eqLoop (fun k i => laws_eqIntSS.l0 k l l i) l (by
    intro i r hi h
    refine Ev.step (f := fun k => (laws_eqIntS.f k l[i] l[i]).bind fun t => if t = true then laws_eqIntSS.l0 k l l ((i + 1 : Nat) : Int) else some false) (fun k => ?_) ?_
    · simp only [laws_eqIntSS.l0]
      rw [if_pos (by omega), if_pos (by omega), if_pos (by omega), rdLL_get l i hi, w64_nat i (by omega)]
    · refine Ev.bind (eqIntS_ev l[i] (by have := hx _ (List.getElem_mem hi); omega)) ?_
      simp only [if_true]
      exact h) (by
    refine Ev.one (fun k => ?_)
    simp only [laws_eqIntSS.l0]
    rw [if_neg (by omega)])
  refine Ev.congr (fun k => ?_) key
  simp only [laws_eqIntSS.f, if_true]

theorem l1In_eq (a b c : Int) : spec_l1In.f a b c = some (decide (b ≤ a ∧ a ≤ c)) := by
  unfold spec_l1In.f
  split <;> simp <;> omega

theorem inRange_eq (a b c : Int) : impl_InRange.f a b c = some (decide (b ≤ a ∧ a ≤ c)) := by
  unfold impl_InRange.f
  split <;> simp <;> omega

def cellsOk (x : List Int) : Bool := x.all (fun v => decide (0 ≤ v ∧ v ≤ 999))
/-- Each take is as long as the first, and in bounds. -/
def takesR (l : List (List Int)) : Bool := l.all (fun x => decide (x.length = (l.headD []).length ∧ x.length ≤ 60) && cellsOk x) && decide (1 ≤ l.length ∧ l.length ≤ 5)

theorem spec_row_ev (l : List (List Int)) (i : Nat) (hi : i < l.length) (hx : l[i].length ≤ 1048576) (hl : l.length ≤ 1048576) (r : Bool) (next : Ev (fun k => spec_AreTakes.l0 k l ((i + 1 : Nat) : Int)) r) (d : Nat) : ∀ j : Nat, j + d = l[i].length →
    Ev (fun k => spec_AreTakes.l1 k l (i : Int) (j : Int)) (cellsOk (l[i].drop j) && r) := by
  induction d with
  | zero =>
    intro j hj
    rw [List.drop_of_length_le (by omega)]
    refine Ev.step (fun k => ?_) (by rw [show (cellsOk [] && r) = r from rfl]; exact next)
    simp only [spec_AreTakes.l1]
    rw [if_pos (by omega), if_pos (by omega), rdLL_get l i hi, if_neg (by omega), w64_nat i (by omega)]
  | succ d ih =>
    intro j hj
    have hlt : j < l[i].length := by omega
    rw [drop_cons _ j hlt]
    by_cases hc : 0 ≤ (l[i])[j] ∧ (l[i])[j] ≤ 999
    · refine Ev.step (fun k => ?_) (by rw [cellsOk, List.all_cons, decide_eq_true hc, Bool.true_and]; exact ih (j + 1) (by omega))
      simp only [spec_AreTakes.l1, l1In_eq, Option.bind_some]
      rw [if_pos (by omega), if_pos (by omega), rdLL_get l i hi, if_pos (by omega), if_pos (by omega), rd_get _ j hlt, if_pos (decide_eq_true hc), w64_nat j (by omega)]
    · rw [cellsOk, List.all_cons, decide_eq_false hc, Bool.false_and, Bool.false_and]
      refine Ev.one (fun k => ?_)
      simp only [spec_AreTakes.l1, l1In_eq, Option.bind_some]
      rw [if_pos (by omega), if_pos (by omega), rdLL_get l i hi, if_pos (by omega), if_pos (by omega), rd_get _ j hlt, if_neg (by simpa using hc)]

theorem impl_row_ev (l : List (List Int)) (i : Nat) (hi : i < l.length) (hx : l[i].length ≤ 1048576) (hl : l.length ≤ 1048576) (r : Bool) (next : Ev (fun k => impl_AreTakes.l0 k l l (l.length : Int) ((i + 1 : Nat) : Int)) r) (d : Nat) : ∀ j : Nat, j + d = l[i].length →
    Ev (fun k => impl_AreTakes.l1 k l l (l.length : Int) (i : Int) l[i] (l[i].length : Int) (j : Int)) (cellsOk (l[i].drop j) && r) := by
  induction d with
  | zero =>
    intro j hj
    rw [List.drop_of_length_le (by omega)]
    refine Ev.step (fun k => ?_) (by rw [show (cellsOk [] && r) = r from rfl]; exact next)
    simp only [impl_AreTakes.l1]
    rw [if_neg (by omega), w64_nat i (by omega)]
  | succ d ih =>
    intro j hj
    have hlt : j < l[i].length := by omega
    rw [drop_cons _ j hlt]
    by_cases hc : 0 ≤ (l[i])[j] ∧ (l[i])[j] ≤ 999
    · refine Ev.step (fun k => ?_) (by rw [cellsOk, List.all_cons, decide_eq_true hc, Bool.true_and]; exact ih (j + 1) (by omega))
      simp only [impl_AreTakes.l1, inRange_eq, Option.bind_some]
      rw [if_pos (by omega), if_pos (by omega), if_pos (by omega), rd_get _ j hlt, if_pos (decide_eq_true hc), w64_nat j (by omega)]
    · rw [cellsOk, List.all_cons, decide_eq_false hc, Bool.false_and, Bool.false_and]
      refine Ev.one (fun k => ?_)
      simp only [impl_AreTakes.l1, inRange_eq, Option.bind_some]
      rw [if_pos (by omega), if_pos (by omega), if_pos (by omega), rd_get _ j hlt, if_neg (by simpa using hc)]

theorem head_len (l : List (List Int)) (h : 0 < l.length) : l[0].length = (l.headD []).length := by
  cases l with
  | nil => simp at h
  | cons x t => rfl

theorem spec_takes_ev (l : List (List Int)) (hl : l.length ≤ 1048576) (hx : ∀ x ∈ l, x.length ≤ 1048576) (d : Nat) : ∀ i : Nat, i + d = l.length →
    Ev (fun k => spec_AreTakes.l0 k l (i : Int)) ((l.drop i).all (fun x => decide (x.length = (l.headD []).length ∧ x.length ≤ 60) && cellsOk x) && decide (1 ≤ l.length ∧ l.length ≤ 5)) := by
  induction d with
  | zero =>
    intro i hi
    rw [List.drop_of_length_le (by omega)]
    refine Ev.one (fun k => ?_)
    simp only [spec_AreTakes.l0, l1In_eq, Option.bind_some, List.all_nil, Bool.true_and]
    rw [if_neg (by omega)]
    refine congrArg some (decide_eq_decide.2 ?_)
    omega
  | succ d ih =>
    intro i hi
    have hlt : i < l.length := by omega
    have h0 : 0 < l.length := by omega
    have hxi := hx _ (List.getElem_mem hlt)
    have hhead := head_len l h0
    have e0 : rd_L1 l 0 = l[0] := rdLL_get l 0 h0
    rw [drop_cons l i hlt, List.all_cons]
    refine Ev.step (f := fun k => spec_AreTakes.j1 k l (i : Int) (decide (¬ (l[i].length = (l.headD []).length ∧ l[i].length ≤ 60)))) (fun k => ?_) ?_
    · simp only [spec_AreTakes.l0]
      rw [if_pos (by omega), if_pos (by omega), if_pos (by omega), rdLL_get l i hlt, e0, hhead]
      split
      · rename_i h
        refine congrArg (spec_AreTakes.j1 k l (i : Int)) (decide_eq_decide.2 ?_)
        omega
      · rename_i h
        refine congrArg (spec_AreTakes.j1 k l (i : Int)) (Eq.symm (decide_eq_true ?_))
        omega
    · by_cases hc : l[i].length = (l.headD []).length ∧ l[i].length ≤ 60
      · rw [decide_eq_false (by omega : ¬ ¬ (l[i].length = (l.headD []).length ∧ l[i].length ≤ 60)), decide_eq_true hc, Bool.true_and, Bool.and_assoc]
        refine Ev.step (f := fun k => spec_AreTakes.l1 k l (i : Int) 0) (fun k => ?_) (spec_row_ev l i hlt hxi hl _ (ih (i + 1) (by omega)) l[i].length 0 (by omega))
        simp only [spec_AreTakes.j1, Bool.false_eq_true, if_false]
      · rw [decide_eq_true hc, decide_eq_false hc, Bool.false_and, Bool.false_and, Bool.false_and]
        refine Ev.one (fun k => ?_)
        simp only [spec_AreTakes.j1, if_true]

theorem impl_takes_ev (l : List (List Int)) (hl : l.length ≤ 1048576) (hx : ∀ x ∈ l, x.length ≤ 1048576) (d : Nat) : ∀ i : Nat, i + d = l.length →
    Ev (fun k => impl_AreTakes.l0 k l l (l.length : Int) (i : Int)) ((l.drop i).all (fun x => decide (x.length = (l.headD []).length ∧ x.length ≤ 60) && cellsOk x) && decide (1 ≤ l.length ∧ l.length ≤ 5)) := by
  induction d with
  | zero =>
    intro i hi
    rw [List.drop_of_length_le (by omega)]
    refine Ev.one (fun k => ?_)
    simp only [impl_AreTakes.l0, inRange_eq, Option.bind_some, List.all_nil, Bool.true_and]
    rw [if_neg (by omega)]
    refine congrArg some (decide_eq_decide.2 ?_)
    omega
  | succ d ih =>
    intro i hi
    have hlt : i < l.length := by omega
    have h0 : 0 < l.length := by omega
    have hxi := hx _ (List.getElem_mem hlt)
    have hhead := head_len l h0
    have e0 : rd_L1 l 0 = l[0] := rdLL_get l 0 h0
    rw [drop_cons l i hlt, List.all_cons]
    refine Ev.step (f := fun k => impl_AreTakes.j1 k l l[i] l (l.length : Int) (i : Int) (decide (¬ (l[i].length = (l.headD []).length ∧ l[i].length ≤ 60)))) (fun k => ?_) ?_
    · simp only [impl_AreTakes.l0]
      rw [if_pos (by omega), if_pos (by omega), if_pos (by omega), if_pos (by omega), rdLL_get l i hlt, e0, hhead]
      split
      · rename_i h
        refine congrArg (impl_AreTakes.j1 k l l[i] l (l.length : Int) (i : Int)) (decide_eq_decide.2 ?_)
        omega
      · rename_i h
        refine congrArg (impl_AreTakes.j1 k l l[i] l (l.length : Int) (i : Int)) (Eq.symm (decide_eq_true ?_))
        omega
    · by_cases hc : l[i].length = (l.headD []).length ∧ l[i].length ≤ 60
      · rw [decide_eq_false (by omega : ¬ ¬ (l[i].length = (l.headD []).length ∧ l[i].length ≤ 60)), decide_eq_true hc, Bool.true_and, Bool.and_assoc]
        refine Ev.step (f := fun k => impl_AreTakes.l1 k l l (l.length : Int) (i : Int) l[i] (l[i].length : Int) 0) (fun k => ?_) (impl_row_ev l i hlt hxi hl _ (ih (i + 1) (by omega)) l[i].length 0 (by omega))
        simp only [impl_AreTakes.j1, Bool.false_eq_true, if_false]
      · rw [decide_eq_true hc, decide_eq_false hc, Bool.false_and, Bool.false_and, Bool.false_and]
        refine Ev.one (fun k => ?_)
        simp only [impl_AreTakes.j1, if_true]

theorem spec_takes (l : List (List Int)) (hl : l.length ≤ 1048576) (hx : ∀ x ∈ l, x.length ≤ 1048576) : Ev (fun k => spec_AreTakes.f k l) (takesR l) := spec_takes_ev l hl hx l.length 0 (by omega)
theorem impl_takes (l : List (List Int)) (hl : l.length ≤ 1048576) (hx : ∀ x ∈ l, x.length ≤ 1048576) : Ev (fun k => impl_AreTakes.f k l) (takesR l) := impl_takes_ev l hl hx l.length 0 (by omega)

theorem takesR_iff (l : List (List Int)) (h : takesR l = true) : (1 ≤ l.length ∧ l.length ≤ 5) ∧ ∀ (i : Nat) (hi : i < l.length), l[i].length = (l.headD []).length ∧ l[i].length ≤ 60 ∧ ∀ (j : Nat) (hj : j < l[i].length), 0 ≤ (l[i])[j] ∧ (l[i])[j] ≤ 999 := by
  simp only [takesR, Bool.and_eq_true, List.all_eq_true, decide_eq_true_eq, cellsOk] at h
  refine ⟨h.2, fun i hi => ?_⟩
  have := h.1 _ (List.getElem_mem hi)
  exact ⟨this.1.1, this.1.2, fun j hj => this.2 _ (List.getElem_mem hj)⟩

def tot : List Int → Int → Int
  | [], a => a
  | v :: x, a => tot x (a + v)

theorem tot_bound (x : List Int) : ∀ (a : Int) (m : Nat), (∀ v ∈ x, 0 ≤ v ∧ v ≤ 999) → 0 ≤ a → a ≤ 999 * m → 0 ≤ tot x a ∧ tot x a ≤ 999 * (m + x.length) := by
  induction x with
  | nil => intro a m _ h0 h1; simp [tot]; omega
  | cons v x ih =>
    intro a m hv h0 h1
    have h2 := hv v (by simp)
    have := ih (a + v) (m + 1) (fun u hu => hv u (by simp [hu])) (by omega) (by omega)
    simp only [tot, List.length_cons]
    omega

theorem impl_total_ev (x : List Int) (hx : x.length ≤ 60) (hv : ∀ v ∈ x, 0 ≤ v ∧ v ≤ 999) : Ev (fun k => impl_total.f k x) (tot x 0) := by
  have key : ∀ (d i : Nat) (a : Int), i + d = x.length → 0 ≤ a → a ≤ 999 * i → Ev (fun k => impl_total.l0 k a x (x.length : Int) (i : Int)) (tot (x.drop i) a) := by
    intro d
    induction d with
    | zero =>
      intro i a hi h0 h1
      rw [List.drop_of_length_le (by omega)]
      refine Ev.one (fun k => ?_)
      simp only [impl_total.l0, tot]
      rw [if_neg (by omega)]
    | succ d ih =>
      intro i a hi h0 h1
      have hlt : i < x.length := by omega
      have h2 := hv _ (List.getElem_mem hlt)
      rw [drop_cons x i hlt]
      refine Ev.step (fun k => ?_) (by rw [tot]; exact ih (i + 1) (a + x[i]) (by omega) (by omega) (by omega))
      simp only [impl_total.l0]
      rw [if_pos (by omega), if_pos (by omega), if_pos (by omega), rd_get x i hlt, w64 (by omega) (by omega), w64_nat i (by omega)]
  exact key x.length 0 0 (by omega) (by omega) (by omega)

theorem spec_sum_ev (l : List (List Int)) (i : Nat) (hi : i < l.length) (hl : l.length ≤ 5) (hx : l[i].length ≤ 60) (hv : ∀ v ∈ l[i], 0 ≤ v ∧ v ≤ 999) (b s r : Int)
    (next : Ev (fun k => if b < 0 then spec_BestTake.l0 k l (i : Int) (tot l[i] 0) ((i + 1 : Nat) : Int) else if tot l[i] 0 < s then spec_BestTake.l0 k l (i : Int) (tot l[i] 0) ((i + 1 : Nat) : Int) else spec_BestTake.l0 k l b s ((i + 1 : Nat) : Int)) r) :
    Ev (fun k => spec_BestTake.l1 k l b s (i : Int) 0 0) r := by
  have key : ∀ (d j : Nat) (a : Int), j + d = l[i].length → 0 ≤ a → a ≤ 999 * j → tot (l[i].drop j) a = tot l[i] 0 → Ev (fun k => spec_BestTake.l1 k l b s (i : Int) a (j : Int)) r := by
    intro d
    induction d with
    | zero =>
      intro j a hj h0 h1 ht
      rw [List.drop_of_length_le (by omega)] at ht
      simp only [tot] at ht
      refine Ev.step (fun k => ?_) next
      simp only [spec_BestTake.l1]
      rw [if_pos (by omega), if_pos (by omega), rdLL_get l i hi, if_neg (by omega), w64_nat i (by omega), ht]
    | succ d ih =>
      intro j a hj h0 h1 ht
      have hlt : j < l[i].length := by omega
      have h2 := hv _ (List.getElem_mem hlt)
      rw [drop_cons _ j hlt, tot] at ht
      refine Ev.step (fun k => ?_) (ih (j + 1) (a + (l[i])[j]) (by omega) (by omega) (by omega) ht)
      simp only [spec_BestTake.l1]
      rw [if_pos (by omega), if_pos (by omega), rdLL_get l i hi, if_pos (by omega), if_pos (by omega), rd_get _ j hlt, w64 (by omega) (by omega), w64_nat j (by omega)]
  exact key l[i].length 0 0 (by omega) (by omega) (by omega) rfl

theorem best_ev (l : List (List Int)) (hl : l.length ≤ 5) (hx : ∀ x ∈ l, x.length ≤ 60 ∧ ∀ v ∈ x, 0 ≤ v ∧ v ≤ 999) (d : Nat) : ∀ (i b : Nat), i + d = l.length → ∀ hb : b < l.length,
    ∃ r, Ev (fun k => spec_BestTake.l0 k l (b : Int) (tot l[b] 0) (i : Int)) r ∧ Ev (fun k => impl_BestTake.l0 k l (b : Int) l (l.length : Int) (i : Int)) r := by
  induction d with
  | zero =>
    intro i b hi hb
    refine ⟨(b : Int), Ev.one (fun k => ?_), Ev.one (fun k => ?_)⟩
    · simp only [spec_BestTake.l0]
      rw [if_neg (by omega)]
    · simp only [impl_BestTake.l0]
      rw [if_neg (by omega)]
  | succ d ih =>
    intro i b hi hb
    have hlt : i < l.length := by omega
    have hxi := hx _ (List.getElem_mem hlt)
    have hxb := hx _ (List.getElem_mem hb)
    have hti := impl_total_ev l[i] hxi.1 hxi.2
    have htb := impl_total_ev l[b] hxb.1 hxb.2
    have hnb : ¬ ((b : Int) < 0) := by omega
    by_cases hc : tot l[i] 0 < tot l[b] 0
    · obtain ⟨r, h1, h2⟩ := ih (i + 1) i (by omega) hlt
      refine ⟨r, Ev.step (f := fun k => spec_BestTake.l1 k l (b : Int) (tot l[b] 0) (i : Int) 0 0) (fun k => ?_) (spec_sum_ev l i hlt hl hxi.1 hxi.2 _ _ r ?_), Ev.step (f := fun k => (impl_total.f k l[i]).bind fun t => (impl_total.f k l[b]).bind fun u => if t < u then impl_BestTake.l0 k l (i : Int) l (l.length : Int) ((i + 1 : Nat) : Int) else impl_BestTake.l0 k l (b : Int) l (l.length : Int) ((i + 1 : Nat) : Int)) (fun k => ?_) ?_⟩
      · simp only [spec_BestTake.l0]
        rw [if_pos (by omega)]
      · simp only [hnb, hc, if_true, if_false]
        exact h1
      · simp only [impl_BestTake.l0]
        rw [if_pos (by omega), if_pos (by omega), if_pos (by omega), rdLL_get l i hlt, rdLL_get l b hb, w64_nat i (by omega)]
        refine congrArg (Option.bind _) (funext fun t => ?_)
        rw [if_pos (by omega), if_pos (by omega)]
      · refine Ev.bind hti (Ev.bind htb ?_)
        simp only [hc, if_true]
        exact h2
    · obtain ⟨r, h1, h2⟩ := ih (i + 1) b (by omega) hb
      refine ⟨r, Ev.step (f := fun k => spec_BestTake.l1 k l (b : Int) (tot l[b] 0) (i : Int) 0 0) (fun k => ?_) (spec_sum_ev l i hlt hl hxi.1 hxi.2 _ _ r ?_), Ev.step (f := fun k => (impl_total.f k l[i]).bind fun t => (impl_total.f k l[b]).bind fun u => if t < u then impl_BestTake.l0 k l (i : Int) l (l.length : Int) ((i + 1 : Nat) : Int) else impl_BestTake.l0 k l (b : Int) l (l.length : Int) ((i + 1 : Nat) : Int)) (fun k => ?_) ?_⟩
      · simp only [spec_BestTake.l0]
        rw [if_pos (by omega)]
      · simp only [hnb, hc, if_false]
        exact h1
      · simp only [impl_BestTake.l0]
        rw [if_pos (by omega), if_pos (by omega), if_pos (by omega), rdLL_get l i hlt, rdLL_get l b hb, w64_nat i (by omega)]
        refine congrArg (Option.bind _) (funext fun t => ?_)
        rw [if_pos (by omega), if_pos (by omega)]
      · refine Ev.bind hti (Ev.bind htb ?_)
        simp only [hc, if_false]
        exact h2

theorem best_both (l : List (List Int)) (hl : l.length ≤ 1048576) (hx : ∀ x ∈ l, x.length ≤ 1048576) : ∃ r, Ev (fun k => spec_BestTake.f k l) r ∧ Ev (fun k => impl_BestTake.f k l) r := by
  have both : ∃ r, Ev (fun k => if takesR l = true then spec_BestTake.l0 k l (-1) 0 0 else some (-1)) r ∧ Ev (fun k => if takesR l = true then impl_BestTake.l0 k l 0 l (l.length : Int) 0 else some (-1)) r := by
    by_cases hT : takesR l = true
    · obtain ⟨hlen, hrow⟩ := takesR_iff l hT
      have hx' : ∀ x ∈ l, x.length ≤ 60 ∧ ∀ v ∈ x, 0 ≤ v ∧ v ≤ 999 := by
        intro x hx
        obtain ⟨i, hi, rfl⟩ := List.getElem_of_mem hx
        refine ⟨(hrow i hi).2.1, fun v hv => ?_⟩
        obtain ⟨j, hj, rfl⟩ := List.getElem_of_mem hv
        exact (hrow i hi).2.2 j hj
      have h0 : 0 < l.length := by omega
      have hx0 := hx' _ (List.getElem_mem h0)
      have ht0 := impl_total_ev l[0] hx0.1 hx0.2
      obtain ⟨r, h1, h2⟩ := best_ev l (by omega) hx' (l.length - 1) 1 0 (by omega) h0
      simp only [hT, if_true]
      refine ⟨r, Ev.step (f := fun k => spec_BestTake.l1 k l (-1) 0 0 0 0) (fun k => ?_) (spec_sum_ev l 0 h0 (by omega) hx0.1 hx0.2 _ _ r ?_), Ev.step (f := fun k => (impl_total.f k l[0]).bind fun t => (impl_total.f k l[0]).bind fun u => if t < u then impl_BestTake.l0 k l 0 l (l.length : Int) ((0 + 1 : Nat) : Int) else impl_BestTake.l0 k l 0 l (l.length : Int) ((0 + 1 : Nat) : Int)) (fun k => ?_) ?_⟩
      · simp only [spec_BestTake.l0]
        rw [if_pos (by omega)]
      · exact h1
      · have e0 : rd_L1 l 0 = l[0] := rdLL_get l 0 h0
        have e1 : wrap64 ((0 : Int) + 1) = ((0 + 1 : Nat) : Int) := by unfold wrap64; omega
        have hp : 0 < (l.length : Int) := by omega
        simp only [impl_BestTake.l0, hp, e0, e1, if_true]
        rfl
      · refine Ev.bind ht0 (Ev.bind ht0 ?_)
        simp only [Int.lt_irrefl, if_false]
        exact h2
    · simp only [hT, Bool.false_eq_true, if_false]
      exact ⟨-1, Ev.now _, Ev.now _⟩
  obtain ⟨r, h1, h2⟩ := both
  exact ⟨r, Ev.bind (spec_takes l hl hx) h1, Ev.bind (impl_takes l hl hx) h2⟩

theorem FnExactBestTake : ∀ (l0 : List (List Int)), (l0.length ≤ maxLen ∧ l0.length * 24 ≤ 140737488351232 ∧ ∀ l0' ∈ l0, l0'.length ≤ maxLen ∧ l0'.length * 8 ≤ 140737488351232 ∧ ∀ l0'' ∈ l0', (Lit.int .i64 l0'').wf = true) → ∃ k, laws_FnExactBestTake.f k l0 = some true := by
  intro l h0
  have hm : l.length ≤ 9223372036854775807 := h0.1
  obtain ⟨r, hr, hor⟩ := szIntSS_ev l 1048576 (by omega) (by omega) hm (fun x hx => (h0.2.2 x hx).1)
  refine Ev.rounds (g := fun k => laws_FnExactBestTake.f k l) ?_
  simp only [laws_FnExactBestTake.f]
  refine Ev.bind hr ?_
  rcases hor with h | ⟨h1, h2, hl, hx⟩
  · simp only [h, if_true]
    exact Ev.now true
  · have hn : ¬ r < 0 := by omega
    have ht := toIntSS_ev l hl hx
    have he := eqIntSS_ev l hl hx
    obtain ⟨q, hs, hi⟩ := best_both l hl hx
    simp only [hn, if_false]
    refine Ev.bind ht ?_
    refine Ev.bind hs ?_
    refine Ev.bind ht ?_
    refine Ev.bind hi ?_
    simp only [if_true]
    refine Ev.bind ht ?_
    refine Ev.bind he ?_
    simp only [if_true]
    exact Ev.now true

end Go.Proofs.Ytffblbkhnmlcbaa.Pure
