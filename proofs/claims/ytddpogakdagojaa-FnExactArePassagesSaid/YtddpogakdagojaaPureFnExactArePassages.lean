/- The plain statement of the law FnExactArePassages: what its printed function answers; no conditions but that the numbers are Go's ints and the slices no longer than memory. -/
import Derived.Test.YtddpogakdagojaaQFnExactArePassagesx3
set_option linter.unusedVariables false
set_option linter.unusedSimpArgs false
namespace Go.Proofs.Ytddpogakdagojaa.Pure
open Go.RowKit Go.Proofs.Ytddpogakdagojaa.QFnExactArePassages Go.Proofs.YtddpogakdagojaaW.PrintWords Go.Proofs.YtddpogakdagojaaW.PrintLast Go.Proofs.YtddpogakdagojaaW.PrintMore

theorem wf64 {x : Int} (h : (Lit.int .i64 x).wf = true) : -9223372036854775808 ≤ x ∧ x ≤ 9223372036854775807 := by
  simp only [Lit.wf, IntKind.min, IntKind.max, IntKind.signed, IntKind.bits, Bool.and_eq_true, decide_eq_true_eq, if_true] at h
  omega

theorem w64 {x : Int} (h1 : -9223372036854775808 ≤ x) (h2 : x ≤ 9223372036854775807) : wrap64 x = x := by
  unfold wrap64
  omega

theorem w64_nat (i : Nat) (h : i ≤ 9223372036854775806) : wrap64 ((i : Int) + 1) = ((i + 1 : Nat) : Int) := by
  unfold wrap64
  omega

theorem drop_cons {α : Type} (l : List α) (i : Nat) (h : i < l.length) : l.drop i = l[i] :: l.drop (i + 1) := List.drop_eq_getElem_cons h

theorem set_take {β : Type} (x : List β) (i : Nat) (v : β) (h : i < x.length) : (x.set i v).take (i + 1) = x.take i ++ [v] := by
  apply List.ext_getElem?
  intro j
  rcases Nat.lt_trichotomy j i with hj | hj | hj
  · rw [List.getElem?_take_of_lt (by omega), List.getElem?_set_ne (by omega), List.getElem?_append_left (by simp; omega), List.getElem?_take_of_lt (by omega)]
  · subst hj
    rw [List.getElem?_take_of_lt (by omega), List.getElem?_set_self (by omega), List.getElem?_append_right (by simp; omega)]
    simp [Nat.min_eq_left (Nat.le_of_lt h)]
  · rw [List.getElem?_take_eq_none (by omega), List.getElem?_append_right (by simp; omega)]
    simp
    omega

theorem copyLoop {α β : Type} (F : Nat → List β → Int → Option (List β)) (x0 : List α) (cv : α → β)
    (h1 : ∀ (x3 : List β) (i : Nat) (r : List β) (hi : i < x0.length), x3.length = x0.length → Ev (fun k => F k (x3.set i (cv x0[i])) ((i + 1 : Nat) : Int)) r → Ev (fun k => F k x3 (i : Int)) r)
    (h2 : ∀ x3 : List β, Ev (fun k => F k x3 (x0.length : Int)) x3) (init : List β) (hl : init.length = x0.length) : Ev (fun k => F k init 0) (x0.map cv) := by
  have key : ∀ (d i : Nat) (x3 : List β), i + d = x0.length → x3.length = x0.length → x3.take i = (x0.map cv).take i → Ev (fun k => F k x3 (i : Int)) (x0.map cv) := by
    intro d
    induction d with
    | zero =>
      intro i x3 hi hx ht
      obtain rfl : i = x0.length := by omega
      have e : x3 = x0.map cv := by
        rw [← hx, List.take_length] at ht
        rw [ht, hx]
        exact List.take_of_length_le (by simp)
      have := h2 x3
      rw [e] at this
      rw [e]
      exact this
    | succ d ih =>
      intro i x3 hi hx ht
      have hlt : i < x0.length := by omega
      refine h1 x3 i _ hlt hx (ih (i + 1) _ (by omega) (by rw [List.length_set]; exact hx) ?_)
      rw [set_take x3 i _ (by omega), ht]
      rw [List.take_succ_eq_append_getElem (by simpa using hlt)]
      simp
  have := key x0.length 0 init (by omega) hl (by simp)
  exact this

theorem eqLoop {α : Type} (F : Nat → Int → Option Bool) (x0 : List α)
    (h1 : ∀ (i : Nat) (r : Bool) (_ : i < x0.length), Ev (fun k => F k ((i + 1 : Nat) : Int)) r → Ev (fun k => F k (i : Int)) r)
    (h2 : Ev (fun k => F k (x0.length : Int)) true) : Ev (fun k => F k 0) true := by
  have key : ∀ (d i : Nat), i + d = x0.length → Ev (fun k => F k (i : Int)) true := by
    intro d
    induction d with
    | zero =>
      intro i hi
      obtain rfl : i = x0.length := by omega
      exact h2
    | succ d ih =>
      intro i hi
      exact h1 i true (by omega) (ih (i + 1) (by omega))
  exact key x0.length 0 (by omega)

theorem ite_eq_of {α : Type} {p : Prop} [Decidable p] {a b : α} (h : p) : (if p then a else b) = a := if_pos h

theorem Ev.one {α : Type} {g : Nat → Option α} {r : α} (h : ∀ k, g (k + 1) = some r) : Ev g r := Ev.step (f := fun _ => some r) h (Ev.now r)

theorem rd_get (l : List Int) (i : Nat) (h : i < l.length) : rd l (i : Int) = l[i] := by
  simp [rd, List.getD, List.getElem?_eq_getElem h]

def nextOk (p : Option Int) (x : Int) : Bool := match p with
  | none => true
  | some y => decide (y < x)
/-- All in bounds, each more than the one before. -/
def asc (lo hi : Int) : Option Int → List Int → Bool
  | _, [] => true
  | p, x :: l => (decide (lo ≤ x ∧ x ≤ hi) && nextOk p x) && asc lo hi (some x) l
def pv (l : List Int) (i : Nat) : Option Int := if i = 0 then none else l[i - 1]?
theorem pv_succ (l : List Int) (i : Nat) (h : i < l.length) : pv l (i + 1) = some l[i] := by
  simp [pv, List.getElem?_eq_getElem h]

theorem l1In_eq (a b c : Int) : spec_l1In.f a b c = some (decide (b ≤ a ∧ a ≤ c)) := by
  unfold spec_l1In.f
  split <;> simp <;> omega

theorem inRange_eq (a b c : Int) : impl_InRange.f a b c = some (decide (b ≤ a ∧ a ≤ c)) := by
  unfold impl_InRange.f
  split <;> simp <;> omega

theorem ascending_loop (l : List Int) (lo hi : Int) (hl : l.length ≤ 1048576) (d : Nat) : ∀ i : Nat, i + d = l.length →
    Ev (fun k => impl_ascending.l0 k l lo hi l (l.length : Int) (i : Int)) (asc lo hi (pv l i) (l.drop i)) := by
  induction d with
  | zero =>
    intro i h
    rw [List.drop_of_length_le (by omega)]
    refine Ev.one (fun k => ?_)
    simp only [impl_ascending.l0, asc]
    rw [if_neg (by omega)]
  | succ d ih =>
    intro i h
    have hlt : i < l.length := by omega
    have ih := ih (i + 1) (by omega)
    rw [pv_succ l i hlt] at ih
    rw [drop_cons l i hlt]
    simp only [asc]
    by_cases hc : lo ≤ l[i] ∧ l[i] ≤ hi
    · rw [decide_eq_true hc, Bool.true_and]
      rcases Nat.eq_zero_or_pos i with h0 | h0
      · subst h0
        refine Ev.step (fun k => ?_) (by rw [show nextOk (pv l 0) l[0] = true from rfl, Bool.true_and]; exact ih)
        simp only [impl_ascending.l0, inRange_eq, Option.bind_some]
        rw [if_pos (by omega), if_pos (by omega), if_pos (by omega), rd_get l 0 hlt, if_pos (decide_eq_true hc), if_neg (by omega), w64_nat 0 (by omega)]
      · have e1 : wrap64 ((i : Int) - 1) = ((i - 1 : Nat) : Int) := by rw [w64 (by omega) (by omega)]; omega
        have e2 : pv l i = some l[i - 1] := by simp [pv, List.getElem?_eq_getElem (show i - 1 < l.length by omega)]; omega
        by_cases hn : l[i - 1] < l[i]
        · refine Ev.step (fun k => ?_) (by rw [e2, show nextOk (some l[i - 1]) l[i] = true from decide_eq_true hn, Bool.true_and]; exact ih)
          simp only [impl_ascending.l0, inRange_eq, Option.bind_some, e1]
          rw [if_pos (by omega), if_pos (by omega), if_pos (by omega), rd_get l i hlt, rd_get l (i - 1) (by omega), if_pos (decide_eq_true hc), if_pos (by omega), if_pos (by omega), if_pos (by omega), if_neg (by omega), w64_nat i (by omega)]
        · rw [e2, show nextOk (some l[i - 1]) l[i] = false from decide_eq_false hn, Bool.false_and]
          refine Ev.one (fun k => ?_)
          simp only [impl_ascending.l0, inRange_eq, Option.bind_some, e1]
          rw [if_pos (by omega), if_pos (by omega), if_pos (by omega), rd_get l i hlt, rd_get l (i - 1) (by omega), if_pos (decide_eq_true hc), if_pos (by omega), if_pos (by omega), if_pos (by omega), if_pos (by omega)]
    · rw [decide_eq_false hc, Bool.false_and, Bool.false_and]
      refine Ev.one (fun k => ?_)
      simp only [impl_ascending.l0, inRange_eq, Option.bind_some]
      rw [if_pos (by omega), if_pos (by omega), if_pos (by omega), rd_get l i hlt, if_neg (by simpa using hc)]

theorem ascending_ev (l : List Int) (lo hi : Int) (hl : l.length ≤ 1048576) : Ev (fun k => impl_ascending.f k l lo hi) (asc lo hi none l) := ascending_loop l lo hi hl l.length 0 (by omega)

theorem ids_loop (l : List Int) (hl : l.length ≤ 1048576) (d : Nat) : ∀ i : Nat, i + d = l.length →
    Ev (fun k => spec_l30Ids.l0 k l (i : Int)) (asc 1 99 (pv l i) (l.drop i)) := by
  induction d with
  | zero =>
    intro i h
    rw [List.drop_of_length_le (by omega)]
    refine Ev.one (fun k => ?_)
    simp only [spec_l30Ids.l0, asc]
    rw [if_neg (by omega)]
  | succ d ih =>
    intro i h
    have hlt : i < l.length := by omega
    have ih := ih (i + 1) (by omega)
    rw [pv_succ l i hlt] at ih
    rw [drop_cons l i hlt]
    simp only [asc]
    by_cases hc : 1 ≤ l[i] ∧ l[i] ≤ 99
    · rw [decide_eq_true hc, Bool.true_and]
      rcases Nat.eq_zero_or_pos i with h0 | h0
      · subst h0
        refine Ev.step (fun k => ?_) (by rw [show nextOk (pv l 0) l[0] = true from rfl, Bool.true_and]; exact ih)
        simp only [spec_l30Ids.l0, l1In_eq, Option.bind_some]
        rw [if_pos (by omega), if_pos (by omega), rd_get l 0 hlt, if_pos (decide_eq_true hc), if_neg (by omega), w64_nat 0 (by omega)]
      · have e1 : wrap64 ((i : Int) - 1) = ((i - 1 : Nat) : Int) := by rw [w64 (by omega) (by omega)]; omega
        have e2 : pv l i = some l[i - 1] := by simp [pv, List.getElem?_eq_getElem (show i - 1 < l.length by omega)]; omega
        by_cases hn : l[i - 1] < l[i]
        · refine Ev.step (fun k => ?_) (by rw [e2, show nextOk (some l[i - 1]) l[i] = true from decide_eq_true hn, Bool.true_and]; exact ih)
          simp only [spec_l30Ids.l0, l1In_eq, Option.bind_some, e1]
          rw [if_pos (by omega), if_pos (by omega), rd_get l i hlt, rd_get l (i - 1) (by omega), if_pos (decide_eq_true hc), if_pos (by omega), if_pos (by omega), if_pos (by omega), if_neg (by omega), w64_nat i (by omega)]
        · rw [e2, show nextOk (some l[i - 1]) l[i] = false from decide_eq_false hn, Bool.false_and]
          refine Ev.one (fun k => ?_)
          simp only [spec_l30Ids.l0, l1In_eq, Option.bind_some, e1]
          rw [if_pos (by omega), if_pos (by omega), rd_get l i hlt, rd_get l (i - 1) (by omega), if_pos (decide_eq_true hc), if_pos (by omega), if_pos (by omega), if_pos (by omega), if_pos (by omega)]
    · rw [decide_eq_false hc, Bool.false_and, Bool.false_and]
      refine Ev.one (fun k => ?_)
      simp only [spec_l30Ids.l0, l1In_eq, Option.bind_some]
      rw [if_pos (by omega), if_pos (by omega), rd_get l i hlt, if_neg (by simpa using hc)]

theorem ids_ev (l : List Int) (hl : l.length ≤ 1048576) : Ev (fun k => spec_l30Ids.f k l) (asc 1 99 none l) := ids_loop l hl l.length 0 (by omega)


theorem toIntS_ev (l : List Int) (hl : l.length ≤ 35184372088832) : Ev (fun k => laws_toIntS.f k l) l := by
  have key := copyLoop (fun k x3 i => laws_toIntS.l0 k l x3 i) l (fun x => x) (by
    intro x3 i r hi hx h
    refine Ev.step (fun k => ?_) h
    simp only [laws_toIntS.l0]
    rw [if_pos (by omega), if_pos (by omega), if_pos (by omega), rd_get l i hi, w64_nat i (by omega), Int.toNat_natCast]) (by
    intro x3
    refine Ev.one (fun k => ?_)
    simp only [laws_toIntS.l0]
    rw [if_neg (by omega)]) (List.replicate l.length 0) (by simp)
  rw [List.map_id' l] at key
  refine Ev.congr (fun k => ?_) key
  simp only [laws_toIntS.f, Int.toNat_natCast]
  rw [if_pos (by omega), if_pos hl]

theorem eqIntS_ev (l : List Int) (hl : l.length ≤ 140737488355328) : Ev (fun k => laws_eqIntS.f k l l) true := by
  have key := eqLoop (fun k i => laws_eqIntS.l0 k l l i) l (by
    intro i r hi h
    refine Ev.step (fun k => ?_) h
    simp only [laws_eqIntS.l0]
    rw [if_pos (by omega), if_pos (by omega), if_pos (by omega), if_pos trivial, w64_nat i (by omega)]) (by
    refine Ev.one (fun k => ?_)
    simp only [laws_eqIntS.l0]
    rw [if_neg (by omega)])
  refine Ev.congr (fun k => ?_) key
  simp only [laws_eqIntS.f]
  rw [if_pos trivial]

theorem rdPassage_get (l : List S59) (i : Nat) (h : i < l.length) : rd_T59 l (i : Int) = l[i] := by
  simp [rd_T59, List.getD, List.getElem?_eq_getElem h]

theorem rdlPassage_get (l : List S70) (i : Nat) (h : i < l.length) : rd_T70 l (i : Int) = l[i] := by
  simp [rd_T70, List.getD, List.getElem?_eq_getElem h]

theorem szPassage_ev (x : S70) (b : Int) (hb : 0 ≤ b) (hb2 : b ≤ 1048576) (h0 : x.f1.length ≤ 9223372036854775807) : laws_szPassage.f x.f0 x.f1 b = some (if b < (x.f1.length : Int) then -1 else b - (x.f1.length : Int)) := by
  simp only [laws_szPassage.f, laws_szIntS.f]
  rw [w64 (by omega) (by omega)]
  by_cases h : b < (x.f1.length : Int)
  · rw [if_pos (by omega), if_pos h]
    rfl
  · rw [if_neg (by omega), if_neg h]
    simp only [Option.bind_some]
    rw [if_neg (by omega)]

theorem szPassageS_loop (l : List S70) (hl : l.length ≤ 1048576) (hx : ∀ x ∈ l, x.f1.length ≤ 9223372036854775807) (d : Nat) : ∀ (i : Nat) (b : Int), i + d = l.length → 0 ≤ b → b ≤ 1048576 →
    ∃ r, Ev (fun k => laws_szPassageS.l0 k l b (i : Int)) r ∧ (r < 0 ∨ 0 ≤ r ∧ r ≤ 1048576 ∧ ∀ (j : Nat) (h : j < l.length), i ≤ j → l[j].f1.length ≤ 1048576) := by
  induction d with
  | zero =>
    intro i b hi h0 h1
    refine ⟨b, Ev.one (fun k => ?_), .inr ⟨h0, h1, fun j h hj => by omega⟩⟩
    simp only [laws_szPassageS.l0]
    rw [if_neg (by omega)]
  | succ d ih =>
    intro i b hi h0 h1
    have hlt : i < l.length := by omega
    have hsz := szPassage_ev l[i] b h0 h1 (hx _ (List.getElem_mem hlt))
    by_cases hc : b < (l[i].f1.length : Int)
    · refine ⟨-1, Ev.one (fun k => ?_), .inl (by omega)⟩
      simp only [laws_szPassageS.l0]
      rw [if_pos (by omega), if_pos (by omega), rdlPassage_get l i hlt, hsz, if_pos hc]
      rfl
    · obtain ⟨r, hr, hor⟩ := ih (i + 1) (b - (l[i].f1.length : Int)) (by omega) (by omega) (by omega)
      refine ⟨r, Ev.step (fun k => ?_) hr, ?_⟩
      · simp only [laws_szPassageS.l0]
        rw [if_pos (by omega), if_pos (by omega), rdlPassage_get l i hlt, hsz, if_neg hc]
        simp only [Option.bind_some]
        rw [if_neg (by omega), w64_nat i (by omega)]
      · rcases hor with h | ⟨h2, h3, h4⟩
        · exact .inl h
        · refine .inr ⟨h2, h3, fun j hj hij => ?_⟩
          rcases Nat.eq_or_lt_of_le hij with rfl | hlt2
          · omega
          · exact h4 j hj (by omega)

theorem szPassageS_ev (l : List S70) (b : Int) (hb : 0 ≤ b) (hb2 : b ≤ 1048576) (h0 : l.length ≤ 9223372036854775807) (hx : ∀ x ∈ l, x.f1.length ≤ 9223372036854775807) :
    ∃ r, Ev (fun k => laws_szPassageS.f k l b) r ∧ (r < 0 ∨ 0 ≤ r ∧ r ≤ 1048576 ∧ l.length ≤ 1048576 ∧ ∀ x ∈ l, x.f1.length ≤ 1048576) := by
  by_cases hc : b < (l.length : Int)
  · refine ⟨-1, Ev.one (fun k => ?_), .inl (by omega)⟩
    simp only [laws_szPassageS.f]
    rw [w64 (by omega) (by omega), if_pos (by omega)]
  · obtain ⟨r, hr, hor⟩ := szPassageS_loop l (by omega) hx l.length 0 (b - (l.length : Int)) (by omega) (by omega) (by omega)
    refine ⟨r, Ev.congr (fun k => ?_) hr, ?_⟩
    · simp only [laws_szPassageS.f]
      rw [w64 (by omega) (by omega), if_neg (by omega)]
      rfl
    · rcases hor with h | ⟨h2, h3, h4⟩
      · exact .inl h
      · refine .inr ⟨h2, h3, by omega, fun x hx => ?_⟩
        obtain ⟨j, hj, rfl⟩ := List.getElem_of_mem hx
        exact h4 j hj (by omega)

def cvPassage (x : S70) : S59 := ⟨x.f0, x.f1⟩

theorem toPassageS_ev (l : List S70) (hl : l.length ≤ 1048576) (hx : ∀ x ∈ l, x.f1.length ≤ 1048576) : Ev (fun k => laws_toPassageS.f k l) (l.map cvPassage) := by
  have key := copyLoop (fun k x3 i => laws_toPassageS.l0 k l x3 i) l cvPassage (by
    intro x3 i r hi hx3 h
    refine Ev.step (f := fun k => (laws_toPassage.f k l[i].f0 l[i].f1).bind fun t => laws_toPassageS.l0 k l (x3.set i (⟨t.1, t.2⟩ : S59)) ((i + 1 : Nat) : Int)) (fun k => ?_) ?_
    · have hc : (i : Int) < (x3.length : Int) := by omega
      simp only [laws_toPassageS.l0, hc, if_true, Int.toNat_natCast]
      rw [if_pos (by omega), if_pos (by omega), rdlPassage_get l i hi, w64_nat i (by omega)]
    · refine Ev.bind (a := (l[i].f0, l[i].f1)) ?_ h
      simp only [laws_toPassage.f]
      exact Ev.bind (toIntS_ev l[i].f1 (by have := hx _ (List.getElem_mem hi); omega)) (Ev.now _)) (by
    intro x3
    refine Ev.one (fun k => ?_)
    simp only [laws_toPassageS.l0]
    rw [if_neg (by omega)]) (List.replicate l.length z59) (by simp)
  refine Ev.congr (fun k => ?_) key
  simp only [laws_toPassageS.f, Int.toNat_natCast]
  rw [if_pos (by omega), if_pos (by omega)]

theorem eqPassageS_ev (l : List S59) (hl : l.length ≤ 1048576) (hx : ∀ x ∈ l, x.f1.length ≤ 1048576) : Ev (fun k => laws_eqPassageS.f k l l) true := by
  have key := eqLoop (fun k i => laws_eqPassageS.l0 k l l i) l (by
    intro i r hi h
    refine Ev.step (f := fun k => (laws_eqPassage.f k l[i].f0 l[i].f1 l[i].f0 l[i].f1).bind fun t => if t = true then laws_eqPassageS.l0 k l l ((i + 1 : Nat) : Int) else some false) (fun k => ?_) ?_
    · simp only [laws_eqPassageS.l0]
      rw [if_pos (by omega), if_pos (by omega), if_pos (by omega), rdPassage_get l i hi, w64_nat i (by omega)]
    · refine Ev.bind (a := true) ?_ ?_
      · simp only [laws_eqPassage.f, if_true]
        refine Ev.bind (eqIntS_ev l[i].f1 (by have := hx _ (List.getElem_mem hi); omega)) ?_
        simp only [if_true]
        exact Ev.now true
      · simp only [if_true]
        exact h) (by
    refine Ev.one (fun k => ?_)
    simp only [laws_eqPassageS.l0]
    rw [if_neg (by omega)])
  refine Ev.congr (fun k => ?_) key
  simp only [laws_eqPassageS.f, if_true]

def passageOk (x : S59) : Bool := decide (1 ≤ x.f0 ∧ x.f0 ≤ 60) && asc 1 99 none x.f1
def arePassages (l : List S59) : Bool := l.all passageOk && decide (l.length ≤ 10)

theorem spec_passages_loop (l : List S59) (hl : l.length ≤ 1048576) (hx : ∀ x ∈ l, x.f1.length ≤ 1048576) (d : Nat) : ∀ i : Nat, i + d = l.length →
    Ev (fun k => spec_ArePassages.l0 k l (i : Int)) ((l.drop i).all passageOk && decide (l.length ≤ 10)) := by
  induction d with
  | zero =>
    intro i h
    rw [List.drop_of_length_le (by omega)]
    refine Ev.one (fun k => ?_)
    simp only [spec_ArePassages.l0, List.all_nil, Bool.true_and]
    rw [if_neg (by omega)]
    exact congrArg some (decide_eq_decide.2 (by omega))
  | succ d ih =>
    intro i h
    have hlt : i < l.length := by omega
    have ih := ih (i + 1) (by omega)
    rw [drop_cons l i hlt, List.all_cons, passageOk, Bool.and_assoc, Bool.and_assoc]
    by_cases hc : 1 ≤ l[i].f0 ∧ l[i].f0 ≤ 60
    · rw [decide_eq_true hc, Bool.true_and]
      refine Ev.step (f := fun k => (spec_l30Ids.f k l[i].f1).bind fun t => if t = true then spec_ArePassages.l0 k l ((i + 1 : Nat) : Int) else some false) (fun k => ?_) ?_
      · simp only [spec_ArePassages.l0, l1In_eq, Option.bind_some]
        rw [if_pos (by omega), if_pos (by omega), rdPassage_get l i hlt, if_pos (decide_eq_true hc), w64_nat i (by omega)]
      · refine Ev.bind (ids_ev _ (hx _ (List.getElem_mem hlt))) ?_
        generalize asc 1 99 none l[i].f1 = q
        cases q
        · simp only [Bool.false_eq_true, if_false, Bool.false_and]
          exact Ev.now false
        · simp only [if_true, Bool.true_and]
          exact ih
    · rw [decide_eq_false hc, Bool.false_and]
      refine Ev.one (fun k => ?_)
      simp only [spec_ArePassages.l0, l1In_eq, Option.bind_some]
      rw [if_pos (by omega), if_pos (by omega), rdPassage_get l i hlt, if_neg (by simpa using hc)]

theorem spec_passages (l : List S59) (hl : l.length ≤ 1048576) (hx : ∀ x ∈ l, x.f1.length ≤ 1048576) : Ev (fun k => spec_ArePassages.f k l) (arePassages l) := spec_passages_loop l hl hx l.length 0 (by omega)

theorem passage_bad (x : S59) (hx : x.f1.length ≤ 1048576) : Ev (fun k => impl_ArePassages_1.f k x.f0 x.f1) (!passageOk x) := by
  simp only [impl_ArePassages_1.f, inRange_eq, Option.bind_some, passageOk]
  by_cases hc : 1 ≤ x.f0 ∧ x.f0 ≤ 60
  · simp only [decide_eq_true hc, if_true, Bool.true_and]
    exact Ev.bind (ascending_ev _ 1 99 hx) (Ev.now _)
  · simp only [decide_eq_false hc, Bool.false_eq_true, if_false, Bool.false_and, Bool.not_false]
    exact Ev.now true

theorem index_passages (l : List S59) (hl : l.length ≤ 1048576) (hx : ∀ x ∈ l, x.f1.length ≤ 1048576) (d : Nat) : ∀ i : Nat, i + d = l.length →
    ∃ r, Ev (fun k => slices_IndexFunc_at50.l0 k l (l.length : Int) (i : Int)) r ∧ decide (r ≥ 0) = !(l.drop i).all passageOk := by
  induction d with
  | zero =>
    intro i h
    refine ⟨-1, Ev.one (fun k => ?_), by rw [List.drop_of_length_le (by omega)]; rfl⟩
    simp only [slices_IndexFunc_at50.l0]
    rw [if_neg (by omega)]
  | succ d ih =>
    intro i h
    have hlt : i < l.length := by omega
    obtain ⟨r, hr, he⟩ := ih (i + 1) (by omega)
    have hb := passage_bad l[i] (hx _ (List.getElem_mem hlt))
    rw [drop_cons l i hlt, List.all_cons]
    cases hq : passageOk l[i]
    · rw [hq] at hb
      refine ⟨(i : Int), Ev.step (f := fun k => (impl_ArePassages_1.f k l[i].f0 l[i].f1).bind fun t => if t = true then some (i : Int) else slices_IndexFunc_at50.l0 k l (l.length : Int) ((i + 1 : Nat) : Int)) (fun k => ?_) ?_, by simp⟩
      · simp only [slices_IndexFunc_at50.l0]
        rw [if_pos (by omega), if_pos (by omega), if_pos (by omega), rdPassage_get l i hlt, w64_nat i (by omega)]
      · refine Ev.bind hb ?_
        simp only [Bool.not_false, if_true]
        exact Ev.now _
    · rw [hq] at hb
      refine ⟨r, Ev.step (f := fun k => (impl_ArePassages_1.f k l[i].f0 l[i].f1).bind fun t => if t = true then some (i : Int) else slices_IndexFunc_at50.l0 k l (l.length : Int) ((i + 1 : Nat) : Int)) (fun k => ?_) ?_, by rw [Bool.true_and]; exact he⟩
      · simp only [slices_IndexFunc_at50.l0]
        rw [if_pos (by omega), if_pos (by omega), if_pos (by omega), rdPassage_get l i hlt, w64_nat i (by omega)]
      · refine Ev.bind hb ?_
        simp only [Bool.not_true, Bool.false_eq_true, if_false]
        exact hr

theorem impl_passages (l : List S59) (hl : l.length ≤ 1048576) (hx : ∀ x ∈ l, x.f1.length ≤ 1048576) : Ev (fun k => impl_ArePassages.f k l) (arePassages l) := by
  obtain ⟨r, hr, he⟩ := index_passages l hl hx l.length 0 (by omega)
  simp only [impl_ArePassages.f, arePassages]
  by_cases h : (l.length : Int) ≤ 10
  · simp only [h, if_true]
    rw [decide_eq_true (show l.length ≤ 10 by omega), Bool.and_true]
    refine Ev.bind (a := !l.all passageOk) ?_ ?_
    · simp only [slices_ContainsFunc_at50.f]
      refine Ev.bind hr ?_
      rw [he]
      exact Ev.now _
    · simp only [Bool.not_not]
      exact Ev.now _
  · simp only [h, if_false]
    rw [decide_eq_false (show ¬ l.length ≤ 10 by omega), Bool.and_false]
    exact Ev.now false

theorem FnExactArePassages : ∀ (l0 : List (S70)), (l0.length ≤ maxLen ∧ l0.length * 32 ≤ 140737488351232 ∧ ∀ l0' ∈ l0, ((Lit.int .i64 l0'.f0).wf = true) ∧ (l0'.f1.length ≤ maxLen ∧ l0'.f1.length * 8 ≤ 140737488351232 ∧ ∀ l0'_f1' ∈ l0'.f1, (Lit.int .i64 l0'_f1').wf = true)) → ∃ k, laws_FnExactArePassages.f k l0 = some true := by
  intro l h0
  have hm : l.length ≤ 9223372036854775807 := h0.1
  obtain ⟨r, hr, hor⟩ := szPassageS_ev l 1048576 (by omega) (by omega) hm (fun x hx => (h0.2.2 x hx).2.1)
  refine Ev.rounds (g := fun k => laws_FnExactArePassages.f k l) ?_
  simp only [laws_FnExactArePassages.f]
  refine Ev.bind hr ?_
  rcases hor with h | ⟨h1, h2, hl, hx⟩
  · simp only [h, if_true]
    exact Ev.now true
  · have hn : ¬ r < 0 := by omega
    have ht := toPassageS_ev l hl hx
    have hl' : (l.map cvPassage).length ≤ 1048576 := by simpa using hl
    have hx' : ∀ x ∈ l.map cvPassage, x.f1.length ≤ 1048576 := by
      intro x hx0
      obtain ⟨y, hy, rfl⟩ := List.mem_map.1 hx0
      exact hx y hy
    have he := eqPassageS_ev (l.map cvPassage) hl' hx'
    simp only [hn, if_false]
    refine Ev.bind ht ?_
    refine Ev.bind (spec_passages _ hl' hx') ?_
    refine Ev.bind ht ?_
    refine Ev.bind (impl_passages _ hl' hx') ?_
    simp only [bne_self_eq_false, Bool.false_eq_true, if_false]
    refine Ev.bind ht ?_
    refine Ev.bind he ?_
    simp only [if_true]
    exact Ev.now true

end Go.Proofs.Ytddpogakdagojaa.Pure
