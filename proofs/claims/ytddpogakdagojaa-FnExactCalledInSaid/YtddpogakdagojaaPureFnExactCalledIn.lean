/- The plain statement of the law FnExactCalledIn: what its printed function answers; no conditions but that the numbers are Go's ints and the slices no longer than memory. -/
import Derived.Test.YtddpogakdagojaaQFnExactCalledInx5
set_option linter.unusedVariables false
set_option linter.unusedSimpArgs false
namespace Go.Proofs.Ytddpogakdagojaa.Pure
open Go.RowKit Go.Proofs.Ytddpogakdagojaa.QFnExactCalledIn Go.Proofs.YtddpogakdagojaaW.PrintWords Go.Proofs.YtddpogakdagojaaW.PrintLast Go.Proofs.YtddpogakdagojaaW.PrintMore

theorem wf64 {x : Int} (h : (Lit.int .i64 x).wf = true) : -9223372036854775808 ≤ x ∧ x ≤ 9223372036854775807 := by
  simp only [Lit.wf, IntKind.min, IntKind.max, IntKind.signed, IntKind.bits, Bool.and_eq_true, decide_eq_true_eq, if_true] at h
  omega

theorem w64 {x : Int} (h1 : -9223372036854775808 ≤ x) (h2 : x ≤ 9223372036854775807) : wrap64 x = x := by
  unfold wrap64
  omega

theorem w64_nat (i : Nat) (h : i ≤ 9223372036854775806) : wrap64 ((i : Int) + 1) = ((i + 1 : Nat) : Int) := by
  unfold wrap64
  omega

theorem drop_cons {α : Type} (l : List α) (i : Nat) (h : i < l.length) : l.drop i = l[i] :: l.drop (i + 1) := List.drop_eq_getElem_cons h

theorem set_take {β : Type} (x : List β) (i : Nat) (v : β) (h : i < x.length) : (x.set i v).take (i + 1) = x.take i ++ [v] := by
  apply List.ext_getElem?
  intro j
  rcases Nat.lt_trichotomy j i with hj | hj | hj
  · rw [List.getElem?_take_of_lt (by omega), List.getElem?_set_ne (by omega), List.getElem?_append_left (by simp; omega), List.getElem?_take_of_lt (by omega)]
  · subst hj
    rw [List.getElem?_take_of_lt (by omega), List.getElem?_set_self (by omega), List.getElem?_append_right (by simp; omega)]
    simp [Nat.min_eq_left (Nat.le_of_lt h)]
  · rw [List.getElem?_take_eq_none (by omega), List.getElem?_append_right (by simp; omega)]
    simp
    omega

theorem copyLoop {α β : Type} (F : Nat → List β → Int → Option (List β)) (x0 : List α) (cv : α → β)
    (h1 : ∀ (x3 : List β) (i : Nat) (r : List β) (hi : i < x0.length), x3.length = x0.length → Ev (fun k => F k (x3.set i (cv x0[i])) ((i + 1 : Nat) : Int)) r → Ev (fun k => F k x3 (i : Int)) r)
    (h2 : ∀ x3 : List β, Ev (fun k => F k x3 (x0.length : Int)) x3) (init : List β) (hl : init.length = x0.length) : Ev (fun k => F k init 0) (x0.map cv) := by
  have key : ∀ (d i : Nat) (x3 : List β), i + d = x0.length → x3.length = x0.length → x3.take i = (x0.map cv).take i → Ev (fun k => F k x3 (i : Int)) (x0.map cv) := by
    intro d
    induction d with
    | zero =>
      intro i x3 hi hx ht
      obtain rfl : i = x0.length := by omega
      have e : x3 = x0.map cv := by
        rw [← hx, List.take_length] at ht
        rw [ht, hx]
        exact List.take_of_length_le (by simp)
      have := h2 x3
      rw [e] at this
      rw [e]
      exact this
    | succ d ih =>
      intro i x3 hi hx ht
      have hlt : i < x0.length := by omega
      refine h1 x3 i _ hlt hx (ih (i + 1) _ (by omega) (by rw [List.length_set]; exact hx) ?_)
      rw [set_take x3 i _ (by omega), ht]
      rw [List.take_succ_eq_append_getElem (by simpa using hlt)]
      simp
  have := key x0.length 0 init (by omega) hl (by simp)
  exact this

theorem eqLoop {α : Type} (F : Nat → Int → Option Bool) (x0 : List α)
    (h1 : ∀ (i : Nat) (r : Bool) (_ : i < x0.length), Ev (fun k => F k ((i + 1 : Nat) : Int)) r → Ev (fun k => F k (i : Int)) r)
    (h2 : Ev (fun k => F k (x0.length : Int)) true) : Ev (fun k => F k 0) true := by
  have key : ∀ (d i : Nat), i + d = x0.length → Ev (fun k => F k (i : Int)) true := by
    intro d
    induction d with
    | zero =>
      intro i hi
      obtain rfl : i = x0.length := by omega
      exact h2
    | succ d ih =>
      intro i hi
      exact h1 i true (by omega) (ih (i + 1) (by omega))
  exact key x0.length 0 (by omega)

theorem ite_eq_of {α : Type} {p : Prop} [Decidable p] {a b : α} (h : p) : (if p then a else b) = a := if_pos h

theorem Ev.one {α : Type} {g : Nat → Option α} {r : α} (h : ∀ k, g (k + 1) = some r) : Ev g r := Ev.step (f := fun _ => some r) h (Ev.now r)

theorem rd_get (l : List Int) (i : Nat) (h : i < l.length) : rd l (i : Int) = l[i] := by
  simp [rd, List.getD, List.getElem?_eq_getElem h]

theorem markInt_any (d : Nat) : ∀ (i c : Nat) (x : List Int), i + d = x.length → x.length ≤ 1048576 → c + d ≤ 4000000000000000000 → ∃ x', Ev (fun k => laws_markIntS.l0 k x (c : Int) (i : Int)) (((c + d : Nat) : Int), x') := by
  induction d with
  | zero =>
    intro i c x hi hx hc
    refine ⟨x, Ev.one (fun k => ?_)⟩
    simp only [laws_markIntS.l0]
    rw [if_neg (by omega)]
    rfl
  | succ d ih =>
    intro i c x hi hx hc
    obtain ⟨x', h⟩ := ih (i + 1) (c + 1) (x.set i (c : Int)) (by simp; omega) (by simpa using hx) (by omega)
    refine ⟨x', ?_⟩
    rw [show c + 1 + d = c + (d + 1) by omega] at h
    refine Ev.step (fun k => ?_) h
    simp only [laws_markIntS.l0, Int.toNat_natCast]
    rw [if_pos (by omega), if_pos (by omega), w64_nat c (by omega), w64_nat i (by omega)]

theorem toIntS_ev (l : List Int) (hl : l.length ≤ 35184372088832) : Ev (fun k => laws_toIntS.f k l) l := by
  have key := copyLoop (fun k x3 i => laws_toIntS.l0 k l x3 i) l (fun x => x) (by
    intro x3 i r hi hx h
    refine Ev.step (fun k => ?_) h
    simp only [laws_toIntS.l0]
    rw [if_pos (by omega), if_pos (by omega), if_pos (by omega), rd_get l i hi, w64_nat i (by omega), Int.toNat_natCast]) (by
    intro x3
    refine Ev.one (fun k => ?_)
    simp only [laws_toIntS.l0]
    rw [if_neg (by omega)]) (List.replicate l.length 0) (by simp)
  rw [List.map_id' l] at key
  refine Ev.congr (fun k => ?_) key
  simp only [laws_toIntS.f, Int.toNat_natCast]
  rw [if_pos (by omega), if_pos hl]

theorem eqIntS_ev (l : List Int) (hl : l.length ≤ 140737488355328) : Ev (fun k => laws_eqIntS.f k l l) true := by
  have key := eqLoop (fun k i => laws_eqIntS.l0 k l l i) l (by
    intro i r hi h
    refine Ev.step (fun k => ?_) h
    simp only [laws_eqIntS.l0]
    rw [if_pos (by omega), if_pos (by omega), if_pos (by omega), if_pos trivial, w64_nat i (by omega)]) (by
    refine Ev.one (fun k => ?_)
    simp only [laws_eqIntS.l0]
    rw [if_neg (by omega)])
  refine Ev.congr (fun k => ?_) key
  simp only [laws_eqIntS.f]
  rw [if_pos trivial]

theorem rdPassage_get (l : List S59) (i : Nat) (h : i < l.length) : rd_T59 l (i : Int) = l[i] := by
  simp [rd_T59, List.getD, List.getElem?_eq_getElem h]

theorem rdlPassage_get (l : List S70) (i : Nat) (h : i < l.length) : rd_T70 l (i : Int) = l[i] := by
  simp [rd_T70, List.getD, List.getElem?_eq_getElem h]

theorem szPassage_ev (x : S70) (b : Int) (hb : 0 ≤ b) (hb2 : b ≤ 1048576) (h0 : x.f1.length ≤ 9223372036854775807) : laws_szPassage.f x.f0 x.f1 b = some (if b < (x.f1.length : Int) then -1 else b - (x.f1.length : Int)) := by
  simp only [laws_szPassage.f, laws_szIntS.f]
  rw [w64 (by omega) (by omega)]
  by_cases h : b < (x.f1.length : Int)
  · rw [if_pos (by omega), if_pos h]
    rfl
  · rw [if_neg (by omega), if_neg h]
    simp only [Option.bind_some]
    rw [if_neg (by omega)]

theorem szPassageS_loop (l : List S70) (hl : l.length ≤ 1048576) (hx : ∀ x ∈ l, x.f1.length ≤ 9223372036854775807) (d : Nat) : ∀ (i : Nat) (b : Int), i + d = l.length → 0 ≤ b → b ≤ 1048576 →
    ∃ r, Ev (fun k => laws_szPassageS.l0 k l b (i : Int)) r ∧ (r < 0 ∨ 0 ≤ r ∧ r ≤ 1048576 ∧ ∀ (j : Nat) (h : j < l.length), i ≤ j → l[j].f1.length ≤ 1048576) := by
  induction d with
  | zero =>
    intro i b hi h0 h1
    refine ⟨b, Ev.one (fun k => ?_), .inr ⟨h0, h1, fun j h hj => by omega⟩⟩
    simp only [laws_szPassageS.l0]
    rw [if_neg (by omega)]
  | succ d ih =>
    intro i b hi h0 h1
    have hlt : i < l.length := by omega
    have hsz := szPassage_ev l[i] b h0 h1 (hx _ (List.getElem_mem hlt))
    by_cases hc : b < (l[i].f1.length : Int)
    · refine ⟨-1, Ev.one (fun k => ?_), .inl (by omega)⟩
      simp only [laws_szPassageS.l0]
      rw [if_pos (by omega), if_pos (by omega), rdlPassage_get l i hlt, hsz, if_pos hc]
      rfl
    · obtain ⟨r, hr, hor⟩ := ih (i + 1) (b - (l[i].f1.length : Int)) (by omega) (by omega) (by omega)
      refine ⟨r, Ev.step (fun k => ?_) hr, ?_⟩
      · simp only [laws_szPassageS.l0]
        rw [if_pos (by omega), if_pos (by omega), rdlPassage_get l i hlt, hsz, if_neg hc]
        simp only [Option.bind_some]
        rw [if_neg (by omega), w64_nat i (by omega)]
      · rcases hor with h | ⟨h2, h3, h4⟩
        · exact .inl h
        · refine .inr ⟨h2, h3, fun j hj hij => ?_⟩
          rcases Nat.eq_or_lt_of_le hij with rfl | hlt2
          · omega
          · exact h4 j hj (by omega)

theorem szPassageS_ev (l : List S70) (b : Int) (hb : 0 ≤ b) (hb2 : b ≤ 1048576) (h0 : l.length ≤ 9223372036854775807) (hx : ∀ x ∈ l, x.f1.length ≤ 9223372036854775807) :
    ∃ r, Ev (fun k => laws_szPassageS.f k l b) r ∧ (r < 0 ∨ 0 ≤ r ∧ r ≤ 1048576 ∧ l.length ≤ 1048576 ∧ ∀ x ∈ l, x.f1.length ≤ 1048576) := by
  by_cases hc : b < (l.length : Int)
  · refine ⟨-1, Ev.one (fun k => ?_), .inl (by omega)⟩
    simp only [laws_szPassageS.f]
    rw [w64 (by omega) (by omega), if_pos (by omega)]
  · obtain ⟨r, hr, hor⟩ := szPassageS_loop l (by omega) hx l.length 0 (b - (l.length : Int)) (by omega) (by omega) (by omega)
    refine ⟨r, Ev.congr (fun k => ?_) hr, ?_⟩
    · simp only [laws_szPassageS.f]
      rw [w64 (by omega) (by omega), if_neg (by omega)]
      rfl
    · rcases hor with h | ⟨h2, h3, h4⟩
      · exact .inl h
      · refine .inr ⟨h2, h3, by omega, fun x hx => ?_⟩
        obtain ⟨j, hj, rfl⟩ := List.getElem_of_mem hx
        exact h4 j hj (by omega)

def cvPassage (x : S70) : S59 := ⟨x.f0, x.f1⟩

theorem toPassageS_ev (l : List S70) (hl : l.length ≤ 1048576) (hx : ∀ x ∈ l, x.f1.length ≤ 1048576) : Ev (fun k => laws_toPassageS.f k l) (l.map cvPassage) := by
  have key := copyLoop (fun k x3 i => laws_toPassageS.l0 k l x3 i) l cvPassage (by
    intro x3 i r hi hx3 h
    refine Ev.step (f := fun k => (laws_toPassage.f k l[i].f0 l[i].f1).bind fun t => laws_toPassageS.l0 k l (x3.set i (⟨t.1, t.2⟩ : S59)) ((i + 1 : Nat) : Int)) (fun k => ?_) ?_
    · have hc : (i : Int) < (x3.length : Int) := by omega
      simp only [laws_toPassageS.l0, hc, if_true, Int.toNat_natCast]
      rw [if_pos (by omega), if_pos (by omega), rdlPassage_get l i hi, w64_nat i (by omega)]
    · refine Ev.bind (a := (l[i].f0, l[i].f1)) ?_ h
      simp only [laws_toPassage.f]
      exact Ev.bind (toIntS_ev l[i].f1 (by have := hx _ (List.getElem_mem hi); omega)) (Ev.now _)) (by
    intro x3
    refine Ev.one (fun k => ?_)
    simp only [laws_toPassageS.l0]
    rw [if_neg (by omega)]) (List.replicate l.length z59) (by simp)
  refine Ev.congr (fun k => ?_) key
  simp only [laws_toPassageS.f, Int.toNat_natCast]
  rw [if_pos (by omega), if_pos (by omega)]

theorem eqPassageS_ev (l : List S59) (hl : l.length ≤ 1048576) (hx : ∀ x ∈ l, x.f1.length ≤ 1048576) : Ev (fun k => laws_eqPassageS.f k l l) true := by
  have key := eqLoop (fun k i => laws_eqPassageS.l0 k l l i) l (by
    intro i r hi h
    refine Ev.step (f := fun k => (laws_eqPassage.f k l[i].f0 l[i].f1 l[i].f0 l[i].f1).bind fun t => if t = true then laws_eqPassageS.l0 k l l ((i + 1 : Nat) : Int) else some false) (fun k => ?_) ?_
    · simp only [laws_eqPassageS.l0]
      rw [if_pos (by omega), if_pos (by omega), if_pos (by omega), rdPassage_get l i hi, w64_nat i (by omega)]
    · refine Ev.bind (a := true) ?_ ?_
      · simp only [laws_eqPassage.f, if_true]
        refine Ev.bind (eqIntS_ev l[i].f1 (by have := hx _ (List.getElem_mem hi); omega)) ?_
        simp only [if_true]
        exact Ev.now true
      · simp only [if_true]
        exact h) (by
    refine Ev.one (fun k => ?_)
    simp only [laws_eqPassageS.l0]
    rw [if_neg (by omega)])
  refine Ev.congr (fun k => ?_) key
  simp only [laws_eqPassageS.f, if_true]

def sumP : List (List Int) → Nat
  | [] => 0
  | x :: l => x.length + sumP l
theorem sumP_mem (l : List (List Int)) : ∀ x ∈ l, x.length ≤ sumP l := by
  induction l with
  | nil => intro x h; simp at h
  | cons y l ih =>
    intro x h
    rw [sumP]
    rcases List.mem_cons.1 h with rfl | h
    · omega
    · have := ih x h
      omega
theorem szPassageS_sumloop (l : List S70) (hl : l.length ≤ 1048576) (hx : ∀ x ∈ l, x.f1.length ≤ 9223372036854775807) (d : Nat) : ∀ (i : Nat) (b : Int), i + d = l.length → 0 ≤ b → b ≤ 1048576 →
    ∃ r, Ev (fun k => laws_szPassageS.l0 k l b (i : Int)) r ∧ (r < 0 ∨ 0 ≤ r ∧ r + (sumP ((l.drop i).map (·.f1)) : Int) = b) := by
  induction d with
  | zero =>
    intro i b hi h0 h1
    refine ⟨b, Ev.one (fun k => ?_), .inr ⟨h0, ?_⟩⟩
    · simp only [laws_szPassageS.l0]
      rw [if_neg (by omega)]
    · rw [List.drop_of_length_le (by omega), List.map_nil, sumP]
      omega
  | succ d ih =>
    intro i b hi h0 h1
    have hlt : i < l.length := by omega
    have hsz := szPassage_ev l[i] b h0 h1 (hx _ (List.getElem_mem hlt))
    rw [drop_cons l i hlt, List.map_cons, sumP]
    by_cases hc : b < (l[i].f1.length : Int)
    · refine ⟨-1, Ev.one (fun k => ?_), .inl (by omega)⟩
      simp only [laws_szPassageS.l0]
      rw [if_pos (by omega), if_pos (by omega), rdlPassage_get l i hlt, hsz, if_pos hc]
      rfl
    · obtain ⟨r, hr, hor⟩ := ih (i + 1) (b - (l[i].f1.length : Int)) (by omega) (by omega) (by omega)
      refine ⟨r, Ev.step (fun k => ?_) hr, ?_⟩
      · simp only [laws_szPassageS.l0]
        rw [if_pos (by omega), if_pos (by omega), rdlPassage_get l i hlt, hsz, if_neg hc]
        simp only [Option.bind_some]
        rw [if_neg (by omega), w64_nat i (by omega)]
      · rcases hor with h | ⟨h2, h3⟩
        · exact .inl h
        · exact .inr ⟨h2, by omega⟩
theorem szPassageS_sum (l : List S70) (b : Int) (hb : 0 ≤ b) (hb2 : b ≤ 1048576) (h0 : l.length ≤ 9223372036854775807) (hx : ∀ x ∈ l, x.f1.length ≤ 9223372036854775807) :
    ∃ r, Ev (fun k => laws_szPassageS.f k l b) r ∧ (r < 0 ∨ 0 ≤ r ∧ l.length ≤ 1048576 ∧ r + (sumP (l.map (·.f1)) : Int) + (l.length : Int) = b) := by
  by_cases hc : b < (l.length : Int)
  · refine ⟨-1, Ev.one (fun k => ?_), .inl (by omega)⟩
    simp only [laws_szPassageS.f]
    rw [w64 (by omega) (by omega), if_pos (by omega)]
  · obtain ⟨r, hr, hor⟩ := szPassageS_sumloop l (by omega) hx l.length 0 (b - (l.length : Int)) (by omega) (by omega) (by omega)
    refine ⟨r, Ev.congr (fun k => ?_) hr, ?_⟩
    · simp only [laws_szPassageS.f]
      rw [w64 (by omega) (by omega), if_neg (by omega)]
      rfl
    · rw [List.drop_zero] at hor
      rcases hor with h | ⟨h2, h3⟩
      · exact .inl h
      · exact .inr ⟨h2, by omega, by omega⟩
theorem markPassageS_loop (n : Nat) (hn : n ≤ 1048576) (d : Nat) : ∀ (i c : Nat) (p : List S59), i + d = p.length → p.length = n → (∀ x ∈ p.drop i, x.f1.length ≤ 1048576) → c + d * 1048577 ≤ 3000000000000000000 →
    ∃ r, ∃ c' : Nat, Ev (fun k => laws_markPassageS.l0 k p (c : Int) (i : Int)) ((c' : Int), r) ∧ c' ≤ c + d * 1048577 := by
  induction d with
  | zero =>
    intro i c p hi hp hx hc
    refine ⟨p, c, Ev.one (fun k => ?_), by omega⟩
    simp only [laws_markPassageS.l0]
    rw [if_neg (by omega)]
  | succ d ih =>
    intro i c p hi hp hx hc
    have hlt : i < p.length := by omega
    rw [drop_cons p i hlt] at hx
    have h3 := hx p[i] List.mem_cons_self
    obtain ⟨x', h⟩ := markInt_any p[i].f1.length 0 (c + 1) p[i].f1 (by omega) (by omega) (by omega)
    have hd : (p.set i ⟨(c : Int), x'⟩).drop (i + 1) = p.drop (i + 1) := List.drop_set_of_lt (by omega)
    obtain ⟨r, c', h2, hle⟩ := ih (i + 1) (c + 1 + p[i].f1.length) (p.set i ⟨(c : Int), x'⟩) (by simp; omega) (by simpa using hp) (by rw [hd]; exact fun x hx2 => hx x (List.mem_cons_of_mem _ hx2)) (by omega)
    refine ⟨r, c', Ev.step (f := fun k => (laws_markIntS.f k p[i].f1 ((c + 1 : Nat) : Int)).bind fun t => laws_markPassageS.l0 k (p.set i ⟨(c : Int), t.2⟩) t.1 ((i + 1 : Nat) : Int)) (fun k => ?_) (Ev.bind (g := fun k => laws_markIntS.f k p[i].f1 ((c + 1 : Nat) : Int)) h h2), by omega⟩
    simp only [laws_markPassageS.l0, Int.toNat_natCast]
    rw [if_pos (by omega), if_pos (by omega), w64_nat i (by omega), w64_nat c (by omega), List.getD_eq_getElem?_getD, List.getElem?_eq_getElem hlt]
    rfl
theorem markPassageS_ev (p : List S59) (hp : p.length ≤ 1048576) (hx : ∀ x ∈ p, x.f1.length ≤ 1048576) : ∃ r, ∃ c' : Nat, Ev (fun k => laws_markPassageS.f k p 1) ((c' : Int), r) ∧ c' ≤ 3000000000000000000 := by
  obtain ⟨r, c', h, hle⟩ := markPassageS_loop p.length hp p.length 0 1 p (by omega) rfl (by simpa using hx) (by omega)
  exact ⟨r, c', h, by omega⟩

/-- A number put into its place, if it isn't there. -/
def num (v : Int) : List Int → List Int
  | [] => [v]
  | x :: l => if x < v then x :: num v l else if x = v then x :: l else v :: x :: l

theorem mem_num (v y : Int) (l : List Int) : y ∈ num v l ↔ y = v ∨ y ∈ l := by
  induction l with
  | nil => simp [num]
  | cons x l ih =>
    unfold num
    split
    · simp only [List.mem_cons, ih]
      constructor
      · rintro (h | h | h)
        · exact .inr (.inl h)
        · exact .inl h
        · exact .inr (.inr h)
      · rintro (h | h | h)
        · exact .inr (.inl h)
        · exact .inl h
        · exact .inr (.inr h)
    · split
      · rename_i h
        simp only [List.mem_cons, h]
        constructor
        · rintro (h | h)
          · exact .inl h
          · exact .inr (.inr h)
        · rintro (h | h | h)
          · exact .inl h
          · exact .inl h
          · exact .inr h
      · simp only [List.mem_cons]

theorem num_len (v : Int) (l : List Int) : (num v l).length ≤ l.length + 1 := by
  induction l with
  | nil => simp [num]
  | cons x l ih =>
    unfold num
    split
    · simp only [List.length_cons]; omega
    · split <;> simp

theorem num_sorted (v : Int) (l : List Int) (h : l.Pairwise (· < ·)) : (num v l).Pairwise (· < ·) := by
  induction l with
  | nil => simp [num]
  | cons x l ih =>
    have hx : ∀ y, y ∈ l → x < y := fun y hy => List.rel_of_pairwise_cons h hy
    unfold num
    split
    · rename_i hlt
      refine List.Pairwise.cons (fun y hy => ?_) (ih h.of_cons)
      rcases (mem_num v y l).1 hy with rfl | hy
      · exact hlt
      · exact hx y hy
    · split
      · exact h
      · rename_i h1 h2
        refine List.Pairwise.cons (fun y hy => ?_) h
        rcases List.mem_cons.1 hy with rfl | hy
        · omega
        · have := hx y hy; omega

theorem sorted_ext (l : List Int) : ∀ r : List Int, l.Pairwise (· < ·) → r.Pairwise (· < ·) → (∀ x, x ∈ l ↔ x ∈ r) → l = r := by
  induction l with
  | nil =>
    intro r _ _ h
    cases r with
    | nil => rfl
    | cons y r => exact absurd ((h y).2 (by simp)) (by simp)
  | cons x l ih =>
    intro r hl hr h
    cases r with
    | nil => exact absurd ((h x).1 (by simp)) (by simp)
    | cons y r =>
      have hx := fun z hz => List.rel_of_pairwise_cons hl (a' := z) hz
      have hy := fun z hz => List.rel_of_pairwise_cons hr (a' := z) hz
      have e : x = y := by
        rcases List.mem_cons.1 ((h x).1 (by simp)) with e | h1
        · exact e
        · rcases List.mem_cons.1 ((h y).2 (by simp)) with e | h2
          · exact e.symm
          · have := hx y h2
            have := hy x h1
            omega
      subst e
      refine congrArg (x :: ·) (ih r hl.of_cons hr.of_cons (fun z => ?_))
      constructor
      · intro hz
        rcases List.mem_cons.1 ((h z).1 (List.mem_cons_of_mem _ hz)) with rfl | h1
        · exact absurd (hx z hz) (by omega)
        · exact h1
      · intro hz
        rcases List.mem_cons.1 ((h z).2 (List.mem_cons_of_mem _ hz)) with rfl | h1
        · exact absurd (hy z hz) (by omega)
        · exact h1

/-- n, n + 1, .. : d of them. -/
def upL : Int → Nat → List Int
  | _, 0 => []
  | n, d + 1 => n :: upL (n + 1) d

theorem mem_upL (x : Int) (d : Nat) : ∀ n, x ∈ upL n d ↔ n ≤ x ∧ x < n + d := by
  induction d with
  | zero =>
    intro n
    simp only [upL, List.not_mem_nil, false_iff]
    omega
  | succ d ih =>
    intro n
    simp only [upL, List.mem_cons, ih]
    omega

theorem upL_sorted (d : Nat) : ∀ n, (upL n d).Pairwise (· < ·) := by
  induction d with
  | zero => intro n; exact List.Pairwise.nil
  | succ d ih =>
    intro n
    refine List.Pairwise.cons (fun y hy => ?_) (ih (n + 1))
    have := (mem_upL y d (n + 1)).1 hy
    omega

theorem arr_get (S : List Int) (j : Nat) (h : j < S.length) : S.toArray[j]! = S[j] := by simp [h]

theorem compact_strict (S : List Int) (h : S.Pairwise (fun a b => a ≤ b)) : (Lib.compact S).Pairwise (· < ·) := by
  unfold Lib.compact Lib.compactUpTo
  rw [List.pairwise_map]
  have hr := (List.pairwise_lt_range (n := S.length)).filter (Lib.keeps S.toArray)
  refine List.Pairwise.imp_of_mem (fun {i j} hi hj hij => ?_) hr
  rw [List.mem_filter, List.mem_range] at hi hj
  have hk : j = 0 ∨ S.toArray[j]! ≠ S.toArray[j - 1]! := by
    have := hj.2
    unfold Lib.keeps at this
    exact of_decide_eq_true this
  have hg := List.pairwise_iff_getElem.1 h
  rw [arr_get S j hj.1, arr_get S (j - 1) (by omega)] at hk
  rw [arr_get S i hi.1, arr_get S j hj.1]
  have h1 : S[j - 1]'(by omega) ≤ S[j] := hg (j - 1) j (by omega) hj.1 (by omega)
  have h2 : S[i] ≤ S[j - 1]'(by omega) := by
    rcases Nat.lt_or_ge i (j - 1) with h3 | h3
    · exact hg i (j - 1) hi.1 (by omega) h3
    · have : i = j - 1 := by omega
      subst this
      exact Int.le_refl _
  rcases hk with hk | hk <;> omega

theorem mem_compact (S : List Int) (x : Int) : x ∈ Lib.compact S ↔ x ∈ S := by
  have key : ∀ j (h : j < S.length), S[j] ∈ Lib.compact S := by
    intro j
    induction j with
    | zero =>
      intro h
      unfold Lib.compact Lib.compactUpTo
      exact List.mem_map.2 ⟨0, List.mem_filter.2 ⟨List.mem_range.2 h, by simp [Lib.keeps]⟩, arr_get S 0 h⟩
    | succ j ih =>
      intro h
      by_cases hk : Lib.keeps S.toArray (j + 1) = true
      · unfold Lib.compact Lib.compactUpTo
        exact List.mem_map.2 ⟨j + 1, List.mem_filter.2 ⟨List.mem_range.2 h, hk⟩, arr_get S (j + 1) h⟩
      · have e : S[j + 1] = S[j] := by
          have : ¬ (j + 1 = 0 ∨ S.toArray[j + 1]! ≠ S.toArray[j + 1 - 1]!) := by
            unfold Lib.keeps at hk
            exact fun hh => hk (decide_eq_true hh)
          rw [arr_get S (j + 1) h, arr_get S (j + 1 - 1) (by omega)] at this
          exact Classical.byContradiction fun hh => this (.inr hh)
        rw [e]
        exact ih (by omega)
  constructor
  · intro h
    unfold Lib.compact Lib.compactUpTo at h
    obtain ⟨j, hj, rfl⟩ := List.mem_map.1 h
    have hlt := List.mem_range.1 (List.mem_filter.1 hj).1
    rw [arr_get S j hlt]
    exact List.getElem_mem hlt
  · intro h
    obtain ⟨j, hj, rfl⟩ := List.getElem_of_mem h
    exact key j hj

theorem sort_sorted (L : List Int) : (L.mergeSort fun x y => decide (x ≤ y)).Pairwise (fun a b => a ≤ b) := by
  have := List.pairwise_mergeSort (le := fun x y : Int => decide (x ≤ y)) (by intro a b c h1 h2; simp only [decide_eq_true_eq] at *; omega) (by intro a b; simp only [Bool.or_eq_true, decide_eq_true_eq]; omega) L
  exact this.imp (fun h => of_decide_eq_true h)

def insAll (o : List Int) (l : List Int) : List Int := l.foldl (fun o x => num x o) o

theorem insAll_sorted (l : List Int) : ∀ o : List Int, o.Pairwise (· < ·) → (insAll o l).Pairwise (· < ·) := by
  induction l with
  | nil => intro o h; exact h
  | cons x l ih => intro o h; exact ih _ (num_sorted x o h)

theorem mem_insAll (y : Int) (l : List Int) : ∀ o : List Int, y ∈ insAll o l ↔ y ∈ o ∨ y ∈ l := by
  induction l with
  | nil => intro o; simp [insAll]
  | cons x l ih =>
    intro o
    have := ih (num x o)
    rw [mem_num] at this
    show y ∈ insAll (num x o) l ↔ _
    rw [this, List.mem_cons]
    constructor
    · rintro ((h | h) | h)
      · exact .inr (.inl h)
      · exact .inl h
      · exact .inr (.inr h)
    · rintro (h | h | h)
      · exact .inl (.inr h)
      · exact .inl (.inl h)
      · exact .inr h

theorem both_same (L : List Int) : Lib.compact (L.mergeSort fun x y => decide (x ≤ y)) = insAll [] L := by
  refine sorted_ext _ _ (compact_strict _ (sort_sorted L)) (insAll_sorted L [] List.Pairwise.nil) (fun x => ?_)
  rw [mem_compact, List.mem_mergeSort, mem_insAll]
  simp

theorem insAll_len (l : List Int) : ∀ o : List Int, (insAll o l).length ≤ o.length + l.length := by
  induction l with
  | nil => intro o; simp [insAll]
  | cons x l ih =>
    intro o
    have := ih (num x o)
    have := num_len x o
    show (insAll (num x o) l).length ≤ _
    rw [List.length_cons]
    omega


theorem num_loop (l : List Int) (v : Int) (hl : l.length ≤ 1048576) (d : Nat) : ∀ i : Nat, i + d = l.length → Ev (fun k => spec_l8Num.l0 k l v (i : Int)) (l.take i ++ num v (l.drop i)) := by
  induction d with
  | zero =>
    intro i hi
    have t1 : (l.take i).length ≤ l.length := by simp; omega
    have t2 : (l.drop i).length ≤ l.length := by simp
    rw [List.drop_of_length_le (by omega)]
    refine Ev.one (fun k => ?_)
    simp only [spec_l8Num.l0, Option.bind_some, Int.toNat_natCast, List.length_nil, List.nil_append, List.length_append, List.length_cons]
    rw [if_neg (by omega), if_pos (by omega), if_pos (by omega), if_pos (by omega), if_pos (by omega), if_pos (by omega), List.drop_of_length_le (by omega)]
    simp [num]
  | succ d ih =>
    intro i hi
    have hlt : i < l.length := by omega
    have t1 : (l.take i).length ≤ l.length := by simp; omega
    have t2 : (l.drop i).length ≤ l.length := by simp
    rw [drop_cons l i hlt, num]
    by_cases h1 : l[i] < v
    · rw [if_pos h1]
      refine Ev.step (fun k => ?_) (by rw [show l.take i ++ l[i] :: num v (l.drop (i + 1)) = l.take (i + 1) ++ num v (l.drop (i + 1)) by rw [List.take_succ_eq_append_getElem hlt, List.append_assoc]; rfl]; exact ih (i + 1) (by omega))
      simp only [spec_l8Num.l0]
      rw [if_pos (by omega), if_pos (by omega), rd_get l i hlt, if_pos h1, w64_nat i (by omega)]
    · rw [if_neg h1]
      by_cases h2 : l[i] = v
      · rw [if_pos h2]
        refine Ev.one (fun k => ?_)
        simp only [spec_l8Num.l0, Option.bind_some, List.length_nil, List.nil_append]
        rw [if_pos (by omega), if_pos (by omega), rd_get l i hlt, if_neg h1, if_pos h2, if_pos (by omega), ← drop_cons l i hlt, List.take_append_drop]
      · rw [if_neg h2]
        refine Ev.one (fun k => ?_)
        simp only [spec_l8Num.l0, Option.bind_some, Int.toNat_natCast, List.length_nil, List.nil_append, List.length_append, List.length_cons]
        rw [if_pos (by omega), if_pos (by omega), rd_get l i hlt, if_neg h1, if_neg h2, if_pos (by omega), if_pos (by omega), if_pos (by omega), if_pos (by omega), ← drop_cons l i hlt]
        simp

theorem num_ev (l : List Int) (v : Int) (hl : l.length ≤ 1048576) : Ev (fun k => spec_l8Num.f k l v) (num v l) := by
  have := num_loop l v hl l.length 0 (by omega)
  rw [List.take_zero, List.nil_append, List.drop_zero] at this
  exact this

theorem markLoop {β : Type} (C : Nat → Nat) (mkv : Nat → β) (F : Nat → List β → Int → Int → Option (Int × List β)) (n : Nat)
    (h1 : ∀ (x3 : List β) (i : Nat) (r : Int × List β), i < n → x3.length = n → Ev (fun k => F k (x3.set i (mkv i)) ((C (i + 1) : Nat) : Int) ((i + 1 : Nat) : Int)) r → Ev (fun k => F k x3 ((C i : Nat) : Int) (i : Int)) r)
    (h2 : ∀ x3 : List β, x3.length = n → Ev (fun k => F k x3 ((C n : Nat) : Int) (n : Int)) (((C n : Nat) : Int), x3)) (init : List β) (hl : init.length = n) :
    Ev (fun k => F k init ((C 0 : Nat) : Int) ((0 : Nat) : Int)) (((C n : Nat) : Int), (List.range n).map mkv) := by
  have key : ∀ (d i : Nat) (x3 : List β), i + d = n → x3.length = n → x3.take i = (List.range i).map mkv → Ev (fun k => F k x3 ((C i : Nat) : Int) (i : Int)) (((C n : Nat) : Int), (List.range n).map mkv) := by
    intro d
    induction d with
    | zero =>
      intro i x3 hi hx ht
      obtain rfl : i = n := by omega
      have e : x3 = (List.range i).map mkv := by
        rw [← ht, ← hx, List.take_length]
      have := h2 x3 hx
      rw [← e]
      exact this
    | succ d ih =>
      intro i x3 hi hx ht
      refine h1 x3 i _ (by omega) hx (ih (i + 1) _ (by omega) (by rw [List.length_set]; exact hx) ?_)
      rw [set_take x3 i _ (by omega), ht, List.range_succ, List.map_append]
      rfl
  exact key n 0 init (by omega) hl (by simp)

theorem heldLoop (C : Nat → Nat) (F : Nat → Int → Int → Option Int) (n : Nat)
    (h1 : ∀ (i : Nat) (r : Int), i < n → Ev (fun k => F k ((C (i + 1) : Nat) : Int) ((i + 1 : Nat) : Int)) r → Ev (fun k => F k ((C i : Nat) : Int) (i : Int)) r)
    (h2 : Ev (fun k => F k ((C n : Nat) : Int) (n : Int)) ((C n : Nat) : Int)) : Ev (fun k => F k ((C 0 : Nat) : Int) ((0 : Nat) : Int)) ((C n : Nat) : Int) := by
  have key : ∀ (d i : Nat), i + d = n → Ev (fun k => F k ((C i : Nat) : Int) (i : Int)) ((C n : Nat) : Int) := by
    intro d
    induction d with
    | zero =>
      intro i hi
      obtain rfl : i = n := by omega
      exact h2
    | succ d ih =>
      intro i hi
      exact h1 i _ (by omega) (ih (i + 1) (by omega))
  exact key n 0 (by omega)

def mkInt (q : Nat) : Int := ((1 + q : Nat) : Int)

theorem markIntS_ev (l : List Int) (hl : l.length ≤ 1048576) : Ev (fun k => laws_markIntS.f k l 1) (((1 + l.length : Nat) : Int), (List.range l.length).map mkInt) := by
  have key := markLoop (fun i => 1 + i) mkInt (fun k x c i => laws_markIntS.l0 k x c i) l.length (by
    intro x3 i r hi hx h
    refine Ev.step (fun k => ?_) h
    simp only [laws_markIntS.l0, Int.toNat_natCast]
    rw [if_pos (by omega), if_pos (by omega), w64_nat (1 + i) (by omega), w64_nat i (by omega)]
    rfl) (by
    intro x3 hx
    refine Ev.one (fun k => ?_)
    simp only [laws_markIntS.l0]
    rw [if_neg (by omega)]) l rfl
  exact key

theorem heldIntS_ev (n : Nat) (hl : n ≤ 1048576) : Ev (fun k => laws_heldIntS.f k ((List.range n).map mkInt) 1) ((1 + n : Nat) : Int) := by
  have key := heldLoop (fun i => 1 + i) (fun k c i => laws_heldIntS.l0 k ((List.range n).map mkInt) c i) n (by
    intro i r hi h
    refine Ev.step (fun k => ?_) h
    simp only [laws_heldIntS.l0, List.length_map, List.length_range]
    rw [if_pos (by omega), if_pos (by omega), rd_get _ i (by simpa using hi), w64_nat (1 + i) (by omega), w64_nat i (by omega)]
    simp only [List.getElem_map, List.getElem_range, mkInt, if_true]
    rfl) (by
    refine Ev.one (fun k => ?_)
    simp only [laws_heldIntS.l0, List.length_map, List.length_range]
    rw [if_neg (by omega)])
  exact key

def callL (s : List Int) (v : Int) : Nat → List S59 → List Int
  | _, [] => []
  | i, x :: l => (if s[i]? = some v then x.f1 else []) ++ callL s v (i + 1) l
theorem callL_nil (s : List Int) (v : Int) (l : List S59) : ∀ i, s.length ≤ i → callL s v i l = [] := by
  induction l with
  | nil => intro i _; rfl
  | cons x l ih =>
    intro i hi
    rw [callL, ih (i + 1) (by omega), List.getElem?_eq_none (by omega)]
    simp
theorem callL_len (s : List Int) (v : Int) (l : List S59) : ∀ i, (callL s v i l).length ≤ sumP (l.map (·.f1)) := by
  induction l with
  | nil => intro i; simp [callL]
  | cons x l ih =>
    intro i
    have := ih (i + 1)
    rw [callL, List.map_cons, sumP, List.length_append]
    split
    · omega
    · simp; omega
theorem insAll_app (o a b : List Int) : insAll o (a ++ b) = insAll (insAll o a) b := by
  unfold insAll
  rw [List.foldl_append]
theorem spec_in_loop (l : List S59) (s : List Int) (v : Int) (i : Nat) (hi : i < l.length) (hl : l.length ≤ 1048576) (R : List Int) (d : Nat) : ∀ (j : Nat) (o : List Int), j + d = l[i].f1.length → o.length + d ≤ 1048576 → l[i].f1.length ≤ 1048576 →
    Ev (fun k => spec_CalledIn.l0 k l s v (insAll o (l[i].f1.drop j)) ((i + 1 : Nat) : Int)) R → Ev (fun k => spec_CalledIn.l1 k l s v o (i : Int) (j : Int)) R := by
  induction d with
  | zero =>
    intro j o hj ho hn h
    rw [List.drop_of_length_le (by omega)] at h
    refine Ev.step (fun k => ?_) h
    simp only [spec_CalledIn.l1]
    rw [if_pos (by omega), if_pos (by omega), rdPassage_get l i hi, if_neg (by omega), w64_nat i (by omega)]
    rfl
  | succ d ih =>
    intro j o hj ho hn h
    have hlt : j < l[i].f1.length := by omega
    rw [drop_cons l[i].f1 j hlt] at h
    have hnl := num_len l[i].f1[j] o
    refine Ev.step (f := fun k => (spec_l8Num.f k o l[i].f1[j]).bind fun t => spec_CalledIn.l1 k l s v t (i : Int) ((j + 1 : Nat) : Int)) (fun k => ?_) (Ev.bind (num_ev o l[i].f1[j] (by omega)) (ih (j + 1) (num l[i].f1[j] o) (by omega) (by omega) hn h))
    simp only [spec_CalledIn.l1]
    rw [if_pos (by omega), if_pos (by omega), rdPassage_get l i hi, if_pos (by omega), if_pos (by omega), rd_get l[i].f1 j hlt, w64_nat j (by omega)]
theorem spec_call_loop (l : List S59) (s : List Int) (v : Int) (hl : l.length ≤ 1048576) (hs : s.length ≤ 1048576) (d : Nat) : ∀ (i : Nat) (o : List Int), i + d = l.length → o.length + sumP ((l.drop i).map (·.f1)) ≤ 1048576 →
    Ev (fun k => spec_CalledIn.l0 k l s v o (i : Int)) (insAll o (callL s v i (l.drop i))) := by
  induction d with
  | zero =>
    intro i o hi ho
    rw [List.drop_of_length_le (by omega)]
    refine Ev.step (f := fun k => spec_CalledIn.j1 k l s v o (i : Int) false) (fun k => ?_) (Ev.one (fun k => ?_))
    · simp only [spec_CalledIn.l0]
      rw [if_neg (by omega)]
    · simp only [spec_CalledIn.j1, Bool.false_eq_true, if_false]
      rfl
  | succ d ih =>
    intro i o hi ho
    have hlt : i < l.length := by omega
    by_cases his : i < s.length
    · rw [drop_cons l i hlt] at ho ⊢
      rw [List.map_cons, sumP] at ho
      rw [callL, insAll_app]
      refine Ev.step (f := fun k => spec_CalledIn.j1 k l s v o (i : Int) true) (fun k => ?_) ?_
      · simp only [spec_CalledIn.l0]
        rw [if_pos (by omega), decide_eq_true (by omega)]
      · by_cases hv : s[i] = v
        · have e : s[i]? = some v := by rw [List.getElem?_eq_getElem his, hv]
          rw [if_pos e]
          have hil := insAll_len l[i].f1 o
          have h2 := ih (i + 1) (insAll o l[i].f1) (by omega) (by omega)
          refine Ev.step (fun k => ?_) (spec_in_loop l s v i hlt hl _ l[i].f1.length 0 o (by omega) (by omega) (by omega) (by rw [List.drop_zero]; exact h2))
          simp only [spec_CalledIn.j1, if_true]
          rw [if_pos (by omega), if_pos (by omega), rd_get s i his, if_pos hv]
          rfl
        · have e : ¬ s[i]? = some v := by rw [List.getElem?_eq_getElem his]; exact fun h => hv (Option.some.inj h)
          rw [if_neg e]
          refine Ev.step (fun k => ?_) (ih (i + 1) o (by omega) (by omega))
          simp only [spec_CalledIn.j1, if_true]
          rw [if_pos (by omega), if_pos (by omega), rd_get s i his, if_neg hv, w64_nat i (by omega)]
    · rw [callL_nil s v _ i (by omega)]
      refine Ev.step (f := fun k => spec_CalledIn.j1 k l s v o (i : Int) false) (fun k => ?_) (Ev.one (fun k => ?_))
      · simp only [spec_CalledIn.l0]
        rw [if_pos (by omega), decide_eq_false (by omega)]
      · simp only [spec_CalledIn.j1, Bool.false_eq_true, if_false]
        rfl
theorem impl_call_loop (l : List S59) (s : List Int) (v : Int) (hl : l.length ≤ 1048576) (hs : s.length ≤ 1048576) (d : Nat) : ∀ (i : Nat) (o : List Int), i + d = l.length → o.length + sumP ((l.drop i).map (·.f1)) ≤ 1048576 →
    Ev (fun k => impl_CalledIn.l0 k s v o l (l.length : Int) (i : Int)) (insAll [] (o ++ callL s v i (l.drop i))) := by
  induction d with
  | zero =>
    intro i o hi ho
    rw [List.drop_of_length_le (by omega), callL, List.append_nil]
    refine Ev.one (fun k => ?_)
    simp only [impl_CalledIn.l0, slices_Sort_int_int.f, slices_Compact_int_int.f]
    rw [if_neg (by omega), if_pos (by omega), Option.bind_some, Option.bind_some, both_same]
  | succ d ih =>
    intro i o hi ho
    have hlt : i < l.length := by omega
    rw [drop_cons l i hlt] at ho ⊢
    rw [List.map_cons, sumP] at ho
    rw [callL, ← List.append_assoc]
    by_cases his : i < s.length
    · by_cases hv : s[i] = v
      · have e : s[i]? = some v := by rw [List.getElem?_eq_getElem his, hv]
        rw [if_pos e]
        refine Ev.step (fun k => ?_) (ih (i + 1) (o ++ l[i].f1) (by omega) (by rw [List.length_append]; omega))
        simp only [impl_CalledIn.l0]
        rw [if_pos (by omega), if_pos (by omega), if_pos (by omega), if_pos (by omega), rd_get s i his, if_pos hv, rdPassage_get l i hlt, if_pos (by omega), w64_nat i (by omega)]
      · have e : ¬ s[i]? = some v := by rw [List.getElem?_eq_getElem his]; exact fun h => hv (Option.some.inj h)
        rw [if_neg e, List.append_nil]
        refine Ev.step (fun k => ?_) (ih (i + 1) o (by omega) (by omega))
        simp only [impl_CalledIn.l0]
        rw [if_pos (by omega), if_pos (by omega), if_pos (by omega), if_pos (by omega), rd_get s i his, if_neg hv, w64_nat i (by omega)]
    · have e : ¬ s[i]? = some v := by rw [List.getElem?_eq_none (by omega)]; simp
      rw [if_neg e, List.append_nil]
      refine Ev.step (fun k => ?_) (ih (i + 1) o (by omega) (by omega))
      simp only [impl_CalledIn.l0]
      rw [if_pos (by omega), if_pos (by omega), if_pos (by omega), if_neg (by omega), w64_nat i (by omega)]
theorem FnExactCalledIn : ∀ (l0 : List (S70)) (l1 : List Int) (a2 : Int), (l0.length ≤ maxLen ∧ l0.length * 32 ≤ 140737488351232 ∧ ∀ l0' ∈ l0, ((Lit.int .i64 l0'.f0).wf = true) ∧ (l0'.f1.length ≤ maxLen ∧ l0'.f1.length * 8 ≤ 140737488351232 ∧ ∀ l0'_f1' ∈ l0'.f1, (Lit.int .i64 l0'_f1').wf = true)) → (l1.length ≤ maxLen ∧ l1.length * 8 ≤ 140737488351232 ∧ ∀ l1' ∈ l1, (Lit.int .i64 l1').wf = true) → ((Lit.int .i64 a2).wf = true) → ∃ k, laws_FnExactCalledIn.f k l0 l1 a2 = some true := by
  intro l s v h0 hs0 _
  have hm : l.length ≤ 9223372036854775807 := h0.1
  refine Ev.rounds (g := fun k => laws_FnExactCalledIn.f k l s v) ?_
  by_cases hs : (s.length : Int) > 1048576
  · simp only [laws_FnExactCalledIn.f, hs, if_true]
    exact Ev.now true
  simp only [laws_FnExactCalledIn.f, hs, if_false]
  obtain ⟨r, hr, hor⟩ := szPassageS_sum l 1048576 (by omega) (by omega) hm (fun x hx => (h0.2.2 x hx).2.1)
  refine Ev.bind hr ?_
  by_cases hr0 : r < 0
  · simp only [hr0, if_true]
    exact Ev.now true
  · obtain ⟨h1, hl, hsum⟩ : 0 ≤ r ∧ l.length ≤ 1048576 ∧ r + (sumP (l.map (·.f1)) : Int) + (l.length : Int) = 1048576 := by
      rcases hor with h | h
      · exact absurd h hr0
      · exact h
    have hsm : sumP ((l.map cvPassage).map (·.f1)) = sumP (l.map (·.f1)) := by
      rw [List.map_map]
      rfl
    have hx : ∀ x ∈ l, x.f1.length ≤ 1048576 := fun x hx => by
      have := sumP_mem (l.map (·.f1)) x.f1 (List.mem_map_of_mem hx)
      omega
    have ht := toPassageS_ev l hl hx
    have hl' : (l.map cvPassage).length ≤ 1048576 := by simpa using hl
    have hx' : ∀ x ∈ l.map cvPassage, x.f1.length ≤ 1048576 := by
      intro x hx0
      obtain ⟨y, hy, rfl⟩ := List.mem_map.1 hx0
      exact hx y hy
    have he := eqPassageS_ev (l.map cvPassage) hl' hx'
    have ts := toIntS_ev s (by omega)
    have es := eqIntS_ev s (by omega)
    have hspec : Ev (fun k => spec_CalledIn.f k (l.map cvPassage) s v) (insAll [] (callL s v 0 (l.map cvPassage))) := spec_call_loop (l.map cvPassage) s v hl' (by omega) (l.map cvPassage).length 0 [] (by omega) (by rw [List.drop_zero, hsm]; simp; omega)
    have himpl : Ev (fun k => impl_CalledIn.f k (l.map cvPassage) s v) (insAll [] (callL s v 0 (l.map cvPassage))) := impl_call_loop (l.map cvPassage) s v hl' (by omega) (l.map cvPassage).length 0 [] (by omega) (by rw [List.drop_zero, hsm]; simp; omega)
    have hlen1 := insAll_len (callL s v 0 (l.map cvPassage)) []
    have hlen2 := callL_len s v (l.map cvPassage) 0
    rw [hsm] at hlen2
    rw [List.length_nil, Nat.zero_add] at hlen1
    obtain ⟨m1, c1, hm1, hc1⟩ := markPassageS_ev (l.map cvPassage) hl' hx'
    obtain ⟨m2, hm2⟩ := markInt_any s.length 0 c1 s (by omega) (by omega) (by omega)
    generalize insAll [] (callL s v 0 (l.map cvPassage)) = R at hspec himpl hlen1
    have hre := eqIntS_ev R (by omega)
    have hmr := markIntS_ev R (by omega)
    have hhe := heldIntS_ev R.length (by omega)
    have hneg : ∀ q : Nat, ¬ ((q : Int) < 0) := fun q => by omega
    simp only [hr0, if_false]
    refine Ev.bind ht ?_
    refine Ev.bind ts ?_
    refine Ev.bind hspec ?_
    refine Ev.bind ht ?_
    refine Ev.bind ts ?_
    refine Ev.bind himpl ?_
    refine Ev.bind hre ?_
    simp only [if_true]
    refine Ev.bind ht ?_
    refine Ev.bind he ?_
    simp only [if_true]
    refine Ev.bind ts ?_
    refine Ev.bind es ?_
    simp only [if_true]
    refine Ev.bind hm1 ?_
    refine Ev.bind (g := fun k => laws_markIntS.f k s (c1 : Int)) hm2 ?_
    simp only [hneg, if_false]
    refine Ev.bind hre ?_
    simp only [Bool.not_true]
    refine Ev.step (fun k => by simp only [laws_FnExactCalledIn.j0, Bool.false_eq_true, if_false]; rfl) ?_
    refine Ev.bind hmr ?_
    refine Ev.bind hhe ?_
    simp only [hneg, if_false, if_true]
    refine Ev.bind ht ?_
    refine Ev.bind ts ?_
    refine Ev.bind himpl ?_
    refine Ev.bind hre ?_
    simp only [if_true]
    refine Ev.bind hhe ?_
    simp only [hneg, if_false, if_true]
    exact Ev.now true

end Go.Proofs.Ytddpogakdagojaa.Pure
