/- The plain statement of the law FnClocks: what its printed function answers; no conditions but that the numbers are Go's ints and the slices no longer than memory. -/
import Derived.Test.YtmdeggbhdipnmaaQFnClocksx3
set_option linter.unusedVariables false
set_option linter.unusedSimpArgs false
namespace Go.Proofs.Ytmdeggbhdipnmaa.Pure
open Go.RowKit Go.Proofs.Ytmdeggbhdipnmaa.QFnClocks Go.Proofs.YtmdeggbhdipnmaaW.PrintWords Go.Proofs.YtmdeggbhdipnmaaW.PrintLast Go.Proofs.YtmdeggbhdipnmaaW.PrintMore

theorem wf64 {x : Int} (h : (Lit.int .i64 x).wf = true) : -9223372036854775808 ≤ x ∧ x ≤ 9223372036854775807 := by
  simp only [Lit.wf, IntKind.min, IntKind.max, IntKind.signed, IntKind.bits, Bool.and_eq_true, decide_eq_true_eq, if_true] at h
  omega

theorem w64 {x : Int} (h1 : -9223372036854775808 ≤ x) (h2 : x ≤ 9223372036854775807) : wrap64 x = x := by
  unfold wrap64
  omega

theorem w64_nat (i : Nat) (h : i ≤ 9223372036854775806) : wrap64 ((i : Int) + 1) = ((i + 1 : Nat) : Int) := by
  unfold wrap64
  omega

theorem drop_cons {α : Type} (l : List α) (i : Nat) (h : i < l.length) : l.drop i = l[i] :: l.drop (i + 1) := List.drop_eq_getElem_cons h

theorem set_take {β : Type} (x : List β) (i : Nat) (v : β) (h : i < x.length) : (x.set i v).take (i + 1) = x.take i ++ [v] := by
  apply List.ext_getElem?
  intro j
  rcases Nat.lt_trichotomy j i with hj | hj | hj
  · rw [List.getElem?_take_of_lt (by omega), List.getElem?_set_ne (by omega), List.getElem?_append_left (by simp; omega), List.getElem?_take_of_lt (by omega)]
  · subst hj
    rw [List.getElem?_take_of_lt (by omega), List.getElem?_set_self (by omega), List.getElem?_append_right (by simp; omega)]
    simp [Nat.min_eq_left (Nat.le_of_lt h)]
  · rw [List.getElem?_take_eq_none (by omega), List.getElem?_append_right (by simp; omega)]
    simp
    omega

theorem copyLoop {α β : Type} (F : Nat → List β → Int → Option (List β)) (x0 : List α) (cv : α → β)
    (h1 : ∀ (x3 : List β) (i : Nat) (r : List β) (hi : i < x0.length), x3.length = x0.length → Ev (fun k => F k (x3.set i (cv x0[i])) ((i + 1 : Nat) : Int)) r → Ev (fun k => F k x3 (i : Int)) r)
    (h2 : ∀ x3 : List β, Ev (fun k => F k x3 (x0.length : Int)) x3) (init : List β) (hl : init.length = x0.length) : Ev (fun k => F k init 0) (x0.map cv) := by
  have key : ∀ (d i : Nat) (x3 : List β), i + d = x0.length → x3.length = x0.length → x3.take i = (x0.map cv).take i → Ev (fun k => F k x3 (i : Int)) (x0.map cv) := by
    intro d
    induction d with
    | zero =>
      intro i x3 hi hx ht
      obtain rfl : i = x0.length := by omega
      have e : x3 = x0.map cv := by
        rw [← hx, List.take_length] at ht
        rw [ht, hx]
        exact List.take_of_length_le (by simp)
      have := h2 x3
      rw [e] at this
      rw [e]
      exact this
    | succ d ih =>
      intro i x3 hi hx ht
      have hlt : i < x0.length := by omega
      refine h1 x3 i _ hlt hx (ih (i + 1) _ (by omega) (by rw [List.length_set]; exact hx) ?_)
      rw [set_take x3 i _ (by omega), ht]
      rw [List.take_succ_eq_append_getElem (by simpa using hlt)]
      simp
  have := key x0.length 0 init (by omega) hl (by simp)
  exact this

theorem eqLoop {α : Type} (F : Nat → Int → Option Bool) (x0 : List α)
    (h1 : ∀ (i : Nat) (r : Bool) (_ : i < x0.length), Ev (fun k => F k ((i + 1 : Nat) : Int)) r → Ev (fun k => F k (i : Int)) r)
    (h2 : Ev (fun k => F k (x0.length : Int)) true) : Ev (fun k => F k 0) true := by
  have key : ∀ (d i : Nat), i + d = x0.length → Ev (fun k => F k (i : Int)) true := by
    intro d
    induction d with
    | zero =>
      intro i hi
      obtain rfl : i = x0.length := by omega
      exact h2
    | succ d ih =>
      intro i hi
      exact h1 i true (by omega) (ih (i + 1) (by omega))
  exact key x0.length 0 (by omega)

theorem ite_eq_of {α : Type} {p : Prop} [Decidable p] {a b : α} (h : p) : (if p then a else b) = a := if_pos h

theorem Ev.one {α : Type} {g : Nat → Option α} {r : α} (h : ∀ k, g (k + 1) = some r) : Ev g r := Ev.step (f := fun _ => some r) h (Ev.now r)

theorem rdP_get (l : List S25) (i : Nat) (h : i < l.length) : rd_T25 l (i : Int) = l[i] := by
  simp [rd_T25, List.getD, List.getElem?_eq_getElem h]


theorem inRange_eq (a b c : Int) : impl_InRange.f a b c = some (decide (b ≤ a ∧ a ≤ c)) := by
  unfold impl_InRange.f
  split <;> simp <;> omega

def pingOk (a b c : Int) : Bool := decide (0 ≤ a ∧ a ≤ c ∧ c ≤ 10000000 ∧ 0 ≤ b ∧ b ≤ 10000000)

theorem pingOk_iff {a b c : Int} (h : pingOk a b c = true) : 0 ≤ a ∧ a ≤ c ∧ c ≤ 10000000 ∧ 0 ≤ b ∧ b ≤ 10000000 := by
  simpa [pingOk] using h

theorem impl_isPing (a b c : Int) : impl_IsPing.f a b c = some (pingOk a b c) := by
  simp only [impl_IsPing.f, inRange_eq, Option.bind_some, decide_eq_true_eq, pingOk]
  repeat' split
  all_goals (simp only [Option.some.injEq, decide_eq_decide, Bool.false_eq, decide_eq_false_iff_not] <;> omega)

theorem impl_offset (a b c : Int) : impl_OffsetBounds.f a b c = some (if pingOk a b c = true then (b - c, b - a) else (1, 0)) := by
  simp only [impl_OffsetBounds.f, impl_isPing, Option.bind_some]
  split
  · rename_i h
    have := pingOk_iff h
    rw [w64 (by omega) (by omega), w64 (by omega) (by omega)]
  · rfl

def meet : List S25 → Int → Int → Int × Int × Bool
  | [], a, b => if a > b then (0, 0, false) else (a, b, true)
  | x :: l, a, b => if pingOk x.f0 x.f1 x.f2 = true then meet l (if x.f1 - x.f2 > a then x.f1 - x.f2 else a) (if x.f1 - x.f0 < b then x.f1 - x.f0 else b) else (0, 0, false)

theorem impl_meet_ev (l : List S25) (hl : l.length ≤ 1048576) (d : Nat) : ∀ (i : Nat) (a b : Int), i + d = l.length → Ev (fun k => impl_MeetBounds.l0 k a b l (l.length : Int) (i : Int)) (meet (l.drop i) a b) := by
  induction d with
  | zero =>
    intro i a b hi
    rw [List.drop_of_length_le (by omega)]
    refine Ev.one (fun k => ?_)
    simp only [impl_MeetBounds.l0, meet]
    rw [if_neg (by omega)]
    split <;> rfl
  | succ d ih =>
    intro i a b hi
    have hlt : i < l.length := by omega
    rw [drop_cons l i hlt]
    by_cases hc : pingOk l[i].f0 l[i].f1 l[i].f2 = true
    · refine Ev.step (fun k => ?_) (by rw [meet, if_pos hc]; exact ih (i + 1) _ _ (by omega))
      simp only [impl_MeetBounds.l0, impl_isPing, impl_offset, Option.bind_some, mx, mn]
      rw [if_pos (by omega), if_pos (by omega), if_pos (by omega), rdP_get l i hlt, if_pos hc, w64_nat i (by omega)]
      simp only [if_pos hc]
    · rw [meet, if_neg hc]
      refine Ev.one (fun k => ?_)
      simp only [impl_MeetBounds.l0, impl_isPing, Option.bind_some]
      rw [if_pos (by omega), if_pos (by omega), if_pos (by omega), rdP_get l i hlt, if_neg hc]

/-- What MeetBounds answers. -/
def meetR (l : List S25) : Int × Int × Bool := if l.length = 0 then (0, 0, false) else meet l (-100000000) 100000000

theorem impl_meetR (l : List S25) (hl : l.length ≤ 1048576) : Ev (fun k => impl_MeetBounds.f k l) (meetR l) := by
  unfold meetR
  split
  · rename_i h
    refine Ev.one (fun k => ?_)
    simp only [impl_MeetBounds.f]
    rw [if_pos (by omega)]
  · rename_i h
    have hlt : 0 < l.length := by omega
    have key := fun a b => impl_meet_ev l hl l.length 0 a b (by omega)
    have hr : rd_T25 l 0 = l[0] := rdP_get l 0 hlt
    by_cases hc : pingOk l[0].f0 l[0].f1 l[0].f2 = true
    · refine Ev.congr (fun k => ?_) (f := fun k => impl_MeetBounds.l0 k (l[0].f1 - l[0].f2) (l[0].f1 - l[0].f0) l (l.length : Int) 0) ?_
      · simp only [impl_MeetBounds.f, impl_offset, Option.bind_some]
        rw [if_neg (by omega), if_pos (by omega), hr]
        simp only [if_pos hc]
      · have e : meet l (-100000000) 100000000 = meet l (l[0].f1 - l[0].f2) (l[0].f1 - l[0].f0) := by
          obtain ⟨x, t, rfl⟩ : ∃ x t, l = x :: t := by
            cases l with
            | nil => exact absurd rfl h
            | cons x t => exact ⟨x, t, rfl⟩
          have hc' : pingOk x.f0 x.f1 x.f2 = true := hc
          have := pingOk_iff hc'
          simp only [meet, if_pos hc', List.getElem_cons_zero]
          rw [if_pos (by omega), if_pos (by omega), if_neg (by omega), if_neg (by omega)]
        rw [e]
        exact key _ _
    · refine Ev.congr (fun k => ?_) (f := fun k => impl_MeetBounds.l0 k 1 0 l (l.length : Int) 0) ?_
      · simp only [impl_MeetBounds.f, impl_offset, Option.bind_some]
        rw [if_neg (by omega), if_pos (by omega), hr]
        simp only [if_neg hc]
      · have e : meet l (-100000000) 100000000 = meet l 1 0 := by
          obtain ⟨x, t, rfl⟩ : ∃ x t, l = x :: t := by
            cases l with
            | nil => exact absurd rfl h
            | cons x t => exact ⟨x, t, rfl⟩
          have hc' : ¬ pingOk x.f0 x.f1 x.f2 = true := hc
          simp only [meet, if_neg hc']
        rw [e]
        exact key _ _

theorem meet_bound (l : List S25) : ∀ a b, -100000000 ≤ a → a ≤ 100000000 → -100000000 ≤ b → b ≤ 100000000 → -100000000 ≤ (meet l a b).1 ∧ (meet l a b).1 ≤ 100000000 ∧ -100000000 ≤ (meet l a b).2.1 ∧ (meet l a b).2.1 ≤ 100000000 := by
  induction l with
  | nil =>
    intro a b h1 h2 h3 h4
    unfold meet
    split <;> (simp <;> omega)
  | cons x l ih =>
    intro a b h1 h2 h3 h4
    unfold meet
    split
    · rename_i hc
      have := pingOk_iff hc
      apply ih <;> (split <;> omega)
    · simp

theorem meetR_bound (l : List S25) : -100000000 ≤ (meetR l).1 ∧ (meetR l).1 ≤ 100000000 ∧ -100000000 ≤ (meetR l).2.1 ∧ (meetR l).2.1 ≤ 100000000 := by
  unfold meetR
  split
  · simp
  · exact meet_bound l _ _ (by omega) (by omega) (by omega) (by omega)

def errR (l : List S25) : Int := if (meetR l).2.2 = true then wrap64 (Int.tdiv (wrap64 ((wrap64 ((meetR l).2.1 - (meetR l).1)) + 1)) 2) else -1

theorem impl_err (l : List S25) (hl : l.length ≤ 1048576) : Ev (fun k => impl_ErrorOf.f k l) (errR l) := by
  simp only [impl_ErrorOf.f, errR]
  refine Ev.bind (impl_meetR l hl) ?_
  split <;> exact Ev.now _

theorem rd_get (l : List Int) (i : Nat) (h : i < l.length) : rd l (i : Int) = l[i] := by
  simp [rd, List.getD, List.getElem?_eq_getElem h]

theorem and255 (x : Int) : 0 ≤ Go.bits .and .i64 x 255 ∧ Go.bits .and .i64 x 255 ≤ 255 := by
  have key : (BitVec.ofInt 64 x &&& BitVec.ofInt 64 255).toNat ≤ 255 := by
    rw [BitVec.toNat_and]
    exact Nat.le_trans Nat.and_le_right (by decide)
  have e : Go.bits .and .i64 x 255 = IntKind.i64.wrap ((BitVec.ofInt 64 x &&& BitVec.ofInt 64 255).toNat : Int) := rfl
  rw [e]
  generalize (BitVec.ofInt 64 x &&& BitVec.ofInt 64 255).toNat = n at key
  rw [Go.IntKind.wrap_i64]
  omega

/-- Where the drawing stands. -/
def At (c : List Int) (p : Int) : Prop := 0 ≤ p ∧ p ≤ (c.length : Int)

theorem byte_ev (c : List Int) (hc : c.length ≤ 1048576) (p s : Int) (hp : At c p) : ∃ b p' s', spec_l1Byte.f c p s = some (b, p', s') ∧ (0 ≤ b ∧ b ≤ 255) ∧ At c p' := by
  simp only [spec_l1Byte.f]
  unfold At at *
  split
  · rename_i h
    rw [if_pos hp.1]
    refine ⟨_, _, _, rfl, and255 _, ?_⟩
    rw [w64 (by omega) (by omega)]
    omega
  · exact ⟨_, _, _, rfl, and255 _, hp⟩

theorem below_ev (c : List Int) (hc : c.length ≤ 1048576) (p s n : Int) (hp : At c p) : ∃ r p' s', spec_l1Below.f c p s n = some (r, p', s') ∧ (0 ≤ r ∧ (r < n ∨ n ≤ 0)) ∧ At c p' := by
  simp only [spec_l1Below.f]
  by_cases h0 : n ≤ 0
  · rw [if_pos h0]
    exact ⟨_, _, _, rfl, ⟨by omega, .inr h0⟩, hp⟩
  · rw [if_neg h0]
    obtain ⟨b, p1, s1, e1, hb, hp1⟩ := byte_ev c hc p s hp
    obtain ⟨b2, p2, s2, e2, hb2, hp2⟩ := byte_ev c hc p1 s1 hp1
    obtain ⟨b3, p3, s3, e3, hb3, hp3⟩ := byte_ev c hc p2 s2 hp2
    by_cases h1 : n ≤ 256
    · rw [if_pos h1, e1]
      simp only [Option.bind_some]
      rw [if_neg (by omega)]
      refine ⟨_, _, _, rfl, ⟨?_, .inl ?_⟩, hp1⟩
      · exact Int.tmod_nonneg _ hb.1
      · exact Int.tmod_lt_of_pos _ (by omega)
    · rw [if_neg h1, e1]
      simp only [Option.bind_some, e2, e3]
      rw [if_neg (by omega), w64 (x := b * 65536) (by omega) (by omega), w64 (x := b2 * 256) (by omega) (by omega), w64 (x := b * 65536 + b2 * 256) (by omega) (by omega), w64 (x := b * 65536 + b2 * 256 + b3) (by omega) (by omega)]
      refine ⟨_, _, _, rfl, ⟨?_, .inl ?_⟩, hp3⟩
      · exact Int.tmod_nonneg _ (by omega)
      · exact Int.tmod_lt_of_pos _ (by omega)

theorem int_ev (c : List Int) (hc : c.length ≤ 1048576) (p s : Int) (hp : At c p) (l : List Int) (h0 : 0 < l.length) : ∃ r p' s', spec_l1Int.f c p s l = some (r, p', s') ∧ r ∈ l ∧ At c p' := by
  obtain ⟨r, p', s', e, hr, hp'⟩ := below_ev c hc p s (l.length : Int) hp
  simp only [spec_l1Int.f, e, Option.bind_some]
  rw [if_pos hr.1, if_pos (by omega)]
  have hlt : r.toNat < l.length := by omega
  have er : rd l r = l[r.toNat] := by simp [rd, List.getD, List.getElem?_eq_getElem hlt]
  exact ⟨_, _, _, rfl, by rw [er]; exact List.getElem_mem hlt, hp'⟩

theorem new_loop (c : List Int) (hc : c.length ≤ 1048576) (d : Nat) : ∀ (i : Nat) (s : Int), i + d = c.length → ∃ s', Ev (fun k => spec_l1New.l0 k c s (i : Int)) (c, 0, s') := by
  induction d with
  | zero =>
    intro i s hi
    refine ⟨s, Ev.one (fun k => ?_)⟩
    simp only [spec_l1New.l0]
    rw [if_neg (by omega)]
  | succ d ih =>
    intro i s hi
    by_cases h : (i : Int) < 4000
    · obtain ⟨s', h'⟩ := ih (i + 1) (Go.bits .and .i64 (wrap64 ((wrap64 ((wrap64 (s * 137)) + (wrap64 (rd c (i : Int))))) + 11)) 1073741823) (by omega)
      refine ⟨s', Ev.step (fun k => ?_) h'⟩
      simp only [spec_l1New.l0]
      rw [if_pos (by omega), if_pos h, if_pos (by omega), w64_nat i (by omega)]
    · refine ⟨s, Ev.one (fun k => ?_)⟩
      simp only [spec_l1New.l0]
      rw [if_pos (by omega), if_neg h]

theorem new_ev (c : List Int) (hc : c.length ≤ 1048576) : ∃ s, Ev (fun k => spec_l1New.f k c) (c, 0, s) := new_loop c hc c.length 0 _ (by omega)
theorem at_zero (c : List Int) : At c 0 := ⟨Int.le_refl 0, Int.natCast_nonneg _⟩

theorem ping_ev (c : List Int) (hc : c.length ≤ 1048576) (p s o : Int) (hp : At c p) : ∃ a b d p' s', spec_l31Ping.f c p s o = some (a, b, d, p', s') ∧ At c p' := by
  obtain ⟨r1, p1, s1, e1, _, h1⟩ := below_ev c hc p s 500 hp
  obtain ⟨r2, p2, s2, e2, _, h2⟩ := below_ev c hc p1 s1 40 h1
  obtain ⟨r3, p3, s3, e3, _, h3⟩ := below_ev c hc p2 s2 40 h2
  simp only [spec_l31Ping.f, e1, e2, e3, Option.bind_some]
  exact ⟨_, _, _, _, _, rfl, h3⟩

theorem draw_loop (c : List Int) (hc : c.length ≤ 1048576) (o : Int) (n : Nat) : ∀ (l : List S25) (p s : Int), At c p → l.length + n ≤ 100 → ∃ l' p' s', Ev (fun k => spec_l31Draw.l0 k o l (n : Int) c p s) (l', p', s') ∧ l'.length ≤ 100 ∧ At c p' := by
  induction n with
  | zero =>
    intro l p s hp hl
    refine ⟨l, p, s, Ev.one (fun k => ?_), by omega, hp⟩
    simp only [spec_l31Draw.l0]
    rw [if_neg (by omega)]
  | succ n ih =>
    intro l p s hp hl
    obtain ⟨a, b, d, p1, s1, e1, h1⟩ := ping_ev c hc p s o hp
    obtain ⟨l', p', s', h', hl', hp'⟩ := ih (l ++ [⟨a, b, d⟩]) p1 s1 h1 (by simp; omega)
    refine ⟨l', p', s', Ev.step (fun k => ?_) h', hl', hp'⟩
    simp only [spec_l31Draw.l0, e1, Option.bind_some]
    rw [if_pos (by omega), if_pos (by omega), w64 (by omega) (by omega), show ((n + 1 : Nat) : Int) - 1 = (n : Int) by omega]

theorem draw_ev (c : List Int) (hc : c.length ≤ 1048576) (p s : Int) (hp : At c p) : ∃ l p' s', Ev (fun k => spec_l31Draw.f k c p s) (l, p', s') ∧ l.length ≤ 100 ∧ At c p' := by
  obtain ⟨r1, p1, s1, e1, _, h1⟩ := below_ev c hc p s 400 hp
  obtain ⟨r2, p2, s2, e2, hr2, h2⟩ := below_ev c hc p1 s1 5 h1
  obtain ⟨l, p', s', h, hl, hp'⟩ := draw_loop c hc (wrap64 (r1 - 200)) r2.toNat [] p2 s2 h2 (by simp; omega)
  refine ⟨l, p', s', ?_, hl, hp'⟩
  rw [Int.toNat_of_nonneg hr2.1] at h
  simp only [spec_l31Draw.f, e1, e2, Option.bind_some]
  exact h

theorem any_ev (c : List Int) (hc : c.length ≤ 1048576) (p s : Int) (hp : At c p) : ∃ l p' s', Ev (fun k => spec_l31Any.f k c p s) (l, p', s') ∧ l.length ≤ 100 ∧ At c p' := by
  obtain ⟨l, p1, s1, h, hl, h1⟩ := draw_ev c hc p s hp
  by_cases h0 : (l.length : Int) = 0
  · refine ⟨l, p1, s1, ?_, hl, h1⟩
    simp only [spec_l31Any.f]
    refine Ev.bind h ?_
    simp only [h0, if_true]
    exact Ev.now _
  · obtain ⟨i, p2, s2, e2, hi, h2⟩ := below_ev c hc p1 s1 (l.length : Int) h1
    obtain ⟨j, p3, s3, e3, hj, h3⟩ := below_ev c hc p2 s2 9 h2
    obtain ⟨a, pa, sa, ea, _, ha⟩ := int_ev c hc p3 s3 h3 [(-1), 10000000, 10000001] (by decide)
    obtain ⟨b, pb, sb, eb, _, hb⟩ := int_ev c hc p3 s3 h3 [(-1), 0, 10000000, 10000001] (by decide)
    obtain ⟨d, pd, sd, ed, _, hd⟩ := int_ev c hc p3 s3 h3 [(-1), 0, 1, 1000000000, (-1000000000), 1000000001, 1000000, 1000001, 9223372036854775807, (-9223372036854775808)] (by decide)
    have hil : i < (l.length : Int) := by omega
    by_cases j0 : j = 0
    · refine ⟨l.set i.toNat ⟨a, (rd_T25 l i).f1, (rd_T25 l i).f2⟩, pa, sa, ?_, by simpa using hl, ha⟩
      · simp only [spec_l31Any.f]
        refine Ev.bind h ?_
        simp only [h0, if_false, e2, e3, Option.bind_some, j0, if_true, ea, hi.1, hil]
        exact Ev.now _
    · by_cases j1 : j = 1
      · refine ⟨l.set i.toNat ⟨(rd_T25 l i).f0, b, (rd_T25 l i).f2⟩, pb, sb, ?_, by simpa using hl, hb⟩
        · simp only [spec_l31Any.f]
          refine Ev.bind h ?_
          simp only [h0, if_false, e2, e3, Option.bind_some, j0, j1, if_true, eb, hi.1, hil]
          exact Ev.now _
      · by_cases j2 : j = 2
        · refine ⟨l.set i.toNat ⟨(rd_T25 l i).f0, (rd_T25 l i).f1, d⟩, pd, sd, ?_, by simpa using hl, hd⟩
          · simp only [spec_l31Any.f]
            refine Ev.bind h ?_
            simp only [h0, if_false, e2, e3, Option.bind_some, j0, j1, j2, if_true, spec_l4Raw.f, ed, hi.1, hil]
            exact Ev.now _
        · refine ⟨l, p3, s3, ?_, hl, h3⟩
          simp only [spec_l31Any.f]
          refine Ev.bind h ?_
          simp only [h0, if_false, e2, e3, Option.bind_some, j0, j1, j2]
          exact Ev.now _

theorem drawMeet_ev (c : List Int) (hc : c.length ≤ 1048576) : ∃ l, Ev (fun k => spec_DrawMeetBounds.f k c) l ∧ l.length ≤ 100 := by
  obtain ⟨s, hn⟩ := new_ev c hc
  obtain ⟨l, p', s', h, hl, _⟩ := any_ev c hc 0 s (at_zero c)
  refine ⟨l, ?_, hl⟩
  simp only [spec_DrawMeetBounds.f]
  exact Ev.bind hn (Ev.bind h (Ev.now _))

theorem drawStart_ev (c : List Int) (hc : c.length ≤ 1048576) : ∃ l a, Ev (fun k => spec_DrawStartFor.f k c) (l, a) ∧ l.length ≤ 100 := by
  obtain ⟨s, hn⟩ := new_ev c hc
  obtain ⟨l, p', s', h, hl, hp⟩ := any_ev c hc 0 s (at_zero c)
  obtain ⟨a, p2, s2, e2, _, _⟩ := int_ev c hc p' s' hp [0, 5000, 10000000, 10000001, (-1)] (by decide)
  refine ⟨l, a, ?_, hl⟩
  simp only [spec_DrawStartFor.f]
  refine Ev.bind hn (Ev.bind h ?_)
  simp only [e2, Option.bind_some]
  exact Ev.now _

/-- The bounds of one ping. -/
theorem meet_tell (l : List S25) : ∀ a b, (meet l a b).2.2 = true → (meet l a b).1 ≤ (meet l a b).2.1 ∧ a ≤ (meet l a b).1 ∧ (meet l a b).2.1 ≤ b ∧ ∀ x ∈ l, pingOk x.f0 x.f1 x.f2 = true ∧ x.f1 - x.f2 ≤ (meet l a b).1 ∧ (meet l a b).2.1 ≤ x.f1 - x.f0 := by
  induction l with
  | nil =>
    intro a b h
    unfold meet at h ⊢
    split at h
    · cases h
    · rename_i hc
      rw [if_neg hc]
      exact ⟨by show a ≤ b; omega, by show a ≤ a; omega, by show b ≤ b; omega, fun x hx => absurd hx (by simp)⟩
  | cons x l ih =>
    intro a b h
    unfold meet at h ⊢
    split at h
    · rename_i hc
      rw [if_pos hc]
      obtain ⟨h1, h2, h3, h4⟩ := ih _ _ h
      have hA : a ≤ (if x.f1 - x.f2 > a then x.f1 - x.f2 else a) ∧ x.f1 - x.f2 ≤ (if x.f1 - x.f2 > a then x.f1 - x.f2 else a) := by split <;> omega
      have hB : (if x.f1 - x.f0 < b then x.f1 - x.f0 else b) ≤ b ∧ (if x.f1 - x.f0 < b then x.f1 - x.f0 else b) ≤ x.f1 - x.f0 := by split <;> omega
      refine ⟨h1, Int.le_trans hA.1 h2, Int.le_trans h3 hB.1, ?_⟩
      intro y hy
      rcases List.mem_cons.1 hy with rfl | hy
      · exact ⟨hc, Int.le_trans hA.2 h2, Int.le_trans h3 hB.2⟩
      · exact h4 y hy
    · cases h

theorem meetR_tell (l : List S25) (h : (meetR l).2.2 = true) : l ≠ [] ∧ (meetR l).1 ≤ (meetR l).2.1 ∧ ∀ x ∈ l, pingOk x.f0 x.f1 x.f2 = true ∧ x.f1 - x.f2 ≤ (meetR l).1 ∧ (meetR l).2.1 ≤ x.f1 - x.f0 := by
  unfold meetR at h ⊢
  split at h
  · cases h
  · rename_i hl
    rw [if_neg hl]
    obtain ⟨h1, _, _, h4⟩ := meet_tell l _ _ h
    exact ⟨fun e => hl (by rw [e]; rfl), h1, h4⟩

theorem meetR_one (x : S25) (h : pingOk x.f0 x.f1 x.f2 = true) : meetR [x] = (x.f1 - x.f2, x.f1 - x.f0, true) := by
  have := pingOk_iff h
  simp only [meetR, meet, if_pos h, List.length_cons, List.length_nil]
  have e1 : (if x.f1 - x.f2 > -100000000 then x.f1 - x.f2 else -100000000) = x.f1 - x.f2 := if_pos (by omega)
  have e2 : (if x.f1 - x.f0 < 100000000 then x.f1 - x.f0 else 100000000) = x.f1 - x.f0 := if_pos (by omega)
  rw [if_neg (by omega), e1, e2, if_neg (by omega)]

theorem errR_of (l : List S25) (h : (meetR l).2.2 = true) : errR l = ((meetR l).2.1 - (meetR l).1 + 1) / 2 := by
  have hb := meetR_bound l
  obtain ⟨_, h1, _⟩ := meetR_tell l h
  simp only [errR, h, if_true]
  rw [w64 (x := (meetR l).2.1 - (meetR l).1) (by omega) (by omega), w64 (x := (meetR l).2.1 - (meetR l).1 + 1) (by omega) (by omega), Int.tdiv_eq_ediv_of_nonneg (by omega), w64 (by omega) (by omega)]

theorem errR_iff (l : List S25) : decide (errR l ≥ 0) = (meetR l).2.2 := by
  cases h : (meetR l).2.2
  · simp [errR, h]
  · have := errR_of l h
    obtain ⟨_, h1, _⟩ := meetR_tell l h
    exact decide_eq_true (by omega)

theorem mod_two (x : Int) (h1 : -400000000 ≤ x) (h2 : x ≤ 400000000) : impl_Mod.f x 2 = some (x % 2) := by
  simp only [impl_Mod.f, inRange_eq, Option.bind_some]
  rw [if_pos (by decide), if_neg (by omega)]
  refine congrArg some ?_
  have e1 : Int.tmod x 2 = if 0 ≤ x then x % 2 else -((-x) % 2) := by
    split
    · rename_i h
      exact Int.tmod_eq_emod_of_nonneg h
    · rename_i h
      rw [show x = -(-x) by omega, Int.neg_tmod, Int.tmod_eq_emod_of_nonneg (by omega)]
      simp
  rw [e1]
  split
  · rw [w64 (by omega) (by omega), Int.tmod_eq_emod_of_nonneg (by omega)]
    omega
  · rw [w64 (by omega) (by omega), Int.tmod_eq_emod_of_nonneg (by omega)]
    omega

def startR (l : List S25) (a : Int) : Int × Bool := if (meetR l).2.2 = true ∧ 0 ≤ a ∧ a ≤ 10000000 then (a + ((meetR l).1 + (meetR l).2.1) / 2, true) else (0, false)

theorem impl_start (l : List S25) (a : Int) (hl : l.length ≤ 1048576) : Ev (fun k => impl_StartFor.f k l a) (startR l a) := by
  have hb := meetR_bound l
  simp only [impl_StartFor.f, startR]
  refine Ev.bind (impl_meetR l hl) ?_
  by_cases h1 : (meetR l).2.2 = true
  · by_cases h2 : 0 ≤ a ∧ a ≤ 10000000
    · have hm := mod_two ((meetR l).1 + (meetR l).2.1) (by omega) (by omega)
      have e : wrap64 (a + wrap64 (Int.tdiv (wrap64 ((meetR l).1 + (meetR l).2.1 - ((meetR l).1 + (meetR l).2.1) % 2)) 2)) = a + ((meetR l).1 + (meetR l).2.1) / 2 := by
        have e2 : Int.tdiv ((meetR l).1 + (meetR l).2.1 - ((meetR l).1 + (meetR l).2.1) % 2) 2 = ((meetR l).1 + (meetR l).2.1) / 2 := by
          have e3 : (meetR l).1 + (meetR l).2.1 - ((meetR l).1 + (meetR l).2.1) % 2 = 2 * (((meetR l).1 + (meetR l).2.1) / 2) := by omega
          rw [e3, Int.mul_tdiv_cancel_left _ (by decide)]
        rw [w64 (x := (meetR l).1 + (meetR l).2.1 - ((meetR l).1 + (meetR l).2.1) % 2) (by omega) (by omega), e2, w64 (x := ((meetR l).1 + (meetR l).2.1) / 2) (by omega) (by omega), w64 (by omega) (by omega)]
      have e0 : wrap64 ((meetR l).1 + (meetR l).2.1) = (meetR l).1 + (meetR l).2.1 := w64 (by omega) (by omega)
      simp only [h1, if_true, inRange_eq, Option.bind_some, h2, and_self, decide_true, e0, hm, e]
      exact Ev.now _
    · simp only [h1, if_true, inRange_eq, Option.bind_some, h2, and_false, decide_false, Bool.false_eq_true, if_false]
      exact Ev.now _
  · simp only [h1, false_and, Bool.false_eq_true, if_false]
    exact Ev.now _

theorem last_ev (c : List Int) (hc : c.length ≤ 1048576) (t : List S25) (ht : t.length ≤ 100) : Ev (fun k => laws_FnClocks.j1 k c t (meetR t).2.2) true := by
  obtain ⟨l, a, hd, hl⟩ := drawStart_ev c hc
  have hs := impl_start l a (by omega)
  have hm := impl_meetR l (by omega)
  have he := impl_err l (by omega)
  have het := impl_err t (by omega)
  have hend : ((meetR t).2.2 == decide (errR t ≥ 0)) = true := by rw [errR_iff, beq_self_eq_true]
  refine Ev.step (fun k => by simp only [laws_FnClocks.j1]; rfl) ?_
  refine Ev.bind hd ?_
  refine Ev.bind hs ?_
  by_cases hok : (meetR l).2.2 = true ∧ 0 ≤ a ∧ a ≤ 10000000
  · have hb := meetR_bound l
    obtain ⟨_, h1, _⟩ := meetR_tell l hok.1
    have e1 : startR l a = (a + ((meetR l).1 + (meetR l).2.1) / 2, true) := if_pos hok
    have e2 := errR_of l hok.1
    simp only [e1, if_true]
    refine Ev.bind hm ?_
    refine Ev.bind he ?_
    have n1 : ¬ wrap64 (a + ((meetR l).1 + (meetR l).2.1) / 2 - a) < (meetR l).1 := by rw [w64 (by omega) (by omega)]; omega
    have n2 : ¬ wrap64 (a + ((meetR l).1 + (meetR l).2.1) / 2 - a) > (meetR l).2.1 := by rw [w64 (by omega) (by omega)]; omega
    have n3 : ¬ wrap64 (a + (meetR l).1) < wrap64 (a + ((meetR l).1 + (meetR l).2.1) / 2 - errR l) := by rw [w64 (by omega) (by omega), w64 (by omega) (by omega)]; omega
    have n4 : ¬ wrap64 (a + (meetR l).2.1) > wrap64 (a + ((meetR l).1 + (meetR l).2.1) / 2 + errR l) := by rw [w64 (by omega) (by omega), w64 (by omega) (by omega)]; omega
    simp only [n1, n2, n3, n4, if_false]
    refine Ev.bind het ?_
    rw [hend]
    exact Ev.now true
  · have e1 : startR l a = (0, false) := if_neg hok
    simp only [e1, Bool.false_eq_true, if_false]
    refine Ev.bind het ?_
    rw [hend]
    exact Ev.now true

theorem round_ev (c : List Int) (hc : c.length ≤ 1048576) (t : List S25) (ht : t.length ≤ 100) (hok : (meetR t).2.2 = true) (d : Nat) : ∀ i : Nat, i + d = t.length → Ev (fun k => laws_FnClocks.l0 k c t (meetR t).1 (meetR t).2.1 (meetR t).2.2 (i : Int)) true := by
  obtain ⟨hne, h1, hx⟩ := meetR_tell t hok
  have hb := meetR_bound t
  induction d with
  | zero =>
    intro i hi
    have hpos : 0 < t.length := List.length_pos_iff.2 hne
    have het := impl_err t (by omega)
    have ht1 : t.take 1 = [t[0]] := by
      cases t with
      | nil => exact absurd rfl hne
      | cons x r => rfl
    obtain ⟨hx0, ha, hb0⟩ := hx t[0] (List.getElem_mem hpos)
    have h1m := impl_meetR (t.take 1) (by simp; omega)
    have h1e := impl_err (t.take 1) (by simp; omega)
    have e1 := meetR_one t[0] hx0
    have e2 := errR_of t hok
    have e3 := errR_of [t[0]] (by rw [e1])
    rw [ht1] at h1m h1e
    rw [e1] at h1m
    rw [e1] at e3
    have hp := pingOk_iff hx0
    refine Ev.step (f := fun k => (impl_MeetBounds.f k [t[0]]).bind fun bt243 => if bt243.2.2 = true then (if bt243.1 > (meetR t).1 then some false else if bt243.2.1 < (meetR t).2.1 then some false else (impl_ErrorOf.f k t).bind fun t246 => if t246 < 0 then some false else (impl_ErrorOf.f k t).bind fun t247 => (impl_ErrorOf.f k [t[0]]).bind fun t252 => if t247 > t252 then some false else laws_FnClocks.j1 k c t (meetR t).2.2) else some false) (fun k => ?_) ?_
    · simp only [laws_FnClocks.l0]
      rw [if_neg (by omega), if_pos (by omega), ht1]
    · refine Ev.bind h1m ?_
      have n1 : ¬ t[0].f1 - t[0].f2 > (meetR t).1 := by omega
      have n2 : ¬ t[0].f1 - t[0].f0 < (meetR t).2.1 := by omega
      simp only [n1, n2, if_true, if_false]
      refine Ev.bind het ?_
      have n3 : ¬ errR t < 0 := by omega
      simp only [n3, if_false]
      refine Ev.bind het ?_
      refine Ev.bind h1e ?_
      have n4 : ¬ errR t > errR [t[0]] := by
        rw [e2, e3]
        show ¬ _ > (t[0].f1 - t[0].f0 - (t[0].f1 - t[0].f2) + 1) / 2
        omega
      simp only [n4, if_false]
      exact last_ev c hc t ht
  | succ d ih =>
    intro i hi
    have hlt : i < t.length := by omega
    obtain ⟨hx0, ha, hb0⟩ := hx t[i] (List.getElem_mem hlt)
    refine Ev.step (fun k => ?_) (ih (i + 1) (by omega))
    simp only [laws_FnClocks.l0, impl_offset, Option.bind_some]
    rw [if_pos (by omega), if_pos (by omega), rdP_get t i hlt]
    simp only [if_pos hx0]
    rw [if_neg (by omega), if_neg (by omega), w64_nat i (by omega)]

theorem FnClocks : ∀ (l0 : List Int), (l0.length ≤ maxLen ∧ l0.length * 1 ≤ 140737488351232 ∧ ∀ l0' ∈ l0, (Lit.int .u8 l0').wf = true) → ∃ k, laws_FnClocks.f k l0 = some true := by
  intro c h0
  refine Ev.rounds (g := fun k => laws_FnClocks.f k c) ?_
  simp only [laws_FnClocks.f, laws_big.f, Option.bind_some]
  by_cases hb : (c.length : Int) > 1048576
  · simp only [hb, decide_true, if_true]
    exact Ev.now true
  · have hc : c.length ≤ 1048576 := by omega
    simp only [hb, decide_false, Bool.false_eq_true, if_false]
    obtain ⟨t, ht, htl⟩ := drawMeet_ev c hc
    refine Ev.bind ht ?_
    refine Ev.bind (impl_meetR t (by omega)) ?_
    by_cases hok : (meetR t).2.2 = true
    · simp only [hok, if_true]
      have := round_ev c hc t htl hok t.length 0 (by omega)
      rw [hok] at this
      exact this
    · have := last_ev c hc t htl
      rw [Bool.eq_false_iff.2 hok] at this
      simp only [hok, Bool.false_eq_true, if_false]
      exact this

end Go.Proofs.Ytmdeggbhdipnmaa.Pure
