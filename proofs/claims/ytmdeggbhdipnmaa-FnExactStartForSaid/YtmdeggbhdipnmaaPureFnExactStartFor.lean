/- The plain statement of the law FnExactStartFor: what its printed function answers; no conditions but that the numbers are Go's ints and the slices no longer than memory. -/
import Derived.Test.YtmdeggbhdipnmaaPFnExactStartForx3
set_option linter.unusedVariables false
set_option linter.unusedSimpArgs false
namespace Go.Proofs.Ytmdeggbhdipnmaa.Pure
open Go.RowKit Go.Proofs.Ytmdeggbhdipnmaa.PFnExactStartFor Go.Proofs.YtmdeggbhdipnmaaW.PrintWords Go.Proofs.YtmdeggbhdipnmaaW.PrintLast Go.Proofs.YtmdeggbhdipnmaaW.PrintMore

theorem wf64 {x : Int} (h : (Lit.int .i64 x).wf = true) : -9223372036854775808 ≤ x ∧ x ≤ 9223372036854775807 := by
  simp only [Lit.wf, IntKind.min, IntKind.max, IntKind.signed, IntKind.bits, Bool.and_eq_true, decide_eq_true_eq, if_true] at h
  omega

theorem w64 {x : Int} (h1 : -9223372036854775808 ≤ x) (h2 : x ≤ 9223372036854775807) : wrap64 x = x := by
  unfold wrap64
  omega

theorem w64_nat (i : Nat) (h : i ≤ 9223372036854775806) : wrap64 ((i : Int) + 1) = ((i + 1 : Nat) : Int) := by
  unfold wrap64
  omega

theorem drop_cons {α : Type} (l : List α) (i : Nat) (h : i < l.length) : l.drop i = l[i] :: l.drop (i + 1) := List.drop_eq_getElem_cons h

theorem set_take {β : Type} (x : List β) (i : Nat) (v : β) (h : i < x.length) : (x.set i v).take (i + 1) = x.take i ++ [v] := by
  apply List.ext_getElem?
  intro j
  rcases Nat.lt_trichotomy j i with hj | hj | hj
  · rw [List.getElem?_take_of_lt (by omega), List.getElem?_set_ne (by omega), List.getElem?_append_left (by simp; omega), List.getElem?_take_of_lt (by omega)]
  · subst hj
    rw [List.getElem?_take_of_lt (by omega), List.getElem?_set_self (by omega), List.getElem?_append_right (by simp; omega)]
    simp [Nat.min_eq_left (Nat.le_of_lt h)]
  · rw [List.getElem?_take_eq_none (by omega), List.getElem?_append_right (by simp; omega)]
    simp
    omega

theorem copyLoop {α β : Type} (F : Nat → List β → Int → Option (List β)) (x0 : List α) (cv : α → β)
    (h1 : ∀ (x3 : List β) (i : Nat) (r : List β) (hi : i < x0.length), x3.length = x0.length → Ev (fun k => F k (x3.set i (cv x0[i])) ((i + 1 : Nat) : Int)) r → Ev (fun k => F k x3 (i : Int)) r)
    (h2 : ∀ x3 : List β, Ev (fun k => F k x3 (x0.length : Int)) x3) (init : List β) (hl : init.length = x0.length) : Ev (fun k => F k init 0) (x0.map cv) := by
  have key : ∀ (d i : Nat) (x3 : List β), i + d = x0.length → x3.length = x0.length → x3.take i = (x0.map cv).take i → Ev (fun k => F k x3 (i : Int)) (x0.map cv) := by
    intro d
    induction d with
    | zero =>
      intro i x3 hi hx ht
      obtain rfl : i = x0.length := by omega
      have e : x3 = x0.map cv := by
        rw [← hx, List.take_length] at ht
        rw [ht, hx]
        exact List.take_of_length_le (by simp)
      have := h2 x3
      rw [e] at this
      rw [e]
      exact this
    | succ d ih =>
      intro i x3 hi hx ht
      have hlt : i < x0.length := by omega
      refine h1 x3 i _ hlt hx (ih (i + 1) _ (by omega) (by rw [List.length_set]; exact hx) ?_)
      rw [set_take x3 i _ (by omega), ht]
      rw [List.take_succ_eq_append_getElem (by simpa using hlt)]
      simp
  have := key x0.length 0 init (by omega) hl (by simp)
  exact this

theorem eqLoop {α : Type} (F : Nat → Int → Option Bool) (x0 : List α)
    (h1 : ∀ (i : Nat) (r : Bool) (_ : i < x0.length), Ev (fun k => F k ((i + 1 : Nat) : Int)) r → Ev (fun k => F k (i : Int)) r)
    (h2 : Ev (fun k => F k (x0.length : Int)) true) : Ev (fun k => F k 0) true := by
  have key : ∀ (d i : Nat), i + d = x0.length → Ev (fun k => F k (i : Int)) true := by
    intro d
    induction d with
    | zero =>
      intro i hi
      obtain rfl : i = x0.length := by omega
      exact h2
    | succ d ih =>
      intro i hi
      exact h1 i true (by omega) (ih (i + 1) (by omega))
  exact key x0.length 0 (by omega)

theorem ite_eq_of {α : Type} {p : Prop} [Decidable p] {a b : α} (h : p) : (if p then a else b) = a := if_pos h

theorem Ev.one {α : Type} {g : Nat → Option α} {r : α} (h : ∀ k, g (k + 1) = some r) : Ev g r := Ev.step (f := fun _ => some r) h (Ev.now r)

theorem rdP_get (l : List S25) (i : Nat) (h : i < l.length) : rd_T25 l (i : Int) = l[i] := by
  simp [rd_T25, List.getD, List.getElem?_eq_getElem h]

theorem rdQ_get (l : List S23) (i : Nat) (h : i < l.length) : rd_T23 l (i : Int) = l[i] := by
  simp [rd_T23, List.getD, List.getElem?_eq_getElem h]

def cvPing (x : S23) : S25 := ⟨x.f0, x.f1, x.f2⟩

theorem toPingS_ev (l : List S23) (hl : l.length ≤ 11728124029610) : Ev (fun k => laws_toPingS.f k l) (l.map cvPing) := by
  have key := copyLoop (fun k x3 i => laws_toPingS.l0 k l x3 i) l cvPing (by
    intro x3 i r hi hx h
    refine Ev.step (fun k => ?_) h
    simp only [laws_toPingS.l0, laws_toPing.f, Option.bind_some]
    rw [if_pos (by omega), if_pos (by omega), if_pos (by omega), rdQ_get l i hi, w64_nat i (by omega), Int.toNat_natCast]
    rfl) (by
    intro x3
    refine Ev.one (fun k => ?_)
    simp only [laws_toPingS.l0]
    rw [if_neg (by omega)]) (List.replicate l.length z25) (by simp)
  refine Ev.congr (fun k => ?_) key
  simp only [laws_toPingS.f, Int.toNat_natCast]
  rw [if_pos (by omega), if_pos hl]

theorem eqPingS_ev (l : List S25) (hl : l.length ≤ 140737488355328) : Ev (fun k => laws_eqPingS.f k l l) true := by
  have key := eqLoop (fun k i => laws_eqPingS.l0 k l l i) l (by
    intro i r hi h
    refine Ev.step (fun k => ?_) h
    simp only [laws_eqPingS.l0, laws_eqPing.f, if_true, Option.bind_some]
    rw [if_pos (by omega), if_pos (by omega), if_pos (by omega), w64_nat i (by omega)]) (by
    refine Ev.one (fun k => ?_)
    simp only [laws_eqPingS.l0]
    rw [if_neg (by omega)])
  refine Ev.congr (fun k => ?_) key
  simp only [laws_eqPingS.f, if_true]

theorem szPingS_big (l : List S23) (h0 : l.length ≤ 9223372036854775807) (h : ¬ l.length ≤ 1048576) : laws_szPingS.f l 1048576 = some (-1) := by
  simp only [laws_szPingS.f]
  rw [w64 (by omega) (by omega), if_pos (by omega)]

theorem szPingS_small (l : List S23) (h : l.length ≤ 1048576) : laws_szPingS.f l 1048576 = some (1048576 - (l.length : Int)) := by
  simp only [laws_szPingS.f]
  rw [w64 (by omega) (by omega), if_neg (by omega)]

theorem l1In_eq (a b c : Int) : spec_l1In.f a b c = some (decide (b ≤ a ∧ a ≤ c)) := by
  unfold spec_l1In.f
  split <;> simp <;> omega

theorem inRange_eq (a b c : Int) : impl_InRange.f a b c = some (decide (b ≤ a ∧ a ≤ c)) := by
  unfold impl_InRange.f
  split <;> simp <;> omega

def pingOk (a b c : Int) : Bool := decide (0 ≤ a ∧ a ≤ c ∧ c ≤ 10000000 ∧ 0 ≤ b ∧ b ≤ 10000000)

theorem pingOk_iff {a b c : Int} (h : pingOk a b c = true) : 0 ≤ a ∧ a ≤ c ∧ c ≤ 10000000 ∧ 0 ≤ b ∧ b ≤ 10000000 := by
  simpa [pingOk] using h

theorem spec_isPing (a b c : Int) : spec_IsPing.f a b c = some (pingOk a b c) := by
  simp only [spec_IsPing.f, l1In_eq, Option.bind_some, decide_eq_true_eq, pingOk]
  repeat' split
  all_goals (simp only [Option.some.injEq, decide_eq_decide, Bool.false_eq, decide_eq_false_iff_not] <;> omega)

theorem impl_isPing (a b c : Int) : impl_IsPing.f a b c = some (pingOk a b c) := by
  simp only [impl_IsPing.f, inRange_eq, Option.bind_some, decide_eq_true_eq, pingOk]
  repeat' split
  all_goals (simp only [Option.some.injEq, decide_eq_decide, Bool.false_eq, decide_eq_false_iff_not] <;> omega)

theorem spec_offset (a b c : Int) : spec_OffsetBounds.f a b c = some (if pingOk a b c = true then (b - c, b - a) else (1, 0)) := by
  simp only [spec_OffsetBounds.f, spec_isPing, Option.bind_some]
  split
  · rename_i h
    have := pingOk_iff h
    rw [w64 (by omega) (by omega), w64 (by omega) (by omega)]
  · rfl

theorem impl_offset (a b c : Int) : impl_OffsetBounds.f a b c = some (if pingOk a b c = true then (b - c, b - a) else (1, 0)) := by
  simp only [impl_OffsetBounds.f, impl_isPing, Option.bind_some]
  split
  · rename_i h
    have := pingOk_iff h
    rw [w64 (by omega) (by omega), w64 (by omega) (by omega)]
  · rfl

def meet : List S25 → Int → Int → Int × Int × Bool
  | [], a, b => if a > b then (0, 0, false) else (a, b, true)
  | x :: l, a, b => if pingOk x.f0 x.f1 x.f2 = true then meet l (if x.f1 - x.f2 > a then x.f1 - x.f2 else a) (if x.f1 - x.f0 < b then x.f1 - x.f0 else b) else (0, 0, false)

theorem spec_meet_ev (l : List S25) (hl : l.length ≤ 1048576) (hp : ¬ l.length = 0) (d : Nat) : ∀ (i : Nat) (a b : Int), i + d = l.length → Ev (fun k => spec_MeetBounds.l0 k l a b (i : Int)) (meet (l.drop i) a b) := by
  induction d with
  | zero =>
    intro i a b hi
    rw [List.drop_of_length_le (by omega)]
    refine Ev.one (fun k => ?_)
    simp only [spec_MeetBounds.l0, meet]
    rw [if_neg (by omega), if_neg (by omega)]
    split <;> rfl
  | succ d ih =>
    intro i a b hi
    have hlt : i < l.length := by omega
    rw [drop_cons l i hlt]
    by_cases hc : pingOk l[i].f0 l[i].f1 l[i].f2 = true
    · refine Ev.step (fun k => ?_) (by rw [meet, if_pos hc]; exact ih (i + 1) _ _ (by omega))
      simp only [spec_MeetBounds.l0, spec_isPing, spec_offset, Option.bind_some, spec_Max.f, spec_Min.f]
      rw [if_pos (by omega), if_pos (by omega), rdP_get l i hlt, if_pos hc, w64_nat i (by omega)]
      simp only [if_pos hc]
      split <;> (simp only [Option.bind_some]; split <;> simp only [Option.bind_some])
    · rw [meet, if_neg hc]
      refine Ev.one (fun k => ?_)
      simp only [spec_MeetBounds.l0, spec_isPing, Option.bind_some]
      rw [if_pos (by omega), if_pos (by omega), rdP_get l i hlt, if_neg hc]

theorem impl_meet_ev (l : List S25) (hl : l.length ≤ 1048576) (d : Nat) : ∀ (i : Nat) (a b : Int), i + d = l.length → Ev (fun k => impl_MeetBounds.l0 k a b l (l.length : Int) (i : Int)) (meet (l.drop i) a b) := by
  induction d with
  | zero =>
    intro i a b hi
    rw [List.drop_of_length_le (by omega)]
    refine Ev.one (fun k => ?_)
    simp only [impl_MeetBounds.l0, meet]
    rw [if_neg (by omega)]
    split <;> rfl
  | succ d ih =>
    intro i a b hi
    have hlt : i < l.length := by omega
    rw [drop_cons l i hlt]
    by_cases hc : pingOk l[i].f0 l[i].f1 l[i].f2 = true
    · refine Ev.step (fun k => ?_) (by rw [meet, if_pos hc]; exact ih (i + 1) _ _ (by omega))
      simp only [impl_MeetBounds.l0, impl_isPing, impl_offset, Option.bind_some, mx, mn]
      rw [if_pos (by omega), if_pos (by omega), if_pos (by omega), rdP_get l i hlt, if_pos hc, w64_nat i (by omega)]
      simp only [if_pos hc]
    · rw [meet, if_neg hc]
      refine Ev.one (fun k => ?_)
      simp only [impl_MeetBounds.l0, impl_isPing, Option.bind_some]
      rw [if_pos (by omega), if_pos (by omega), if_pos (by omega), rdP_get l i hlt, if_neg hc]

/-- What MeetBounds answers. -/
def meetR (l : List S25) : Int × Int × Bool := if l.length = 0 then (0, 0, false) else meet l (-100000000) 100000000

theorem spec_meetR (l : List S25) (hl : l.length ≤ 1048576) : Ev (fun k => spec_MeetBounds.f k l) (meetR l) := by
  unfold meetR
  split
  · rename_i h
    refine Ev.one (fun k => ?_)
    simp only [spec_MeetBounds.f, spec_MeetBounds.l0]
    rw [if_neg (by omega), if_pos (by omega)]
  · rename_i h
    exact spec_meet_ev l hl h l.length 0 _ _ (by omega)

theorem impl_meetR (l : List S25) (hl : l.length ≤ 1048576) : Ev (fun k => impl_MeetBounds.f k l) (meetR l) := by
  unfold meetR
  split
  · rename_i h
    refine Ev.one (fun k => ?_)
    simp only [impl_MeetBounds.f]
    rw [if_pos (by omega)]
  · rename_i h
    have hlt : 0 < l.length := by omega
    have key := fun a b => impl_meet_ev l hl l.length 0 a b (by omega)
    have hr : rd_T25 l 0 = l[0] := rdP_get l 0 hlt
    by_cases hc : pingOk l[0].f0 l[0].f1 l[0].f2 = true
    · refine Ev.congr (fun k => ?_) (f := fun k => impl_MeetBounds.l0 k (l[0].f1 - l[0].f2) (l[0].f1 - l[0].f0) l (l.length : Int) 0) ?_
      · simp only [impl_MeetBounds.f, impl_offset, Option.bind_some]
        rw [if_neg (by omega), if_pos (by omega), hr]
        simp only [if_pos hc]
      · have e : meet l (-100000000) 100000000 = meet l (l[0].f1 - l[0].f2) (l[0].f1 - l[0].f0) := by
          obtain ⟨x, t, rfl⟩ : ∃ x t, l = x :: t := by
            cases l with
            | nil => exact absurd rfl h
            | cons x t => exact ⟨x, t, rfl⟩
          have hc' : pingOk x.f0 x.f1 x.f2 = true := hc
          have := pingOk_iff hc'
          simp only [meet, if_pos hc', List.getElem_cons_zero]
          rw [if_pos (by omega), if_pos (by omega), if_neg (by omega), if_neg (by omega)]
        rw [e]
        exact key _ _
    · refine Ev.congr (fun k => ?_) (f := fun k => impl_MeetBounds.l0 k 1 0 l (l.length : Int) 0) ?_
      · simp only [impl_MeetBounds.f, impl_offset, Option.bind_some]
        rw [if_neg (by omega), if_pos (by omega), hr]
        simp only [if_neg hc]
      · have e : meet l (-100000000) 100000000 = meet l 1 0 := by
          obtain ⟨x, t, rfl⟩ : ∃ x t, l = x :: t := by
            cases l with
            | nil => exact absurd rfl h
            | cons x t => exact ⟨x, t, rfl⟩
          have hc' : ¬ pingOk x.f0 x.f1 x.f2 = true := hc
          simp only [meet, if_neg hc']
        rw [e]
        exact key _ _

theorem meet_bound (l : List S25) : ∀ a b, -100000000 ≤ a → a ≤ 100000000 → -100000000 ≤ b → b ≤ 100000000 → -100000000 ≤ (meet l a b).1 ∧ (meet l a b).1 ≤ 100000000 ∧ -100000000 ≤ (meet l a b).2.1 ∧ (meet l a b).2.1 ≤ 100000000 := by
  induction l with
  | nil =>
    intro a b h1 h2 h3 h4
    unfold meet
    split <;> (simp <;> omega)
  | cons x l ih =>
    intro a b h1 h2 h3 h4
    unfold meet
    split
    · rename_i hc
      have := pingOk_iff hc
      apply ih <;> (split <;> omega)
    · simp

theorem meetR_bound (l : List S25) : -100000000 ≤ (meetR l).1 ∧ (meetR l).1 ≤ 100000000 ∧ -100000000 ≤ (meetR l).2.1 ∧ (meetR l).2.1 ≤ 100000000 := by
  unfold meetR
  split
  · simp
  · exact meet_bound l _ _ (by omega) (by omega) (by omega) (by omega)

theorem mods_eq (a b : Int) : impl_Mod.f a b = spec_Mod.f a b := by
  simp only [impl_Mod.f, spec_Mod.f, l1In_eq, inRange_eq]

theorem mod_some (a : Int) : ∃ r, spec_Mod.f a 2 = some r := by
  simp only [spec_Mod.f, l1In_eq, Option.bind_some]
  exact ⟨_, rfl⟩

theorem start_ev (l : List S25) (a : Int) (hl : l.length ≤ 1048576) : ∃ r, Ev (fun k => spec_StartFor.f k l a) r ∧ Ev (fun k => impl_StartFor.f k l a) r := by
  obtain ⟨m, hm⟩ := mod_some (wrap64 ((meetR l).1 + (meetR l).2.1))
  by_cases h1 : (meetR l).2.2 = true
  · by_cases h2 : 0 ≤ a ∧ a ≤ 10000000
    · refine ⟨(wrap64 (a + (wrap64 (Int.tdiv (wrap64 ((wrap64 ((meetR l).1 + (meetR l).2.1)) - m)) 2))), true), ?_, ?_⟩
      · simp only [spec_StartFor.f]
        refine Ev.bind (spec_meetR l hl) ?_
        simp only [h1, if_true, l1In_eq, Option.bind_some, h2, and_self, decide_true, hm]
        exact Ev.now _
      · simp only [impl_StartFor.f]
        refine Ev.bind (impl_meetR l hl) ?_
        simp only [h1, if_true, inRange_eq, Option.bind_some, h2, and_self, decide_true, mods_eq, hm]
        exact Ev.now _
    · refine ⟨(0, false), ?_, ?_⟩
      · simp only [spec_StartFor.f]
        refine Ev.bind (spec_meetR l hl) ?_
        simp only [h1, if_true, l1In_eq, Option.bind_some, h2, decide_false, Bool.false_eq_true, if_false]
        exact Ev.now _
      · simp only [impl_StartFor.f]
        refine Ev.bind (impl_meetR l hl) ?_
        simp only [h1, if_true, inRange_eq, Option.bind_some, h2, decide_false, Bool.false_eq_true, if_false]
        exact Ev.now _
  · refine ⟨(0, false), ?_, ?_⟩
    · simp only [spec_StartFor.f]
      refine Ev.bind (spec_meetR l hl) ?_
      simp only [h1, Bool.false_eq_true, if_false]
      exact Ev.now _
    · simp only [impl_StartFor.f]
      refine Ev.bind (impl_meetR l hl) ?_
      simp only [h1, Bool.false_eq_true, if_false]
      exact Ev.now _

theorem FnExactStartFor : ∀ (l0 : List (S23)) (a1 : Int), (l0.length ≤ maxLen ∧ l0.length * 24 ≤ 140737488351232 ∧ ∀ l0' ∈ l0, ((Lit.int .i64 l0'.f0).wf = true) ∧ ((Lit.int .i64 l0'.f1).wf = true) ∧ ((Lit.int .i64 l0'.f2).wf = true)) → ((Lit.int .i64 a1).wf = true) → ∃ k, laws_FnExactStartFor.f k l0 a1 = some true := by
  intro l0 a h0 _
  by_cases hb : l0.length ≤ 1048576
  · obtain ⟨r, hs, hi⟩ := start_ev (l0.map cvPing) a (by simpa using hb)
    have ht := toPingS_ev l0 (by omega)
    have he := eqPingS_ev (l0.map cvPing) (by simp; omega)
    refine Ev.rounds (g := fun k => laws_FnExactStartFor.f k l0 a) ?_
    simp only [laws_FnExactStartFor.f, szPingS_small l0 hb, Option.bind_some]
    have hn : ¬ (1048576 - (l0.length : Int) < 0) := by omega
    simp only [hn, if_false]
    refine Ev.bind ht ?_
    refine Ev.bind hs ?_
    refine Ev.bind ht ?_
    refine Ev.bind hi ?_
    simp only [bne_self_eq_false, if_true]
    refine Ev.step (f := fun k => (laws_toPingS.f k l0).bind fun t => (laws_eqPingS.f k (l0.map cvPing) t).bind fun t => if t = true then some true else some false) (fun k => ?_) ?_
    · simp only [laws_FnExactStartFor.j0, Bool.false_eq_true, if_false]
    · refine Ev.bind ht ?_
      refine Ev.bind he ?_
      simp only [if_true]
      exact Ev.now true
  · refine ⟨0, ?_⟩
    have hm : l0.length ≤ 9223372036854775807 := h0.1
    simp only [laws_FnExactStartFor.f, szPingS_big l0 hm hb, Option.bind_some]
    rfl

end Go.Proofs.Ytmdeggbhdipnmaa.Pure
