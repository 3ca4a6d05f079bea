/- The plain statement of the law FnExactSpare: what its printed function answers; no conditions but that the numbers are Go's ints and the slices no longer than memory. -/
import Derived.Test.YtkonalnohdplnaaQFnExactSparex4
set_option linter.unusedVariables false
set_option linter.unusedSimpArgs false
namespace Go.Proofs.Ytkonalnohdplnaa.Pure
open Go.RowKit Go.Proofs.Ytkonalnohdplnaa.QFnExactSpare Go.Proofs.YtkonalnohdplnaaW.PrintWords Go.Proofs.YtkonalnohdplnaaW.PrintLast Go.Proofs.YtkonalnohdplnaaW.PrintMore

theorem wf64 {x : Int} (h : (Lit.int .i64 x).wf = true) : -9223372036854775808 ≤ x ∧ x ≤ 9223372036854775807 := by
  simp only [Lit.wf, IntKind.min, IntKind.max, IntKind.signed, IntKind.bits, Bool.and_eq_true, decide_eq_true_eq, if_true] at h
  omega

theorem w64 {x : Int} (h1 : -9223372036854775808 ≤ x) (h2 : x ≤ 9223372036854775807) : wrap64 x = x := by
  unfold wrap64
  omega

theorem w64_nat (i : Nat) (h : i ≤ 9223372036854775806) : wrap64 ((i : Int) + 1) = ((i + 1 : Nat) : Int) := by
  unfold wrap64
  omega

theorem drop_cons {α : Type} (l : List α) (i : Nat) (h : i < l.length) : l.drop i = l[i] :: l.drop (i + 1) := List.drop_eq_getElem_cons h

theorem set_take {β : Type} (x : List β) (i : Nat) (v : β) (h : i < x.length) : (x.set i v).take (i + 1) = x.take i ++ [v] := by
  apply List.ext_getElem?
  intro j
  rcases Nat.lt_trichotomy j i with hj | hj | hj
  · rw [List.getElem?_take_of_lt (by omega), List.getElem?_set_ne (by omega), List.getElem?_append_left (by simp; omega), List.getElem?_take_of_lt (by omega)]
  · subst hj
    rw [List.getElem?_take_of_lt (by omega), List.getElem?_set_self (by omega), List.getElem?_append_right (by simp; omega)]
    simp [Nat.min_eq_left (Nat.le_of_lt h)]
  · rw [List.getElem?_take_eq_none (by omega), List.getElem?_append_right (by simp; omega)]
    simp
    omega

theorem copyLoop {α β : Type} (F : Nat → List β → Int → Option (List β)) (x0 : List α) (cv : α → β)
    (h1 : ∀ (x3 : List β) (i : Nat) (r : List β) (hi : i < x0.length), x3.length = x0.length → Ev (fun k => F k (x3.set i (cv x0[i])) ((i + 1 : Nat) : Int)) r → Ev (fun k => F k x3 (i : Int)) r)
    (h2 : ∀ x3 : List β, Ev (fun k => F k x3 (x0.length : Int)) x3) (init : List β) (hl : init.length = x0.length) : Ev (fun k => F k init 0) (x0.map cv) := by
  have key : ∀ (d i : Nat) (x3 : List β), i + d = x0.length → x3.length = x0.length → x3.take i = (x0.map cv).take i → Ev (fun k => F k x3 (i : Int)) (x0.map cv) := by
    intro d
    induction d with
    | zero =>
      intro i x3 hi hx ht
      obtain rfl : i = x0.length := by omega
      have e : x3 = x0.map cv := by
        rw [← hx, List.take_length] at ht
        rw [ht, hx]
        exact List.take_of_length_le (by simp)
      have := h2 x3
      rw [e] at this
      rw [e]
      exact this
    | succ d ih =>
      intro i x3 hi hx ht
      have hlt : i < x0.length := by omega
      refine h1 x3 i _ hlt hx (ih (i + 1) _ (by omega) (by rw [List.length_set]; exact hx) ?_)
      rw [set_take x3 i _ (by omega), ht]
      rw [List.take_succ_eq_append_getElem (by simpa using hlt)]
      simp
  have := key x0.length 0 init (by omega) hl (by simp)
  exact this

theorem eqLoop {α : Type} (F : Nat → Int → Option Bool) (x0 : List α)
    (h1 : ∀ (i : Nat) (r : Bool) (_ : i < x0.length), Ev (fun k => F k ((i + 1 : Nat) : Int)) r → Ev (fun k => F k (i : Int)) r)
    (h2 : Ev (fun k => F k (x0.length : Int)) true) : Ev (fun k => F k 0) true := by
  have key : ∀ (d i : Nat), i + d = x0.length → Ev (fun k => F k (i : Int)) true := by
    intro d
    induction d with
    | zero =>
      intro i hi
      obtain rfl : i = x0.length := by omega
      exact h2
    | succ d ih =>
      intro i hi
      exact h1 i true (by omega) (ih (i + 1) (by omega))
  exact key x0.length 0 (by omega)

theorem ite_eq_of {α : Type} {p : Prop} [Decidable p] {a b : α} (h : p) : (if p then a else b) = a := if_pos h

theorem Ev.one {α : Type} {g : Nat → Option α} {r : α} (h : ∀ k, g (k + 1) = some r) : Ev g r := Ev.step (f := fun _ => some r) h (Ev.now r)

theorem rd_get (l : List Int) (i : Nat) (h : i < l.length) : rd l (i : Int) = l[i] := by
  simp [rd, List.getD, List.getElem?_eq_getElem h]

theorem index_loop (l : List Int) (n : Int) (hl : l.length ≤ 1048576) (d : Nat) : ∀ i : Nat, i + d = l.length → ∃ r, Ev (fun k => slices_Index_int_int.l0 k l n (l.length : Int) (i : Int)) r ∧ decide (r ≥ 0) = decide (n ∈ l.drop i) := by
  induction d with
  | zero =>
    intro i h
    rw [List.drop_of_length_le (by omega)]
    refine ⟨-1, Ev.one (fun k => ?_), by simp⟩
    simp only [slices_Index_int_int.l0]
    rw [if_neg (by omega)]
  | succ d ih =>
    intro i h
    have hlt : i < l.length := by omega
    rw [drop_cons l i hlt]
    by_cases hc : n = l[i]
    · refine ⟨(i : Int), Ev.one (fun k => ?_), by rw [decide_eq_true (show (i : Int) ≥ 0 by omega), hc]; exact (decide_eq_true List.mem_cons_self).symm⟩
      simp only [slices_Index_int_int.l0]
      rw [if_pos (by omega), if_pos (by omega), if_pos (by omega), rd_get l i hlt, if_pos hc]
    · obtain ⟨r, hr, he⟩ := ih (i + 1) (by omega)
      refine ⟨r, Ev.step (fun k => ?_) hr, he.trans (decide_eq_decide.2 (by rw [List.mem_cons]; exact (or_iff_right hc).symm))⟩
      simp only [slices_Index_int_int.l0]
      rw [if_pos (by omega), if_pos (by omega), if_pos (by omega), rd_get l i hlt, if_neg hc, w64_nat i (by omega)]
theorem contains_ev (l : List Int) (n : Int) (hl : l.length ≤ 1048576) : Ev (fun k => slices_Contains_int_int.f k l n) (decide (n ∈ l)) := by
  obtain ⟨r, hr, he⟩ := index_loop l n hl l.length 0 (by omega)
  rw [List.drop_zero] at he
  simp only [slices_Contains_int_int.f, slices_Index_int_int.f]
  rw [← he]
  exact Ev.bind hr (Ev.now _)

theorem has_loop (l : List Int) (n : Int) (hl : l.length ≤ 1048576) (d : Nat) : ∀ i : Nat, i + d = l.length → Ev (fun k => spec_l27Has.l0 k l n (i : Int)) (decide (n ∈ l.drop i)) := by
  induction d with
  | zero =>
    intro i h
    rw [List.drop_of_length_le (by omega)]
    refine Ev.one (fun k => ?_)
    simp only [spec_l27Has.l0]
    rw [if_neg (by omega)]
    simp
  | succ d ih =>
    intro i h
    have hlt : i < l.length := by omega
    rw [drop_cons l i hlt]
    by_cases hc : l[i] = n
    · refine Ev.one (fun k => ?_)
      simp only [spec_l27Has.l0]
      rw [if_pos (by omega), if_pos (by omega), rd_get l i hlt, if_pos hc]
      simp [hc]
    · refine Ev.step (fun k => ?_) (by rw [show decide (n ∈ l[i] :: l.drop (i + 1)) = decide (n ∈ l.drop (i + 1)) from decide_eq_decide.2 (by rw [List.mem_cons]; exact or_iff_right (Ne.symm hc))]; exact ih (i + 1) (by omega))
      simp only [spec_l27Has.l0]
      rw [if_pos (by omega), if_pos (by omega), rd_get l i hlt, if_neg hc, w64_nat i (by omega)]
theorem has_ev (l : List Int) (n : Int) (hl : l.length ≤ 1048576) : Ev (fun k => spec_l27Has.f k l n) (decide (n ∈ l)) := has_loop l n hl l.length 0 (by omega)

theorem eqIntS_ev (l : List Int) (hl : l.length ≤ 140737488355328) : Ev (fun k => laws_eqIntS.f k l l) true := by
  have key := eqLoop (fun k i => laws_eqIntS.l0 k l l i) l (by
    intro i r hi h
    refine Ev.step (fun k => ?_) h
    simp only [laws_eqIntS.l0]
    rw [if_pos (by omega), if_pos (by omega), if_pos (by omega), if_pos trivial, w64_nat i (by omega)]) (by
    refine Ev.one (fun k => ?_)
    simp only [laws_eqIntS.l0]
    rw [if_neg (by omega)])
  refine Ev.congr (fun k => ?_) key
  simp only [laws_eqIntS.f]
  rw [if_pos trivial]

theorem toIntS_ev (l : List Int) (hl : l.length ≤ 35184372088832) : Ev (fun k => laws_toIntS.f k l) l := by
  have key := copyLoop (fun k x3 i => laws_toIntS.l0 k l x3 i) l (fun x => x) (by
    intro x3 i r hi hx h
    refine Ev.step (fun k => ?_) h
    simp only [laws_toIntS.l0]
    rw [if_pos (by omega), if_pos (by omega), if_pos (by omega), rd_get l i hi, w64_nat i (by omega), Int.toNat_natCast]) (by
    intro x3
    refine Ev.one (fun k => ?_)
    simp only [laws_toIntS.l0]
    rw [if_neg (by omega)]) (List.replicate l.length 0) (by simp)
  rw [List.map_id' l] at key
  refine Ev.congr (fun k => ?_) key
  simp only [laws_toIntS.f, Int.toNat_natCast]
  rw [if_pos (by omega), if_pos hl]

theorem markLoop {β : Type} (C : Nat → Nat) (mkv : Nat → β) (F : Nat → List β → Int → Int → Option (Int × List β)) (n : Nat)
    (h1 : ∀ (x3 : List β) (i : Nat) (r : Int × List β), i < n → x3.length = n → Ev (fun k => F k (x3.set i (mkv i)) ((C (i + 1) : Nat) : Int) ((i + 1 : Nat) : Int)) r → Ev (fun k => F k x3 ((C i : Nat) : Int) (i : Int)) r)
    (h2 : ∀ x3 : List β, x3.length = n → Ev (fun k => F k x3 ((C n : Nat) : Int) (n : Int)) (((C n : Nat) : Int), x3)) (init : List β) (hl : init.length = n) :
    Ev (fun k => F k init ((C 0 : Nat) : Int) ((0 : Nat) : Int)) (((C n : Nat) : Int), (List.range n).map mkv) := by
  have key : ∀ (d i : Nat) (x3 : List β), i + d = n → x3.length = n → x3.take i = (List.range i).map mkv → Ev (fun k => F k x3 ((C i : Nat) : Int) (i : Int)) (((C n : Nat) : Int), (List.range n).map mkv) := by
    intro d
    induction d with
    | zero =>
      intro i x3 hi hx ht
      obtain rfl : i = n := by omega
      have e : x3 = (List.range i).map mkv := by
        rw [← ht, ← hx, List.take_length]
      have := h2 x3 hx
      rw [← e]
      exact this
    | succ d ih =>
      intro i x3 hi hx ht
      refine h1 x3 i _ (by omega) hx (ih (i + 1) _ (by omega) (by rw [List.length_set]; exact hx) ?_)
      rw [set_take x3 i _ (by omega), ht, List.range_succ, List.map_append]
      rfl
  exact key n 0 init (by omega) hl (by simp)

theorem heldLoop (C : Nat → Nat) (F : Nat → Int → Int → Option Int) (n : Nat)
    (h1 : ∀ (i : Nat) (r : Int), i < n → Ev (fun k => F k ((C (i + 1) : Nat) : Int) ((i + 1 : Nat) : Int)) r → Ev (fun k => F k ((C i : Nat) : Int) (i : Int)) r)
    (h2 : Ev (fun k => F k ((C n : Nat) : Int) (n : Int)) ((C n : Nat) : Int)) : Ev (fun k => F k ((C 0 : Nat) : Int) ((0 : Nat) : Int)) ((C n : Nat) : Int) := by
  have key : ∀ (d i : Nat), i + d = n → Ev (fun k => F k ((C i : Nat) : Int) (i : Int)) ((C n : Nat) : Int) := by
    intro d
    induction d with
    | zero =>
      intro i hi
      obtain rfl : i = n := by omega
      exact h2
    | succ d ih =>
      intro i hi
      exact h1 i _ (by omega) (ih (i + 1) (by omega))
  exact key n 0 (by omega)

def mkInt (q : Nat) : Int := ((1 + q : Nat) : Int)

theorem markIntS_ev (l : List Int) (hl : l.length ≤ 1048576) : Ev (fun k => laws_markIntS.f k l 1) (((1 + l.length : Nat) : Int), (List.range l.length).map mkInt) := by
  have key := markLoop (fun i => 1 + i) mkInt (fun k x c i => laws_markIntS.l0 k x c i) l.length (by
    intro x3 i r hi hx h
    refine Ev.step (fun k => ?_) h
    simp only [laws_markIntS.l0, Int.toNat_natCast]
    rw [if_pos (by omega), if_pos (by omega), w64_nat (1 + i) (by omega), w64_nat i (by omega)]
    rfl) (by
    intro x3 hx
    refine Ev.one (fun k => ?_)
    simp only [laws_markIntS.l0]
    rw [if_neg (by omega)]) l rfl
  exact key

theorem heldIntS_ev (n : Nat) (hl : n ≤ 1048576) : Ev (fun k => laws_heldIntS.f k ((List.range n).map mkInt) 1) ((1 + n : Nat) : Int) := by
  have key := heldLoop (fun i => 1 + i) (fun k c i => laws_heldIntS.l0 k ((List.range n).map mkInt) c i) n (by
    intro i r hi h
    refine Ev.step (fun k => ?_) h
    simp only [laws_heldIntS.l0, List.length_map, List.length_range]
    rw [if_pos (by omega), if_pos (by omega), rd_get _ i (by simpa using hi), w64_nat (1 + i) (by omega), w64_nat i (by omega)]
    simp only [List.getElem_map, List.getElem_range, mkInt, if_true]
    rfl) (by
    refine Ev.one (fun k => ?_)
    simp only [laws_heldIntS.l0, List.length_map, List.length_range]
    rw [if_neg (by omega)])
  exact key

theorem markInt_any (d : Nat) : ∀ (i c : Nat) (x : List Int), i + d = x.length → x.length ≤ 1048576 → c + d ≤ 4000000000000000000 → ∃ x', Ev (fun k => laws_markIntS.l0 k x (c : Int) (i : Int)) (((c + d : Nat) : Int), x') := by
  induction d with
  | zero =>
    intro i c x hi hx hc
    refine ⟨x, Ev.one (fun k => ?_)⟩
    simp only [laws_markIntS.l0]
    rw [if_neg (by omega)]
    rfl
  | succ d ih =>
    intro i c x hi hx hc
    obtain ⟨x', h⟩ := ih (i + 1) (c + 1) (x.set i (c : Int)) (by simp; omega) (by simpa using hx) (by omega)
    refine ⟨x', ?_⟩
    rw [show c + 1 + d = c + (d + 1) by omega] at h
    refine Ev.step (fun k => ?_) h
    simp only [laws_markIntS.l0, Int.toNat_natCast]
    rw [if_pos (by omega), if_pos (by omega), w64_nat c (by omega), w64_nat i (by omega)]

theorem rdPlayer_get (l : List S36) (i : Nat) (h : i < l.length) : rd_T36 l (i : Int) = l[i] := by
  simp [rd_T36, List.getD, List.getElem?_eq_getElem h]
theorem rdlPlayer_get (l : List S31) (i : Nat) (h : i < l.length) : rd_T31 l (i : Int) = l[i] := by
  simp [rd_T31, List.getD, List.getElem?_eq_getElem h]

def cvPlayer (x : S31) : S36 := ⟨x.f0, x.f1, x.f2, x.f3⟩

theorem szPlayer_ev (x : S31) (b : Int) (hb : 0 ≤ b) (hb2 : b ≤ 1048576) (h0 : x.f3.length ≤ 9223372036854775807) : laws_szPlayer.f x.f0 x.f1 x.f2 x.f3 b = some (if b < (x.f3.length : Int) then -1 else b - (x.f3.length : Int)) := by
  simp only [laws_szPlayer.f, laws_szIntS.f]
  rw [w64 (by omega) (by omega)]
  by_cases h : b < (x.f3.length : Int)
  · rw [if_pos (by omega), if_pos h]
    rfl
  · rw [if_neg (by omega), if_neg h]
    simp only [Option.bind_some]
    rw [if_neg (by omega)]

theorem szPlayerS_loop (l : List S31) (hl : l.length ≤ 1048576) (hx : ∀ x ∈ l, x.f3.length ≤ 9223372036854775807) (d : Nat) : ∀ (i : Nat) (b : Int), i + d = l.length → 0 ≤ b → b ≤ 1048576 →
    ∃ r, Ev (fun k => laws_szPlayerS.l0 k l b (i : Int)) r ∧ (r < 0 ∨ 0 ≤ r ∧ r ≤ 1048576 ∧ ∀ (j : Nat) (h : j < l.length), i ≤ j → l[j].f3.length ≤ 1048576) := by
  induction d with
  | zero =>
    intro i b hi h0 h1
    refine ⟨b, Ev.one (fun k => ?_), .inr ⟨h0, h1, fun j h hj => by omega⟩⟩
    simp only [laws_szPlayerS.l0]
    rw [if_neg (by omega)]
  | succ d ih =>
    intro i b hi h0 h1
    have hlt : i < l.length := by omega
    have hsz := szPlayer_ev l[i] b h0 h1 (hx _ (List.getElem_mem hlt))
    by_cases hc : b < (l[i].f3.length : Int)
    · refine ⟨-1, Ev.one (fun k => ?_), .inl (by omega)⟩
      simp only [laws_szPlayerS.l0]
      rw [if_pos (by omega), if_pos (by omega), rdlPlayer_get l i hlt, hsz, if_pos hc]
      rfl
    · obtain ⟨r, hr, hor⟩ := ih (i + 1) (b - (l[i].f3.length : Int)) (by omega) (by omega) (by omega)
      refine ⟨r, Ev.step (fun k => ?_) hr, ?_⟩
      · simp only [laws_szPlayerS.l0]
        rw [if_pos (by omega), if_pos (by omega), rdlPlayer_get l i hlt, hsz, if_neg hc]
        simp only [Option.bind_some]
        rw [if_neg (by omega), w64_nat i (by omega)]
      · rcases hor with h | ⟨h2, h3, h4⟩
        · exact .inl h
        · refine .inr ⟨h2, h3, fun j hj hij => ?_⟩
          rcases Nat.eq_or_lt_of_le hij with rfl | hlt2
          · omega
          · exact h4 j hj (by omega)

theorem szPlayerS_ev (l : List S31) (b : Int) (hb : 0 ≤ b) (hb2 : b ≤ 1048576) (h0 : l.length ≤ 9223372036854775807) (hx : ∀ x ∈ l, x.f3.length ≤ 9223372036854775807) :
    ∃ r, Ev (fun k => laws_szPlayerS.f k l b) r ∧ (r < 0 ∨ 0 ≤ r ∧ r ≤ 1048576 ∧ l.length ≤ 1048576 ∧ ∀ x ∈ l, x.f3.length ≤ 1048576) := by
  by_cases hc : b < (l.length : Int)
  · refine ⟨-1, Ev.one (fun k => ?_), .inl (by omega)⟩
    simp only [laws_szPlayerS.f]
    rw [w64 (by omega) (by omega), if_pos (by omega)]
  · obtain ⟨r, hr, hor⟩ := szPlayerS_loop l (by omega) hx l.length 0 (b - (l.length : Int)) (by omega) (by omega) (by omega)
    refine ⟨r, Ev.congr (fun k => ?_) hr, ?_⟩
    · simp only [laws_szPlayerS.f]
      rw [w64 (by omega) (by omega), if_neg (by omega)]
      rfl
    · rcases hor with h | ⟨h2, h3, h4⟩
      · exact .inl h
      · refine .inr ⟨h2, h3, by omega, fun x hx => ?_⟩
        obtain ⟨j, hj, rfl⟩ := List.getElem_of_mem hx
        exact h4 j hj (by omega)

theorem toPlayerS_ev (l : List S31) (hl : l.length ≤ 1048576) (hx : ∀ x ∈ l, x.f3.length ≤ 1048576) : Ev (fun k => laws_toPlayerS.f k l) (l.map cvPlayer) := by
  have key := copyLoop (fun k x3 i => laws_toPlayerS.l0 k l x3 i) l cvPlayer (by
    intro x3 i r hi hx3 h
    refine Ev.step (f := fun k => (laws_toPlayer.f k l[i].f0 l[i].f1 l[i].f2 l[i].f3).bind fun t => laws_toPlayerS.l0 k l (x3.set i (⟨t.1, t.2.1, t.2.2.1, t.2.2.2⟩ : S36)) ((i + 1 : Nat) : Int)) (fun k => ?_) ?_
    · have hc : (i : Int) < (x3.length : Int) := by omega
      simp only [laws_toPlayerS.l0, hc, if_true, Int.toNat_natCast]
      rw [if_pos (by omega), if_pos (by omega), rdlPlayer_get l i hi, w64_nat i (by omega)]
    · refine Ev.bind (a := (l[i].f0, l[i].f1, l[i].f2, l[i].f3)) ?_ h
      simp only [laws_toPlayer.f]
      exact Ev.bind (toIntS_ev l[i].f3 (by have := hx _ (List.getElem_mem hi); omega)) (Ev.now _)) (by
    intro x3
    refine Ev.one (fun k => ?_)
    simp only [laws_toPlayerS.l0]
    rw [if_neg (by omega)]) (List.replicate l.length z36) (by simp)
  refine Ev.congr (fun k => ?_) key
  simp only [laws_toPlayerS.f, Int.toNat_natCast]
  rw [if_pos (by omega), if_pos (by omega)]

theorem eqPlayerS_ev (l : List S36) (hl : l.length ≤ 1048576) (hx : ∀ x ∈ l, x.f3.length ≤ 1048576) : Ev (fun k => laws_eqPlayerS.f k l l) true := by
  have key := eqLoop (fun k i => laws_eqPlayerS.l0 k l l i) l (by
    intro i r hi h
    refine Ev.step (f := fun k => (laws_eqPlayer.f k l[i].f0 l[i].f1 l[i].f2 l[i].f3 l[i].f0 l[i].f1 l[i].f2 l[i].f3).bind fun t => if t = true then laws_eqPlayerS.l0 k l l ((i + 1 : Nat) : Int) else some false) (fun k => ?_) ?_
    · simp only [laws_eqPlayerS.l0]
      rw [if_pos (by omega), if_pos (by omega), if_pos (by omega), rdPlayer_get l i hi, w64_nat i (by omega)]
    · refine Ev.bind (a := true) ?_ ?_
      · simp only [laws_eqPlayer.f, if_true]
        refine Ev.bind (eqIntS_ev l[i].f3 (by have := hx _ (List.getElem_mem hi); omega)) ?_
        simp only [if_true]
        exact Ev.now true
      · simp only [if_true]
        exact h) (by
    refine Ev.one (fun k => ?_)
    simp only [laws_eqPlayerS.l0]
    rw [if_neg (by omega)])
  refine Ev.congr (fun k => ?_) key
  simp only [laws_eqPlayerS.f, if_true]

theorem markPlayerS_loop (n : Nat) (hn : n ≤ 1048576) (d : Nat) : ∀ (i c : Nat) (p : List S36), i + d = p.length → p.length = n → (∀ x ∈ p.drop i, x.f3.length ≤ 1048576) → c + d * 1048579 ≤ 3000000000000000000 →
    ∃ r, ∃ c' : Nat, Ev (fun k => laws_markPlayerS.l0 k p (c : Int) (i : Int)) ((c' : Int), r) ∧ c' ≤ c + d * 1048579 := by
  induction d with
  | zero =>
    intro i c p hi hp hx hc
    refine ⟨p, c, Ev.one (fun k => ?_), by omega⟩
    simp only [laws_markPlayerS.l0]
    rw [if_neg (by omega)]
  | succ d ih =>
    intro i c p hi hp hx hc
    have hlt : i < p.length := by omega
    rw [drop_cons p i hlt] at hx
    have h3 := hx p[i] List.mem_cons_self
    obtain ⟨x', h⟩ := markInt_any p[i].f3.length 0 (c + 3) p[i].f3 (by omega) (by omega) (by omega)
    have hd : (p.set i ⟨(c : Int), ((c + 1 : Nat) : Int), ((c + 2 : Nat) : Int), x'⟩).drop (i + 1) = p.drop (i + 1) := List.drop_set_of_lt (by omega)
    obtain ⟨r, c', h2, hle⟩ := ih (i + 1) (c + 3 + p[i].f3.length) (p.set i ⟨(c : Int), ((c + 1 : Nat) : Int), ((c + 2 : Nat) : Int), x'⟩) (by simp; omega) (by simpa using hp) (by rw [hd]; exact fun x hx2 => hx x (List.mem_cons_of_mem _ hx2)) (by omega)
    refine ⟨r, c', Ev.step (f := fun k => (laws_markIntS.f k p[i].f3 ((c + 3 : Nat) : Int)).bind fun t => laws_markPlayerS.l0 k (p.set i ⟨(c : Int), ((c + 1 : Nat) : Int), ((c + 2 : Nat) : Int), t.2⟩) t.1 ((i + 1 : Nat) : Int)) (fun k => ?_) (Ev.bind (g := fun k => laws_markIntS.f k p[i].f3 ((c + 3 : Nat) : Int)) h h2), by omega⟩
    simp only [laws_markPlayerS.l0, Int.toNat_natCast]
    rw [if_pos (by omega), if_pos (by omega), w64_nat i (by omega), w64_nat c (by omega), w64_nat (c + 1) (by omega), w64_nat (c + 1 + 1) (by omega), List.getD_eq_getElem?_getD, List.getElem?_eq_getElem hlt]
    rfl
theorem markPlayerS_ev (p : List S36) (hp : p.length ≤ 1048576) (hx : ∀ x ∈ p, x.f3.length ≤ 1048576) : ∃ r, ∃ c' : Nat, Ev (fun k => laws_markPlayerS.f k p 1) ((c' : Int), r) ∧ c' ≤ 3000000000000000000 := by
  obtain ⟨r, c', h, hle⟩ := markPlayerS_loop p.length hp p.length 0 1 p (by omega) rfl (by simpa using hx) (by omega)
  exact ⟨r, c', h, by omega⟩

def spareR (s : List Int) (l : List S36) : List Int := (l.map (·.f0)).filter (fun v => !decide (v ∈ s))
theorem spareR_len (s : List Int) (l : List S36) : (spareR s l).length ≤ l.length := by
  refine Nat.le_trans (List.length_filter_le _ _) ?_
  simp
theorem spareR_cons (s : List Int) (x : S36) (l : List S36) : spareR s (x :: l) = if x.f0 ∈ s then spareR s l else x.f0 :: spareR s l := by
  unfold spareR
  rw [List.map_cons, List.filter_cons]
  by_cases h : x.f0 ∈ s <;> simp [h]
theorem spec_spare_loop (l : List S36) (s : List Int) (hl : l.length ≤ 1048576) (hs : s.length ≤ 1048576) (d : Nat) : ∀ (i : Nat) (o : List Int), i + d = l.length → o.length ≤ i → Ev (fun k => spec_Spare.l0 k l s o (i : Int)) (o ++ spareR s (l.drop i)) := by
  induction d with
  | zero =>
    intro i o hi ho
    rw [List.drop_of_length_le (by omega)]
    refine Ev.one (fun k => ?_)
    simp only [spec_Spare.l0]
    rw [if_neg (by omega)]
    simp [spareR]
  | succ d ih =>
    intro i o hi ho
    have hlt : i < l.length := by omega
    rw [drop_cons l i hlt, spareR_cons]
    refine Ev.step (f := fun k => (spec_l27Has.f k s l[i].f0).bind fun t => if t = true then spec_Spare.l0 k l s o ((i + 1 : Nat) : Int) else spec_Spare.l0 k l s (o ++ [l[i].f0]) ((i + 1 : Nat) : Int)) (fun k => ?_) (Ev.bind (has_ev s l[i].f0 hs) ?_)
    · simp only [spec_Spare.l0]
      rw [if_pos (by omega), if_pos (by omega), rdPlayer_get l i hlt, w64_nat i (by omega), if_pos (by omega)]
    · by_cases h : l[i].f0 ∈ s
      · simp only [h, decide_true, if_true]
        exact ih (i + 1) o (by omega) (by omega)
      · simp only [h, decide_false, Bool.false_eq_true, if_false]
        have := ih (i + 1) (o ++ [l[i].f0]) (by omega) (by simp; omega)
        rw [List.append_assoc, List.singleton_append] at this
        exact this
theorem impl_spare_loop (l : List S36) (s : List Int) (hl : l.length ≤ 1048576) (hs : s.length ≤ 1048576) (d : Nat) : ∀ (i : Nat) (o : List Int), i + d = l.length → o.length ≤ i → Ev (fun k => impl_Spare.l0 k s o l (l.length : Int) (i : Int)) (o ++ spareR s (l.drop i)) := by
  induction d with
  | zero =>
    intro i o hi ho
    rw [List.drop_of_length_le (by omega)]
    refine Ev.one (fun k => ?_)
    simp only [impl_Spare.l0]
    rw [if_neg (by omega)]
    simp [spareR]
  | succ d ih =>
    intro i o hi ho
    have hlt : i < l.length := by omega
    rw [drop_cons l i hlt, spareR_cons]
    refine Ev.step (f := fun k => (slices_Contains_int_int.f k s l[i].f0).bind fun t => if t = true then impl_Spare.l0 k s o l (l.length : Int) ((i + 1 : Nat) : Int) else impl_Spare.l0 k s (o ++ [l[i].f0]) l (l.length : Int) ((i + 1 : Nat) : Int)) (fun k => ?_) (Ev.bind (contains_ev s l[i].f0 hs) ?_)
    · simp only [impl_Spare.l0]
      rw [if_pos (by omega), if_pos (by omega), if_pos (by omega), rdPlayer_get l i hlt, w64_nat i (by omega), if_pos (by omega)]
    · by_cases h : l[i].f0 ∈ s
      · simp only [h, decide_true, if_true]
        exact ih (i + 1) o (by omega) (by omega)
      · simp only [h, decide_false, Bool.false_eq_true, if_false]
        have := ih (i + 1) (o ++ [l[i].f0]) (by omega) (by simp; omega)
        rw [List.append_assoc, List.singleton_append] at this
        exact this
theorem FnExactSpare : ∀ (l0 : List (S31)) (l1 : List Int), (l0.length ≤ maxLen ∧ l0.length * 48 ≤ 140737488351232 ∧ ∀ l0' ∈ l0, ((Lit.int .i64 l0'.f0).wf = true) ∧ ((Lit.int .i64 l0'.f1).wf = true) ∧ ((Lit.int .i64 l0'.f2).wf = true) ∧ (l0'.f3.length ≤ maxLen ∧ l0'.f3.length * 8 ≤ 140737488351232 ∧ ∀ l0'_f3' ∈ l0'.f3, (Lit.int .i64 l0'_f3').wf = true)) → (l1.length ≤ maxLen ∧ l1.length * 8 ≤ 140737488351232 ∧ ∀ l1' ∈ l1, (Lit.int .i64 l1').wf = true) → ∃ k, laws_FnExactSpare.f k l0 l1 = some true := by
  intro l s h0 hs0
  have hm : l.length ≤ 9223372036854775807 := h0.1
  refine Ev.rounds (g := fun k => laws_FnExactSpare.f k l s) ?_
  by_cases hs : (s.length : Int) > 1048576
  · simp only [laws_FnExactSpare.f, hs, if_true]
    exact Ev.now true
  simp only [laws_FnExactSpare.f, hs, if_false]
  obtain ⟨r, hr, hor⟩ := szPlayerS_ev l 1048576 (by omega) (by omega) hm (fun x hx => (h0.2.2 x hx).2.2.2.1)
  refine Ev.bind hr ?_
  rcases hor with h | ⟨h1, h2, hl, hx⟩
  · simp only [h, if_true]
    exact Ev.now true
  · have hn : ¬ r < 0 := by omega
    have ht := toPlayerS_ev l hl hx
    have hl' : (l.map cvPlayer).length ≤ 1048576 := by simpa using hl
    have hx' : ∀ x ∈ l.map cvPlayer, x.f3.length ≤ 1048576 := by
      intro x hx0
      obtain ⟨y, hy, rfl⟩ := List.mem_map.1 hx0
      exact hx y hy
    have he := eqPlayerS_ev (l.map cvPlayer) hl' hx'
    have ts := toIntS_ev s (by omega)
    have es := eqIntS_ev s (by omega)
    have hspec : Ev (fun k => spec_Spare.f k (l.map cvPlayer) s) (spareR s (l.map cvPlayer)) := spec_spare_loop (l.map cvPlayer) s hl' (by omega) (l.map cvPlayer).length 0 [] (by omega) (by simp)
    have himpl : Ev (fun k => impl_Spare.f k (l.map cvPlayer) s) (spareR s (l.map cvPlayer)) := impl_spare_loop (l.map cvPlayer) s hl' (by omega) (l.map cvPlayer).length 0 [] (by omega) (by simp)
    have hlen := spareR_len s (l.map cvPlayer)
    obtain ⟨m1, c1, hm1, hc1⟩ := markPlayerS_ev (l.map cvPlayer) hl' hx'
    obtain ⟨m2, hm2⟩ := markInt_any s.length 0 c1 s (by omega) (by omega) (by omega)
    generalize spareR s (l.map cvPlayer) = R at hspec himpl hlen
    have hre := eqIntS_ev R (by omega)
    have hmr := markIntS_ev R (by omega)
    have hhe := heldIntS_ev R.length (by omega)
    have hneg : ∀ q : Nat, ¬ ((q : Int) < 0) := fun q => by omega
    simp only [hn, if_false]
    refine Ev.bind ht ?_
    refine Ev.bind ts ?_
    refine Ev.bind hspec ?_
    refine Ev.bind ht ?_
    refine Ev.bind ts ?_
    refine Ev.bind himpl ?_
    refine Ev.bind hre ?_
    simp only [if_true]
    refine Ev.bind ht ?_
    refine Ev.bind he ?_
    simp only [if_true]
    refine Ev.bind ts ?_
    refine Ev.bind es ?_
    simp only [if_true]
    refine Ev.bind hm1 ?_
    refine Ev.bind (g := fun k => laws_markIntS.f k s (c1 : Int)) hm2 ?_
    simp only [hneg, if_false]
    refine Ev.bind hre ?_
    simp only [Bool.not_true]
    refine Ev.step (fun k => by simp only [laws_FnExactSpare.j0, Bool.false_eq_true, if_false]; rfl) ?_
    refine Ev.bind hmr ?_
    refine Ev.bind hhe ?_
    simp only [hneg, if_false, if_true]
    refine Ev.bind ht ?_
    refine Ev.bind ts ?_
    refine Ev.bind himpl ?_
    refine Ev.bind hre ?_
    simp only [if_true]
    refine Ev.bind hhe ?_
    simp only [hneg, if_false, if_true]
    exact Ev.now true

end Go.Proofs.Ytkonalnohdplnaa.Pure
