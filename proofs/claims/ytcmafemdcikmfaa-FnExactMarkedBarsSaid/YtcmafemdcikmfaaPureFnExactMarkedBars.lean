/- The plain statement of the law FnExactMarkedBars: what its printed function answers; no conditions but that the numbers are Go's ints and the slices no longer than memory. -/
import Derived.Test.YtcmafemdcikmfaaQFnExactMarkedBarsx4
set_option linter.unusedVariables false
set_option linter.unusedSimpArgs false
namespace Go.Proofs.Ytcmafemdcikmfaa.Pure
open Go.RowKit Go.Proofs.Ytcmafemdcikmfaa.QFnExactMarkedBars Go.Proofs.YtcmafemdcikmfaaW.PrintWords Go.Proofs.YtcmafemdcikmfaaW.PrintLast Go.Proofs.YtcmafemdcikmfaaW.PrintMore

theorem wf64 {x : Int} (h : (Lit.int .i64 x).wf = true) : -9223372036854775808 ≤ x ∧ x ≤ 9223372036854775807 := by
  simp only [Lit.wf, IntKind.min, IntKind.max, IntKind.signed, IntKind.bits, Bool.and_eq_true, decide_eq_true_eq, if_true] at h
  omega

theorem w64 {x : Int} (h1 : -9223372036854775808 ≤ x) (h2 : x ≤ 9223372036854775807) : wrap64 x = x := by
  unfold wrap64
  omega

theorem w64_nat (i : Nat) (h : i ≤ 9223372036854775806) : wrap64 ((i : Int) + 1) = ((i + 1 : Nat) : Int) := by
  unfold wrap64
  omega

theorem drop_cons {α : Type} (l : List α) (i : Nat) (h : i < l.length) : l.drop i = l[i] :: l.drop (i + 1) := List.drop_eq_getElem_cons h

theorem set_take {β : Type} (x : List β) (i : Nat) (v : β) (h : i < x.length) : (x.set i v).take (i + 1) = x.take i ++ [v] := by
  apply List.ext_getElem?
  intro j
  rcases Nat.lt_trichotomy j i with hj | hj | hj
  · rw [List.getElem?_take_of_lt (by omega), List.getElem?_set_ne (by omega), List.getElem?_append_left (by simp; omega), List.getElem?_take_of_lt (by omega)]
  · subst hj
    rw [List.getElem?_take_of_lt (by omega), List.getElem?_set_self (by omega), List.getElem?_append_right (by simp; omega)]
    simp [Nat.min_eq_left (Nat.le_of_lt h)]
  · rw [List.getElem?_take_eq_none (by omega), List.getElem?_append_right (by simp; omega)]
    simp
    omega

theorem copyLoop {α β : Type} (F : Nat → List β → Int → Option (List β)) (x0 : List α) (cv : α → β)
    (h1 : ∀ (x3 : List β) (i : Nat) (r : List β) (hi : i < x0.length), x3.length = x0.length → Ev (fun k => F k (x3.set i (cv x0[i])) ((i + 1 : Nat) : Int)) r → Ev (fun k => F k x3 (i : Int)) r)
    (h2 : ∀ x3 : List β, Ev (fun k => F k x3 (x0.length : Int)) x3) (init : List β) (hl : init.length = x0.length) : Ev (fun k => F k init 0) (x0.map cv) := by
  have key : ∀ (d i : Nat) (x3 : List β), i + d = x0.length → x3.length = x0.length → x3.take i = (x0.map cv).take i → Ev (fun k => F k x3 (i : Int)) (x0.map cv) := by
    intro d
    induction d with
    | zero =>
      intro i x3 hi hx ht
      obtain rfl : i = x0.length := by omega
      have e : x3 = x0.map cv := by
        rw [← hx, List.take_length] at ht
        rw [ht, hx]
        exact List.take_of_length_le (by simp)
      have := h2 x3
      rw [e] at this
      rw [e]
      exact this
    | succ d ih =>
      intro i x3 hi hx ht
      have hlt : i < x0.length := by omega
      refine h1 x3 i _ hlt hx (ih (i + 1) _ (by omega) (by rw [List.length_set]; exact hx) ?_)
      rw [set_take x3 i _ (by omega), ht]
      rw [List.take_succ_eq_append_getElem (by simpa using hlt)]
      simp
  have := key x0.length 0 init (by omega) hl (by simp)
  exact this

theorem eqLoop {α : Type} (F : Nat → Int → Option Bool) (x0 : List α)
    (h1 : ∀ (i : Nat) (r : Bool) (_ : i < x0.length), Ev (fun k => F k ((i + 1 : Nat) : Int)) r → Ev (fun k => F k (i : Int)) r)
    (h2 : Ev (fun k => F k (x0.length : Int)) true) : Ev (fun k => F k 0) true := by
  have key : ∀ (d i : Nat), i + d = x0.length → Ev (fun k => F k (i : Int)) true := by
    intro d
    induction d with
    | zero =>
      intro i hi
      obtain rfl : i = x0.length := by omega
      exact h2
    | succ d ih =>
      intro i hi
      exact h1 i true (by omega) (ih (i + 1) (by omega))
  exact key x0.length 0 (by omega)

theorem ite_eq_of {α : Type} {p : Prop} [Decidable p] {a b : α} (h : p) : (if p then a else b) = a := if_pos h

theorem Ev.one {α : Type} {g : Nat → Option α} {r : α} (h : ∀ k, g (k + 1) = some r) : Ev g r := Ev.step (f := fun _ => some r) h (Ev.now r)

/-- A number put into its place, if it isn't there. -/
def num (v : Int) : List Int → List Int
  | [] => [v]
  | x :: l => if x < v then x :: num v l else if x = v then x :: l else v :: x :: l

theorem mem_num (v y : Int) (l : List Int) : y ∈ num v l ↔ y = v ∨ y ∈ l := by
  induction l with
  | nil => simp [num]
  | cons x l ih =>
    unfold num
    split
    · simp only [List.mem_cons, ih]
      constructor
      · rintro (h | h | h)
        · exact .inr (.inl h)
        · exact .inl h
        · exact .inr (.inr h)
      · rintro (h | h | h)
        · exact .inr (.inl h)
        · exact .inl h
        · exact .inr (.inr h)
    · split
      · rename_i h
        simp only [List.mem_cons, h]
        constructor
        · rintro (h | h)
          · exact .inl h
          · exact .inr (.inr h)
        · rintro (h | h | h)
          · exact .inl h
          · exact .inl h
          · exact .inr h
      · simp only [List.mem_cons]

theorem num_len (v : Int) (l : List Int) : (num v l).length ≤ l.length + 1 := by
  induction l with
  | nil => simp [num]
  | cons x l ih =>
    unfold num
    split
    · simp only [List.length_cons]; omega
    · split <;> simp

theorem num_sorted (v : Int) (l : List Int) (h : l.Pairwise (· < ·)) : (num v l).Pairwise (· < ·) := by
  induction l with
  | nil => simp [num]
  | cons x l ih =>
    have hx : ∀ y, y ∈ l → x < y := fun y hy => List.rel_of_pairwise_cons h hy
    unfold num
    split
    · rename_i hlt
      refine List.Pairwise.cons (fun y hy => ?_) (ih h.of_cons)
      rcases (mem_num v y l).1 hy with rfl | hy
      · exact hlt
      · exact hx y hy
    · split
      · exact h
      · rename_i h1 h2
        refine List.Pairwise.cons (fun y hy => ?_) h
        rcases List.mem_cons.1 hy with rfl | hy
        · omega
        · have := hx y hy; omega

theorem sorted_ext (l : List Int) : ∀ r : List Int, l.Pairwise (· < ·) → r.Pairwise (· < ·) → (∀ x, x ∈ l ↔ x ∈ r) → l = r := by
  induction l with
  | nil =>
    intro r _ _ h
    cases r with
    | nil => rfl
    | cons y r => exact absurd ((h y).2 (by simp)) (by simp)
  | cons x l ih =>
    intro r hl hr h
    cases r with
    | nil => exact absurd ((h x).1 (by simp)) (by simp)
    | cons y r =>
      have hx := fun z hz => List.rel_of_pairwise_cons hl (a' := z) hz
      have hy := fun z hz => List.rel_of_pairwise_cons hr (a' := z) hz
      have e : x = y := by
        rcases List.mem_cons.1 ((h x).1 (by simp)) with e | h1
        · exact e
        · rcases List.mem_cons.1 ((h y).2 (by simp)) with e | h2
          · exact e.symm
          · have := hx y h2
            have := hy x h1
            omega
      subst e
      refine congrArg (x :: ·) (ih r hl.of_cons hr.of_cons (fun z => ?_))
      constructor
      · intro hz
        rcases List.mem_cons.1 ((h z).1 (List.mem_cons_of_mem _ hz)) with rfl | h1
        · exact absurd (hx z hz) (by omega)
        · exact h1
      · intro hz
        rcases List.mem_cons.1 ((h z).2 (List.mem_cons_of_mem _ hz)) with rfl | h1
        · exact absurd (hy z hz) (by omega)
        · exact h1

/-- n, n + 1, .. : d of them. -/
def upL : Int → Nat → List Int
  | _, 0 => []
  | n, d + 1 => n :: upL (n + 1) d

theorem mem_upL (x : Int) (d : Nat) : ∀ n, x ∈ upL n d ↔ n ≤ x ∧ x < n + d := by
  induction d with
  | zero =>
    intro n
    simp only [upL, List.not_mem_nil, false_iff]
    omega
  | succ d ih =>
    intro n
    simp only [upL, List.mem_cons, ih]
    omega

theorem upL_sorted (d : Nat) : ∀ n, (upL n d).Pairwise (· < ·) := by
  induction d with
  | zero => intro n; exact List.Pairwise.nil
  | succ d ih =>
    intro n
    refine List.Pairwise.cons (fun y hy => ?_) (ih (n + 1))
    have := (mem_upL y d (n + 1)).1 hy
    omega

theorem rd_get (l : List Int) (i : Nat) (h : i < l.length) : rd l (i : Int) = l[i] := by
  simp [rd, List.getD, List.getElem?_eq_getElem h]

theorem num_loop (l : List Int) (v : Int) (hl : l.length ≤ 1048576) (d : Nat) : ∀ i : Nat, i + d = l.length → Ev (fun k => spec_l8Num.l0 k l v (i : Int)) (l.take i ++ num v (l.drop i)) := by
  induction d with
  | zero =>
    intro i hi
    have t1 : (l.take i).length ≤ l.length := by simp; omega
    have t2 : (l.drop i).length ≤ l.length := by simp
    rw [List.drop_of_length_le (by omega)]
    refine Ev.one (fun k => ?_)
    simp only [spec_l8Num.l0, Option.bind_some, Int.toNat_natCast, List.length_nil, List.nil_append, List.length_append, List.length_cons]
    rw [if_neg (by omega), if_pos (by omega), if_pos (by omega), if_pos (by omega), if_pos (by omega), if_pos (by omega), List.drop_of_length_le (by omega)]
    simp [num]
  | succ d ih =>
    intro i hi
    have hlt : i < l.length := by omega
    have t1 : (l.take i).length ≤ l.length := by simp; omega
    have t2 : (l.drop i).length ≤ l.length := by simp
    rw [drop_cons l i hlt, num]
    by_cases h1 : l[i] < v
    · rw [if_pos h1]
      refine Ev.step (fun k => ?_) (by rw [show l.take i ++ l[i] :: num v (l.drop (i + 1)) = l.take (i + 1) ++ num v (l.drop (i + 1)) by rw [List.take_succ_eq_append_getElem hlt, List.append_assoc]; rfl]; exact ih (i + 1) (by omega))
      simp only [spec_l8Num.l0]
      rw [if_pos (by omega), if_pos (by omega), rd_get l i hlt, if_pos h1, w64_nat i (by omega)]
    · rw [if_neg h1]
      by_cases h2 : l[i] = v
      · rw [if_pos h2]
        refine Ev.one (fun k => ?_)
        simp only [spec_l8Num.l0, Option.bind_some, List.length_nil, List.nil_append]
        rw [if_pos (by omega), if_pos (by omega), rd_get l i hlt, if_neg h1, if_pos h2, if_pos (by omega), ← drop_cons l i hlt, List.take_append_drop]
      · rw [if_neg h2]
        refine Ev.one (fun k => ?_)
        simp only [spec_l8Num.l0, Option.bind_some, Int.toNat_natCast, List.length_nil, List.nil_append, List.length_append, List.length_cons]
        rw [if_pos (by omega), if_pos (by omega), rd_get l i hlt, if_neg h1, if_neg h2, if_pos (by omega), if_pos (by omega), if_pos (by omega), if_pos (by omega), ← drop_cons l i hlt]
        simp

theorem num_ev (l : List Int) (v : Int) (hl : l.length ≤ 1048576) : Ev (fun k => spec_l8Num.f k l v) (num v l) := by
  have := num_loop l v hl l.length 0 (by omega)
  rw [List.take_zero, List.nil_append, List.drop_zero] at this
  exact this

theorem eqIntS_ev (l : List Int) (hl : l.length ≤ 140737488355328) : Ev (fun k => laws_eqIntS.f k l l) true := by
  have key := eqLoop (fun k i => laws_eqIntS.l0 k l l i) l (by
    intro i r hi h
    refine Ev.step (fun k => ?_) h
    simp only [laws_eqIntS.l0]
    rw [if_pos (by omega), if_pos (by omega), if_pos (by omega), if_pos trivial, w64_nat i (by omega)]) (by
    refine Ev.one (fun k => ?_)
    simp only [laws_eqIntS.l0]
    rw [if_neg (by omega)])
  refine Ev.congr (fun k => ?_) key
  simp only [laws_eqIntS.f]
  rw [if_pos trivial]

theorem markLoop {β : Type} (C : Nat → Nat) (mkv : Nat → β) (F : Nat → List β → Int → Int → Option (Int × List β)) (n : Nat)
    (h1 : ∀ (x3 : List β) (i : Nat) (r : Int × List β), i < n → x3.length = n → Ev (fun k => F k (x3.set i (mkv i)) ((C (i + 1) : Nat) : Int) ((i + 1 : Nat) : Int)) r → Ev (fun k => F k x3 ((C i : Nat) : Int) (i : Int)) r)
    (h2 : ∀ x3 : List β, x3.length = n → Ev (fun k => F k x3 ((C n : Nat) : Int) (n : Int)) (((C n : Nat) : Int), x3)) (init : List β) (hl : init.length = n) :
    Ev (fun k => F k init ((C 0 : Nat) : Int) ((0 : Nat) : Int)) (((C n : Nat) : Int), (List.range n).map mkv) := by
  have key : ∀ (d i : Nat) (x3 : List β), i + d = n → x3.length = n → x3.take i = (List.range i).map mkv → Ev (fun k => F k x3 ((C i : Nat) : Int) (i : Int)) (((C n : Nat) : Int), (List.range n).map mkv) := by
    intro d
    induction d with
    | zero =>
      intro i x3 hi hx ht
      obtain rfl : i = n := by omega
      have e : x3 = (List.range i).map mkv := by
        rw [← ht, ← hx, List.take_length]
      have := h2 x3 hx
      rw [← e]
      exact this
    | succ d ih =>
      intro i x3 hi hx ht
      refine h1 x3 i _ (by omega) hx (ih (i + 1) _ (by omega) (by rw [List.length_set]; exact hx) ?_)
      rw [set_take x3 i _ (by omega), ht, List.range_succ, List.map_append]
      rfl
  exact key n 0 init (by omega) hl (by simp)

theorem heldLoop (C : Nat → Nat) (F : Nat → Int → Int → Option Int) (n : Nat)
    (h1 : ∀ (i : Nat) (r : Int), i < n → Ev (fun k => F k ((C (i + 1) : Nat) : Int) ((i + 1 : Nat) : Int)) r → Ev (fun k => F k ((C i : Nat) : Int) (i : Int)) r)
    (h2 : Ev (fun k => F k ((C n : Nat) : Int) (n : Int)) ((C n : Nat) : Int)) : Ev (fun k => F k ((C 0 : Nat) : Int) ((0 : Nat) : Int)) ((C n : Nat) : Int) := by
  have key : ∀ (d i : Nat), i + d = n → Ev (fun k => F k ((C i : Nat) : Int) (i : Int)) ((C n : Nat) : Int) := by
    intro d
    induction d with
    | zero =>
      intro i hi
      obtain rfl : i = n := by omega
      exact h2
    | succ d ih =>
      intro i hi
      exact h1 i _ (by omega) (ih (i + 1) (by omega))
  exact key n 0 (by omega)

def mkInt (q : Nat) : Int := ((1 + q : Nat) : Int)

theorem markIntS_ev (l : List Int) (hl : l.length ≤ 1048576) : Ev (fun k => laws_markIntS.f k l 1) (((1 + l.length : Nat) : Int), (List.range l.length).map mkInt) := by
  have key := markLoop (fun i => 1 + i) mkInt (fun k x c i => laws_markIntS.l0 k x c i) l.length (by
    intro x3 i r hi hx h
    refine Ev.step (fun k => ?_) h
    simp only [laws_markIntS.l0, Int.toNat_natCast]
    rw [if_pos (by omega), if_pos (by omega), w64_nat (1 + i) (by omega), w64_nat i (by omega)]
    rfl) (by
    intro x3 hx
    refine Ev.one (fun k => ?_)
    simp only [laws_markIntS.l0]
    rw [if_neg (by omega)]) l rfl
  exact key

theorem heldIntS_ev (n : Nat) (hl : n ≤ 1048576) : Ev (fun k => laws_heldIntS.f k ((List.range n).map mkInt) 1) ((1 + n : Nat) : Int) := by
  have key := heldLoop (fun i => 1 + i) (fun k c i => laws_heldIntS.l0 k ((List.range n).map mkInt) c i) n (by
    intro i r hi h
    refine Ev.step (fun k => ?_) h
    simp only [laws_heldIntS.l0, List.length_map, List.length_range]
    rw [if_pos (by omega), if_pos (by omega), rd_get _ i (by simpa using hi), w64_nat (1 + i) (by omega), w64_nat i (by omega)]
    simp only [List.getElem_map, List.getElem_range, mkInt, if_true]
    rfl) (by
    refine Ev.one (fun k => ?_)
    simp only [laws_heldIntS.l0, List.length_map, List.length_range]
    rw [if_neg (by omega)])
  exact key

theorem rdMark_get (l : List S25) (i : Nat) (h : i < l.length) : rd_T25 l (i : Int) = l[i] := by
  simp [rd_T25, List.getD, List.getElem?_eq_getElem h]

theorem rdlMark_get (l : List S23) (i : Nat) (h : i < l.length) : rd_T23 l (i : Int) = l[i] := by
  simp [rd_T23, List.getD, List.getElem?_eq_getElem h]

def cvMark (x : S23) : S25 := ⟨x.f0, x.f1, x.f2, x.f3, x.f4⟩

theorem toMarkS_ev (l : List S23) (hl : l.length ≤ 1048576) : Ev (fun k => laws_toMarkS.f k l) (l.map cvMark) := by
  have key := copyLoop (fun k x3 i => laws_toMarkS.l0 k l x3 i) l cvMark (by
    intro x3 i r hi hx h
    refine Ev.step (fun k => ?_) h
    simp only [laws_toMarkS.l0, laws_toMark.f, Option.bind_some]
    rw [if_pos (by omega), if_pos (by omega), if_pos (by omega), rdlMark_get l i hi, w64_nat i (by omega), Int.toNat_natCast]
    rfl) (by
    intro x3
    refine Ev.one (fun k => ?_)
    simp only [laws_toMarkS.l0]
    rw [if_neg (by omega)]) (List.replicate l.length z25) (by simp)
  refine Ev.congr (fun k => ?_) key
  simp only [laws_toMarkS.f, Int.toNat_natCast]
  rw [if_pos (by omega), if_pos (by omega)]

theorem eqMarkS_ev (l : List S25) (hl : l.length ≤ 140737488355328) : Ev (fun k => laws_eqMarkS.f k l l) true := by
  have key := eqLoop (fun k i => laws_eqMarkS.l0 k l l i) l (by
    intro i r hi h
    refine Ev.step (fun k => ?_) h
    simp only [laws_eqMarkS.l0, laws_eqMark.f, if_true, Option.bind_some]
    rw [if_pos (by omega), if_pos (by omega), if_pos (by omega), w64_nat i (by omega)]) (by
    refine Ev.one (fun k => ?_)
    simp only [laws_eqMarkS.l0]
    rw [if_neg (by omega)])
  refine Ev.congr (fun k => ?_) key
  simp only [laws_eqMarkS.f, if_true]

theorem szMarkS_ev (l : List S23) (b : Int) (hb : 0 ≤ b) (hb2 : b ≤ 1048576) (h0 : l.length ≤ 9223372036854775807) : laws_szMarkS.f l b = some (if b < (l.length : Int) then -1 else b - (l.length : Int)) := by
  simp only [laws_szMarkS.f]
  rw [w64 (by omega) (by omega)]
  split
  · rw [if_pos (by omega)]
  · rw [if_neg (by omega)]

def mkMark (q : Nat) : S25 := ⟨((1 + 5 * q : Nat) : Int), ((1 + 5 * q + 1 : Nat) : Int), ((1 + 5 * q + 1 + 1 : Nat) : Int), ((1 + 5 * q + 1 + 1 + 1 : Nat) : Int), ((1 + 5 * q + 1 + 1 + 1 + 1 : Nat) : Int)⟩

theorem rdMark_set (l : List S25) (i : Nat) (h : i < l.length) (v : S25) : rd_T25 (l.set i v) (i : Int) = v := by
  simp [rd_T25, List.getD, List.getElem?_set_self h]

theorem markMarkS_ev (l : List S25) (hl : l.length ≤ 1048576) : Ev (fun k => laws_markMarkS.f k l 1) (((1 + 5 * l.length : Nat) : Int), (List.range l.length).map mkMark) := by
  have key := markLoop (fun i => 1 + 5 * i) mkMark (fun k x c i => laws_markMarkS.l0 k x c i) l.length (by
    intro x3 i r hi hx h
    simp only [show 1 + 5 * (i + 1) = 1 + 5 * i + 1 + 1 + 1 + 1 + 1 by omega] at h
    refine Ev.step (fun k => ?_) h
    have hx' : i < x3.length := by omega
    simp only [laws_markMarkS.l0, Option.bind_some, Int.toNat_natCast]
    rw [if_pos (by omega), if_pos (by omega), w64_nat (1 + 5 * i) (by omega), w64_nat (1 + 5 * i + 1) (by omega), w64_nat (1 + 5 * i + 1 + 1) (by omega), w64_nat (1 + 5 * i + 1 + 1 + 1) (by omega), w64_nat (1 + 5 * i + 1 + 1 + 1 + 1) (by omega), w64_nat i (by omega)]
    simp only [rdMark_set, List.length_set, hx', List.set_set, mkMark]) (by
    intro x3 hx
    refine Ev.one (fun k => ?_)
    simp only [laws_markMarkS.l0]
    rw [if_neg (by omega)]) l rfl
  exact key


theorem arr_get (S : List Int) (j : Nat) (h : j < S.length) : S.toArray[j]! = S[j] := by simp [h]

theorem compact_strict (S : List Int) (h : S.Pairwise (fun a b => a ≤ b)) : (Lib.compact S).Pairwise (· < ·) := by
  unfold Lib.compact Lib.compactUpTo
  rw [List.pairwise_map]
  have hr := (List.pairwise_lt_range (n := S.length)).filter (Lib.keeps S.toArray)
  refine List.Pairwise.imp_of_mem (fun {i j} hi hj hij => ?_) hr
  rw [List.mem_filter, List.mem_range] at hi hj
  have hk : j = 0 ∨ S.toArray[j]! ≠ S.toArray[j - 1]! := by
    have := hj.2
    unfold Lib.keeps at this
    exact of_decide_eq_true this
  have hg := List.pairwise_iff_getElem.1 h
  rw [arr_get S j hj.1, arr_get S (j - 1) (by omega)] at hk
  rw [arr_get S i hi.1, arr_get S j hj.1]
  have h1 : S[j - 1]'(by omega) ≤ S[j] := hg (j - 1) j (by omega) hj.1 (by omega)
  have h2 : S[i] ≤ S[j - 1]'(by omega) := by
    rcases Nat.lt_or_ge i (j - 1) with h3 | h3
    · exact hg i (j - 1) hi.1 (by omega) h3
    · have : i = j - 1 := by omega
      subst this
      exact Int.le_refl _
  rcases hk with hk | hk <;> omega

theorem mem_compact (S : List Int) (x : Int) : x ∈ Lib.compact S ↔ x ∈ S := by
  have key : ∀ j (h : j < S.length), S[j] ∈ Lib.compact S := by
    intro j
    induction j with
    | zero =>
      intro h
      unfold Lib.compact Lib.compactUpTo
      exact List.mem_map.2 ⟨0, List.mem_filter.2 ⟨List.mem_range.2 h, by simp [Lib.keeps]⟩, arr_get S 0 h⟩
    | succ j ih =>
      intro h
      by_cases hk : Lib.keeps S.toArray (j + 1) = true
      · unfold Lib.compact Lib.compactUpTo
        exact List.mem_map.2 ⟨j + 1, List.mem_filter.2 ⟨List.mem_range.2 h, hk⟩, arr_get S (j + 1) h⟩
      · have e : S[j + 1] = S[j] := by
          have : ¬ (j + 1 = 0 ∨ S.toArray[j + 1]! ≠ S.toArray[j + 1 - 1]!) := by
            unfold Lib.keeps at hk
            exact fun hh => hk (decide_eq_true hh)
          rw [arr_get S (j + 1) h, arr_get S (j + 1 - 1) (by omega)] at this
          exact Classical.byContradiction fun hh => this (.inr hh)
        rw [e]
        exact ih (by omega)
  constructor
  · intro h
    unfold Lib.compact Lib.compactUpTo at h
    obtain ⟨j, hj, rfl⟩ := List.mem_map.1 h
    have hlt := List.mem_range.1 (List.mem_filter.1 hj).1
    rw [arr_get S j hlt]
    exact List.getElem_mem hlt
  · intro h
    obtain ⟨j, hj, rfl⟩ := List.getElem_of_mem h
    exact key j hj

theorem sort_sorted (L : List Int) : (L.mergeSort fun x y => decide (x ≤ y)).Pairwise (fun a b => a ≤ b) := by
  have := List.pairwise_mergeSort (le := fun x y : Int => decide (x ≤ y)) (by intro a b c h1 h2; simp only [decide_eq_true_eq] at *; omega) (by intro a b; simp only [Bool.or_eq_true, decide_eq_true_eq]; omega) L
  exact this.imp (fun h => of_decide_eq_true h)

def insAll (o : List Int) (l : List Int) : List Int := l.foldl (fun o x => num x o) o

theorem insAll_sorted (l : List Int) : ∀ o : List Int, o.Pairwise (· < ·) → (insAll o l).Pairwise (· < ·) := by
  induction l with
  | nil => intro o h; exact h
  | cons x l ih => intro o h; exact ih _ (num_sorted x o h)

theorem mem_insAll (y : Int) (l : List Int) : ∀ o : List Int, y ∈ insAll o l ↔ y ∈ o ∨ y ∈ l := by
  induction l with
  | nil => intro o; simp [insAll]
  | cons x l ih =>
    intro o
    have := ih (num x o)
    rw [mem_num] at this
    show y ∈ insAll (num x o) l ↔ _
    rw [this, List.mem_cons]
    constructor
    · rintro ((h | h) | h)
      · exact .inr (.inl h)
      · exact .inl h
      · exact .inr (.inr h)
    · rintro (h | h | h)
      · exact .inl (.inr h)
      · exact .inl (.inl h)
      · exact .inr h

theorem both_same (L : List Int) : Lib.compact (L.mergeSort fun x y => decide (x ≤ y)) = insAll [] L := by
  refine sorted_ext _ _ (compact_strict _ (sort_sorted L)) (insAll_sorted L [] List.Pairwise.nil) (fun x => ?_)
  rw [mem_compact, List.mem_mergeSort, mem_insAll]
  simp

def barsOf (v : Int) : List S25 → List Int
  | [] => []
  | x :: l => if x.f1 = v then (if x.f2 = 0 then barsOf v l else x.f0 :: barsOf v l) else barsOf v l

theorem barsOf_len (v : Int) (l : List S25) : (barsOf v l).length ≤ l.length := by
  induction l with
  | nil => simp [barsOf]
  | cons x l ih =>
    rw [barsOf, List.length_cons]
    split
    · split
      · omega
      · rw [List.length_cons]; omega
    · omega

theorem insAll_len (l : List Int) : ∀ o : List Int, (insAll o l).length ≤ o.length + l.length := by
  induction l with
  | nil => intro o; simp [insAll]
  | cons x l ih =>
    intro o
    have := ih (num x o)
    have := num_len x o
    show (insAll (num x o) l).length ≤ _
    rw [List.length_cons]
    omega

theorem spec_bars_loop (l : List S25) (v : Int) (hl : l.length ≤ 1048576) (d : Nat) : ∀ (i : Nat) (o : List Int), i + d = l.length → o.length ≤ i → Ev (fun k => spec_MarkedBars.l0 k l v o (i : Int)) (insAll o (barsOf v (l.drop i))) := by
  induction d with
  | zero =>
    intro i o hi ho
    rw [List.drop_of_length_le (by omega), barsOf]
    refine Ev.one (fun k => ?_)
    simp only [spec_MarkedBars.l0]
    rw [if_neg (by omega)]
    rfl
  | succ d ih =>
    intro i o hi ho
    have hlt : i < l.length := by omega
    rw [drop_cons l i hlt, barsOf]
    by_cases h1 : l[i].f1 = v
    · rw [if_pos h1]
      by_cases h2 : l[i].f2 = 0
      · rw [if_pos h2]
        refine Ev.step (fun k => ?_) (ih (i + 1) o (by omega) (by omega))
        simp only [spec_MarkedBars.l0]
        rw [if_pos (by omega), if_pos (by omega), rdMark_get l i hlt, if_pos h1, if_pos h2, w64_nat i (by omega)]
      · rw [if_neg h2]
        have hn := num_len l[i].f0 o
        refine Ev.step (f := fun k => (spec_l8Num.f k o l[i].f0).bind fun t => spec_MarkedBars.l0 k l v t ((i + 1 : Nat) : Int)) (fun k => ?_) (Ev.bind (num_ev o l[i].f0 (by omega)) (ih (i + 1) (num l[i].f0 o) (by omega) (by omega)))
        simp only [spec_MarkedBars.l0]
        rw [if_pos (by omega), if_pos (by omega), rdMark_get l i hlt, if_pos h1, if_neg h2, w64_nat i (by omega)]
    · rw [if_neg h1]
      refine Ev.step (fun k => ?_) (ih (i + 1) o (by omega) (by omega))
      simp only [spec_MarkedBars.l0]
      rw [if_pos (by omega), if_pos (by omega), rdMark_get l i hlt, if_neg h1, w64_nat i (by omega)]

theorem impl_bars_loop (l : List S25) (v : Int) (hl : l.length ≤ 1048576) (d : Nat) : ∀ (i : Nat) (o : List Int), i + d = l.length → o.length ≤ i → Ev (fun k => impl_MarkedBars.l0 k v o l (l.length : Int) (i : Int)) (insAll [] (o ++ barsOf v (l.drop i))) := by
  induction d with
  | zero =>
    intro i o hi ho
    rw [List.drop_of_length_le (by omega), barsOf, List.append_nil]
    refine Ev.one (fun k => ?_)
    simp only [impl_MarkedBars.l0, slices_Sort_int_int.f, slices_Compact_int_int.f]
    rw [if_neg (by omega), if_pos (by omega), Option.bind_some, Option.bind_some, both_same]
  | succ d ih =>
    intro i o hi ho
    have hlt : i < l.length := by omega
    rw [drop_cons l i hlt, barsOf]
    by_cases h1 : l[i].f1 = v
    · rw [if_pos h1]
      by_cases h2 : l[i].f2 = 0
      · rw [if_pos h2]
        refine Ev.step (fun k => ?_) (ih (i + 1) o (by omega) (by omega))
        simp only [impl_MarkedBars.l0]
        rw [if_pos (by omega), if_pos (by omega), if_pos (by omega), rdMark_get l i hlt, if_pos h1, if_pos h2, w64_nat i (by omega)]
      · rw [if_neg h2]
        have := ih (i + 1) (o ++ [l[i].f0]) (by omega) (by simp; omega)
        rw [List.append_assoc, List.singleton_append] at this
        refine Ev.step (fun k => ?_) this
        simp only [impl_MarkedBars.l0]
        rw [if_pos (by omega), if_pos (by omega), if_pos (by omega), rdMark_get l i hlt, if_pos h1, if_neg h2, if_pos (by omega), w64_nat i (by omega)]
    · rw [if_neg h1]
      refine Ev.step (fun k => ?_) (ih (i + 1) o (by omega) (by omega))
      simp only [impl_MarkedBars.l0]
      rw [if_pos (by omega), if_pos (by omega), if_pos (by omega), rdMark_get l i hlt, if_neg h1, w64_nat i (by omega)]

theorem FnExactMarkedBars : ∀ (l0 : List (S23)) (a1 : Int), (l0.length ≤ maxLen ∧ l0.length * 40 ≤ 140737488351232 ∧ ∀ l0' ∈ l0, ((Lit.int .i64 l0'.f0).wf = true) ∧ ((Lit.int .i64 l0'.f1).wf = true) ∧ ((Lit.int .i64 l0'.f2).wf = true) ∧ ((Lit.int .i64 l0'.f3).wf = true) ∧ ((Lit.int .i64 l0'.f4).wf = true)) → ((Lit.int .i64 a1).wf = true) → ∃ k, laws_FnExactMarkedBars.f k l0 a1 = some true := by
  intro p v h0 _
  have hm : p.length ≤ 9223372036854775807 := h0.1
  refine Ev.rounds (g := fun k => laws_FnExactMarkedBars.f k p v) ?_
  simp only [laws_FnExactMarkedBars.f, szMarkS_ev p 1048576 (by omega) (by omega) hm, Option.bind_some]
  by_cases hb : (1048576 : Int) < (p.length : Int)
  · simp only [hb, if_true]
    exact Ev.now true
  · have hs : Ev (fun k => spec_MarkedBars.f k (p.map cvMark) v) (insAll [] (barsOf v (p.map cvMark))) := spec_bars_loop (p.map cvMark) v (by simp; omega) (p.map cvMark).length 0 [] (by omega) (by simp)
    have hi : Ev (fun k => impl_MarkedBars.f k (p.map cvMark) v) (insAll [] (barsOf v (p.map cvMark))) := impl_bars_loop (p.map cvMark) v (by simp; omega) (p.map cvMark).length 0 [] (by omega) (by simp)
    have hlen := insAll_len (barsOf v (p.map cvMark)) []
    have hlen2 := barsOf_len v (p.map cvMark)
    rw [List.length_map] at hlen2
    rw [List.length_nil, Nat.zero_add] at hlen
    generalize insAll [] (barsOf v (p.map cvMark)) = R at hs hi hlen
    have ht := toMarkS_ev p (by omega)
    have he := eqMarkS_ev (p.map cvMark) (by simp; omega)
    have hr := eqIntS_ev R (by omega)
    have hma := markMarkS_ev (p.map cvMark) (by simp; omega)
    have hmr := markIntS_ev R (by omega)
    have hhe := heldIntS_ev R.length (by omega)
    have hn : ¬ (1048576 - (p.length : Int) < 0) := by omega
    have hneg : ∀ q : Nat, ¬ ((q : Int) < 0) := fun q => by omega
    simp only [hb, hn, if_false]
    refine Ev.bind ht ?_
    refine Ev.bind hs ?_
    refine Ev.bind ht ?_
    refine Ev.bind hi ?_
    refine Ev.bind hr ?_
    simp only [if_true]
    refine Ev.bind ht ?_
    refine Ev.bind he ?_
    simp only [if_true]
    refine Ev.bind hma ?_
    simp only [hneg, if_false]
    refine Ev.bind hr ?_
    simp only [Bool.not_true]
    refine Ev.step (fun k => by simp only [laws_FnExactMarkedBars.j0, Bool.false_eq_true, if_false]; rfl) ?_
    refine Ev.bind hmr ?_
    refine Ev.bind hhe ?_
    simp only [hneg, if_false, if_true]
    refine Ev.bind ht ?_
    refine Ev.bind hi ?_
    refine Ev.bind hr ?_
    simp only [if_true]
    refine Ev.bind hhe ?_
    simp only [hneg, if_false, if_true]
    exact Ev.now true

end Go.Proofs.Ytcmafemdcikmfaa.Pure
