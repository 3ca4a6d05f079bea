/- The plain statement of the law FnExactPageBreaks: what its printed function answers; no conditions but that the numbers are Go's ints and the slices no longer than memory. -/
import Derived.Test.YthlipgfmfgangaaQFnExactPageBreaksx6
set_option linter.unusedVariables false
set_option linter.unusedSimpArgs false
namespace Go.Proofs.Ythlipgfmfgangaa.Pure
open Go.RowKit Go.Proofs.Ythlipgfmfgangaa.QFnExactPageBreaks Go.Proofs.YthlipgfmfgangaaW.PrintWords Go.Proofs.YthlipgfmfgangaaW.PrintLast Go.Proofs.YthlipgfmfgangaaW.PrintMore

theorem wf64 {x : Int} (h : (Lit.int .i64 x).wf = true) : -9223372036854775808 ≤ x ∧ x ≤ 9223372036854775807 := by
  simp only [Lit.wf, IntKind.min, IntKind.max, IntKind.signed, IntKind.bits, Bool.and_eq_true, decide_eq_true_eq, if_true] at h
  omega

theorem w64 {x : Int} (h1 : -9223372036854775808 ≤ x) (h2 : x ≤ 9223372036854775807) : wrap64 x = x := by
  unfold wrap64
  omega

theorem w64_nat (i : Nat) (h : i ≤ 9223372036854775806) : wrap64 ((i : Int) + 1) = ((i + 1 : Nat) : Int) := by
  unfold wrap64
  omega

theorem drop_cons {α : Type} (l : List α) (i : Nat) (h : i < l.length) : l.drop i = l[i] :: l.drop (i + 1) := List.drop_eq_getElem_cons h

theorem set_take {β : Type} (x : List β) (i : Nat) (v : β) (h : i < x.length) : (x.set i v).take (i + 1) = x.take i ++ [v] := by
  apply List.ext_getElem?
  intro j
  rcases Nat.lt_trichotomy j i with hj | hj | hj
  · rw [List.getElem?_take_of_lt (by omega), List.getElem?_set_ne (by omega), List.getElem?_append_left (by simp; omega), List.getElem?_take_of_lt (by omega)]
  · subst hj
    rw [List.getElem?_take_of_lt (by omega), List.getElem?_set_self (by omega), List.getElem?_append_right (by simp; omega)]
    simp [Nat.min_eq_left (Nat.le_of_lt h)]
  · rw [List.getElem?_take_eq_none (by omega), List.getElem?_append_right (by simp; omega)]
    simp
    omega

theorem copyLoop {α β : Type} (F : Nat → List β → Int → Option (List β)) (x0 : List α) (cv : α → β)
    (h1 : ∀ (x3 : List β) (i : Nat) (r : List β) (hi : i < x0.length), x3.length = x0.length → Ev (fun k => F k (x3.set i (cv x0[i])) ((i + 1 : Nat) : Int)) r → Ev (fun k => F k x3 (i : Int)) r)
    (h2 : ∀ x3 : List β, Ev (fun k => F k x3 (x0.length : Int)) x3) (init : List β) (hl : init.length = x0.length) : Ev (fun k => F k init 0) (x0.map cv) := by
  have key : ∀ (d i : Nat) (x3 : List β), i + d = x0.length → x3.length = x0.length → x3.take i = (x0.map cv).take i → Ev (fun k => F k x3 (i : Int)) (x0.map cv) := by
    intro d
    induction d with
    | zero =>
      intro i x3 hi hx ht
      obtain rfl : i = x0.length := by omega
      have e : x3 = x0.map cv := by
        rw [← hx, List.take_length] at ht
        rw [ht, hx]
        exact List.take_of_length_le (by simp)
      have := h2 x3
      rw [e] at this
      rw [e]
      exact this
    | succ d ih =>
      intro i x3 hi hx ht
      have hlt : i < x0.length := by omega
      refine h1 x3 i _ hlt hx (ih (i + 1) _ (by omega) (by rw [List.length_set]; exact hx) ?_)
      rw [set_take x3 i _ (by omega), ht]
      rw [List.take_succ_eq_append_getElem (by simpa using hlt)]
      simp
  have := key x0.length 0 init (by omega) hl (by simp)
  exact this

theorem eqLoop {α : Type} (F : Nat → Int → Option Bool) (x0 : List α)
    (h1 : ∀ (i : Nat) (r : Bool) (_ : i < x0.length), Ev (fun k => F k ((i + 1 : Nat) : Int)) r → Ev (fun k => F k (i : Int)) r)
    (h2 : Ev (fun k => F k (x0.length : Int)) true) : Ev (fun k => F k 0) true := by
  have key : ∀ (d i : Nat), i + d = x0.length → Ev (fun k => F k (i : Int)) true := by
    intro d
    induction d with
    | zero =>
      intro i hi
      obtain rfl : i = x0.length := by omega
      exact h2
    | succ d ih =>
      intro i hi
      exact h1 i true (by omega) (ih (i + 1) (by omega))
  exact key x0.length 0 (by omega)

theorem ite_eq_of {α : Type} {p : Prop} [Decidable p] {a b : α} (h : p) : (if p then a else b) = a := if_pos h

theorem Ev.one {α : Type} {g : Nat → Option α} {r : α} (h : ∀ k, g (k + 1) = some r) : Ev g r := Ev.step (f := fun _ => some r) h (Ev.now r)

theorem rdB_get (l : List Bool) (i : Nat) (h : i < l.length) : rdOf false l (i : Int) = l[i] := by
  simp [rdOf, List.getD, List.getElem?_eq_getElem h]

theorem toBoolS_ev (l : List Bool) (hl : l.length ≤ 35184372088832) : Ev (fun k => laws_toBoolS.f k l) l := by
  have key := copyLoop (fun k x3 i => laws_toBoolS.l0 k l x3 i) l (fun x => x) (by
    intro x3 i r hi hx h
    refine Ev.step (fun k => ?_) h
    simp only [laws_toBoolS.l0]
    rw [if_pos (by omega), if_pos (by omega), if_pos (by omega), rdB_get l i hi, w64_nat i (by omega), Int.toNat_natCast]) (by
    intro x3
    refine Ev.one (fun k => ?_)
    simp only [laws_toBoolS.l0]
    rw [if_neg (by omega)]) (List.replicate l.length false) (by simp)
  rw [List.map_id' l] at key
  refine Ev.congr (fun k => ?_) key
  simp only [laws_toBoolS.f, Int.toNat_natCast]
  rw [if_pos (by omega), if_pos (by omega)]

theorem eqBoolS_ev (l : List Bool) (hl : l.length ≤ 140737488355328) : Ev (fun k => laws_eqBoolS.f k l l) true := by
  have key := eqLoop (fun k i => laws_eqBoolS.l0 k l l i) l (by
    intro i r hi h
    refine Ev.step (fun k => ?_) h
    simp only [laws_eqBoolS.l0, bne_self_eq_false, Bool.false_eq_true, if_false]
    rw [if_pos (by omega), if_pos (by omega), if_pos (by omega), w64_nat i (by omega)]) (by
    refine Ev.one (fun k => ?_)
    simp only [laws_eqBoolS.l0]
    rw [if_neg (by omega)])
  refine Ev.congr (fun k => ?_) key
  simp only [laws_eqBoolS.f, if_true]

theorem rd_get (l : List Int) (i : Nat) (h : i < l.length) : rd l (i : Int) = l[i] := by
  simp [rd, List.getD, List.getElem?_eq_getElem h]

theorem l1In_eq (a b c : Int) : spec_l1In.f a b c = some (decide (b ≤ a ∧ a ≤ c)) := by
  unfold spec_l1In.f
  split <;> simp <;> omega

theorem inRange_eq (a b c : Int) : impl_InRange.f a b c = some (decide (b ≤ a ∧ a ≤ c)) := by
  unfold impl_InRange.f
  split <;> simp <;> omega

/-- The least over d places from k on of one more than V, where the bar before is free. -/
def inn (F : List Bool) (V : Nat → Int) : Nat → Nat → Int → Int
  | 0, _, a => a
  | d + 1, k, a => inn F V d (k + 1) (if F.getD (k - 1) false = true then (if 1 + V k < a then 1 + V k else a) else a)

def lstF (F : List Bool) (m n : Nat) : Nat → Nat → Int
  | 0, _ => 1
  | f + 1, b => if n - b ≤ m then 1 else inn F (lstF F m n f) m (b + 1) 1000

/-- The least number of pages for the bars behind b; 1000: no way. -/
def lst (F : List Bool) (m n b : Nat) : Int := lstF F m n (n - b) b

theorem inn_congr {F : List Bool} {V W : Nat → Int} (d : Nat) : ∀ (k : Nat) (a : Int), (∀ j, k ≤ j → j < k + d → V j = W j) → inn F V d k a = inn F W d k a := by
  induction d with
  | zero => intro k a _; rfl
  | succ d ih =>
    intro k a h
    rw [inn, inn, h k (Nat.le_refl _) (by omega)]
    exact ih (k + 1) _ (fun j h1 h2 => h j (by omega) (by omega))

theorem lstF_stable (F : List Bool) (m n : Nat) : ∀ (f b : Nat), n - b ≤ f → lstF F m n f b = lst F m n b := by
  intro f
  induction f using Nat.strongRecOn with
  | _ f ih =>
    intro b h
    unfold lst
    cases f with
    | zero =>
      rw [show n - b = 0 by omega]
    | succ f =>
      by_cases hc : n - b ≤ m
      · rw [lstF, if_pos hc]
        cases hg : n - b with
        | zero => rfl
        | succ g => rw [lstF, if_pos hc]
      · cases hg : n - b with
        | zero => omega
        | succ g =>
          rw [lstF, lstF, if_neg hc, if_neg hc]
          refine inn_congr m (b + 1) 1000 (fun j h1 h2 => ?_)
          rw [ih f (by omega) j (by omega)]
          rcases Nat.lt_or_ge g (f + 1) with hlt | hge
          · exact (ih g hlt j (by omega)).symm
          · omega

theorem lst_rec (F : List Bool) (m n b : Nat) : lst F m n b = if n - b ≤ m then 1 else inn F (lst F m n) m (b + 1) 1000 := by
  conv => lhs; unfold lst
  cases hg : n - b with
  | zero => rw [lstF, if_pos (by omega)]
  | succ g =>
    rw [lstF]
    by_cases hc : n - b ≤ m
    · rw [if_pos hc, if_pos (by omega)]
    · rw [if_neg hc, if_neg (by omega)]
      exact inn_congr m (b + 1) 1000 (fun j h1 h2 => lstF_stable F m n g j (by omega))

theorem inn_bound {F : List Bool} {V : Nat → Int} {B : Int} (d : Nat) : ∀ (k : Nat) (a : Int), (∀ j, k ≤ j → j < k + d → 1 ≤ V j ∧ (V j = 1000 ∨ V j + 1 ≤ B)) → 1 ≤ a → a ≤ 1000 → (a = 1000 ∨ a ≤ B) → 1 ≤ inn F V d k a ∧ inn F V d k a ≤ a ∧ (inn F V d k a = 1000 ∨ inn F V d k a ≤ B) := by
  induction d with
  | zero => intro k a _ h1 h2 h3; exact ⟨h1, Int.le_refl _, h3⟩
  | succ d ih =>
    intro k a hV h1 h2 h3
    rw [inn]
    have hk := hV k (Nat.le_refl _) (by omega)
    have hV' : ∀ j, k + 1 ≤ j → j < k + 1 + d → 1 ≤ V j ∧ (V j = 1000 ∨ V j + 1 ≤ B) := fun j h4 h5 => hV j (by omega) (by omega)
    split
    · split
      · have := ih (k + 1) (1 + V k) hV' (by omega) (by omega) (by omega)
        omega
      · exact ih (k + 1) a hV' h1 h2 h3
    · exact ih (k + 1) a hV' h1 h2 h3

theorem lst_bound (F : List Bool) (m n : Nat) : ∀ (d b : Nat), n - b = d → 1 ≤ lst F m n b ∧ lst F m n b ≤ 1000 ∧ (lst F m n b = 1000 ∨ lst F m n b ≤ d + 1) := by
  intro d
  induction d using Nat.strongRecOn with
  | _ d ih =>
    intro b hb
    rw [lst_rec]
    by_cases hc : n - b ≤ m
    · rw [if_pos hc]
      omega
    · rw [if_neg hc]
      have := inn_bound (F := F) (V := lst F m n) (B := (d : Int) + 1) m (b + 1) 1000 (fun j h1 h2 => by
        have := ih (n - j) (by omega) j rfl
        omega) (by omega) (by omega) (.inl rfl)
      omega

/-- Where the least comes from. -/
theorem inn_from {F : List Bool} {V : Nat → Int} (d : Nat) : ∀ (k : Nat) (a : Int), inn F V d k a = a ∨ ∃ j, k ≤ j ∧ j < k + d ∧ F.getD (j - 1) false = true ∧ inn F V d k a = 1 + V j := by
  induction d with
  | zero => intro k a; exact .inl rfl
  | succ d ih =>
    intro k a
    rw [inn]
    split
    · rename_i hf
      split
      · rcases ih (k + 1) (1 + V k) with h | ⟨j, h1, h2, h3, h4⟩
        · exact .inr ⟨k, Nat.le_refl _, by omega, hf, h⟩
        · exact .inr ⟨j, by omega, by omega, h3, h4⟩
      · rcases ih (k + 1) a with h | ⟨j, h1, h2, h3, h4⟩
        · exact .inl h
        · exact .inr ⟨j, by omega, by omega, h3, h4⟩
    · rcases ih (k + 1) a with h | ⟨j, h1, h2, h3, h4⟩
      · exact .inl h
      · exact .inr ⟨j, by omega, by omega, h3, h4⟩

theorem inn_le {F : List Bool} {V : Nat → Int} (d : Nat) : ∀ (k : Nat) (a : Int), inn F V d k a ≤ a ∧ ∀ j, k ≤ j → j < k + d → F.getD (j - 1) false = true → inn F V d k a ≤ 1 + V j := by
  induction d with
  | zero => intro k a; exact ⟨Int.le_refl _, fun j h1 h2 => by omega⟩
  | succ d ih =>
    intro k a
    rw [inn]
    have key := ih (k + 1) (if F.getD (k - 1) false = true then (if 1 + V k < a then 1 + V k else a) else a)
    refine ⟨Int.le_trans key.1 (by split <;> (try split) <;> omega), fun j h1 h2 hf => ?_⟩
    rcases Nat.eq_or_lt_of_le h1 with rfl | hlt
    · refine Int.le_trans key.1 ?_
      rw [if_pos hf]
      split <;> omega
    · exact key.2 j (by omega) (by omega) hf

theorem rdg (x : List Int) (j : Nat) : rd x (j : Int) = x.getD j 0 := by simp [rd]
theorem rdbg (x : List Bool) (j : Nat) : rdOf false x (j : Int) = x.getD j false := by simp [rdOf]
theorem getD_set_self {α : Type} (x : List α) (j : Nat) (v d : α) (h : j < x.length) : (x.set j v).getD j d = v := by simp [List.getD, List.getElem?_set_self h]
theorem getD_set_ne {α : Type} (x : List α) (i j : Nat) (v d : α) (h : i ≠ j) : (x.set i v).getD j d = x.getD j d := by simp [List.getD, List.getElem?_set_ne h]

set_option linter.unusedSectionVars false
section
variable (F : List Bool) (m n : Nat) (hF : F.length = n) (hn : n ≤ 60) (hm1 : 1 ≤ m) (hm : m ≤ 60)
include hF hn hm1 hm

theorem spec_inA (s b : Nat) (hb : b ≤ n) (hc : n - b ≤ m) (R : Int) (y : List Int) (hy : y.length = n + 1) (h1 : y.getD b 0 = 1) (hT : ∀ j, b < j → j ≤ n → y.getD j 0 = lst F m n j)
    (next : Ev (fun k => spec_l24Least.l1 k F (m : Int) (s : Int) y ((b : Int) - 1)) R) (d : Nat) : ∀ i : Nat, i + d = n + 1 → b < i → Ev (fun k => spec_l24Least.l2 k F (m : Int) (s : Int) y (b : Int) (i : Int)) R := by
  have hset : y.set b 1 = y := by
    apply List.ext_getElem?
    intro j
    by_cases h : b = j
    · subst h
      rw [List.getElem?_set_self (by omega)]
      have : y[b]? = some (y[b]'(by omega)) := List.getElem?_eq_getElem (by omega)
      rw [this]
      rw [List.getD_eq_getElem?_getD, this] at h1
      exact congrArg some h1.symm
    · rw [List.getElem?_set_ne h]
  have stop : ∀ (i : Nat), Ev (fun k => spec_l24Least.j4 k F (m : Int) (s : Int) y (b : Int) (i : Int) false) R := by
    intro i
    refine Ev.step (fun k => ?_) next
    simp only [spec_l24Least.j4, Bool.false_eq_true, if_false]
    rw [w64 (by omega) (by omega)]
  induction d with
  | zero =>
    intro i hi hbi
    refine Ev.step (f := fun k => spec_l24Least.j4 k F (m : Int) (s : Int) y (b : Int) (i : Int) false) (fun k => ?_) (stop i)
    simp only [spec_l24Least.l2]
    rw [if_neg (by omega)]
  | succ d ih =>
    intro i hi hbi
    by_cases hin : i < n
    · refine Ev.step (f := fun k => spec_l24Least.j4 k F (m : Int) (s : Int) y (b : Int) (i : Int) true) (fun k => ?_) ?_
      · simp only [spec_l24Least.l2]
        rw [if_pos (by omega), w64 (by omega) (by omega), decide_eq_true (by omega)]
      · have hw : wrap64 ((i : Int) - 1) = ((i - 1 : Nat) : Int) := by unfold wrap64; omega
        have hl := lst_bound F m n (n - i) i rfl
        have hTi := hT i hbi (by omega)
        refine Ev.step (fun k => ?_) (ih (i + 1) (by omega) (by omega))
        simp only [spec_l24Least.j4, if_true, spec_Min.f]
        rw [hw, if_pos (by omega), if_pos (by omega), rdbg, rdg, rdg, h1, hTi, w64 (x := 1 + lst F m n i) (by omega) (by omega), w64_nat i (by omega)]
        split
        · rw [if_pos (by omega), if_pos (by omega), if_pos (by omega), if_pos (by omega), if_neg (by omega)]
          simp only [Option.bind_some, Int.toNat_natCast, hset]
        · rfl
    · refine Ev.step (f := fun k => spec_l24Least.j4 k F (m : Int) (s : Int) y (b : Int) (i : Int) false) (fun k => ?_) (stop i)
      simp only [spec_l24Least.l2]
      rw [if_neg (by omega)]

theorem spec_inB (s b : Nat) (hb : b ≤ n) (hc : ¬ n - b ≤ m) (R : Int) (d : Nat) : ∀ (i : Nat) (y : List Int), i + d = b + m + 1 → b < i → y.length = n + 1 → 1 ≤ y.getD b 0 → y.getD b 0 ≤ 1000 → (∀ j, b < j → j ≤ n → y.getD j 0 = lst F m n j) →
    (∀ y' : List Int, y'.length = n + 1 → y'.getD b 0 = inn F (lst F m n) d i (y.getD b 0) → (∀ j, j ≠ b → y'.getD j 0 = y.getD j 0) → Ev (fun k => spec_l24Least.l1 k F (m : Int) (s : Int) y' ((b : Int) - 1)) R) →
    Ev (fun k => spec_l24Least.l2 k F (m : Int) (s : Int) y (b : Int) (i : Int)) R := by
  have hbm : b + m < n := by omega
  induction d with
  | zero =>
    intro i y hi hbi hy h1 h1000 hT next
    refine Ev.step (f := fun k => spec_l24Least.j4 k F (m : Int) (s : Int) y (b : Int) (i : Int) false) (fun k => ?_) ?_
    · simp only [spec_l24Least.l2]
      rw [w64 (by omega) (by omega), decide_eq_false (by omega)]
      split <;> rfl
    · refine Ev.step (fun k => ?_) (next y hy rfl (fun _ _ => rfl))
      simp only [spec_l24Least.j4, Bool.false_eq_true, if_false]
      rw [w64 (by omega) (by omega)]
  | succ d ih =>
    intro i y hi hbi hy h1 h1000 hT next
    refine Ev.step (f := fun k => spec_l24Least.j4 k F (m : Int) (s : Int) y (b : Int) (i : Int) true) (fun k => ?_) ?_
    · simp only [spec_l24Least.l2]
      rw [if_pos (by omega), w64 (by omega) (by omega), decide_eq_true (by omega)]
    · have hw : wrap64 ((i : Int) - 1) = ((i - 1 : Nat) : Int) := by unfold wrap64; omega
      have hl := lst_bound F m n (n - i) i rfl
      have hTi := hT i hbi (by omega)
      by_cases hf : F.getD (i - 1) false = true
      · have hb' : b < y.length := by omega
        have hv : 1 ≤ (if 1 + lst F m n i < y.getD b 0 then 1 + lst F m n i else y.getD b 0) ∧ (if 1 + lst F m n i < y.getD b 0 then 1 + lst F m n i else y.getD b 0) ≤ 1000 := by split <;> omega
        refine Ev.step (fun k => ?_) (ih (i + 1) (y.set b (if 1 + lst F m n i < y.getD b 0 then 1 + lst F m n i else y.getD b 0)) (by omega) (by omega) (by rw [List.length_set]; exact hy) (by rw [getD_set_self _ _ _ _ hb']; exact hv.1) (by rw [getD_set_self _ _ _ _ hb']; exact hv.2) (fun j h2 h3 => by rw [getD_set_ne _ _ _ _ _ (by omega)]; exact hT j h2 h3) (fun y' h2 h3 h4 => next y' h2 (by rw [h3, getD_set_self _ _ _ _ hb', inn, if_pos hf]) (fun j hj => by rw [h4 j hj, getD_set_ne _ _ _ _ _ (by omega)])))
        simp only [spec_l24Least.j4, if_true, spec_Min.f]
        rw [hw, if_pos (by omega), if_pos (by omega), rdbg, if_pos hf, if_pos (by omega), if_pos (by omega), if_pos (by omega), if_pos (by omega), rdg, rdg, hTi, w64 (x := 1 + lst F m n i) (by omega) (by omega), w64_nat i (by omega)]
        split <;> simp only [Option.bind_some, Int.toNat_natCast]
      · refine Ev.step (fun k => ?_) (ih (i + 1) y (by omega) (by omega) hy h1 h1000 hT (fun y' h2 h3 h4 => next y' h2 (by rw [h3, inn, if_neg hf]) h4))
        simp only [spec_l24Least.j4, if_true]
        rw [hw, if_pos (by omega), if_pos (by omega), rdbg, if_neg hf, w64_nat i (by omega)]

theorem spec_down (s : Nat) (hs : s ≤ n) (e : Nat) : ∀ (c : Nat) (x : List Int) (z : Int), c = s + e → c ≤ n + 1 → z = (c : Int) - 1 → x.length = n + 1 → (∀ j, j ≤ n → x.getD j 0 = if j < c then 1000 else lst F m n j) →
    Ev (fun k => spec_l24Least.l1 k F (m : Int) (s : Int) x z) (lst F m n s) := by
  induction e with
  | zero =>
    intro c x z hc hcn hz hx hT
    refine Ev.one (fun k => ?_)
    have := hT s hs
    rw [if_neg (by omega)] at this
    simp only [spec_l24Least.l1]
    rw [if_neg (by omega), if_pos (by omega), if_pos (by omega), rdg, this]
  | succ e ih =>
    intro c x z hc hcn hz hx hT
    obtain ⟨b, rfl⟩ : ∃ b, c = b + 1 := ⟨c - 1, by omega⟩
    obtain rfl : z = (b : Int) := by omega
    have hrec := lst_rec F m n b
    have next : ∀ y : List Int, y.length = n + 1 → y.getD b 0 = lst F m n b → (∀ j, j ≠ b → y.getD j 0 = x.getD j 0) → Ev (fun k => spec_l24Least.l1 k F (m : Int) (s : Int) y ((b : Int) - 1)) (lst F m n s) := by
      intro y hy hyb hyj
      refine ih b y _ (by omega) (by omega) rfl hy (fun j hj => ?_)
      by_cases h : j = b
      · subst h
        rw [hyb, if_neg (by omega)]
      · rw [hyj j h, hT j hj]
        split <;> split <;> first | rfl | omega
    by_cases hcase : n - b ≤ m
    · rw [if_pos hcase] at hrec
      refine Ev.step (f := fun k => spec_l24Least.j2 k F (m : Int) (s : Int) (x.set b 1) (b : Int)) (fun k => ?_) ?_
      · simp only [spec_l24Least.l1]
        rw [if_pos (by omega), w64 (by omega) (by omega), if_pos (by omega), if_pos (by omega), if_pos (by omega), Int.toNat_natCast]
      · have hyl : (x.set b 1).length = n + 1 := by rw [List.length_set]; exact hx
        have hyb : (x.set b 1).getD b 0 = 1 := getD_set_self _ _ _ _ (by omega)
        refine Ev.step (f := fun k => spec_l24Least.l2 k F (m : Int) (s : Int) (x.set b 1) (b : Int) ((b + 1 : Nat) : Int)) (fun k => ?_) ?_
        · simp only [spec_l24Least.j2]
          rw [w64_nat b (by omega)]
        · refine spec_inA F m n hF hn hm1 hm s b (by omega) hcase _ _ hyl hyb (fun j h1 h2 => ?_) (next _ hyl (by rw [hyb, hrec]) (fun j hj => getD_set_ne _ _ _ _ _ (by omega))) (n - b) (b + 1) (by omega) (by omega)
          rw [getD_set_ne _ _ _ _ _ (by omega), hT j h2, if_neg (by omega)]
    · rw [if_neg hcase] at hrec
      have hxb : x.getD b 0 = 1000 := by rw [hT b (by omega), if_pos (by omega)]
      refine Ev.step (f := fun k => spec_l24Least.j2 k F (m : Int) (s : Int) x (b : Int)) (fun k => ?_) ?_
      · simp only [spec_l24Least.l1]
        rw [if_pos (by omega), w64 (by omega) (by omega), if_neg (by omega)]
      · refine Ev.step (f := fun k => spec_l24Least.l2 k F (m : Int) (s : Int) x (b : Int) ((b + 1 : Nat) : Int)) (fun k => ?_) ?_
        · simp only [spec_l24Least.j2]
          rw [w64_nat b (by omega)]
        · refine spec_inB F m n hF hn hm1 hm s b (by omega) hcase _ m (b + 1) x (by omega) (by omega) hx (by omega) (by omega) (fun j h1 h2 => by rw [hT j h2, if_neg (by omega)]) (fun y' h2 h3 h4 => next y' h2 ?_ h4)
          rw [h3, hxb, hrec]

theorem spec_least (s : Nat) (hs : s ≤ n) : Ev (fun k => spec_l24Least.f k F (m : Int) (s : Int)) (lst F m n s) := by
  have key : ∀ (d i : Nat) (x : List Int), i + d = n + 1 → x = List.replicate i 1000 → Ev (fun k => spec_l24Least.l0 k F (m : Int) (s : Int) x (i : Int)) (lst F m n s) := by
    intro d
    induction d with
    | zero =>
      intro i x hi hx
      refine Ev.step (f := fun k => spec_l24Least.l1 k F (m : Int) (s : Int) x (n : Int)) (fun k => ?_) (spec_down F m n hF hn hm1 hm s hs (n + 1 - s) (n + 1) x _ (by omega) (by omega) (by omega) (by rw [hx]; simp; omega) (fun j hj => ?_))
      · simp only [spec_l24Least.l0]
        rw [if_neg (by omega), hF]
      · rw [if_pos (by omega), hx, List.getD_eq_getElem?_getD, List.getElem?_replicate, if_pos (by omega)]
        rfl
    | succ d ih =>
      intro i x hi hx
      refine Ev.step (fun k => ?_) (ih (i + 1) (x ++ [1000]) (by omega) (by rw [hx, List.replicate_succ']))
      simp only [spec_l24Least.l0]
      rw [if_pos (by omega), if_pos (by rw [hx, List.length_replicate]; omega), w64_nat i (by omega)]
  exact key (n + 1) 0 [] (by omega) rfl

def cvp (v : Int) : Int := if v = 1000 then 0 else v

theorem impl_inB (b : Nat) (hb : b ≤ n) (hc : ¬ n - b ≤ m) (R : List Int × Bool) (d : Nat) : ∀ (i : Nat) (y : List Int) (a : Int), i + d = b + m + 1 → b < i → y.length = n + 1 → 1 ≤ a → a ≤ 1000 → (a = 1000 ∨ a ≤ 100) → y.getD b 0 = cvp a → (∀ j, b < j → j ≤ n → y.getD j 0 = cvp (lst F m n j)) →
    (∀ y' : List Int, y'.length = n + 1 → y'.getD b 0 = cvp (inn F (lst F m n) d i a) → (∀ j, j ≠ b → y'.getD j 0 = y.getD j 0) → Ev (fun k => impl_PageBreaks.l0 k F (m : Int) (n : Int) y' ((b : Int) - 1)) R) →
    Ev (fun k => impl_PageBreaks.l1 k F (m : Int) (n : Int) y (b : Int) (i : Int)) R := by
  have hbm : b + m < n := by omega
  induction d with
  | zero =>
    intro i y a hi hbi hy h1 h1000 hor hya hT next
    refine Ev.step (fun k => ?_) (next y hy hya (fun _ _ => rfl))
    simp only [impl_PageBreaks.l1]
    rw [w64 (x := (b : Int) + (m : Int)) (by omega) (by omega), if_neg (by omega), w64 (by omega) (by omega)]
  | succ d ih =>
    intro i y a hi hbi hy h1 h1000 hor hya hT next
    have hw : wrap64 ((i : Int) - 1) = ((i - 1 : Nat) : Int) := by unfold wrap64; omega
    have hl := lst_bound F m n (n - i) i rfl
    have hTi := hT i hbi (by omega)
    have hb' : b < y.length := by omega
    by_cases hf : F.getD (i - 1) false = true
    · by_cases hv : lst F m n i = 1000
      · have hcv : cvp (lst F m n i) = 0 := by rw [hv]; rfl
        refine Ev.step (fun k => ?_) (ih (i + 1) y a (by omega) (by omega) hy h1 h1000 hor hya hT (fun y' h2 h3 h4 => next y' h2 (by rw [h3, inn, if_pos hf, if_neg (by omega)]) h4))
        simp only [impl_PageBreaks.l1]
        rw [w64 (x := (b : Int) + (m : Int)) (by omega) (by omega), if_pos (by omega), hw, if_pos (by omega), if_pos (by omega), rdbg, if_pos hf, if_pos (by omega), if_pos (by omega), rdg, hTi, hcv, if_neg (by omega), w64_nat i (by omega)]
      · have hcv : cvp (lst F m n i) = lst F m n i := if_neg hv
        have hadd : wrap64 (lst F m n i + 1) = 1 + lst F m n i := by rw [w64 (by omega) (by omega), Int.add_comm]
        by_cases hlt : 1 + lst F m n i < a
        · have hcv1 : cvp (1 + lst F m n i) = 1 + lst F m n i := if_neg (by omega)
          refine Ev.step (fun k => ?_) (ih (i + 1) (y.set b (1 + lst F m n i)) (1 + lst F m n i) (by omega) (by omega) (by rw [List.length_set]; exact hy) (by omega) (by omega) (by omega) (by rw [getD_set_self _ _ _ _ hb', hcv1]) (fun j h2 h3 => by rw [getD_set_ne _ _ _ _ _ (by omega)]; exact hT j h2 h3) (fun y' h2 h3 h4 => next y' h2 (by rw [h3, inn, if_pos hf, if_pos hlt]) (fun j hj => by rw [h4 j hj, getD_set_ne _ _ _ _ _ (by omega)])))
          simp only [impl_PageBreaks.l1]
          rw [w64 (x := (b : Int) + (m : Int)) (by omega) (by omega), if_pos (by omega), hw, if_pos (by omega), if_pos (by omega), rdbg, if_pos hf, if_pos (by omega), if_pos (by omega), rdg, hTi, hcv, if_pos (by omega), if_pos (by omega), if_pos (by omega), rdg, hya, hadd, w64_nat i (by omega), Int.toNat_natCast]
          by_cases ha : a = 1000
          · rw [if_pos (by rw [ha]; rfl)]
          · have hca : cvp a = a := if_neg ha
            rw [hca, if_neg (by omega), if_pos hlt]
        · have ha : ¬ a = 1000 := by omega
          have hca : cvp a = a := if_neg ha
          refine Ev.step (fun k => ?_) (ih (i + 1) y a (by omega) (by omega) hy h1 h1000 hor hya hT (fun y' h2 h3 h4 => next y' h2 (by rw [h3, inn, if_pos hf, if_neg hlt]) h4))
          simp only [impl_PageBreaks.l1]
          rw [w64 (x := (b : Int) + (m : Int)) (by omega) (by omega), if_pos (by omega), hw, if_pos (by omega), if_pos (by omega), rdbg, if_pos hf, if_pos (by omega), if_pos (by omega), rdg, hTi, hcv, if_pos (by omega), if_pos (by omega), if_pos (by omega), rdg, hya, hadd, hca, if_neg (by omega), if_neg hlt, w64_nat i (by omega)]
    · refine Ev.step (fun k => ?_) (ih (i + 1) y a (by omega) (by omega) hy h1 h1000 hor hya hT (fun y' h2 h3 h4 => next y' h2 (by rw [h3, inn, if_neg hf]) h4))
      simp only [impl_PageBreaks.l1]
      rw [w64 (x := (b : Int) + (m : Int)) (by omega) (by omega), if_pos (by omega), hw, if_pos (by omega), if_pos (by omega), rdbg, if_neg hf, w64_nat i (by omega)]

theorem impl_down (R : List Int × Bool) (next : ∀ P : List Int, P.length = n + 1 → (∀ j, j ≤ n → P.getD j 0 = cvp (lst F m n j)) → Ev (fun k => impl_PageBreaks.l0 k F (m : Int) (n : Int) P (-1)) R) (c : Nat) : ∀ (x : List Int) (z : Int), c ≤ n + 1 → z = (c : Int) - 1 → x.length = n + 1 → (∀ j, j ≤ n → x.getD j 0 = if j < c then 0 else cvp (lst F m n j)) →
    Ev (fun k => impl_PageBreaks.l0 k F (m : Int) (n : Int) x z) R := by
  induction c with
  | zero =>
    intro x z hcn hz hx hT
    obtain rfl : z = -1 := by omega
    exact next x hx (fun j hj => by rw [hT j hj, if_neg (by omega)])
  | succ b ih =>
    intro x z hcn hz hx hT
    obtain rfl : z = (b : Int) := by omega
    have hrec := lst_rec F m n b
    have step : ∀ y : List Int, y.length = n + 1 → y.getD b 0 = cvp (lst F m n b) → (∀ j, j ≠ b → y.getD j 0 = x.getD j 0) → Ev (fun k => impl_PageBreaks.l0 k F (m : Int) (n : Int) y ((b : Int) - 1)) R := by
      intro y hy hyb hyj
      refine ih y _ (by omega) rfl hy (fun j hj => ?_)
      by_cases h : j = b
      · subst h
        rw [hyb, if_neg (by omega)]
      · rw [hyj j h, hT j hj]
        split <;> split <;> first | rfl | omega
    by_cases hcase : n - b ≤ m
    · rw [if_pos hcase] at hrec
      refine Ev.step (fun k => ?_) (step (x.set b 1) (by rw [List.length_set]; exact hx) (by rw [getD_set_self _ _ _ _ (by omega), hrec]; rfl) (fun j hj => getD_set_ne _ _ _ _ _ (by omega)))
      simp only [impl_PageBreaks.l0]
      rw [if_pos (by omega), w64 (x := (n : Int) - (b : Int)) (by omega) (by omega), if_pos (by omega), if_pos (by omega), if_pos (by omega), Int.toNat_natCast, w64 (by omega) (by omega)]
    · rw [if_neg hcase] at hrec
      refine Ev.step (f := fun k => impl_PageBreaks.l1 k F (m : Int) (n : Int) x (b : Int) ((b + 1 : Nat) : Int)) (fun k => ?_) ?_
      · simp only [impl_PageBreaks.l0]
        rw [if_pos (by omega), w64 (x := (n : Int) - (b : Int)) (by omega) (by omega), if_neg (by omega), w64_nat b (by omega)]
      · refine impl_inB F m n hF hn hm1 hm b (by omega) hcase R m (b + 1) x 1000 (by omega) (by omega) hx (by omega) (by omega) (.inl rfl) ?_ (fun j h1 h2 => by rw [hT j h2, if_neg (by omega)]) (fun y' h2 h3 h4 => step y' h2 (by rw [h3, hrec]) h4)
        rw [hT b (by omega), if_pos (by omega)]
        rfl

/-- The last page's end that keeps the count least. -/
theorem largest (a : Nat) (h1 : 1 < lst F m n a) (h2 : lst F m n a < 1000) : a + m < n ∧ ∃ K, a < K ∧ K ≤ a + m ∧ F.getD (K - 1) false = true ∧ lst F m n K = lst F m n a - 1 ∧ ∀ j, K < j → j ≤ a + m → ¬ (F.getD (j - 1) false = true ∧ lst F m n j = lst F m n a - 1) := by
  have hrec := lst_rec F m n a
  have hc : ¬ n - a ≤ m := by
    intro h
    rw [if_pos h] at hrec
    omega
  rw [if_neg hc] at hrec
  refine ⟨by omega, ?_⟩
  obtain ⟨j, hj1, hj2, hj3, hj4⟩ : ∃ j, a + 1 ≤ j ∧ j < a + 1 + m ∧ F.getD (j - 1) false = true ∧ inn F (lst F m n) m (a + 1) 1000 = 1 + lst F m n j := by
    rcases inn_from (F := F) (V := lst F m n) m (a + 1) 1000 with h | h
    · omega
    · exact h
  have hex : ∀ d : Nat, (∃ j, a < j ∧ j ≤ a + d ∧ F.getD (j - 1) false = true ∧ lst F m n j = lst F m n a - 1) → ∃ K, a < K ∧ K ≤ a + d ∧ F.getD (K - 1) false = true ∧ lst F m n K = lst F m n a - 1 ∧ ∀ j, K < j → j ≤ a + d → ¬ (F.getD (j - 1) false = true ∧ lst F m n j = lst F m n a - 1) := by
    intro d
    induction d with
    | zero => rintro ⟨j, h3, h4, _⟩; omega
    | succ d ih =>
      intro h
      by_cases hg : F.getD (a + (d + 1) - 1) false = true ∧ lst F m n (a + (d + 1)) = lst F m n a - 1
      · exact ⟨a + (d + 1), by omega, Nat.le_refl _, hg.1, hg.2, fun j h3 h4 => by omega⟩
      · obtain ⟨j, h3, h4, h5, h6⟩ := h
        have hne : j ≠ a + (d + 1) := by
          rintro rfl
          exact hg ⟨h5, h6⟩
        obtain ⟨K, k1, k2, k3, k4, k5⟩ := ih ⟨j, h3, by omega, h5, h6⟩
        refine ⟨K, k1, by omega, k3, k4, fun q q1 q2 hq => ?_⟩
        rcases Nat.eq_or_lt_of_le q2 with rfl | hlt
        · exact hg hq
        · exact k5 q q1 (by omega) hq
  exact hex m ⟨j, by omega, by omega, hj3, by omega⟩

theorem spec_pick (a K : Nat) (out : List Int) (R : List Int × Bool) (ho : out.length ≤ 60) (h1000 : lst F m n a ≤ 1000) (h1 : 1 ≤ lst F m n a) (ham : a + m < n) (haK : a < K) (hK : K ≤ a + m) (hf : F.getD (K - 1) false = true) (hl : lst F m n K = lst F m n a - 1) (hmax : ∀ j, K < j → j ≤ a + m → ¬ (F.getD (j - 1) false = true ∧ lst F m n j = lst F m n a - 1))
    (next : Ev (fun k => spec_PageBreaks.l0 k F (m : Int) (out ++ [(K : Int)]) (lst F m n a - 1) (K : Int)) R) (d : Nat) : ∀ (i : Nat) (p : Int), i + d = a + m + 1 → a < i → (K < i → p = K) → Ev (fun k => spec_PageBreaks.l1 k F (m : Int) out (lst F m n a) (a : Int) p (i : Int)) R := by
  induction d with
  | zero =>
    intro i p hi hai hp
    refine Ev.step (f := fun k => spec_PageBreaks.j4 k F (m : Int) out (lst F m n a) (a : Int) p (i : Int) false) (fun k => ?_) ?_
    · simp only [spec_PageBreaks.l1]
      rw [w64 (by omega) (by omega), decide_eq_false (by omega)]
      split <;> rfl
    · refine Ev.step (fun k => ?_) next
      simp only [spec_PageBreaks.j4, Bool.false_eq_true, if_false]
      rw [hp (by omega), if_pos (by omega), w64 (by omega) (by omega)]
  | succ d ih =>
    intro i p hi hai hp
    have hw : wrap64 ((i : Int) - 1) = ((i - 1 : Nat) : Int) := by unfold wrap64; omega
    refine Ev.step (f := fun k => spec_PageBreaks.j4 k F (m : Int) out (lst F m n a) (a : Int) p (i : Int) true) (fun k => ?_) ?_
    · simp only [spec_PageBreaks.l1]
      rw [if_pos (by omega), w64 (by omega) (by omega), decide_eq_true (by omega)]
    · by_cases hfi : F.getD (i - 1) false = true
      · refine Ev.step (f := fun k => (spec_l24Least.f k F (m : Int) (i : Int)).bind fun t => if t = lst F m n a - 1 then spec_PageBreaks.l1 k F (m : Int) out (lst F m n a) (a : Int) (i : Int) ((i + 1 : Nat) : Int) else spec_PageBreaks.l1 k F (m : Int) out (lst F m n a) (a : Int) p ((i + 1 : Nat) : Int)) (fun k => ?_) ?_
        · simp only [spec_PageBreaks.j4, if_true]
          rw [hw, if_pos (by omega), if_pos (by omega), rdbg, if_pos hfi, w64 (x := lst F m n a - 1) (by omega) (by omega), w64_nat i (by omega)]
        · refine Ev.bind (spec_least F m n hF hn hm1 hm i (by omega)) ?_
          by_cases hg : lst F m n i = lst F m n a - 1
          · simp only [hg, if_true]
            refine ih (i + 1) (i : Int) (by omega) (by omega) (fun hKi => ?_)
            rcases Nat.lt_or_ge K i with h | h
            · exact absurd ⟨hfi, hg⟩ (hmax i h (by omega))
            · omega
          · simp only [hg, if_false]
            refine ih (i + 1) p (by omega) (by omega) (fun hKi => ?_)
            rcases Nat.eq_or_lt_of_le (Nat.le_of_lt_succ hKi) with rfl | h
            · exact absurd hl hg
            · exact hp h
      · refine Ev.step (fun k => ?_) (ih (i + 1) p (by omega) (by omega) (fun hKi => ?_))
        · simp only [spec_PageBreaks.j4, if_true]
          rw [hw, if_pos (by omega), if_pos (by omega), rdbg, if_neg hfi, w64_nat i (by omega)]
        · rcases Nat.eq_or_lt_of_le (Nat.le_of_lt_succ hKi) with rfl | h
          · exact absurd hf hfi
          · exact hp h

theorem impl_pick (P : List Int) (hP : P.length = n + 1) (hPT : ∀ j, j ≤ n → P.getD j 0 = cvp (lst F m n j)) (a K : Nat) (out : List Int) (R : List Int × Bool) (ho : out.length ≤ 60) (h1000 : lst F m n a < 1000) (h1 : 1 < lst F m n a) (ham : a + m < n) (haK : a < K) (hK : K ≤ a + m) (hf : F.getD (K - 1) false = true) (hl : lst F m n K = lst F m n a - 1) (hmax : ∀ j, K < j → j ≤ a + m → ¬ (F.getD (j - 1) false = true ∧ lst F m n j = lst F m n a - 1))
    (next : Ev (fun k => impl_PageBreaks.l2 k F (m : Int) P (out ++ [(K : Int)]) (K : Int)) R) (d : Nat) : ∀ (i : Nat), i = K + d → i ≤ a + m → Ev (fun k => impl_PageBreaks.l3 k F (m : Int) P out (a : Int) (i : Int)) R := by
  have hPa : P.getD a 0 = lst F m n a := by rw [hPT a (by omega)]; exact if_neg (by omega)
  induction d with
  | zero =>
    intro i hi him
    obtain rfl : i = K := by omega
    have hw : wrap64 ((i : Int) - 1) = ((i - 1 : Nat) : Int) := by unfold wrap64; omega
    have hPK : P.getD i 0 = lst F m n i := by rw [hPT i (by omega)]; exact if_neg (by omega)
    refine Ev.step (fun k => ?_) next
    simp only [impl_PageBreaks.l3]
    rw [hw, if_pos (by omega), if_pos (by omega), rdbg, if_pos hf, if_pos (by omega), if_pos (by omega), if_pos (by omega), if_pos (by omega), rdg, rdg, hPK, hPa, w64 (x := lst F m n a - 1) (by omega) (by omega), if_pos hl, if_pos (by omega)]
  | succ d ih =>
    intro i hi him
    have hw : wrap64 ((i : Int) - 1) = ((i - 1 : Nat) : Int) := by unfold wrap64; omega
    refine Ev.step (fun k => ?_) (ih (i - 1) (by omega) (by omega))
    simp only [impl_PageBreaks.l3]
    rw [hw, if_pos (by omega), if_pos (by omega), rdbg]
    by_cases hfi : F.getD (i - 1) false = true
    · have hg : ¬ lst F m n i = lst F m n a - 1 := fun h => hmax i (by omega) him ⟨hfi, h⟩
      have hne : ¬ cvp (lst F m n i) = lst F m n a - 1 := by
        unfold cvp
        split
        · omega
        · exact hg
      rw [if_pos hfi, if_pos (by omega), if_pos (by omega), if_pos (by omega), if_pos (by omega), rdg, rdg, hPT i (by omega), hPa, w64 (x := lst F m n a - 1) (by omega) (by omega), if_neg hne]
    · rw [if_neg hfi]

theorem path_both (P : List Int) (hP : P.length = n + 1) (hPT : ∀ j, j ≤ n → P.getD j 0 = cvp (lst F m n j)) (e : Nat) : ∀ (a : Nat) (out : List Int), n - a = e → a ≤ n → out.length ≤ a → lst F m n a < 1000 →
    ∃ r : List Int, r.length ≤ 60 ∧ Ev (fun k => spec_PageBreaks.l0 k F (m : Int) out (lst F m n a) (a : Int)) (r, true) ∧ Ev (fun k => impl_PageBreaks.l2 k F (m : Int) P out (a : Int)) (r, true) := by
  induction e using Nat.strongRecOn with
  | _ e ih =>
    intro a out he han ho h1000
    have hb := lst_bound F m n (n - a) a rfl
    have hPa : P.getD a 0 = lst F m n a := by rw [hPT a (by omega)]; exact if_neg (by omega)
    by_cases h1 : 1 < lst F m n a
    · obtain ⟨ham, K, haK, hK, hf, hl, hmax⟩ := largest F m n hF hn hm1 hm a h1 h1000
      obtain ⟨r, hr0, hr1, hr2⟩ := ih (n - K) (by omega) K (out ++ [(K : Int)]) rfl (by omega) (by simp; omega) (by omega)
      rw [hl] at hr1
      refine ⟨r, hr0, ?_, ?_⟩
      · refine Ev.step (f := fun k => spec_PageBreaks.j2 k F (m : Int) out (lst F m n a) (a : Int) true) (fun k => ?_) ?_
        · simp only [spec_PageBreaks.l0]
          rw [if_pos h1000, decide_eq_true (by omega)]
        · refine Ev.step (f := fun k => spec_PageBreaks.l1 k F (m : Int) out (lst F m n a) (a : Int) (a : Int) ((a + 1 : Nat) : Int)) (fun k => ?_) (spec_pick F m n hF hn hm1 hm a K out _ (by omega) (by omega) (by omega) ham haK hK hf hl hmax hr1 m (a + 1) _ (by omega) (by omega) (fun h => by omega))
          simp only [spec_PageBreaks.j2, if_true]
          rw [w64_nat a (by omega)]
      · refine Ev.step (f := fun k => impl_PageBreaks.l3 k F (m : Int) P out (a : Int) ((a + m : Nat) : Int)) (fun k => ?_) (impl_pick F m n hF hn hm1 hm P hP hPT a K out _ (by omega) h1000 h1 ham haK hK hf hl hmax hr2 (a + m - K) (a + m) (by omega) (Nat.le_refl _))
        simp only [impl_PageBreaks.l2]
        rw [if_pos (by omega), if_pos (by omega), rdg, hPa, if_pos (by omega), w64 (by omega) (by omega)]
        rfl
    · refine ⟨out, by omega, ?_, ?_⟩
      · refine Ev.step (f := fun k => spec_PageBreaks.j2 k F (m : Int) out (lst F m n a) (a : Int) false) (fun k => ?_) (Ev.one (fun k => ?_))
        · simp only [spec_PageBreaks.l0]
          rw [if_pos h1000, decide_eq_false (by omega)]
        · simp only [spec_PageBreaks.j2, Bool.false_eq_true, if_false]
          rw [if_neg (by omega)]
      · refine Ev.one (fun k => ?_)
        simp only [impl_PageBreaks.l2]
        rw [if_pos (by omega), if_pos (by omega), rdg, hPa, if_neg (by omega)]
end

theorem pages_both (F : List Bool) (m : Int) (hF : F.length ≤ 1048576) : ∃ (r : List Int) (ok : Bool), r.length ≤ 60 ∧ Ev (fun k => spec_PageBreaks.f k F m) (r, ok) ∧ Ev (fun k => impl_PageBreaks.f k F m) (r, ok) := by
  have stop1 : Ev (fun k => spec_PageBreaks.j0 k F m [] true) ([], false) := Ev.one (fun k => by simp only [spec_PageBreaks.j0, if_true])
  have stop2 : Ev (fun k => impl_PageBreaks.j0 k F m (F.length : Int) true) ([], false) := Ev.one (fun k => by simp only [impl_PageBreaks.j0, if_true])
  by_cases h0 : (F.length : Int) > 60
  · refine ⟨[], false, by simp, ?_, ?_⟩
    · simp only [spec_PageBreaks.f, Option.bind_some, h0, if_true]
      exact stop1
    · simp only [impl_PageBreaks.f, h0, if_true]
      exact stop2
  · by_cases h1 : 1 ≤ m ∧ m ≤ 60
    · obtain ⟨q, rfl⟩ := Int.eq_ofNat_of_zero_le (show 0 ≤ m by omega)
      have hq1 : 1 ≤ q := by omega
      have hq : q ≤ 60 := by omega
      have hn : F.length ≤ 60 := by omega
      have hb := lst_bound F q F.length F.length 0 (by omega)
      have hl0 := spec_least F q F.length rfl hn hq1 hq 0 (by omega)
      have down : ∀ R, (∀ P : List Int, P.length = F.length + 1 → (∀ j, j ≤ F.length → P.getD j 0 = cvp (lst F q F.length j)) → Ev (fun k => impl_PageBreaks.l0 k F (q : Int) (F.length : Int) P (-1)) R) → Ev (fun k => impl_PageBreaks.j0 k F (q : Int) (F.length : Int) false) R := by
        intro R next
        refine Ev.step (f := fun k => impl_PageBreaks.l0 k F (q : Int) (F.length : Int) (List.replicate (F.length + 1) 0) (F.length : Int)) (fun k => ?_) (impl_down F q F.length rfl hn hq1 hq R next (F.length + 1) _ _ (Nat.le_refl _) (by omega) (by simp) (fun j hj => ?_))
        · simp only [impl_PageBreaks.j0, Bool.false_eq_true, if_false]
          rw [w64_nat F.length (by omega), if_pos (by omega), Int.toNat_natCast, if_pos (by omega)]
        · rw [if_pos (by omega), List.getD_eq_getElem?_getD, List.getElem?_replicate, if_pos (by omega)]
          rfl
      by_cases hz : lst F q F.length 0 = 1000
      · refine ⟨[], false, by simp, ?_, ?_⟩
        · simp only [spec_PageBreaks.f, Option.bind_some, h0, if_false, l1In_eq, decide_eq_true h1, Bool.not_true]
          refine Ev.step (f := fun k => (spec_l24Least.f k F (q : Int) 0).bind fun t => spec_PageBreaks.l0 k F (q : Int) [] t 0) (fun k => by simp only [spec_PageBreaks.j0, Bool.false_eq_true, if_false]) (Ev.bind hl0 ?_)
          refine Ev.step (f := fun k => spec_PageBreaks.j2 k F (q : Int) [] (lst F q F.length 0) 0 false) (fun k => ?_) (Ev.one (fun k => ?_))
          · simp only [spec_PageBreaks.l0]
            rw [if_neg (by omega)]
          · simp only [spec_PageBreaks.j2, Bool.false_eq_true, if_false]
            rw [if_pos (by omega)]
        · simp only [impl_PageBreaks.f, h0, if_false, inRange_eq, Option.bind_some, decide_eq_true h1, Bool.not_true]
          refine down _ (fun P hP hPT => Ev.one (fun k => ?_))
          have hP0 : rd P 0 = 0 := by
            have := hPT 0 (by omega)
            rw [hz] at this
            exact (rdg P 0).trans this
          simp only [impl_PageBreaks.l0]
          rw [if_neg (by omega)]
          simp only [Option.bind_some]
          rw [if_pos (by omega), if_pos hP0]
      · obtain ⟨P0, hP0⟩ : ∃ P : List Int, P.length = F.length + 1 ∧ ∀ j, j ≤ F.length → P.getD j 0 = cvp (lst F q F.length j) := by
          refine ⟨(List.range (F.length + 1)).map (fun j => cvp (lst F q F.length j)), by simp, fun j hj => ?_⟩
          rw [List.getD_eq_getElem?_getD, List.getElem?_map, List.getElem?_range (by omega)]
          rfl
        obtain ⟨r, hr, hs, hi⟩ := path_both F q F.length rfl hn hq1 hq P0 hP0.1 hP0.2 F.length 0 [] (by omega) (by omega) (by simp) (by omega)
        refine ⟨r, true, hr, ?_, ?_⟩
        · simp only [spec_PageBreaks.f, Option.bind_some, h0, if_false, l1In_eq, decide_eq_true h1, Bool.not_true]
          exact Ev.step (f := fun k => (spec_l24Least.f k F (q : Int) 0).bind fun t => spec_PageBreaks.l0 k F (q : Int) [] t 0) (fun k => by simp only [spec_PageBreaks.j0, Bool.false_eq_true, if_false]) (Ev.bind hl0 hs)
        · simp only [impl_PageBreaks.f, h0, if_false, inRange_eq, Option.bind_some, decide_eq_true h1, Bool.not_true]
          refine down _ (fun P hP hPT => ?_)
          have e : P = P0 := by
            apply List.ext_getElem?
            intro j
            rcases Nat.lt_or_ge j P.length with hj | hj
            · have h2 := hPT j (by omega)
              have h3 := hP0.2 j (by omega)
              rw [List.getD_eq_getElem?_getD, List.getElem?_eq_getElem hj] at h2
              rw [List.getD_eq_getElem?_getD, List.getElem?_eq_getElem (by omega)] at h3
              rw [List.getElem?_eq_getElem hj, List.getElem?_eq_getElem (by omega)]
              exact congrArg some (h2.trans h3.symm)
            · rw [List.getElem?_eq_none hj, List.getElem?_eq_none (by omega)]
          subst e
          have hP1 : ¬ rd P 0 = 0 := by
            have h2 : rd P 0 = cvp (lst F q F.length 0) := (rdg P 0).trans (hPT 0 (by omega))
            rw [h2]
            unfold cvp
            rw [if_neg hz]
            omega
          refine Ev.step (fun k => ?_) hi
          simp only [impl_PageBreaks.l0]
          rw [if_neg (by omega)]
          simp only [Option.bind_some]
          rw [if_pos (by omega), if_neg hP1]
          rfl
    · refine ⟨[], false, by simp, ?_, ?_⟩
      · simp only [spec_PageBreaks.f, Option.bind_some, h0, if_false, l1In_eq, decide_eq_false h1, Bool.not_false]
        exact stop1
      · simp only [impl_PageBreaks.f, h0, if_false, inRange_eq, Option.bind_some, decide_eq_false h1, Bool.not_false]
        exact stop2

theorem eqIntS_ev (l : List Int) (hl : l.length ≤ 140737488355328) : Ev (fun k => laws_eqIntS.f k l l) true := by
  have key := eqLoop (fun k i => laws_eqIntS.l0 k l l i) l (by
    intro i r hi h
    refine Ev.step (fun k => ?_) h
    simp only [laws_eqIntS.l0]
    rw [if_pos (by omega), if_pos (by omega), if_pos (by omega), if_pos trivial, w64_nat i (by omega)]) (by
    refine Ev.one (fun k => ?_)
    simp only [laws_eqIntS.l0]
    rw [if_neg (by omega)])
  refine Ev.congr (fun k => ?_) key
  simp only [laws_eqIntS.f]
  rw [if_pos trivial]

theorem markLoop {β : Type} (C : Nat → Nat) (mkv : Nat → β) (F : Nat → List β → Int → Int → Option (Int × List β)) (n : Nat)
    (h1 : ∀ (x3 : List β) (i : Nat) (r : Int × List β), i < n → x3.length = n → Ev (fun k => F k (x3.set i (mkv i)) ((C (i + 1) : Nat) : Int) ((i + 1 : Nat) : Int)) r → Ev (fun k => F k x3 ((C i : Nat) : Int) (i : Int)) r)
    (h2 : ∀ x3 : List β, x3.length = n → Ev (fun k => F k x3 ((C n : Nat) : Int) (n : Int)) (((C n : Nat) : Int), x3)) (init : List β) (hl : init.length = n) :
    Ev (fun k => F k init ((C 0 : Nat) : Int) ((0 : Nat) : Int)) (((C n : Nat) : Int), (List.range n).map mkv) := by
  have key : ∀ (d i : Nat) (x3 : List β), i + d = n → x3.length = n → x3.take i = (List.range i).map mkv → Ev (fun k => F k x3 ((C i : Nat) : Int) (i : Int)) (((C n : Nat) : Int), (List.range n).map mkv) := by
    intro d
    induction d with
    | zero =>
      intro i x3 hi hx ht
      obtain rfl : i = n := by omega
      have e : x3 = (List.range i).map mkv := by
        rw [← ht, ← hx, List.take_length]
      have := h2 x3 hx
      rw [← e]
      exact this
    | succ d ih =>
      intro i x3 hi hx ht
      refine h1 x3 i _ (by omega) hx (ih (i + 1) _ (by omega) (by rw [List.length_set]; exact hx) ?_)
      rw [set_take x3 i _ (by omega), ht, List.range_succ, List.map_append]
      rfl
  exact key n 0 init (by omega) hl (by simp)

theorem heldLoop (C : Nat → Nat) (F : Nat → Int → Int → Option Int) (n : Nat)
    (h1 : ∀ (i : Nat) (r : Int), i < n → Ev (fun k => F k ((C (i + 1) : Nat) : Int) ((i + 1 : Nat) : Int)) r → Ev (fun k => F k ((C i : Nat) : Int) (i : Int)) r)
    (h2 : Ev (fun k => F k ((C n : Nat) : Int) (n : Int)) ((C n : Nat) : Int)) : Ev (fun k => F k ((C 0 : Nat) : Int) ((0 : Nat) : Int)) ((C n : Nat) : Int) := by
  have key : ∀ (d i : Nat), i + d = n → Ev (fun k => F k ((C i : Nat) : Int) (i : Int)) ((C n : Nat) : Int) := by
    intro d
    induction d with
    | zero =>
      intro i hi
      obtain rfl : i = n := by omega
      exact h2
    | succ d ih =>
      intro i hi
      exact h1 i _ (by omega) (ih (i + 1) (by omega))
  exact key n 0 (by omega)

def mkBool (q : Nat) : Bool := Int.tmod ((1 + q : Nat) : Int) 3 == 0

theorem markBoolS_ev (l : List Bool) (hl : l.length ≤ 1048576) : Ev (fun k => laws_markBoolS.f k l 1) (((1 + l.length : Nat) : Int), (List.range l.length).map mkBool) := by
  have key := markLoop (fun i => 1 + i) mkBool (fun k x c i => laws_markBoolS.l0 k x c i) l.length (by
    intro x3 i r hi hx h
    refine Ev.step (fun k => ?_) h
    simp only [laws_markBoolS.l0, Int.toNat_natCast]
    rw [if_pos (by omega), if_pos (by omega), w64_nat (1 + i) (by omega), w64_nat i (by omega)]
    rfl) (by
    intro x3 hx
    refine Ev.one (fun k => ?_)
    simp only [laws_markBoolS.l0]
    rw [if_neg (by omega)]) l rfl
  exact key


def mkInt (q : Nat) : Int := ((1 + q : Nat) : Int)

theorem markIntS_ev (l : List Int) (hl : l.length ≤ 1048576) : Ev (fun k => laws_markIntS.f k l 1) (((1 + l.length : Nat) : Int), (List.range l.length).map mkInt) := by
  have key := markLoop (fun i => 1 + i) mkInt (fun k x c i => laws_markIntS.l0 k x c i) l.length (by
    intro x3 i r hi hx h
    refine Ev.step (fun k => ?_) h
    simp only [laws_markIntS.l0, Int.toNat_natCast]
    rw [if_pos (by omega), if_pos (by omega), w64_nat (1 + i) (by omega), w64_nat i (by omega)]
    rfl) (by
    intro x3 hx
    refine Ev.one (fun k => ?_)
    simp only [laws_markIntS.l0]
    rw [if_neg (by omega)]) l rfl
  exact key

theorem heldIntS_ev (n : Nat) (hl : n ≤ 1048576) : Ev (fun k => laws_heldIntS.f k ((List.range n).map mkInt) 1) ((1 + n : Nat) : Int) := by
  have key := heldLoop (fun i => 1 + i) (fun k c i => laws_heldIntS.l0 k ((List.range n).map mkInt) c i) n (by
    intro i r hi h
    refine Ev.step (fun k => ?_) h
    simp only [laws_heldIntS.l0, List.length_map, List.length_range]
    rw [if_pos (by omega), if_pos (by omega), rd_get _ i (by simpa using hi), w64_nat (1 + i) (by omega), w64_nat i (by omega)]
    simp only [List.getElem_map, List.getElem_range, mkInt, if_true]
    rfl) (by
    refine Ev.one (fun k => ?_)
    simp only [laws_heldIntS.l0, List.length_map, List.length_range]
    rw [if_neg (by omega)])
  exact key

theorem FnExactPageBreaks : ∀ (l0 : List Bool) (a1 : Int), (l0.length ≤ maxLen ∧ l0.length * 1 ≤ 140737488351232 ∧ ∀ l0' ∈ l0, True) → ((Lit.int .i64 a1).wf = true) → ∃ k, laws_FnExactPageBreaks.f k l0 a1 = some true := by
  intro F m h0 _
  refine Ev.rounds (g := fun k => laws_FnExactPageBreaks.f k F m) ?_
  simp only [laws_FnExactPageBreaks.f]
  by_cases hb : (F.length : Int) > 1048576
  · simp only [hb, if_true]
    exact Ev.now true
  · simp only [hb, if_false]
    obtain ⟨r, ok, hlen, hs, hi⟩ := pages_both F m (by omega)
    have ht := toBoolS_ev F (by omega)
    have he := eqBoolS_ev F (by omega)
    have hr := eqIntS_ev r (by omega)
    have hma := markBoolS_ev F (by omega)
    have hmr := markIntS_ev r (by omega)
    have hhe := heldIntS_ev r.length (by omega)
    have hneg : ∀ q : Nat, ¬ ((q : Int) < 0) := fun q => by omega
    refine Ev.bind ht ?_
    refine Ev.bind hs ?_
    refine Ev.bind ht ?_
    refine Ev.bind hi ?_
    refine Ev.bind hr ?_
    simp only [bne_self_eq_false, if_true]
    refine Ev.step (fun k => by simp only [laws_FnExactPageBreaks.j0, Bool.false_eq_true, if_false]; rfl) ?_
    refine Ev.bind ht ?_
    refine Ev.bind he ?_
    simp only [if_true]
    refine Ev.bind hma ?_
    simp only [hneg, if_false]
    refine Ev.bind hr ?_
    simp only [bne_self_eq_false, if_true]
    refine Ev.step (fun k => by simp only [laws_FnExactPageBreaks.j1, Bool.false_eq_true, if_false]; rfl) ?_
    refine Ev.bind hmr ?_
    refine Ev.bind hhe ?_
    simp only [hneg, if_false, if_true]
    refine Ev.bind ht ?_
    refine Ev.bind hi ?_
    refine Ev.bind hr ?_
    simp only [bne_self_eq_false, if_true]
    refine Ev.step (fun k => by simp only [laws_FnExactPageBreaks.j2, Bool.false_eq_true, if_false]; rfl) ?_
    refine Ev.bind hhe ?_
    simp only [hneg, if_false, if_true]
    exact Ev.now true

end Go.Proofs.Ythlipgfmfgangaa.Pure
