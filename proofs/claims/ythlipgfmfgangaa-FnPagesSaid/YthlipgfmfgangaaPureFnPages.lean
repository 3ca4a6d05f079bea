/- The plain statement of the law FnPages: what its printed function answers; no conditions but that the numbers are Go's ints and the slices no longer than memory. -/
import Derived.Test.YthlipgfmfgangaaQFnPagesx13
set_option linter.unusedVariables false
set_option linter.unusedSimpArgs false
namespace Go.Proofs.Ythlipgfmfgangaa.Pure
open Go.RowKit Go.Proofs.Ythlipgfmfgangaa.QFnPages Go.Proofs.YthlipgfmfgangaaW.PrintWords Go.Proofs.YthlipgfmfgangaaW.PrintLast Go.Proofs.YthlipgfmfgangaaW.PrintMore

theorem wf64 {x : Int} (h : (Lit.int .i64 x).wf = true) : -9223372036854775808 ≤ x ∧ x ≤ 9223372036854775807 := by
  simp only [Lit.wf, IntKind.min, IntKind.max, IntKind.signed, IntKind.bits, Bool.and_eq_true, decide_eq_true_eq, if_true] at h
  omega

theorem w64 {x : Int} (h1 : -9223372036854775808 ≤ x) (h2 : x ≤ 9223372036854775807) : wrap64 x = x := by
  unfold wrap64
  omega

theorem w64_nat (i : Nat) (h : i ≤ 9223372036854775806) : wrap64 ((i : Int) + 1) = ((i + 1 : Nat) : Int) := by
  unfold wrap64
  omega

theorem drop_cons {α : Type} (l : List α) (i : Nat) (h : i < l.length) : l.drop i = l[i] :: l.drop (i + 1) := List.drop_eq_getElem_cons h

theorem set_take {β : Type} (x : List β) (i : Nat) (v : β) (h : i < x.length) : (x.set i v).take (i + 1) = x.take i ++ [v] := by
  apply List.ext_getElem?
  intro j
  rcases Nat.lt_trichotomy j i with hj | hj | hj
  · rw [List.getElem?_take_of_lt (by omega), List.getElem?_set_ne (by omega), List.getElem?_append_left (by simp; omega), List.getElem?_take_of_lt (by omega)]
  · subst hj
    rw [List.getElem?_take_of_lt (by omega), List.getElem?_set_self (by omega), List.getElem?_append_right (by simp; omega)]
    simp [Nat.min_eq_left (Nat.le_of_lt h)]
  · rw [List.getElem?_take_eq_none (by omega), List.getElem?_append_right (by simp; omega)]
    simp
    omega

theorem copyLoop {α β : Type} (F : Nat → List β → Int → Option (List β)) (x0 : List α) (cv : α → β)
    (h1 : ∀ (x3 : List β) (i : Nat) (r : List β) (hi : i < x0.length), x3.length = x0.length → Ev (fun k => F k (x3.set i (cv x0[i])) ((i + 1 : Nat) : Int)) r → Ev (fun k => F k x3 (i : Int)) r)
    (h2 : ∀ x3 : List β, Ev (fun k => F k x3 (x0.length : Int)) x3) (init : List β) (hl : init.length = x0.length) : Ev (fun k => F k init 0) (x0.map cv) := by
  have key : ∀ (d i : Nat) (x3 : List β), i + d = x0.length → x3.length = x0.length → x3.take i = (x0.map cv).take i → Ev (fun k => F k x3 (i : Int)) (x0.map cv) := by
    intro d
    induction d with
    | zero =>
      intro i x3 hi hx ht
      obtain rfl : i = x0.length := by omega
      have e : x3 = x0.map cv := by
        rw [← hx, List.take_length] at ht
        rw [ht, hx]
        exact List.take_of_length_le (by simp)
      have := h2 x3
      rw [e] at this
      rw [e]
      exact this
    | succ d ih =>
      intro i x3 hi hx ht
      have hlt : i < x0.length := by omega
      refine h1 x3 i _ hlt hx (ih (i + 1) _ (by omega) (by rw [List.length_set]; exact hx) ?_)
      rw [set_take x3 i _ (by omega), ht]
      rw [List.take_succ_eq_append_getElem (by simpa using hlt)]
      simp
  have := key x0.length 0 init (by omega) hl (by simp)
  exact this

theorem eqLoop {α : Type} (F : Nat → Int → Option Bool) (x0 : List α)
    (h1 : ∀ (i : Nat) (r : Bool) (_ : i < x0.length), Ev (fun k => F k ((i + 1 : Nat) : Int)) r → Ev (fun k => F k (i : Int)) r)
    (h2 : Ev (fun k => F k (x0.length : Int)) true) : Ev (fun k => F k 0) true := by
  have key : ∀ (d i : Nat), i + d = x0.length → Ev (fun k => F k (i : Int)) true := by
    intro d
    induction d with
    | zero =>
      intro i hi
      obtain rfl : i = x0.length := by omega
      exact h2
    | succ d ih =>
      intro i hi
      exact h1 i true (by omega) (ih (i + 1) (by omega))
  exact key x0.length 0 (by omega)

theorem ite_eq_of {α : Type} {p : Prop} [Decidable p] {a b : α} (h : p) : (if p then a else b) = a := if_pos h

theorem Ev.one {α : Type} {g : Nat → Option α} {r : α} (h : ∀ k, g (k + 1) = some r) : Ev g r := Ev.step (f := fun _ => some r) h (Ev.now r)
theorem rdB_get (l : List Bool) (i : Nat) (h : i < l.length) : rdOf false l (i : Int) = l[i] := by
  simp [rdOf, List.getD, List.getElem?_eq_getElem h]
theorem rd_get (l : List Int) (i : Nat) (h : i < l.length) : rd l (i : Int) = l[i] := by
  simp [rd, List.getD, List.getElem?_eq_getElem h]

theorem l1In_eq (a b c : Int) : spec_l1In.f a b c = some (decide (b ≤ a ∧ a ≤ c)) := by
  unfold spec_l1In.f
  split <;> simp <;> omega
theorem inRange_eq (a b c : Int) : impl_InRange.f a b c = some (decide (b ≤ a ∧ a ≤ c)) := by
  unfold impl_InRange.f
  split <;> simp <;> omega

/-- Are these breaks? -/

def brk (f : List Bool) (m : Int) : Int → List Int → Bool
  | p, [] => decide ((f.length : Int) - p ≤ m)
  | p, b :: l => if p + 1 ≤ b ∧ b ≤ (f.length : Int) - 1 then (if rdOf false f (b - 1) = true then (if b - p > m then false else brk f m b l) else false) else false
/-- The least over d places from k on of one more than V, where the bar before is free. -/

def inn (F : List Bool) (V : Nat → Int) : Nat → Nat → Int → Int
  | 0, _, a => a
  | d + 1, k, a => inn F V d (k + 1) (if F.getD (k - 1) false = true then (if 1 + V k < a then 1 + V k else a) else a)

def lstF (F : List Bool) (m n : Nat) : Nat → Nat → Int
  | 0, _ => 1
  | f + 1, b => if n - b ≤ m then 1 else inn F (lstF F m n f) m (b + 1) 1000

/-- The least number of pages for the bars behind b; 1000: no way. -/

def lst (F : List Bool) (m n b : Nat) : Int := lstF F m n (n - b) b

theorem inn_congr {F : List Bool} {V W : Nat → Int} (d : Nat) : ∀ (k : Nat) (a : Int), (∀ j, k ≤ j → j < k + d → V j = W j) → inn F V d k a = inn F W d k a := by
  induction d with
  | zero => intro k a _; rfl
  | succ d ih =>
    intro k a h
    rw [inn, inn, h k (Nat.le_refl _) (by omega)]
    exact ih (k + 1) _ (fun j h1 h2 => h j (by omega) (by omega))

theorem lstF_stable (F : List Bool) (m n : Nat) : ∀ (f b : Nat), n - b ≤ f → lstF F m n f b = lst F m n b := by
  intro f
  induction f using Nat.strongRecOn with
  | _ f ih =>
    intro b h
    unfold lst
    cases f with
    | zero =>
      rw [show n - b = 0 by omega]
    | succ f =>
      by_cases hc : n - b ≤ m
      · rw [lstF, if_pos hc]
        cases hg : n - b with
        | zero => rfl
        | succ g => rw [lstF, if_pos hc]
      · cases hg : n - b with
        | zero => omega
        | succ g =>
          rw [lstF, lstF, if_neg hc, if_neg hc]
          refine inn_congr m (b + 1) 1000 (fun j h1 h2 => ?_)
          rw [ih f (by omega) j (by omega)]
          rcases Nat.lt_or_ge g (f + 1) with hlt | hge
          · exact (ih g hlt j (by omega)).symm
          · omega

theorem lst_rec (F : List Bool) (m n b : Nat) : lst F m n b = if n - b ≤ m then 1 else inn F (lst F m n) m (b + 1) 1000 := by
  conv => lhs; unfold lst
  cases hg : n - b with
  | zero => rw [lstF, if_pos (by omega)]
  | succ g =>
    rw [lstF]
    by_cases hc : n - b ≤ m
    · rw [if_pos hc, if_pos (by omega)]
    · rw [if_neg hc, if_neg (by omega)]
      exact inn_congr m (b + 1) 1000 (fun j h1 h2 => lstF_stable F m n g j (by omega))

theorem inn_bound {F : List Bool} {V : Nat → Int} {B : Int} (d : Nat) : ∀ (k : Nat) (a : Int), (∀ j, k ≤ j → j < k + d → 1 ≤ V j ∧ (V j = 1000 ∨ V j + 1 ≤ B)) → 1 ≤ a → a ≤ 1000 → (a = 1000 ∨ a ≤ B) → 1 ≤ inn F V d k a ∧ inn F V d k a ≤ a ∧ (inn F V d k a = 1000 ∨ inn F V d k a ≤ B) := by
  induction d with
  | zero => intro k a _ h1 h2 h3; exact ⟨h1, Int.le_refl _, h3⟩
  | succ d ih =>
    intro k a hV h1 h2 h3
    rw [inn]
    have hk := hV k (Nat.le_refl _) (by omega)
    have hV' : ∀ j, k + 1 ≤ j → j < k + 1 + d → 1 ≤ V j ∧ (V j = 1000 ∨ V j + 1 ≤ B) := fun j h4 h5 => hV j (by omega) (by omega)
    split
    · split
      · have := ih (k + 1) (1 + V k) hV' (by omega) (by omega) (by omega)
        omega
      · exact ih (k + 1) a hV' h1 h2 h3
    · exact ih (k + 1) a hV' h1 h2 h3

theorem lst_bound (F : List Bool) (m n : Nat) : ∀ (d b : Nat), n - b = d → 1 ≤ lst F m n b ∧ lst F m n b ≤ 1000 ∧ (lst F m n b = 1000 ∨ lst F m n b ≤ d + 1) := by
  intro d
  induction d using Nat.strongRecOn with
  | _ d ih =>
    intro b hb
    rw [lst_rec]
    by_cases hc : n - b ≤ m
    · rw [if_pos hc]
      omega
    · rw [if_neg hc]
      have := inn_bound (F := F) (V := lst F m n) (B := (d : Int) + 1) m (b + 1) 1000 (fun j h1 h2 => by
        have := ih (n - j) (by omega) j rfl
        omega) (by omega) (by omega) (.inl rfl)
      omega

/-- Where the least comes from. -/

theorem inn_from {F : List Bool} {V : Nat → Int} (d : Nat) : ∀ (k : Nat) (a : Int), inn F V d k a = a ∨ ∃ j, k ≤ j ∧ j < k + d ∧ F.getD (j - 1) false = true ∧ inn F V d k a = 1 + V j := by
  induction d with
  | zero => intro k a; exact .inl rfl
  | succ d ih =>
    intro k a
    rw [inn]
    split
    · rename_i hf
      split
      · rcases ih (k + 1) (1 + V k) with h | ⟨j, h1, h2, h3, h4⟩
        · exact .inr ⟨k, Nat.le_refl _, by omega, hf, h⟩
        · exact .inr ⟨j, by omega, by omega, h3, h4⟩
      · rcases ih (k + 1) a with h | ⟨j, h1, h2, h3, h4⟩
        · exact .inl h
        · exact .inr ⟨j, by omega, by omega, h3, h4⟩
    · rcases ih (k + 1) a with h | ⟨j, h1, h2, h3, h4⟩
      · exact .inl h
      · exact .inr ⟨j, by omega, by omega, h3, h4⟩

theorem inn_le {F : List Bool} {V : Nat → Int} (d : Nat) : ∀ (k : Nat) (a : Int), inn F V d k a ≤ a ∧ ∀ j, k ≤ j → j < k + d → F.getD (j - 1) false = true → inn F V d k a ≤ 1 + V j := by
  induction d with
  | zero => intro k a; exact ⟨Int.le_refl _, fun j h1 h2 => by omega⟩
  | succ d ih =>
    intro k a
    rw [inn]
    have key := ih (k + 1) (if F.getD (k - 1) false = true then (if 1 + V k < a then 1 + V k else a) else a)
    refine ⟨Int.le_trans key.1 (by split <;> (try split) <;> omega), fun j h1 h2 hf => ?_⟩
    rcases Nat.eq_or_lt_of_le h1 with rfl | hlt
    · refine Int.le_trans key.1 ?_
      rw [if_pos hf]
      split <;> omega
    · exact key.2 j (by omega) (by omega) hf

theorem rdg (x : List Int) (j : Nat) : rd x (j : Int) = x.getD j 0 := by simp [rd]

theorem rdbg (x : List Bool) (j : Nat) : rdOf false x (j : Int) = x.getD j false := by simp [rdOf]

theorem getD_set_self {α : Type} (x : List α) (j : Nat) (v d : α) (h : j < x.length) : (x.set j v).getD j d = v := by simp [List.getD, List.getElem?_set_self h]

theorem getD_set_ne {α : Type} (x : List α) (i j : Nat) (v d : α) (h : i ≠ j) : (x.set i v).getD j d = x.getD j d := by simp [List.getD, List.getElem?_set_ne h]

theorem lst_one (F : List Bool) (m n a : Nat) (h : lst F m n a = 1) : n - a ≤ m := by
  rcases Nat.lt_or_ge m (n - a) with hc | hc
  · rw [lst_rec, if_neg (by omega)] at h
    rcases inn_from (F := F) (V := lst F m n) m (a + 1) 1000 with h1 | ⟨j, _, _, _, h1⟩
    · omega
    · have := lst_bound F m n (n - j) j rfl
      omega
  · exact hc

/-- No breaks do with fewer. -/

theorem brk_least (F : List Bool) (m : Nat) (l : List Int) : ∀ a : Nat, brk F (m : Int) (a : Int) l = true → lst F m F.length a ≤ (l.length : Int) + 1 ∧ (a + l.length ≤ F.length ∨ l = []) := by
  induction l with
  | nil =>
    intro a h
    rw [brk, decide_eq_true_iff] at h
    rw [lst_rec, if_pos (by omega)]
    exact ⟨by simp, .inr rfl⟩
  | cons b l ih =>
    intro a h
    rw [brk] at h
    split at h
    · rename_i h1
      split at h
      · rename_i h2
        split at h
        · cases h
        · rename_i h3
          obtain ⟨q, rfl⟩ := Int.eq_ofNat_of_zero_le (show 0 ≤ b by omega)
          obtain ⟨k1, k2⟩ := ih q h
          rw [show ((q : Nat) : Int) - 1 = ((q - 1 : Nat) : Int) by omega, rdbg] at h2
          rw [List.length_cons]
          refine ⟨?_, ?_⟩
          · rw [lst_rec]
            split
            · omega
            · have := (inn_le (F := F) (V := lst F m F.length) m (a + 1) 1000).2 q (by omega) (by omega) h2
              omega
          · left
            rcases k2 with k2 | k2
            · omega
            · rw [k2]
              simp
              omega
      · cases h
    · cases h

theorem brk_more (F : List Bool) (m : Int) (l : List Int) : ∀ a : Int, brk F m a l = true → brk F (m + 1) a l = true := by
  induction l with
  | nil =>
    intro a h
    rw [brk, decide_eq_true_iff] at *
    omega
  | cons b l ih =>
    intro a h
    rw [brk] at *
    split at h
    · rename_i h1
      split at h
      · rename_i h2
        split at h
        · cases h
        · rename_i h3
          rw [if_pos h1, if_pos h2, if_neg (by omega)]
          exact ih b h
      · cases h
    · cases h

theorem brk_below (F : List Bool) (m : Int) (l : List Int) : ∀ a : Int, brk F m a l = true → ∀ x ∈ l, x < (F.length : Int) := by
  induction l with
  | nil => intro a _ x hx; cases hx
  | cons b l ih =>
    intro a h x hx
    rw [brk] at h
    split at h
    · rename_i h1
      split at h
      · split at h
        · cases h
        · rcases List.mem_cons.1 hx with rfl | hx
          · omega
          · exact ih b h x hx
      · cases h
    · cases h

set_option linter.unusedSectionVars false
section
variable (F : List Bool) (m n : Nat) (hF : F.length = n) (hn : n ≤ 60) (hm1 : 1 ≤ m) (hm : m ≤ 60)
include hF hn hm1 hm

theorem spec_inA (s b : Nat) (hb : b ≤ n) (hc : n - b ≤ m) (R : Int) (y : List Int) (hy : y.length = n + 1) (h1 : y.getD b 0 = 1) (hT : ∀ j, b < j → j ≤ n → y.getD j 0 = lst F m n j)
    (next : Ev (fun k => spec_l24Least.l1 k F (m : Int) (s : Int) y ((b : Int) - 1)) R) (d : Nat) : ∀ i : Nat, i + d = n + 1 → b < i → Ev (fun k => spec_l24Least.l2 k F (m : Int) (s : Int) y (b : Int) (i : Int)) R := by
  have hset : y.set b 1 = y := by
    apply List.ext_getElem?
    intro j
    by_cases h : b = j
    · subst h
      rw [List.getElem?_set_self (by omega)]
      have : y[b]? = some (y[b]'(by omega)) := List.getElem?_eq_getElem (by omega)
      rw [this]
      rw [List.getD_eq_getElem?_getD, this] at h1
      exact congrArg some h1.symm
    · rw [List.getElem?_set_ne h]
  have stop : ∀ (i : Nat), Ev (fun k => spec_l24Least.j4 k F (m : Int) (s : Int) y (b : Int) (i : Int) false) R := by
    intro i
    refine Ev.step (fun k => ?_) next
    simp only [spec_l24Least.j4, Bool.false_eq_true, if_false]
    rw [w64 (by omega) (by omega)]
  induction d with
  | zero =>
    intro i hi hbi
    refine Ev.step (f := fun k => spec_l24Least.j4 k F (m : Int) (s : Int) y (b : Int) (i : Int) false) (fun k => ?_) (stop i)
    simp only [spec_l24Least.l2]
    rw [if_neg (by omega)]
  | succ d ih =>
    intro i hi hbi
    by_cases hin : i < n
    · refine Ev.step (f := fun k => spec_l24Least.j4 k F (m : Int) (s : Int) y (b : Int) (i : Int) true) (fun k => ?_) ?_
      · simp only [spec_l24Least.l2]
        rw [if_pos (by omega), w64 (by omega) (by omega), decide_eq_true (by omega)]
      · have hw : wrap64 ((i : Int) - 1) = ((i - 1 : Nat) : Int) := by unfold wrap64; omega
        have hl := lst_bound F m n (n - i) i rfl
        have hTi := hT i hbi (by omega)
        refine Ev.step (fun k => ?_) (ih (i + 1) (by omega) (by omega))
        simp only [spec_l24Least.j4, if_true, spec_Min.f]
        rw [hw, if_pos (by omega), if_pos (by omega), rdbg, rdg, rdg, h1, hTi, w64 (x := 1 + lst F m n i) (by omega) (by omega), w64_nat i (by omega)]
        split
        · rw [if_pos (by omega), if_pos (by omega), if_pos (by omega), if_pos (by omega), if_neg (by omega)]
          simp only [Option.bind_some, Int.toNat_natCast, hset]
        · rfl
    · refine Ev.step (f := fun k => spec_l24Least.j4 k F (m : Int) (s : Int) y (b : Int) (i : Int) false) (fun k => ?_) (stop i)
      simp only [spec_l24Least.l2]
      rw [if_neg (by omega)]

theorem spec_inB (s b : Nat) (hb : b ≤ n) (hc : ¬ n - b ≤ m) (R : Int) (d : Nat) : ∀ (i : Nat) (y : List Int), i + d = b + m + 1 → b < i → y.length = n + 1 → 1 ≤ y.getD b 0 → y.getD b 0 ≤ 1000 → (∀ j, b < j → j ≤ n → y.getD j 0 = lst F m n j) →
    (∀ y' : List Int, y'.length = n + 1 → y'.getD b 0 = inn F (lst F m n) d i (y.getD b 0) → (∀ j, j ≠ b → y'.getD j 0 = y.getD j 0) → Ev (fun k => spec_l24Least.l1 k F (m : Int) (s : Int) y' ((b : Int) - 1)) R) →
    Ev (fun k => spec_l24Least.l2 k F (m : Int) (s : Int) y (b : Int) (i : Int)) R := by
  have hbm : b + m < n := by omega
  induction d with
  | zero =>
    intro i y hi hbi hy h1 h1000 hT next
    refine Ev.step (f := fun k => spec_l24Least.j4 k F (m : Int) (s : Int) y (b : Int) (i : Int) false) (fun k => ?_) ?_
    · simp only [spec_l24Least.l2]
      rw [w64 (by omega) (by omega), decide_eq_false (by omega)]
      split <;> rfl
    · refine Ev.step (fun k => ?_) (next y hy rfl (fun _ _ => rfl))
      simp only [spec_l24Least.j4, Bool.false_eq_true, if_false]
      rw [w64 (by omega) (by omega)]
  | succ d ih =>
    intro i y hi hbi hy h1 h1000 hT next
    refine Ev.step (f := fun k => spec_l24Least.j4 k F (m : Int) (s : Int) y (b : Int) (i : Int) true) (fun k => ?_) ?_
    · simp only [spec_l24Least.l2]
      rw [if_pos (by omega), w64 (by omega) (by omega), decide_eq_true (by omega)]
    · have hw : wrap64 ((i : Int) - 1) = ((i - 1 : Nat) : Int) := by unfold wrap64; omega
      have hl := lst_bound F m n (n - i) i rfl
      have hTi := hT i hbi (by omega)
      by_cases hf : F.getD (i - 1) false = true
      · have hb' : b < y.length := by omega
        have hv : 1 ≤ (if 1 + lst F m n i < y.getD b 0 then 1 + lst F m n i else y.getD b 0) ∧ (if 1 + lst F m n i < y.getD b 0 then 1 + lst F m n i else y.getD b 0) ≤ 1000 := by split <;> omega
        refine Ev.step (fun k => ?_) (ih (i + 1) (y.set b (if 1 + lst F m n i < y.getD b 0 then 1 + lst F m n i else y.getD b 0)) (by omega) (by omega) (by rw [List.length_set]; exact hy) (by rw [getD_set_self _ _ _ _ hb']; exact hv.1) (by rw [getD_set_self _ _ _ _ hb']; exact hv.2) (fun j h2 h3 => by rw [getD_set_ne _ _ _ _ _ (by omega)]; exact hT j h2 h3) (fun y' h2 h3 h4 => next y' h2 (by rw [h3, getD_set_self _ _ _ _ hb', inn, if_pos hf]) (fun j hj => by rw [h4 j hj, getD_set_ne _ _ _ _ _ (by omega)])))
        simp only [spec_l24Least.j4, if_true, spec_Min.f]
        rw [hw, if_pos (by omega), if_pos (by omega), rdbg, if_pos hf, if_pos (by omega), if_pos (by omega), if_pos (by omega), if_pos (by omega), rdg, rdg, hTi, w64 (x := 1 + lst F m n i) (by omega) (by omega), w64_nat i (by omega)]
        split <;> simp only [Option.bind_some, Int.toNat_natCast]
      · refine Ev.step (fun k => ?_) (ih (i + 1) y (by omega) (by omega) hy h1 h1000 hT (fun y' h2 h3 h4 => next y' h2 (by rw [h3, inn, if_neg hf]) h4))
        simp only [spec_l24Least.j4, if_true]
        rw [hw, if_pos (by omega), if_pos (by omega), rdbg, if_neg hf, w64_nat i (by omega)]

theorem spec_down (s : Nat) (hs : s ≤ n) (e : Nat) : ∀ (c : Nat) (x : List Int) (z : Int), c = s + e → c ≤ n + 1 → z = (c : Int) - 1 → x.length = n + 1 → (∀ j, j ≤ n → x.getD j 0 = if j < c then 1000 else lst F m n j) →
    Ev (fun k => spec_l24Least.l1 k F (m : Int) (s : Int) x z) (lst F m n s) := by
  induction e with
  | zero =>
    intro c x z hc hcn hz hx hT
    refine Ev.one (fun k => ?_)
    have := hT s hs
    rw [if_neg (by omega)] at this
    simp only [spec_l24Least.l1]
    rw [if_neg (by omega), if_pos (by omega), if_pos (by omega), rdg, this]
  | succ e ih =>
    intro c x z hc hcn hz hx hT
    obtain ⟨b, rfl⟩ : ∃ b, c = b + 1 := ⟨c - 1, by omega⟩
    obtain rfl : z = (b : Int) := by omega
    have hrec := lst_rec F m n b
    have next : ∀ y : List Int, y.length = n + 1 → y.getD b 0 = lst F m n b → (∀ j, j ≠ b → y.getD j 0 = x.getD j 0) → Ev (fun k => spec_l24Least.l1 k F (m : Int) (s : Int) y ((b : Int) - 1)) (lst F m n s) := by
      intro y hy hyb hyj
      refine ih b y _ (by omega) (by omega) rfl hy (fun j hj => ?_)
      by_cases h : j = b
      · subst h
        rw [hyb, if_neg (by omega)]
      · rw [hyj j h, hT j hj]
        split <;> split <;> first | rfl | omega
    by_cases hcase : n - b ≤ m
    · rw [if_pos hcase] at hrec
      refine Ev.step (f := fun k => spec_l24Least.j2 k F (m : Int) (s : Int) (x.set b 1) (b : Int)) (fun k => ?_) ?_
      · simp only [spec_l24Least.l1]
        rw [if_pos (by omega), w64 (by omega) (by omega), if_pos (by omega), if_pos (by omega), if_pos (by omega), Int.toNat_natCast]
      · have hyl : (x.set b 1).length = n + 1 := by rw [List.length_set]; exact hx
        have hyb : (x.set b 1).getD b 0 = 1 := getD_set_self _ _ _ _ (by omega)
        refine Ev.step (f := fun k => spec_l24Least.l2 k F (m : Int) (s : Int) (x.set b 1) (b : Int) ((b + 1 : Nat) : Int)) (fun k => ?_) ?_
        · simp only [spec_l24Least.j2]
          rw [w64_nat b (by omega)]
        · refine spec_inA F m n hF hn hm1 hm s b (by omega) hcase _ _ hyl hyb (fun j h1 h2 => ?_) (next _ hyl (by rw [hyb, hrec]) (fun j hj => getD_set_ne _ _ _ _ _ (by omega))) (n - b) (b + 1) (by omega) (by omega)
          rw [getD_set_ne _ _ _ _ _ (by omega), hT j h2, if_neg (by omega)]
    · rw [if_neg hcase] at hrec
      have hxb : x.getD b 0 = 1000 := by rw [hT b (by omega), if_pos (by omega)]
      refine Ev.step (f := fun k => spec_l24Least.j2 k F (m : Int) (s : Int) x (b : Int)) (fun k => ?_) ?_
      · simp only [spec_l24Least.l1]
        rw [if_pos (by omega), w64 (by omega) (by omega), if_neg (by omega)]
      · refine Ev.step (f := fun k => spec_l24Least.l2 k F (m : Int) (s : Int) x (b : Int) ((b + 1 : Nat) : Int)) (fun k => ?_) ?_
        · simp only [spec_l24Least.j2]
          rw [w64_nat b (by omega)]
        · refine spec_inB F m n hF hn hm1 hm s b (by omega) hcase _ m (b + 1) x (by omega) (by omega) hx (by omega) (by omega) (fun j h1 h2 => by rw [hT j h2, if_neg (by omega)]) (fun y' h2 h3 h4 => next y' h2 ?_ h4)
          rw [h3, hxb, hrec]

theorem spec_least (s : Nat) (hs : s ≤ n) : Ev (fun k => spec_l24Least.f k F (m : Int) (s : Int)) (lst F m n s) := by
  have key : ∀ (d i : Nat) (x : List Int), i + d = n + 1 → x = List.replicate i 1000 → Ev (fun k => spec_l24Least.l0 k F (m : Int) (s : Int) x (i : Int)) (lst F m n s) := by
    intro d
    induction d with
    | zero =>
      intro i x hi hx
      refine Ev.step (f := fun k => spec_l24Least.l1 k F (m : Int) (s : Int) x (n : Int)) (fun k => ?_) (spec_down F m n hF hn hm1 hm s hs (n + 1 - s) (n + 1) x _ (by omega) (by omega) (by omega) (by rw [hx]; simp; omega) (fun j hj => ?_))
      · simp only [spec_l24Least.l0]
        rw [if_neg (by omega), hF]
      · rw [if_pos (by omega), hx, List.getD_eq_getElem?_getD, List.getElem?_replicate, if_pos (by omega)]
        rfl
    | succ d ih =>
      intro i x hi hx
      refine Ev.step (fun k => ?_) (ih (i + 1) (x ++ [1000]) (by omega) (by rw [hx, List.replicate_succ']))
      simp only [spec_l24Least.l0]
      rw [if_pos (by omega), if_pos (by rw [hx, List.length_replicate]; omega), w64_nat i (by omega)]
  exact key (n + 1) 0 [] (by omega) rfl

def cvp (v : Int) : Int := if v = 1000 then 0 else v

theorem impl_inB (b : Nat) (hb : b ≤ n) (hc : ¬ n - b ≤ m) (R : List Int × Bool) (d : Nat) : ∀ (i : Nat) (y : List Int) (a : Int), i + d = b + m + 1 → b < i → y.length = n + 1 → 1 ≤ a → a ≤ 1000 → (a = 1000 ∨ a ≤ 100) → y.getD b 0 = cvp a → (∀ j, b < j → j ≤ n → y.getD j 0 = cvp (lst F m n j)) →
    (∀ y' : List Int, y'.length = n + 1 → y'.getD b 0 = cvp (inn F (lst F m n) d i a) → (∀ j, j ≠ b → y'.getD j 0 = y.getD j 0) → Ev (fun k => impl_PageBreaks.l0 k F (m : Int) (n : Int) y' ((b : Int) - 1)) R) →
    Ev (fun k => impl_PageBreaks.l1 k F (m : Int) (n : Int) y (b : Int) (i : Int)) R := by
  have hbm : b + m < n := by omega
  induction d with
  | zero =>
    intro i y a hi hbi hy h1 h1000 hor hya hT next
    refine Ev.step (fun k => ?_) (next y hy hya (fun _ _ => rfl))
    simp only [impl_PageBreaks.l1]
    rw [w64 (x := (b : Int) + (m : Int)) (by omega) (by omega), if_neg (by omega), w64 (by omega) (by omega)]
  | succ d ih =>
    intro i y a hi hbi hy h1 h1000 hor hya hT next
    have hw : wrap64 ((i : Int) - 1) = ((i - 1 : Nat) : Int) := by unfold wrap64; omega
    have hl := lst_bound F m n (n - i) i rfl
    have hTi := hT i hbi (by omega)
    have hb' : b < y.length := by omega
    by_cases hf : F.getD (i - 1) false = true
    · by_cases hv : lst F m n i = 1000
      · have hcv : cvp (lst F m n i) = 0 := by rw [hv]; rfl
        refine Ev.step (fun k => ?_) (ih (i + 1) y a (by omega) (by omega) hy h1 h1000 hor hya hT (fun y' h2 h3 h4 => next y' h2 (by rw [h3, inn, if_pos hf, if_neg (by omega)]) h4))
        simp only [impl_PageBreaks.l1]
        rw [w64 (x := (b : Int) + (m : Int)) (by omega) (by omega), if_pos (by omega), hw, if_pos (by omega), if_pos (by omega), rdbg, if_pos hf, if_pos (by omega), if_pos (by omega), rdg, hTi, hcv, if_neg (by omega), w64_nat i (by omega)]
      · have hcv : cvp (lst F m n i) = lst F m n i := if_neg hv
        have hadd : wrap64 (lst F m n i + 1) = 1 + lst F m n i := by rw [w64 (by omega) (by omega), Int.add_comm]
        by_cases hlt : 1 + lst F m n i < a
        · have hcv1 : cvp (1 + lst F m n i) = 1 + lst F m n i := if_neg (by omega)
          refine Ev.step (fun k => ?_) (ih (i + 1) (y.set b (1 + lst F m n i)) (1 + lst F m n i) (by omega) (by omega) (by rw [List.length_set]; exact hy) (by omega) (by omega) (by omega) (by rw [getD_set_self _ _ _ _ hb', hcv1]) (fun j h2 h3 => by rw [getD_set_ne _ _ _ _ _ (by omega)]; exact hT j h2 h3) (fun y' h2 h3 h4 => next y' h2 (by rw [h3, inn, if_pos hf, if_pos hlt]) (fun j hj => by rw [h4 j hj, getD_set_ne _ _ _ _ _ (by omega)])))
          simp only [impl_PageBreaks.l1]
          rw [w64 (x := (b : Int) + (m : Int)) (by omega) (by omega), if_pos (by omega), hw, if_pos (by omega), if_pos (by omega), rdbg, if_pos hf, if_pos (by omega), if_pos (by omega), rdg, hTi, hcv, if_pos (by omega), if_pos (by omega), if_pos (by omega), rdg, hya, hadd, w64_nat i (by omega), Int.toNat_natCast]
          by_cases ha : a = 1000
          · rw [if_pos (by rw [ha]; rfl)]
          · have hca : cvp a = a := if_neg ha
            rw [hca, if_neg (by omega), if_pos hlt]
        · have ha : ¬ a = 1000 := by omega
          have hca : cvp a = a := if_neg ha
          refine Ev.step (fun k => ?_) (ih (i + 1) y a (by omega) (by omega) hy h1 h1000 hor hya hT (fun y' h2 h3 h4 => next y' h2 (by rw [h3, inn, if_pos hf, if_neg hlt]) h4))
          simp only [impl_PageBreaks.l1]
          rw [w64 (x := (b : Int) + (m : Int)) (by omega) (by omega), if_pos (by omega), hw, if_pos (by omega), if_pos (by omega), rdbg, if_pos hf, if_pos (by omega), if_pos (by omega), rdg, hTi, hcv, if_pos (by omega), if_pos (by omega), if_pos (by omega), rdg, hya, hadd, hca, if_neg (by omega), if_neg hlt, w64_nat i (by omega)]
    · refine Ev.step (fun k => ?_) (ih (i + 1) y a (by omega) (by omega) hy h1 h1000 hor hya hT (fun y' h2 h3 h4 => next y' h2 (by rw [h3, inn, if_neg hf]) h4))
      simp only [impl_PageBreaks.l1]
      rw [w64 (x := (b : Int) + (m : Int)) (by omega) (by omega), if_pos (by omega), hw, if_pos (by omega), if_pos (by omega), rdbg, if_neg hf, w64_nat i (by omega)]

theorem impl_down (R : List Int × Bool) (next : ∀ P : List Int, P.length = n + 1 → (∀ j, j ≤ n → P.getD j 0 = cvp (lst F m n j)) → Ev (fun k => impl_PageBreaks.l0 k F (m : Int) (n : Int) P (-1)) R) (c : Nat) : ∀ (x : List Int) (z : Int), c ≤ n + 1 → z = (c : Int) - 1 → x.length = n + 1 → (∀ j, j ≤ n → x.getD j 0 = if j < c then 0 else cvp (lst F m n j)) →
    Ev (fun k => impl_PageBreaks.l0 k F (m : Int) (n : Int) x z) R := by
  induction c with
  | zero =>
    intro x z hcn hz hx hT
    obtain rfl : z = -1 := by omega
    exact next x hx (fun j hj => by rw [hT j hj, if_neg (by omega)])
  | succ b ih =>
    intro x z hcn hz hx hT
    obtain rfl : z = (b : Int) := by omega
    have hrec := lst_rec F m n b
    have step : ∀ y : List Int, y.length = n + 1 → y.getD b 0 = cvp (lst F m n b) → (∀ j, j ≠ b → y.getD j 0 = x.getD j 0) → Ev (fun k => impl_PageBreaks.l0 k F (m : Int) (n : Int) y ((b : Int) - 1)) R := by
      intro y hy hyb hyj
      refine ih y _ (by omega) rfl hy (fun j hj => ?_)
      by_cases h : j = b
      · subst h
        rw [hyb, if_neg (by omega)]
      · rw [hyj j h, hT j hj]
        split <;> split <;> first | rfl | omega
    by_cases hcase : n - b ≤ m
    · rw [if_pos hcase] at hrec
      refine Ev.step (fun k => ?_) (step (x.set b 1) (by rw [List.length_set]; exact hx) (by rw [getD_set_self _ _ _ _ (by omega), hrec]; rfl) (fun j hj => getD_set_ne _ _ _ _ _ (by omega)))
      simp only [impl_PageBreaks.l0]
      rw [if_pos (by omega), w64 (x := (n : Int) - (b : Int)) (by omega) (by omega), if_pos (by omega), if_pos (by omega), if_pos (by omega), Int.toNat_natCast, w64 (by omega) (by omega)]
    · rw [if_neg hcase] at hrec
      refine Ev.step (f := fun k => impl_PageBreaks.l1 k F (m : Int) (n : Int) x (b : Int) ((b + 1 : Nat) : Int)) (fun k => ?_) ?_
      · simp only [impl_PageBreaks.l0]
        rw [if_pos (by omega), w64 (x := (n : Int) - (b : Int)) (by omega) (by omega), if_neg (by omega), w64_nat b (by omega)]
      · refine impl_inB F m n hF hn hm1 hm b (by omega) hcase R m (b + 1) x 1000 (by omega) (by omega) hx (by omega) (by omega) (.inl rfl) ?_ (fun j h1 h2 => by rw [hT j h2, if_neg (by omega)]) (fun y' h2 h3 h4 => step y' h2 (by rw [h3, hrec]) h4)
        rw [hT b (by omega), if_pos (by omega)]
        rfl

/-- The last page's end that keeps the count least. -/

theorem largest (a : Nat) (h1 : 1 < lst F m n a) (h2 : lst F m n a < 1000) : a + m < n ∧ ∃ K, a < K ∧ K ≤ a + m ∧ F.getD (K - 1) false = true ∧ lst F m n K = lst F m n a - 1 ∧ ∀ j, K < j → j ≤ a + m → ¬ (F.getD (j - 1) false = true ∧ lst F m n j = lst F m n a - 1) := by
  have hrec := lst_rec F m n a
  have hc : ¬ n - a ≤ m := by
    intro h
    rw [if_pos h] at hrec
    omega
  rw [if_neg hc] at hrec
  refine ⟨by omega, ?_⟩
  obtain ⟨j, hj1, hj2, hj3, hj4⟩ : ∃ j, a + 1 ≤ j ∧ j < a + 1 + m ∧ F.getD (j - 1) false = true ∧ inn F (lst F m n) m (a + 1) 1000 = 1 + lst F m n j := by
    rcases inn_from (F := F) (V := lst F m n) m (a + 1) 1000 with h | h
    · omega
    · exact h
  have hex : ∀ d : Nat, (∃ j, a < j ∧ j ≤ a + d ∧ F.getD (j - 1) false = true ∧ lst F m n j = lst F m n a - 1) → ∃ K, a < K ∧ K ≤ a + d ∧ F.getD (K - 1) false = true ∧ lst F m n K = lst F m n a - 1 ∧ ∀ j, K < j → j ≤ a + d → ¬ (F.getD (j - 1) false = true ∧ lst F m n j = lst F m n a - 1) := by
    intro d
    induction d with
    | zero => rintro ⟨j, h3, h4, _⟩; omega
    | succ d ih =>
      intro h
      by_cases hg : F.getD (a + (d + 1) - 1) false = true ∧ lst F m n (a + (d + 1)) = lst F m n a - 1
      · exact ⟨a + (d + 1), by omega, Nat.le_refl _, hg.1, hg.2, fun j h3 h4 => by omega⟩
      · obtain ⟨j, h3, h4, h5, h6⟩ := h
        have hne : j ≠ a + (d + 1) := by
          rintro rfl
          exact hg ⟨h5, h6⟩
        obtain ⟨K, k1, k2, k3, k4, k5⟩ := ih ⟨j, h3, by omega, h5, h6⟩
        refine ⟨K, k1, by omega, k3, k4, fun q q1 q2 hq => ?_⟩
        rcases Nat.eq_or_lt_of_le q2 with rfl | hlt
        · exact hg hq
        · exact k5 q q1 (by omega) hq
  exact hex m ⟨j, by omega, by omega, hj3, by omega⟩

theorem spec_pick (a K : Nat) (out : List Int) (R : List Int × Bool) (ho : out.length ≤ 60) (h1000 : lst F m n a ≤ 1000) (h1 : 1 ≤ lst F m n a) (ham : a + m < n) (haK : a < K) (hK : K ≤ a + m) (hf : F.getD (K - 1) false = true) (hl : lst F m n K = lst F m n a - 1) (hmax : ∀ j, K < j → j ≤ a + m → ¬ (F.getD (j - 1) false = true ∧ lst F m n j = lst F m n a - 1))
    (next : Ev (fun k => spec_PageBreaks.l0 k F (m : Int) (out ++ [(K : Int)]) (lst F m n a - 1) (K : Int)) R) (d : Nat) : ∀ (i : Nat) (p : Int), i + d = a + m + 1 → a < i → (K < i → p = K) → Ev (fun k => spec_PageBreaks.l1 k F (m : Int) out (lst F m n a) (a : Int) p (i : Int)) R := by
  induction d with
  | zero =>
    intro i p hi hai hp
    refine Ev.step (f := fun k => spec_PageBreaks.j4 k F (m : Int) out (lst F m n a) (a : Int) p (i : Int) false) (fun k => ?_) ?_
    · simp only [spec_PageBreaks.l1]
      rw [w64 (by omega) (by omega), decide_eq_false (by omega)]
      split <;> rfl
    · refine Ev.step (fun k => ?_) next
      simp only [spec_PageBreaks.j4, Bool.false_eq_true, if_false]
      rw [hp (by omega), if_pos (by omega), w64 (by omega) (by omega)]
  | succ d ih =>
    intro i p hi hai hp
    have hw : wrap64 ((i : Int) - 1) = ((i - 1 : Nat) : Int) := by unfold wrap64; omega
    refine Ev.step (f := fun k => spec_PageBreaks.j4 k F (m : Int) out (lst F m n a) (a : Int) p (i : Int) true) (fun k => ?_) ?_
    · simp only [spec_PageBreaks.l1]
      rw [if_pos (by omega), w64 (by omega) (by omega), decide_eq_true (by omega)]
    · by_cases hfi : F.getD (i - 1) false = true
      · refine Ev.step (f := fun k => (spec_l24Least.f k F (m : Int) (i : Int)).bind fun t => if t = lst F m n a - 1 then spec_PageBreaks.l1 k F (m : Int) out (lst F m n a) (a : Int) (i : Int) ((i + 1 : Nat) : Int) else spec_PageBreaks.l1 k F (m : Int) out (lst F m n a) (a : Int) p ((i + 1 : Nat) : Int)) (fun k => ?_) ?_
        · simp only [spec_PageBreaks.j4, if_true]
          rw [hw, if_pos (by omega), if_pos (by omega), rdbg, if_pos hfi, w64 (x := lst F m n a - 1) (by omega) (by omega), w64_nat i (by omega)]
        · refine Ev.bind (spec_least F m n hF hn hm1 hm i (by omega)) ?_
          by_cases hg : lst F m n i = lst F m n a - 1
          · simp only [hg, if_true]
            refine ih (i + 1) (i : Int) (by omega) (by omega) (fun hKi => ?_)
            rcases Nat.lt_or_ge K i with h | h
            · exact absurd ⟨hfi, hg⟩ (hmax i h (by omega))
            · omega
          · simp only [hg, if_false]
            refine ih (i + 1) p (by omega) (by omega) (fun hKi => ?_)
            rcases Nat.eq_or_lt_of_le (Nat.le_of_lt_succ hKi) with rfl | h
            · exact absurd hl hg
            · exact hp h
      · refine Ev.step (fun k => ?_) (ih (i + 1) p (by omega) (by omega) (fun hKi => ?_))
        · simp only [spec_PageBreaks.j4, if_true]
          rw [hw, if_pos (by omega), if_pos (by omega), rdbg, if_neg hfi, w64_nat i (by omega)]
        · rcases Nat.eq_or_lt_of_le (Nat.le_of_lt_succ hKi) with rfl | h
          · exact absurd hf hfi
          · exact hp h

theorem impl_pick (P : List Int) (hP : P.length = n + 1) (hPT : ∀ j, j ≤ n → P.getD j 0 = cvp (lst F m n j)) (a K : Nat) (out : List Int) (R : List Int × Bool) (ho : out.length ≤ 60) (h1000 : lst F m n a < 1000) (h1 : 1 < lst F m n a) (ham : a + m < n) (haK : a < K) (hK : K ≤ a + m) (hf : F.getD (K - 1) false = true) (hl : lst F m n K = lst F m n a - 1) (hmax : ∀ j, K < j → j ≤ a + m → ¬ (F.getD (j - 1) false = true ∧ lst F m n j = lst F m n a - 1))
    (next : Ev (fun k => impl_PageBreaks.l2 k F (m : Int) P (out ++ [(K : Int)]) (K : Int)) R) (d : Nat) : ∀ (i : Nat), i = K + d → i ≤ a + m → Ev (fun k => impl_PageBreaks.l3 k F (m : Int) P out (a : Int) (i : Int)) R := by
  have hPa : P.getD a 0 = lst F m n a := by rw [hPT a (by omega)]; exact if_neg (by omega)
  induction d with
  | zero =>
    intro i hi him
    obtain rfl : i = K := by omega
    have hw : wrap64 ((i : Int) - 1) = ((i - 1 : Nat) : Int) := by unfold wrap64; omega
    have hPK : P.getD i 0 = lst F m n i := by rw [hPT i (by omega)]; exact if_neg (by omega)
    refine Ev.step (fun k => ?_) next
    simp only [impl_PageBreaks.l3]
    rw [hw, if_pos (by omega), if_pos (by omega), rdbg, if_pos hf, if_pos (by omega), if_pos (by omega), if_pos (by omega), if_pos (by omega), rdg, rdg, hPK, hPa, w64 (x := lst F m n a - 1) (by omega) (by omega), if_pos hl, if_pos (by omega)]
  | succ d ih =>
    intro i hi him
    have hw : wrap64 ((i : Int) - 1) = ((i - 1 : Nat) : Int) := by unfold wrap64; omega
    refine Ev.step (fun k => ?_) (ih (i - 1) (by omega) (by omega))
    simp only [impl_PageBreaks.l3]
    rw [hw, if_pos (by omega), if_pos (by omega), rdbg]
    by_cases hfi : F.getD (i - 1) false = true
    · have hg : ¬ lst F m n i = lst F m n a - 1 := fun h => hmax i (by omega) him ⟨hfi, h⟩
      have hne : ¬ cvp (lst F m n i) = lst F m n a - 1 := by
        unfold cvp
        split
        · omega
        · exact hg
      rw [if_pos hfi, if_pos (by omega), if_pos (by omega), if_pos (by omega), if_pos (by omega), rdg, rdg, hPT i (by omega), hPa, w64 (x := lst F m n a - 1) (by omega) (by omega), if_neg hne]
    · rw [if_neg hfi]

theorem path_both (P : List Int) (hP : P.length = n + 1) (hPT : ∀ j, j ≤ n → P.getD j 0 = cvp (lst F m n j)) (e : Nat) : ∀ (a : Nat) (out : List Int), n - a = e → a ≤ n → out.length ≤ a → lst F m n a < 1000 →
    ∃ t : List Int, (out ++ t).length ≤ 60 ∧ (brk F (m : Int) (a : Int) t = true ∧ (t.length : Int) + 1 = lst F m n a) ∧ Ev (fun k => spec_PageBreaks.l0 k F (m : Int) out (lst F m n a) (a : Int)) (out ++ t, true) ∧ Ev (fun k => impl_PageBreaks.l2 k F (m : Int) P out (a : Int)) (out ++ t, true) := by
  induction e using Nat.strongRecOn with
  | _ e ih =>
    intro a out he han ho h1000
    have hb := lst_bound F m n (n - a) a rfl
    have hPa : P.getD a 0 = lst F m n a := by rw [hPT a (by omega)]; exact if_neg (by omega)
    by_cases h1 : 1 < lst F m n a
    · obtain ⟨ham, K, haK, hK, hf, hl, hmax⟩ := largest F m n hF hn hm1 hm a h1 h1000
      obtain ⟨t, hr0, hrb, hr1, hr2⟩ := ih (n - K) (by omega) K (out ++ [(K : Int)]) rfl (by omega) (by simp; omega) (by omega)
      rw [hl] at hr1
      simp only [List.append_assoc, List.singleton_append] at hr0 hr1 hr2
      have hwb : rdOf false F ((K : Int) - 1) = true := by rw [show (K : Int) - 1 = ((K - 1 : Nat) : Int) by omega, rdbg]; exact hf
      refine ⟨(K : Int) :: t, hr0, ⟨?_, ?_⟩, ?_, ?_⟩
      · rw [brk, if_pos (by omega), if_pos hwb, if_neg (by omega)]
        exact hrb.1
      · rw [List.length_cons]
        omega
      · refine Ev.step (f := fun k => spec_PageBreaks.j2 k F (m : Int) out (lst F m n a) (a : Int) true) (fun k => ?_) ?_
        · simp only [spec_PageBreaks.l0]
          rw [if_pos h1000, decide_eq_true (by omega)]
        · refine Ev.step (f := fun k => spec_PageBreaks.l1 k F (m : Int) out (lst F m n a) (a : Int) (a : Int) ((a + 1 : Nat) : Int)) (fun k => ?_) (spec_pick F m n hF hn hm1 hm a K out _ (by omega) (by omega) (by omega) ham haK hK hf hl hmax hr1 m (a + 1) _ (by omega) (by omega) (fun h => by omega))
          simp only [spec_PageBreaks.j2, if_true]
          rw [w64_nat a (by omega)]
      · refine Ev.step (f := fun k => impl_PageBreaks.l3 k F (m : Int) P out (a : Int) ((a + m : Nat) : Int)) (fun k => ?_) (impl_pick F m n hF hn hm1 hm P hP hPT a K out _ (by omega) h1000 h1 ham haK hK hf hl hmax hr2 (a + m - K) (a + m) (by omega) (Nat.le_refl _))
        simp only [impl_PageBreaks.l2]
        rw [if_pos (by omega), if_pos (by omega), rdg, hPa, if_pos (by omega), w64 (by omega) (by omega)]
        rfl
    · have hna : n - a ≤ m := lst_one F m n a (by omega)
      refine ⟨[], by simp; omega, ⟨?_, by simp; omega⟩, ?_, ?_⟩ <;> (try rw [List.append_nil])
      · rw [brk]
        exact decide_eq_true (by omega)
      · refine Ev.step (f := fun k => spec_PageBreaks.j2 k F (m : Int) out (lst F m n a) (a : Int) false) (fun k => ?_) (Ev.one (fun k => ?_))
        · simp only [spec_PageBreaks.l0]
          rw [if_pos h1000, decide_eq_false (by omega)]
        · simp only [spec_PageBreaks.j2, Bool.false_eq_true, if_false]
          rw [if_neg (by omega)]
      · refine Ev.one (fun k => ?_)
        simp only [impl_PageBreaks.l2]
        rw [if_pos (by omega), if_pos (by omega), rdg, hPa, if_neg (by omega)]
end

/-- The breaks that both find: right, and as few as can be; none where there are none. -/

def Few (F : List Bool) (m : Int) (r : List Int) (ok : Bool) : Prop := (ok = true → F.length ≤ 60 ∧ 1 ≤ m ∧ m ≤ 60 ∧ brk F m 0 r = true) ∧ (ok = false → r = []) ∧ (F.length ≤ 60 → 1 ≤ m → m ≤ 60 → ∀ l, brk F m 0 l = true → ok = true ∧ r.length ≤ l.length)

theorem pages_both (F : List Bool) (m : Int) (hF : F.length ≤ 1048576) : ∃ (r : List Int) (ok : Bool), r.length ≤ 60 ∧ Few F m r ok ∧ Ev (fun k => spec_PageBreaks.f k F m) (r, ok) ∧ Ev (fun k => impl_PageBreaks.f k F m) (r, ok) := by
  have stop1 : Ev (fun k => spec_PageBreaks.j0 k F m [] true) ([], false) := Ev.one (fun k => by simp only [spec_PageBreaks.j0, if_true])
  have stop2 : Ev (fun k => impl_PageBreaks.j0 k F m (F.length : Int) true) ([], false) := Ev.one (fun k => by simp only [impl_PageBreaks.j0, if_true])
  by_cases h0 : (F.length : Int) > 60
  · refine ⟨[], false, by simp, ⟨(fun h => by cases h), fun _ => rfl, fun h => by omega⟩, ?_, ?_⟩
    · simp only [spec_PageBreaks.f, Option.bind_some, h0, if_true]
      exact stop1
    · simp only [impl_PageBreaks.f, h0, if_true]
      exact stop2
  · by_cases h1 : 1 ≤ m ∧ m ≤ 60
    · obtain ⟨q, rfl⟩ := Int.eq_ofNat_of_zero_le (show 0 ≤ m by omega)
      have hq1 : 1 ≤ q := by omega
      have hq : q ≤ 60 := by omega
      have hn : F.length ≤ 60 := by omega
      have hb := lst_bound F q F.length F.length 0 (by omega)
      have hl0 := spec_least F q F.length rfl hn hq1 hq 0 (by omega)
      have down : ∀ R, (∀ P : List Int, P.length = F.length + 1 → (∀ j, j ≤ F.length → P.getD j 0 = cvp (lst F q F.length j)) → Ev (fun k => impl_PageBreaks.l0 k F (q : Int) (F.length : Int) P (-1)) R) → Ev (fun k => impl_PageBreaks.j0 k F (q : Int) (F.length : Int) false) R := by
        intro R next
        refine Ev.step (f := fun k => impl_PageBreaks.l0 k F (q : Int) (F.length : Int) (List.replicate (F.length + 1) 0) (F.length : Int)) (fun k => ?_) (impl_down F q F.length rfl hn hq1 hq R next (F.length + 1) _ _ (Nat.le_refl _) (by omega) (by simp) (fun j hj => ?_))
        · simp only [impl_PageBreaks.j0, Bool.false_eq_true, if_false]
          rw [w64_nat F.length (by omega), if_pos (by omega), Int.toNat_natCast, if_pos (by omega)]
        · rw [if_pos (by omega), List.getD_eq_getElem?_getD, List.getElem?_replicate, if_pos (by omega)]
          rfl
      by_cases hz : lst F q F.length 0 = 1000
      · refine ⟨[], false, by simp, ⟨(fun h => by cases h), fun _ => rfl, fun _ _ _ l hl => ?_⟩, ?_, ?_⟩
        · have := brk_least F q l 0 hl
          exfalso
          rcases this.2 with h2 | h2
          · omega
          · have := this.1
            rw [h2] at this
            simp at this
            omega
        · simp only [spec_PageBreaks.f, Option.bind_some, h0, if_false, l1In_eq, decide_eq_true h1, Bool.not_true]
          refine Ev.step (f := fun k => (spec_l24Least.f k F (q : Int) 0).bind fun t => spec_PageBreaks.l0 k F (q : Int) [] t 0) (fun k => by simp only [spec_PageBreaks.j0, Bool.false_eq_true, if_false]) (Ev.bind hl0 ?_)
          refine Ev.step (f := fun k => spec_PageBreaks.j2 k F (q : Int) [] (lst F q F.length 0) 0 false) (fun k => ?_) (Ev.one (fun k => ?_))
          · simp only [spec_PageBreaks.l0]
            rw [if_neg (by omega)]
          · simp only [spec_PageBreaks.j2, Bool.false_eq_true, if_false]
            rw [if_pos (by omega)]
        · simp only [impl_PageBreaks.f, h0, if_false, inRange_eq, Option.bind_some, decide_eq_true h1, Bool.not_true]
          refine down _ (fun P hP hPT => Ev.one (fun k => ?_))
          have hP0 : rd P 0 = 0 := by
            have := hPT 0 (by omega)
            rw [hz] at this
            exact (rdg P 0).trans this
          simp only [impl_PageBreaks.l0]
          rw [if_neg (by omega)]
          simp only [Option.bind_some]
          rw [if_pos (by omega), if_pos hP0]
      · obtain ⟨P0, hP0⟩ : ∃ P : List Int, P.length = F.length + 1 ∧ ∀ j, j ≤ F.length → P.getD j 0 = cvp (lst F q F.length j) := by
          refine ⟨(List.range (F.length + 1)).map (fun j => cvp (lst F q F.length j)), by simp, fun j hj => ?_⟩
          rw [List.getD_eq_getElem?_getD, List.getElem?_map, List.getElem?_range (by omega)]
          rfl
        obtain ⟨r, hr, hrb, hs, hi⟩ := path_both F q F.length rfl hn hq1 hq P0 hP0.1 hP0.2 F.length 0 [] (by omega) (by omega) (by simp) (by omega)
        rw [List.nil_append] at hr hs hi
        refine ⟨r, true, hr, ⟨fun _ => ⟨hn, by omega, by omega, hrb.1⟩, (fun h => by cases h), fun _ _ _ l hl => ⟨rfl, ?_⟩⟩, ?_, ?_⟩
        · have := (brk_least F q l 0 hl).1
          have := hrb.2
          omega
        · simp only [spec_PageBreaks.f, Option.bind_some, h0, if_false, l1In_eq, decide_eq_true h1, Bool.not_true]
          exact Ev.step (f := fun k => (spec_l24Least.f k F (q : Int) 0).bind fun t => spec_PageBreaks.l0 k F (q : Int) [] t 0) (fun k => by simp only [spec_PageBreaks.j0, Bool.false_eq_true, if_false]) (Ev.bind hl0 hs)
        · simp only [impl_PageBreaks.f, h0, if_false, inRange_eq, Option.bind_some, decide_eq_true h1, Bool.not_true]
          refine down _ (fun P hP hPT => ?_)
          have e : P = P0 := by
            apply List.ext_getElem?
            intro j
            rcases Nat.lt_or_ge j P.length with hj | hj
            · have h2 := hPT j (by omega)
              have h3 := hP0.2 j (by omega)
              rw [List.getD_eq_getElem?_getD, List.getElem?_eq_getElem hj] at h2
              rw [List.getD_eq_getElem?_getD, List.getElem?_eq_getElem (by omega)] at h3
              rw [List.getElem?_eq_getElem hj, List.getElem?_eq_getElem (by omega)]
              exact congrArg some (h2.trans h3.symm)
            · rw [List.getElem?_eq_none hj, List.getElem?_eq_none (by omega)]
          subst e
          have hP1 : ¬ rd P 0 = 0 := by
            have h2 : rd P 0 = cvp (lst F q F.length 0) := (rdg P 0).trans (hPT 0 (by omega))
            rw [h2]
            unfold cvp
            rw [if_neg hz]
            omega
          refine Ev.step (fun k => ?_) hi
          simp only [impl_PageBreaks.l0]
          rw [if_neg (by omega)]
          simp only [Option.bind_some]
          rw [if_pos (by omega), if_neg hP1]
          rfl
    · refine ⟨[], false, by simp, ⟨(fun h => by cases h), fun _ => rfl, fun _ h2 h3 => absurd ⟨h2, h3⟩ h1⟩, ?_, ?_⟩
      · simp only [spec_PageBreaks.f, Option.bind_some, h0, if_false, l1In_eq, decide_eq_false h1, Bool.not_false]
        exact stop1
      · simp only [impl_PageBreaks.f, h0, if_false, inRange_eq, Option.bind_some, decide_eq_false h1, Bool.not_false]
        exact stop2
theorem and255 (x : Int) : 0 ≤ Go.bits .and .i64 x 255 ∧ Go.bits .and .i64 x 255 ≤ 255 := by
  have key : (BitVec.ofInt 64 x &&& BitVec.ofInt 64 255).toNat ≤ 255 := by
    rw [BitVec.toNat_and]
    exact Nat.le_trans Nat.and_le_right (by decide)
  have e : Go.bits .and .i64 x 255 = IntKind.i64.wrap ((BitVec.ofInt 64 x &&& BitVec.ofInt 64 255).toNat : Int) := rfl
  rw [e]
  generalize (BitVec.ofInt 64 x &&& BitVec.ofInt 64 255).toNat = n at key
  rw [Go.IntKind.wrap_i64]
  omega

/-- Where the drawing stands. -/

def At (c : List Int) (p : Int) : Prop := 0 ≤ p ∧ p ≤ (c.length : Int)

theorem byte_ev (c : List Int) (hc : c.length ≤ 1048576) (p s : Int) (hp : At c p) : ∃ b p' s', spec_l1Byte.f c p s = some (b, p', s') ∧ (0 ≤ b ∧ b ≤ 255) ∧ At c p' := by
  simp only [spec_l1Byte.f]
  unfold At at *
  split
  · rename_i h
    rw [if_pos hp.1]
    refine ⟨_, _, _, rfl, and255 _, ?_⟩
    rw [w64 (by omega) (by omega)]
    omega
  · exact ⟨_, _, _, rfl, and255 _, hp⟩

theorem below_ev (c : List Int) (hc : c.length ≤ 1048576) (p s n : Int) (hp : At c p) : ∃ r p' s', spec_l1Below.f c p s n = some (r, p', s') ∧ (0 ≤ r ∧ (r < n ∨ n ≤ 0)) ∧ At c p' := by
  simp only [spec_l1Below.f]
  by_cases h0 : n ≤ 0
  · rw [if_pos h0]
    exact ⟨_, _, _, rfl, ⟨by omega, .inr h0⟩, hp⟩
  · rw [if_neg h0]
    obtain ⟨b, p1, s1, e1, hb, hp1⟩ := byte_ev c hc p s hp
    obtain ⟨b2, p2, s2, e2, hb2, hp2⟩ := byte_ev c hc p1 s1 hp1
    obtain ⟨b3, p3, s3, e3, hb3, hp3⟩ := byte_ev c hc p2 s2 hp2
    by_cases h1 : n ≤ 256
    · rw [if_pos h1, e1]
      simp only [Option.bind_some]
      rw [if_neg (by omega)]
      refine ⟨_, _, _, rfl, ⟨?_, .inl ?_⟩, hp1⟩
      · exact Int.tmod_nonneg _ hb.1
      · exact Int.tmod_lt_of_pos _ (by omega)
    · rw [if_neg h1, e1]
      simp only [Option.bind_some, e2, e3]
      rw [if_neg (by omega), w64 (x := b * 65536) (by omega) (by omega), w64 (x := b2 * 256) (by omega) (by omega), w64 (x := b * 65536 + b2 * 256) (by omega) (by omega), w64 (x := b * 65536 + b2 * 256 + b3) (by omega) (by omega)]
      refine ⟨_, _, _, rfl, ⟨?_, .inl ?_⟩, hp3⟩
      · exact Int.tmod_nonneg _ (by omega)
      · exact Int.tmod_lt_of_pos _ (by omega)

theorem int_ev (c : List Int) (hc : c.length ≤ 1048576) (p s : Int) (hp : At c p) (l : List Int) (h0 : 0 < l.length) : ∃ r p' s', spec_l1Int.f c p s l = some (r, p', s') ∧ r ∈ l ∧ At c p' := by
  obtain ⟨r, p', s', e, hr, hp'⟩ := below_ev c hc p s (l.length : Int) hp
  simp only [spec_l1Int.f, e, Option.bind_some]
  rw [if_pos hr.1, if_pos (by omega)]
  have hlt : r.toNat < l.length := by omega
  have er : rd l r = l[r.toNat] := by simp [rd, List.getD, List.getElem?_eq_getElem hlt]
  exact ⟨_, _, _, rfl, by rw [er]; exact List.getElem_mem hlt, hp'⟩

theorem new_loop (c : List Int) (hc : c.length ≤ 1048576) (d : Nat) : ∀ (i : Nat) (s : Int), i + d = c.length → ∃ s', Ev (fun k => spec_l1New.l0 k c s (i : Int)) (c, 0, s') := by
  induction d with
  | zero =>
    intro i s hi
    refine ⟨s, Ev.one (fun k => ?_)⟩
    simp only [spec_l1New.l0]
    rw [if_neg (by omega)]
  | succ d ih =>
    intro i s hi
    by_cases h : (i : Int) < 4000
    · obtain ⟨s', h'⟩ := ih (i + 1) (Go.bits .and .i64 (wrap64 ((wrap64 ((wrap64 (s * 137)) + (wrap64 (rd c (i : Int))))) + 11)) 1073741823) (by omega)
      refine ⟨s', Ev.step (fun k => ?_) h'⟩
      simp only [spec_l1New.l0]
      rw [if_pos (by omega), if_pos h, if_pos (by omega), w64_nat i (by omega)]
    · refine ⟨s, Ev.one (fun k => ?_)⟩
      simp only [spec_l1New.l0]
      rw [if_pos (by omega), if_neg h]

theorem new_ev (c : List Int) (hc : c.length ≤ 1048576) : ∃ s, Ev (fun k => spec_l1New.f k c) (c, 0, s) := new_loop c hc c.length 0 _ (by omega)

theorem at_zero (c : List Int) : At c 0 := ⟨Int.le_refl 0, Int.natCast_nonneg _⟩
theorem rdEvent_get (l : List S60) (i : Nat) (h : i < l.length) : rd_T60 l (i : Int) = l[i] := by
  simp [rd_T60, List.getD, List.getElem?_eq_getElem h]

def evOk (x : S60) : Bool := decide ((0 ≤ x.f0 ∧ x.f0 ≤ 2000) ∧ (1 ≤ x.f1 ∧ x.f1 ≤ 96) ∧ (21 ≤ x.f2 ∧ x.f2 ≤ 108) ∧ (1 ≤ x.f3 ∧ x.f3 ≤ 4))

/-- By tick, voice and pitch. -/

def evLt (a b : S60) : Bool := if a.f0 = b.f0 then (if a.f3 = b.f3 then decide (a.f2 < b.f2) else decide (a.f3 < b.f3)) else decide (a.f0 < b.f0)

def evNext (p : Option S60) (x : S60) : Bool := match p with
  | none => true
  | some y => evLt y x

def scL : Option S60 → List S60 → Bool
  | _, [] => true
  | p, x :: l => (evOk x && evNext p x) && scL (some x) l

def isScore (l : List S60) : Bool := scL none l && decide (l.length ≤ 40)

theorem isScore_iff {l : List S60} (h : isScore l = true) : scL none l = true ∧ l.length ≤ 40 := by
  simpa [isScore] using h

theorem scL_ok (l : List S60) : ∀ p, scL p l = true → ∀ x ∈ l, evOk x = true := by
  induction l with
  | nil => intro p _ x hx; simp at hx
  | cons y l ih =>
    intro p h x hx
    simp only [scL, Bool.and_eq_true] at h
    rcases List.mem_cons.1 hx with rfl | hx
    · exact h.1.1
    · exact ih _ h.2 x hx

theorem isScore_at {l : List S60} (h : isScore l = true) (x : S60) (hx : x ∈ l) : (0 ≤ x.f0 ∧ x.f0 ≤ 2000) ∧ (1 ≤ x.f1 ∧ x.f1 ≤ 96) ∧ (21 ≤ x.f2 ∧ x.f2 ≤ 108) ∧ (1 ≤ x.f3 ∧ x.f3 ≤ 4) := by
  have := scL_ok l none (isScore_iff h).1 x hx
  simpa only [evOk, decide_eq_true_eq] using this
theorem spec_ok (a b c d : Int) : spec_l8Ok.f a b c d = some (evOk ⟨a, b, c, d⟩) := by
  simp only [spec_l8Ok.f, l1In_eq, Option.bind_some, decide_eq_true_eq, evOk]
  by_cases h0 : 0 ≤ a ∧ a ≤ 2000
  · by_cases h1 : 1 ≤ b ∧ b ≤ 96
    · by_cases h2 : 21 ≤ c ∧ c ≤ 108
      · simp only [h0, h1, h2, and_self, if_true, true_and]
      · simp only [h0, h1, h2, and_self, if_true, if_false, false_and, and_false, decide_false]
    · simp only [h0, h1, and_self, if_true, if_false, false_and, and_false, decide_false]
  · simp only [h0, if_false, false_and, decide_false]

theorem spec_before (a b : S60) : spec_l8Before.f a.f0 a.f1 a.f2 a.f3 b.f0 b.f1 b.f2 b.f3 = some (evLt a b) := by
  unfold spec_l8Before.f evLt
  repeat' split
  all_goals rfl

theorem spec_score_ev (l : List S60) (hl : l.length ≤ 1048576) (d : Nat) : ∀ (i : Nat) (p : Option S60), i + d = l.length → (i = 0 ∧ p = none ∨ ∃ h : i - 1 < l.length, 0 < i ∧ p = some l[i - 1]) →
    Ev (fun k => spec_IsScore.l0 k l (i : Int)) (scL p (l.drop i) && decide (l.length ≤ 40)) := by
  induction d with
  | zero =>
    intro i p hi hp
    rw [List.drop_of_length_le (by omega)]
    refine Ev.one (fun k => ?_)
    simp only [spec_IsScore.l0, scL, Bool.true_and]
    rw [if_neg (by omega)]
    refine congrArg some (decide_eq_decide.2 ?_)
    omega
  | succ d ih =>
    intro i p hi hp
    have hlt : i < l.length := by omega
    rw [drop_cons l i hlt]
    have next := ih (i + 1) (some l[i]) (by omega) (.inr ⟨by omega, by omega, rfl⟩)
    by_cases h0 : evOk l[i] = true
    · rcases hp with ⟨rfl, rfl⟩ | ⟨hi1, hpos, rfl⟩
      · refine Ev.step (f := fun k => spec_IsScore.l0 k l ((0 + 1 : Nat) : Int)) (fun k => ?_) ?_
        · simp only [spec_IsScore.l0, spec_ok, Option.bind_some]
          rw [if_pos (by omega), if_pos (by omega), rdEvent_get l 0 hlt, if_pos h0, if_neg (by omega), w64_nat 0 (by omega)]
        · rw [scL, h0, evNext, Bool.true_and, Bool.true_and]
          exact next
      · have hw : wrap64 ((i : Int) - 1) = ((i - 1 : Nat) : Int) := by unfold wrap64; omega
        by_cases h2 : evLt l[i - 1] l[i] = true
        · rw [scL, h0, evNext, h2, Bool.true_and, Bool.true_and]
          refine Ev.step (fun k => ?_) next
          simp only [spec_IsScore.l0, spec_ok, Option.bind_some]
          rw [if_pos (by omega), if_pos (by omega), rdEvent_get l i hlt, if_pos h0, if_pos (by omega), hw, if_pos (by omega), if_pos (by omega), rdEvent_get l (i - 1) hi1, spec_before, Option.bind_some, if_pos h2, w64_nat i (by omega)]
        · rw [Bool.not_eq_true] at h2
          rw [scL, h0, evNext, h2, Bool.and_false, Bool.false_and, Bool.false_and]
          refine Ev.one (fun k => ?_)
          simp only [spec_IsScore.l0, spec_ok, Option.bind_some]
          rw [if_pos (by omega), if_pos (by omega), rdEvent_get l i hlt, if_pos h0, if_pos (by omega), hw, if_pos (by omega), if_pos (by omega), rdEvent_get l (i - 1) hi1, spec_before, Option.bind_some, h2]
          rfl
    · have h0' := h0
      rw [Bool.not_eq_true] at h0'
      rw [scL, h0', Bool.false_and, Bool.false_and, Bool.false_and]
      refine Ev.one (fun k => ?_)
      simp only [spec_IsScore.l0, spec_ok, Option.bind_some]
      rw [if_pos (by omega), if_pos (by omega), rdEvent_get l i hlt, if_neg h0]

theorem spec_score (l : List S60) (hl : l.length ≤ 1048576) : Ev (fun k => spec_IsScore.f k l) (isScore l) := spec_score_ev l hl l.length 0 none (by omega) (.inl ⟨rfl, rfl⟩)
theorem impl_brk_ev (f : List Bool) (m : Int) (l : List Int) (hf : f.length ≤ 1048576) (hl : l.length ≤ 1048576) (d : Nat) : ∀ (i : Nat) (p : Int), i + d = l.length → 0 ≤ p → p ≤ f.length →
    Ev (fun k => impl_AreBreaks.l0 k f m p l (l.length : Int) (i : Int)) (brk f m p (l.drop i)) := by
  induction d with
  | zero =>
    intro i p hi h0 h1
    rw [List.drop_of_length_le (by omega)]
    refine Ev.one (fun k => ?_)
    simp only [impl_AreBreaks.l0, brk]
    rw [if_neg (by omega), w64 (by omega) (by omega)]
  | succ d ih =>
    intro i p hi h0 h1
    have hlt : i < l.length := by omega
    rw [drop_cons l i hlt, brk]
    have start : ∀ k, impl_AreBreaks.l0 (k + 1) f m p l (l.length : Int) (i : Int) = if l[i] ≤ p then (some false) else (if l[i] > (f.length : Int) - 1 then (some false) else (if 0 ≤ (wrap64 (l[i] - 1)) then (if (wrap64 (l[i] - 1)) < (f.length : Int) then (if (rdOf false f (wrap64 (l[i] - 1)) = true) then (if (wrap64 (l[i] - p)) > m then (some false) else (impl_AreBreaks.l0 k f m l[i] l (l.length : Int) ((i + 1 : Nat) : Int))) else (some false)) else (none)) else (none))) := by
      intro k
      simp only [impl_AreBreaks.l0]
      rw [if_pos (by omega), if_pos (by omega), if_pos (by omega), rd_get l i hlt, w64_nat i (by omega), w64 (x := (f.length : Int) - 1) (by omega) (by omega)]
    by_cases hc : p + 1 ≤ l[i] ∧ l[i] ≤ (f.length : Int) - 1
    · rw [if_pos hc]
      by_cases hd : rdOf false f (l[i] - 1) = true
      · rw [if_pos hd]
        by_cases he : l[i] - p > m
        · rw [if_pos he]
          refine Ev.one (fun k => ?_)
          rw [start, if_neg (by omega), if_neg (by omega), w64 (x := l[i] - 1) (by omega) (by omega), if_pos (by omega), if_pos (by omega), if_pos hd, w64 (x := l[i] - p) (by omega) (by omega), if_pos he]
        · rw [if_neg he]
          refine Ev.step (fun k => ?_) (ih (i + 1) l[i] (by omega) (by omega) (by omega))
          rw [start, if_neg (by omega), if_neg (by omega), w64 (x := l[i] - 1) (by omega) (by omega), if_pos (by omega), if_pos (by omega), if_pos hd, w64 (x := l[i] - p) (by omega) (by omega), if_neg he]
      · rw [if_neg hd]
        refine Ev.one (fun k => ?_)
        rw [start, if_neg (by omega), if_neg (by omega), w64 (x := l[i] - 1) (by omega) (by omega), if_pos (by omega), if_pos (by omega), if_neg hd]
    · rw [if_neg hc]
      refine Ev.one (fun k => ?_)
      rw [start]
      by_cases h : l[i] ≤ p
      · rw [if_pos h]
      · rw [if_neg h, if_pos (by omega)]

theorem impl_brk (f : List Bool) (m : Int) (l : List Int) (hf : f.length ≤ 1048576) (hl : l.length ≤ 1048576) : Ev (fun k => impl_AreBreaks.f k f m l) (brk f m 0 l) := impl_brk_ev f m l hf hl l.length 0 0 (by omega) (by omega) (by omega)
theorem rdSign_get (l : List S66) (i : Nat) (h : i < l.length) : rd_T66 l (i : Int) = l[i] := by
  simp [rd_T66, List.getD, List.getElem?_eq_getElem h]

/-- A sign of a part that begins at tick a, behind a rest or not. -/

def signOk (a : Int) (r : Bool) (x : S66) : Bool := decide (x.f0 = a ∧ (1 ≤ x.f1 ∧ x.f1 ≤ 3000) ∧ (¬ x.f2 = 0 → (21 ≤ x.f2 ∧ x.f2 ≤ 108) ∧ x.f1 ≤ 96) ∧ ¬ (x.f2 = 0 ∧ r = true))

def partL : Int → Bool → List S66 → Bool
  | _, _, [] => true
  | a, r, x :: l => signOk a r x && partL (a + x.f1) (decide (x.f2 = 0)) l

theorem impl_part_ev (l : List S66) (hl : l.length ≤ 1048576) (d : Nat) : ∀ (i : Nat) (a : Int) (p : Bool), i + d = l.length → 0 ≤ a → a ≤ 3000 * i → (i = 0 ∧ p = false ∨ ∃ h : i - 1 < l.length, 0 < i ∧ p = decide ((l[i - 1]).f2 = 0)) →
    Ev (fun k => impl_IsPart.l0 k l a l (l.length : Int) (i : Int)) (partL a p (l.drop i)) := by
  induction d with
  | zero =>
    intro i a p hi h0 h1 hp
    rw [List.drop_of_length_le (by omega)]
    refine Ev.one (fun k => ?_)
    simp only [impl_IsPart.l0, partL]
    rw [if_neg (by omega)]
  | succ d ih =>
    intro i a p hi h0 h1 hp
    have hlt : i < l.length := by omega
    rw [drop_cons l i hlt, partL]
    have hpi : i = 0 → p = false := by
      rintro rfl
      rcases hp with ⟨_, h⟩ | ⟨_, h, _⟩
      · exact h
      · omega
    have hpr : ∀ h : 0 < i, ∃ h2 : i - 1 < l.length, p = decide ((l[i - 1]).f2 = 0) := by
      intro h
      rcases hp with ⟨h3, _⟩ | ⟨h2, _, h3⟩
      · omega
      · exact ⟨h2, h3⟩
    by_cases hc : signOk a p l[i] = true
    · have hx : l[i].f0 = a ∧ (1 ≤ l[i].f1 ∧ l[i].f1 ≤ 3000) ∧ (¬ l[i].f2 = 0 → (21 ≤ l[i].f2 ∧ l[i].f2 ≤ 108) ∧ l[i].f1 ≤ 96) ∧ ¬ (l[i].f2 = 0 ∧ p = true) := by simpa only [signOk, decide_eq_true_eq] using hc
      rw [hc, Bool.true_and]
      refine Ev.step (fun k => ?_) (ih (i + 1) (a + l[i].f1) (decide (l[i].f2 = 0)) (by omega) (by omega) (by omega) (.inr ⟨by omega, by omega, rfl⟩))
      simp only [impl_IsPart.l0, inRange_eq, Option.bind_some]
      rw [if_pos (by omega), if_pos (by omega), if_pos (by omega), rdSign_get l i hlt, if_pos hx.1, if_pos (decide_eq_true hx.2.1), w64 (x := a + l[i].f1) (by omega) (by omega), w64_nat i (by omega)]
      by_cases h2 : l[i].f2 = 0
      · rw [if_pos h2]
        by_cases hi0 : 0 < i
        · obtain ⟨hi1, hpe⟩ := hpr hi0
          have hw : wrap64 ((i : Int) - 1) = ((i - 1 : Nat) : Int) := by unfold wrap64; omega
          have hn : ¬ (l[i - 1]).f2 = 0 := by
            intro h3
            exact hx.2.2.2 ⟨h2, by rw [hpe]; exact decide_eq_true h3⟩
          rw [if_pos (by omega), hw, if_pos (by omega), if_pos (by omega), rdSign_get l (i - 1) hi1, if_neg hn]
        · rw [if_neg (by omega)]
      · have h3 := hx.2.2.1 h2
        rw [if_neg h2, if_pos (decide_eq_true h3.1), if_neg (by omega)]
    · have hx : ¬ (l[i].f0 = a ∧ (1 ≤ l[i].f1 ∧ l[i].f1 ≤ 3000) ∧ (¬ l[i].f2 = 0 → (21 ≤ l[i].f2 ∧ l[i].f2 ≤ 108) ∧ l[i].f1 ≤ 96) ∧ ¬ (l[i].f2 = 0 ∧ p = true)) := by simpa only [signOk, decide_eq_true_eq] using hc
      rw [Bool.not_eq_true] at hc
      rw [hc, Bool.false_and]
      refine Ev.one (fun k => ?_)
      simp only [impl_IsPart.l0, inRange_eq, Option.bind_some]
      rw [if_pos (by omega), if_pos (by omega), if_pos (by omega), rdSign_get l i hlt]
      by_cases h1' : l[i].f0 = a
      · rw [if_pos h1']
        by_cases h2 : 1 ≤ l[i].f1 ∧ l[i].f1 ≤ 3000
        · rw [if_pos (decide_eq_true h2)]
          by_cases h3 : l[i].f2 = 0
          · rw [if_pos h3]
            have hpt : p = true := by
              cases p with
              | true => rfl
              | false => exact absurd ⟨h1', h2, fun h => absurd h3 h, by simp⟩ hx
            have hi0 : 0 < i := by
              rcases Nat.eq_zero_or_pos i with h | h
              · rw [hpi h] at hpt
                cases hpt
              · exact h
            obtain ⟨hi1, hpe⟩ := hpr hi0
            have hw : wrap64 ((i : Int) - 1) = ((i - 1 : Nat) : Int) := by unfold wrap64; omega
            rw [if_pos (by omega), hw, if_pos (by omega), if_pos (by omega), rdSign_get l (i - 1) hi1, if_pos (by rw [hpe] at hpt; simpa using hpt)]
          · rw [if_neg h3]
            by_cases h4 : 21 ≤ l[i].f2 ∧ l[i].f2 ≤ 108
            · rw [if_pos (decide_eq_true h4)]
              by_cases h5 : l[i].f1 > 96
              · rw [if_pos h5]
              · exact absurd ⟨h1', h2, fun _ => ⟨h4, by omega⟩, fun h => h3 h.1⟩ hx
            · rw [if_neg (by simpa using h4)]
        · rw [if_neg (by simpa using h2)]
      · rw [if_neg h1']

def isPart (l : List S66) : Bool := partL 0 false l

theorem impl_part (l : List S66) (hl : l.length ≤ 1048576) : Ev (fun k => impl_IsPart.f k l) (isPart l) := impl_part_ev l hl l.length 0 0 false (by omega) (by omega) (by omega) (.inl ⟨rfl, rfl⟩)

theorem partL_at (l : List S66) : ∀ (a : Int) (p : Bool) (m : Nat), partL a p l = true → 0 ≤ a → a ≤ 3000 * m → ∀ (i : Nat) (h : i < l.length), 0 ≤ l[i].f0 ∧ l[i].f0 ≤ 3000 * (m + i) ∧ 1 ≤ l[i].f1 ∧ l[i].f1 ≤ 3000 := by
  induction l with
  | nil => intro a p m _ _ _ i h; simp at h
  | cons x l ih =>
    intro a p m h h0 h1 i hi
    simp only [partL, Bool.and_eq_true, signOk, decide_eq_true_eq] at h
    cases i with
    | zero => simp only [List.getElem_cons_zero]; omega
    | succ i =>
      have := ih _ _ (m + 1) h.2 (by omega) (by omega) i (by simpa using hi)
      simp only [List.getElem_cons_succ]
      omega
def isMeter (b u : Int) : Bool := decide ((1 ≤ b ∧ b ≤ 12) ∧ (u = 1 ∨ u = 2 ∨ u = 4 ∨ u = 8))

/-- How many ticks a bar has. -/

def barLong (b u : Int) : Int := if isMeter b u = true then b * (48 / u) else 0

theorem impl_meter (b u : Int) : impl_IsMeter.f b u = some (isMeter b u) := by
  simp only [impl_IsMeter.f, inRange_eq, Option.bind_some, isMeter]
  by_cases h : 1 ≤ b ∧ b ≤ 12
  · rw [if_pos (decide_eq_true h)]
    by_cases h1 : u = 1
    · rw [if_pos h1]; exact congrArg some (decide_eq_true ⟨h, .inl h1⟩).symm
    · by_cases h2 : u = 2
      · rw [if_neg h1, if_pos h2]; exact congrArg some (decide_eq_true ⟨h, .inr (.inl h2)⟩).symm
      · by_cases h4 : u = 4
        · rw [if_neg h1, if_neg h2, if_pos h4]; exact congrArg some (decide_eq_true ⟨h, .inr (.inr (.inl h4))⟩).symm
        · rw [if_neg h1, if_neg h2, if_neg h4]
          by_cases h8 : u = 8
          · rw [decide_eq_true ⟨h, .inr (.inr (.inr h8))⟩, h8]; rfl
          · rw [decide_eq_false (by omega)]; exact congrArg some (beq_eq_false_iff_ne.2 h8)
  · rw [if_neg (by simpa using h), decide_eq_false (by omega)]

theorem isMeter_iff {b u : Int} (h : isMeter b u = true) : (1 ≤ b ∧ b ≤ 12) ∧ (u = 1 ∨ u = 2 ∨ u = 4 ∨ u = 8) := by simpa [isMeter] using h

theorem meter_div {b u : Int} (h : isMeter b u = true) : ¬ u = 0 ∧ 6 ≤ 48 / u ∧ 48 / u ≤ 48 ∧ wrap64 (Int.tdiv (48 : Int) u) = 48 / u ∧ wrap64 (b * (48 / u)) = b * (48 / u) ∧ 6 ≤ b * (48 / u) ∧ b * (48 / u) ≤ 576 := by
  obtain ⟨h1, h2⟩ := isMeter_iff h
  rcases h2 with rfl | rfl | rfl | rfl
  all_goals
    refine ⟨by omega, by omega, by omega, (w64 (by decide) (by decide)).trans (by decide), ?_, ?_, ?_⟩
    · simp only [show (48 : Int) / 1 = 48 from rfl, show (48 : Int) / 2 = 24 from rfl, show (48 : Int) / 4 = 12 from rfl, show (48 : Int) / 8 = 6 from rfl]
      exact w64 (by omega) (by omega)
    · simp only [show (48 : Int) / 1 = 48 from rfl, show (48 : Int) / 2 = 24 from rfl, show (48 : Int) / 4 = 12 from rfl, show (48 : Int) / 8 = 6 from rfl]
      omega
    · simp only [show (48 : Int) / 1 = 48 from rfl, show (48 : Int) / 2 = 24 from rfl, show (48 : Int) / 4 = 12 from rfl, show (48 : Int) / 8 = 6 from rfl]
      omega

theorem impl_bar (b u : Int) : impl_BarLong.f b u = some (barLong b u) := by
  simp only [impl_BarLong.f, impl_meter, Option.bind_some, barLong]
  split
  · rename_i h
    obtain ⟨h0, _, _, h1, h2, _⟩ := meter_div h
    simp only [impl_Meter_beat.f, h0, if_false, Option.bind_some]
    rw [h1, h2]
  · rfl

theorem barLong_bound (b u : Int) (h : isMeter b u = true) : 6 ≤ barLong b u ∧ barLong b u ≤ 576 := by
  obtain ⟨_, _, _, _, _, h1, h2⟩ := meter_div h
  unfold barLong
  rw [if_pos h]
  exact ⟨h1, h2⟩
/-- Is a stretch of ticks free? -/

def frOne (a b : Int) (c : Bool) (x : S66) : Bool := if c = true then (if x.f2 = 0 then true else if x.f0 + x.f1 ≤ a then true else decide (x.f0 ≥ b)) else false

def fr (a b : Int) : Bool → List S66 → Bool
  | c, [] => c
  | c, x :: l => fr a b (frOne a b c x) l

def frs (p : List S66) (L : Int) : Nat → Nat → List Bool → List Bool
  | _, 0, out => out
  | i, d + 1, out => frs p L (i + 1) d (out ++ [fr ((i : Int) * L) ((i : Int) * L + L) true p])

def freeR (p : List S66) (b u n : Int) : List Bool := if isPart p = true ∧ isMeter b u = true ∧ (0 ≤ n ∧ n ≤ 60) then frs p (barLong b u) 0 n.toNat [] else []

theorem part_at (p : List S66) (h : isPart p = true) (i : Nat) (hi : i < p.length) : 0 ≤ p[i].f0 ∧ p[i].f0 ≤ 3000 * i ∧ 1 ≤ p[i].f1 ∧ p[i].f1 ≤ 3000 := by
  have := partL_at p 0 false 0 h (by omega) (by omega) i hi
  omega

theorem bar_mul (i : Nat) (L : Int) (hi : i ≤ 60) (h0 : 6 ≤ L) (h1 : L ≤ 576) : 0 ≤ (i : Int) * L ∧ (i : Int) * L ≤ 34560 := by
  refine ⟨Int.mul_nonneg (by omega) (by omega), ?_⟩
  have h2 : (i : Int) * L ≤ 60 * L := Int.mul_le_mul_of_nonneg_right (by omega) (by omega)
  omega

theorem impl_fr_ev (p : List S66) (hp : p.length ≤ 1048576) (hP : isPart p = true) (L n : Int) (out : List Bool) (ho : out.length ≤ 60) (i : Nat) (hi : i < 60) (h0 : 6 ≤ L) (h576 : L ≤ 576) (r : List Bool)
    (next : ∀ c : Bool, c = fr ((i : Int) * L) ((i : Int) * L + L) true p → Ev (fun k => impl_FreeBars.l0 k p (out ++ [c]) L n ((i + 1 : Nat) : Int)) r) (d : Nat) : ∀ (j : Nat) (c : Bool), j + d = p.length → fr ((i : Int) * L) ((i : Int) * L + L) c (p.drop j) = fr ((i : Int) * L) ((i : Int) * L + L) true p →
    Ev (fun k => impl_FreeBars.l1 k p out L (i : Int) c n (i : Int) p (p.length : Int) (j : Int)) r := by
  have hm := bar_mul i L (by omega) h0 h576
  have hm2 := bar_mul (i + 1) L (by omega) h0 h576
  have hs : ((i + 1 : Nat) : Int) * L = (i : Int) * L + L := by
    rw [Int.natCast_add, Int.add_mul]
    simp
  induction d with
  | zero =>
    intro j c hj hc
    rw [List.drop_of_length_le (by omega)] at hc
    refine Ev.step (fun k => ?_) (next c hc)
    simp only [impl_FreeBars.l1]
    rw [if_neg (by omega), if_pos (by omega), w64_nat i (by omega)]
  | succ d ih =>
    intro j c hj hc
    have hlt : j < p.length := by omega
    have hx := part_at p hP j hlt
    rw [drop_cons p j hlt, fr] at hc
    refine Ev.step (fun k => ?_) (ih (j + 1) _ (by omega) hc)
    simp only [impl_FreeBars.l1]
    rw [if_pos (by omega), if_pos (by omega), if_pos (by omega), rdSign_get p j hlt, w64_nat j (by omega), w64_nat i (by omega), w64 (x := p[j].f0 + p[j].f1) (by omega) (by omega), w64 (x := (i : Int) * L) (by omega) (by omega), w64 (x := ((i + 1 : Nat) : Int) * L) (by omega) (by omega), hs]
    unfold frOne
    by_cases h1 : c = true
    · simp only [h1, if_true]
      by_cases h2 : p[j].f2 = 0
      · simp only [h2, if_true]
      · by_cases h3 : p[j].f0 + p[j].f1 ≤ (i : Int) * L
        · simp only [h2, h3, if_true, if_false]
        · simp only [h2, h3, if_false]
    · simp only [h1, Bool.false_eq_true, if_false]

theorem impl_frs_ev (p : List S66) (hp : p.length ≤ 1048576) (hP : isPart p = true) (L : Int) (h0 : 6 ≤ L) (h576 : L ≤ 576) (n : Nat) (hn : n ≤ 60) (d : Nat) : ∀ (i : Nat) (out : List Bool), i + d = n → out.length = i →
    Ev (fun k => impl_FreeBars.l0 k p out L (n : Int) (i : Int)) (frs p L i d out) := by
  induction d with
  | zero =>
    intro i out hi ho
    refine Ev.one (fun k => ?_)
    simp only [impl_FreeBars.l0, frs]
    rw [if_neg (by omega)]
  | succ d ih =>
    intro i out hi ho
    refine Ev.step (f := fun k => impl_FreeBars.l1 k p out L (i : Int) true (n : Int) (i : Int) p (p.length : Int) 0) (fun k => ?_) ?_
    · simp only [impl_FreeBars.l0]
      rw [if_pos (by omega)]
    · refine impl_fr_ev p hp hP L n out (by omega) i (by omega) h0 h576 _ ?_ p.length 0 true (by omega) rfl
      rintro c rfl
      rw [frs]
      exact ih (i + 1) _ (by omega) (by simp; omega)

theorem impl_freeR (p : List S66) (b u n : Int) (hp : p.length ≤ 1048576) : Ev (fun k => impl_FreeBars.f k p b u n) (freeR p b u n) := by
  have stop : ∀ c : Bool, c = true → Ev (fun k => impl_FreeBars.j0 k p n [] c b u) [] := by
    rintro c rfl
    exact Ev.one (fun k => by simp only [impl_FreeBars.j0, if_true])
  simp only [impl_FreeBars.f, impl_meter, inRange_eq, Option.bind_some]
  refine Ev.bind (impl_part p hp) ?_
  unfold freeR
  by_cases h0 : isPart p = true
  · by_cases h1 : isMeter b u = true
    · by_cases h2 : 0 ≤ n ∧ n ≤ 60
      · obtain ⟨m, rfl⟩ := Int.eq_ofNat_of_zero_le h2.1
        have hb := barLong_bound b u h1
        simp only [h0, h1, h2, and_self, decide_true, if_true, Bool.not_true, Int.toNat_natCast]
        refine Ev.step (fun k => ?_) (impl_frs_ev p hp h0 (barLong b u) hb.1 hb.2 m (by omega) m 0 [] (by omega) rfl)
        simp only [impl_FreeBars.j0, Bool.false_eq_true, if_false, impl_bar, Option.bind_some]
        rfl
      · simp only [h0, h1, h2, and_false, decide_false, if_true, if_false]
        exact stop _ rfl
    · simp only [h0, h1, false_and, and_false, Bool.false_eq_true, if_true, if_false]
      exact stop _ rfl
  · simp only [h0, false_and, Bool.false_eq_true, if_false]
    exact stop _ rfl

theorem frs_len (p : List S66) (L : Int) (d : Nat) : ∀ i out, (frs p L i d out).length = out.length + d := by
  induction d with
  | zero => intro i out; rfl
  | succ d ih => intro i out; rw [frs, ih]; simp; omega

theorem freeR_len (p : List S66) (b u n : Int) : (freeR p b u n).length ≤ 60 := by
  unfold freeR
  split
  · rename_i h
    rw [frs_len]
    simp
    omega
  · simp
def cmp3 (a b : Int) : Int := if a < b then -1 else if a > b then 1 else 0
theorem order_lt (a b : S60) : ((if cmp3 a.f0 b.f0 = 0 then (if cmp3 a.f3 b.f3 = 0 then cmp3 a.f2 b.f2 else cmp3 a.f3 b.f3) else cmp3 a.f0 b.f0) ≥ 0) ↔ ¬ evLt a b = true := by
  unfold cmp3 evLt
  repeat' split
  all_goals (simp <;> omega)
def endL : Int → List S60 → Int
  | n, [] => n
  | n, x :: l => endL (if x.f0 + x.f1 > n then x.f0 + x.f1 else n) l

def endR (l : List S60) : Int := if isScore l = true then endL 0 l else 0

theorem endL_bound (l : List S60) : ∀ n, 0 ≤ n → n ≤ 2096 → (∀ x ∈ l, 0 ≤ x.f0 + x.f1 ∧ x.f0 + x.f1 ≤ 2096) → 0 ≤ endL n l ∧ endL n l ≤ 2096 := by
  induction l with
  | nil => intro n h0 h1 _; exact ⟨h0, h1⟩
  | cons x l ih =>
    intro n h0 h1 hx
    have := hx x (by simp)
    rw [endL]
    exact ih _ (by split <;> omega) (by split <;> omega) (fun y hy => hx y (by simp [hy]))

theorem endR_bound (l : List S60) : 0 ≤ endR l ∧ endR l ≤ 2096 := by
  unfold endR
  split
  · rename_i h
    exact endL_bound l 0 (by omega) (by omega) (fun x hx => by have := isScore_at h x hx; omega)
  · omega

theorem spec_end (l : List S60) (hl : l.length ≤ 1048576) : Ev (fun k => spec_EndOf.f k l) (endR l) := by
  unfold endR
  by_cases hs : isScore l = true
  · rw [if_pos hs]
    have hlen := (isScore_iff hs).2
    have key : ∀ (d i : Nat) (n : Int), i + d = l.length → Ev (fun k => spec_EndOf.l0 k l n (i : Int)) (endL n (l.drop i)) := by
      intro d
      induction d with
      | zero =>
        intro i n hi
        rw [List.drop_of_length_le (by omega)]
        refine Ev.one (fun k => ?_)
        simp only [spec_EndOf.l0, endL]
        rw [if_neg (by omega)]
      | succ d ih =>
        intro i n hi
        have hlt : i < l.length := by omega
        have hx := isScore_at hs _ (List.getElem_mem hlt)
        rw [drop_cons l i hlt, endL]
        refine Ev.step (f := fun k => (spec_IsScore.f k l).bind fun t => if t = true then spec_EndOf.l0 k l (if l[i].f0 + l[i].f1 > n then l[i].f0 + l[i].f1 else n) ((i + 1 : Nat) : Int) else some n) (fun k => ?_) (Ev.bind (spec_score l hl) ?_)
        · have hc : 0 ≤ (i : Int) := by omega
          have hw : wrap64 (l[i].f0 + l[i].f1) = l[i].f0 + l[i].f1 := w64 (by omega) (by omega)
          have hm : spec_Max.f n (l[i].f0 + l[i].f1) = some (if l[i].f0 + l[i].f1 > n then l[i].f0 + l[i].f1 else n) := by
            unfold spec_Max.f
            split <;> rfl
          simp only [spec_EndOf.l0, hc, if_true, rdEvent_get l i hlt, hw, hm, Option.bind_some, w64_nat i (by omega : i ≤ 9223372036854775806)]
          rw [if_pos (by omega)]
        · simp only [hs, if_true]
          exact ih (i + 1) _ (by omega)
    exact key l.length 0 0 (by omega)
  · rw [if_neg hs]
    by_cases hz : l.length = 0
    · refine Ev.one (fun k => ?_)
      simp only [spec_EndOf.f, spec_EndOf.l0]
      rw [if_neg (by omega)]
    · refine Ev.step (f := fun k => (spec_IsScore.f k l).bind fun t => if t = true then (if (0 : Int) ≤ 0 then ((spec_Max.f 0 (wrap64 ((rd_T60 l 0).f0 + (rd_T60 l 0).f1))).bind fun t => spec_EndOf.l0 k l t (wrap64 (0 + 1))) else none) else some 0) (fun k => ?_) (Ev.bind (spec_score l hl) ?_)
      · simp only [spec_EndOf.f, spec_EndOf.l0]
        rw [if_pos (by omega)]
      · simp only [hs, Bool.false_eq_true, if_false]
        exact Ev.now _
def inV (v : Int) (x : S60) : Bool := decide (x.f3 = v)

theorem spec_voice_loop (l : List S60) (v : Int) (hl : l.length ≤ 1048576) (d : Nat) : ∀ (i : Nat) (o : List S60), i + d = l.length → o.length ≤ i → Ev (fun k => spec_VoiceOf.l0 k l v o (i : Int)) (o ++ (l.drop i).filter (inV v)) := by
  induction d with
  | zero =>
    intro i o h ho
    rw [List.drop_of_length_le (by omega)]
    refine Ev.one (fun k => ?_)
    simp only [spec_VoiceOf.l0]
    rw [if_neg (by omega)]
    simp
  | succ d ih =>
    intro i o h ho
    have hlt : i < l.length := by omega
    rw [drop_cons l i hlt]
    by_cases hc : l[i].f3 = v
    · refine Ev.step (fun k => ?_) (by rw [List.filter_cons_of_pos (by simp [inV, hc]), List.append_cons]; exact ih (i + 1) (o ++ [l[i]]) (by omega) (by simp; omega))
      simp only [spec_VoiceOf.l0]
      rw [if_pos (by omega), if_pos (by omega), rdEvent_get l i hlt, if_pos hc, if_pos (by omega), w64_nat i (by omega)]
    · refine Ev.step (fun k => ?_) (by rw [List.filter_cons_of_neg (by simp [inV, hc])]; exact ih (i + 1) o (by omega) (by omega))
      simp only [spec_VoiceOf.l0]
      rw [if_pos (by omega), if_pos (by omega), rdEvent_get l i hlt, if_neg hc, w64_nat i (by omega)]

theorem spec_voice (l : List S60) (v : Int) (hl : l.length ≤ 1048576) : Ev (fun k => spec_VoiceOf.f k l v) (l.filter (inV v)) := by
  have h := spec_voice_loop l v hl l.length 0 [] (by omega) (by simp)
  simpa [spec_VoiceOf.f] using h
def pageOf (b : Int) : List Int → Int → Int
  | [], n => n
  | x :: l, n => pageOf b l (if x < b then n + 1 else n)

theorem pageOf_all (b : Int) (l : List Int) : ∀ n : Int, (∀ x ∈ l, x < b) → pageOf b l n = n + (l.length : Int) := by
  induction l with
  | nil => intro n _; simp [pageOf]
  | cons x l ih =>
    intro n h
    rw [pageOf, if_pos (h x List.mem_cons_self), ih _ (fun y hy => h y (List.mem_cons_of_mem _ hy)), List.length_cons]
    omega

theorem impl_page_ev (l : List Int) (b : Int) (hl : l.length ≤ 1048576) (d : Nat) : ∀ (i : Nat) (n : Int), i + d = l.length → 0 ≤ n → n ≤ i + 1 → Ev (fun k => impl_PageOf.l0 k b n l (l.length : Int) (i : Int)) (pageOf b (l.drop i) n) := by
  induction d with
  | zero =>
    intro i n hi h0 h1
    rw [List.drop_of_length_le (by omega)]
    refine Ev.one (fun k => ?_)
    simp only [impl_PageOf.l0]
    rw [if_neg (by omega)]
    rfl
  | succ d ih =>
    intro i n hi h0 h1
    have hlt : i < l.length := by omega
    rw [drop_cons l i hlt]
    by_cases hc : l[i] < b
    · refine Ev.step (fun k => ?_) (by rw [pageOf, if_pos hc]; exact ih (i + 1) (n + 1) (by omega) (by omega) (by omega))
      simp only [impl_PageOf.l0]
      rw [if_pos (by omega), if_pos (by omega), if_pos (by omega), rd_get l i hlt, if_pos hc, w64_nat i (by omega), w64 (by omega) (by omega)]
    · refine Ev.step (fun k => ?_) (by rw [pageOf, if_neg hc]; exact ih (i + 1) n (by omega) (by omega) (by omega))
      simp only [impl_PageOf.l0]
      rw [if_pos (by omega), if_pos (by omega), if_pos (by omega), rd_get l i hlt, if_neg hc, w64_nat i (by omega)]

theorem page_all (F : List Bool) (m : Int) (r : List Int) (hr : r.length ≤ 60) (hb : brk F m 0 r = true) : Ev (fun k => impl_PageOf.f k r (F.length : Int)) ((r.length : Int) + 1) := by
  have := impl_page_ev r (F.length : Int) (by omega) r.length 0 1 (by omega) (by omega) (by omega)
  rw [List.drop_zero, pageOf_all _ _ _ (brk_below F m r 0 hb), Int.add_comm] at this
  exact this

theorem count_eq (r : List Int) (hr : r.length ≤ 60) : impl_CountPages.f r = some ((r.length : Int) + 1) := by
  simp only [impl_CountPages.f]
  rw [w64 (by omega) (by omega)]

theorem once_ev (c : List Int) (hc : c.length ≤ 1048576) (p s n : Int) (hp : At c p) : ∃ b p' s', spec_l1Once.f c p s n = some (b, p', s') ∧ At c p' := by
  obtain ⟨r, p', s', e, _, hp'⟩ := below_ev c hc p s n hp
  simp only [spec_l1Once.f, e, Option.bind_some]
  exact ⟨_, _, _, rfl, hp'⟩

theorem free_loop (c : List Int) (hc : c.length ≤ 1048576) (d : Nat) : ∀ (out : List Bool) (p s : Int), At c p → out.length + d ≤ 100 → ∃ o p' s', Ev (fun k => spec_l24Free.l0 k out (d : Int) c p s) (o, p', s') ∧ At c p' ∧ o.length = out.length + d := by
  induction d with
  | zero =>
    intro out p s hp _
    refine ⟨out, p, s, Ev.one (fun k => ?_), hp, rfl⟩
    simp only [spec_l24Free.l0]
    rw [if_neg (by omega)]
  | succ d ih =>
    intro out p s hp ho
    obtain ⟨b, p1, s1, e1, hp1⟩ := once_ev c hc p s 2 hp
    obtain ⟨o, p2, s2, e2, hp2, hl⟩ := ih (out ++ [b]) p1 s1 hp1 (by simp; omega)
    refine ⟨o, p2, s2, Ev.step (fun k => ?_) e2, hp2, by rw [hl]; simp; omega⟩
    simp only [spec_l24Free.l0, e1, Option.bind_some]
    rw [if_pos (by omega), if_pos (by omega), w64 (by omega) (by omega), show ((d + 1 : Nat) : Int) - 1 = (d : Int) by omega]

theorem free_ev (c : List Int) (hc : c.length ≤ 1048576) (p s : Int) (hp : At c p) : ∃ o p' s', Ev (fun k => spec_l24Free.f k c p s) (o, p', s') ∧ At c p' ∧ o.length ≤ 20 := by
  obtain ⟨r, p1, s1, e1, hr, hp1⟩ := below_ev c hc p s 20 hp
  obtain ⟨n, rfl⟩ := Int.eq_ofNat_of_zero_le hr.1
  obtain ⟨o, p2, s2, e2, hp2, hl⟩ := free_loop c hc n [] p1 s1 hp1 (by simp; omega)
  refine ⟨o, p2, s2, ?_, hp2, by rw [hl]; simp; omega⟩
  simp only [spec_l24Free.f, e1, Option.bind_some]
  exact e2

theorem pad_loop (c : List Int) (hc : c.length ≤ 1048576) (p s : Int) (hp : At c p) (d : Nat) : ∀ x : List Bool, x.length + d = 61 → ∃ o m, Ev (fun k => spec_DrawPageBreaks.l0 k x c p s) (o, m) ∧ o.length ≤ 61 := by
  induction d with
  | zero =>
    intro x hx
    obtain ⟨m, p1, s1, e1, _, _⟩ := int_ev c hc p s hp [1, 3, 4, 6, 60, 61, 0] (by simp)
    refine ⟨x, m, Ev.one (fun k => ?_), by omega⟩
    simp only [spec_DrawPageBreaks.l0, e1, Option.bind_some]
    rw [if_neg (by omega)]
  | succ d ih =>
    intro x hx
    obtain ⟨o, m, e, ho⟩ := ih (x ++ [true]) (by simp; omega)
    refine ⟨o, m, Ev.step (fun k => ?_) e, ho⟩
    simp only [spec_DrawPageBreaks.l0]
    rw [if_pos (by omega), if_pos (by omega)]

theorem drawPages_ev (c : List Int) (hc : c.length ≤ 1048576) : ∃ F m, Ev (fun k => spec_DrawPageBreaks.f k c) (F, m) ∧ F.length ≤ 61 := by
  obtain ⟨s, e0⟩ := new_ev c hc
  obtain ⟨o, p1, s1, e1, hp1, ho⟩ := free_ev c hc 0 s (at_zero c)
  obtain ⟨b, p2, s2, e2, hp2⟩ := once_ev c hc p1 s1 12 hp1
  cases b with
  | true =>
    obtain ⟨F, m, e3, hF⟩ := pad_loop c hc p2 s2 hp2 (61 - o.length) o (by omega)
    refine ⟨F, m, ?_, hF⟩
    simp only [spec_DrawPageBreaks.f]
    refine Ev.bind e0 ?_
    refine Ev.bind e1 ?_
    simp only [e2, Option.bind_some, if_true]
    exact e3
  | false =>
    obtain ⟨m, p3, s3, e3, _, _⟩ := int_ev c hc p2 s2 hp2 [1, 3, 4, 6, 60, 61, 0] (by simp)
    refine ⟨o, m, ?_, by omega⟩
    simp only [spec_DrawPageBreaks.f]
    refine Ev.bind e0 ?_
    refine Ev.bind e1 ?_
    simp only [e2, e3, Option.bind_some, Bool.false_eq_true, if_false]
    exact Ev.now _

theorem drawAre_ev (c : List Int) (hc : c.length ≤ 1048576) : ∃ F m x, Ev (fun k => spec_DrawAreBreaks.f k c) (F, m, x) ∧ F.length ≤ 61 ∧ x.length ≤ 60 := by
  obtain ⟨F, m, e0, hF⟩ := drawPages_ev c hc
  obtain ⟨s, e1⟩ := new_ev c hc
  obtain ⟨r, ok, hr, _, e2, _⟩ := pages_both F m (by omega)
  by_cases h : (r.length : Int) > 0
  · obtain ⟨b, p2, s2, e3, hp2⟩ := once_ev c hc 0 s 3 (at_zero c)
    cases b with
    | true =>
      obtain ⟨v, p3, s3, e4, _, _⟩ := int_ev c hc p2 s2 hp2 [0, 1, (F.length : Int), wrap64 ((rd r 0) + 1)] (by simp)
      refine ⟨F, m, r.set (0 : Int).toNat v, ?_, hF, by simp; omega⟩
      simp only [spec_DrawAreBreaks.f]
      refine Ev.bind e0 ?_
      refine Ev.bind e1 ?_
      refine Ev.bind e2 ?_
      simp only [h, e3, e4, Option.bind_some, if_true]
      exact Ev.now _
    | false =>
      refine ⟨F, m, r, ?_, hF, hr⟩
      simp only [spec_DrawAreBreaks.f]
      refine Ev.bind e0 ?_
      refine Ev.bind e1 ?_
      refine Ev.bind e2 ?_
      simp only [h, e3, Option.bind_some, Bool.false_eq_true, if_true, if_false]
      exact Ev.now _
  · refine ⟨F, m, r, ?_, hF, hr⟩
    simp only [spec_DrawAreBreaks.f]
    refine Ev.bind e0 ?_
    refine Ev.bind e1 ?_
    refine Ev.bind e2 ?_
    simp only [h, if_false]
    exact Ev.now _

theorem put_loop (l : List S60) (hl : l.length ≤ 1000) (a b c e : Int) (d : Nat) : ∀ i : Nat, i + d = l.length → ∃ o, Ev (fun k => spec_l8Put.l0 k l (i : Int) a b c e) o ∧ o.length = l.length + 1 := by
  induction d with
  | zero =>
    intro i hi
    refine ⟨(([] ++ l.take i) ++ [⟨a, b, c, e⟩]) ++ l.drop i, Ev.one (fun k => ?_), by simp; omega⟩
    simp only [spec_l8Put.l0, Option.bind_some, Int.toNat_natCast]
    rw [if_neg (by omega), if_pos (by omega), if_pos (by omega), if_pos (by simp; omega), if_pos (by simp; omega), if_pos (by simp; omega)]
  | succ d ih =>
    intro i hi
    have hb : spec_l8Before.f (rd_T60 l (i : Int)).f0 (rd_T60 l (i : Int)).f1 (rd_T60 l (i : Int)).f2 (rd_T60 l (i : Int)).f3 a b c e = some (evLt (rd_T60 l (i : Int)) ⟨a, b, c, e⟩) := spec_before (rd_T60 l (i : Int)) ⟨a, b, c, e⟩
    by_cases h : evLt (rd_T60 l (i : Int)) ⟨a, b, c, e⟩ = true
    · obtain ⟨o, eo, ho⟩ := ih (i + 1) (by omega)
      refine ⟨o, Ev.step (fun k => ?_) eo, ho⟩
      simp only [spec_l8Put.l0, hb, Option.bind_some, h, if_true]
      rw [if_pos (by omega), if_pos (by omega), w64_nat i (by omega)]
    · refine ⟨(([] ++ l.take i) ++ [⟨a, b, c, e⟩]) ++ l.drop i, Ev.one (fun k => ?_), by simp; omega⟩
      simp only [spec_l8Put.l0, hb, Option.bind_some, h, Bool.false_eq_true, if_false, Int.toNat_natCast]
      rw [if_pos (by omega), if_pos (by omega), if_pos (by omega), if_pos (by simp; omega), if_pos (by simp; omega), if_pos (by simp; omega)]

theorem putEvent_ev (l : List S60) (hl : l.length ≤ 1000) (a b c e : Int) : ∃ o z, Ev (fun k => spec_PutEvent.f k l a b c e) (o, z) ∧ o.length ≤ l.length + 1 := by
  obtain ⟨o, eo, ho⟩ := put_loop l hl a b c e l.length 0 (by omega)
  have es := spec_score o (by omega)
  by_cases h : isScore o = true
  · refine ⟨o, true, ?_, by omega⟩
    simp only [spec_PutEvent.f]
    refine Ev.bind (g := fun k => spec_l8Put.f k l a b c e) eo ?_
    refine Ev.bind es ?_
    simp only [h, if_true]
    exact Ev.now _
  · refine ⟨[] ++ l, false, ?_, by simp⟩
    simp only [spec_PutEvent.f]
    refine Ev.bind (g := fun k => spec_l8Put.f k l a b c e) eo ?_
    refine Ev.bind es ?_
    simp only [h, Bool.false_eq_true, if_false, Option.bind_some]
    rw [if_pos (by simp; omega)]
    exact Ev.now _

theorem tune_loop (c : List Int) (hc : c.length ≤ 1048576) (v : Int) (d : Nat) : ∀ (x : List S60) (t p s : Int), At c p → x.length + d ≤ 100 → ∃ o p' s', Ev (fun k => spec_l8Tune.l0 k v x t (d : Int) c p s) (o, p', s') ∧ At c p' ∧ o.length ≤ x.length + d := by
  induction d with
  | zero =>
    intro x t p s hp _
    refine ⟨x, p, s, Ev.one (fun k => ?_), hp, by omega⟩
    simp only [spec_l8Tune.l0]
    rw [if_neg (by omega)]
  | succ d ih =>
    intro x t p s hp hx
    obtain ⟨r1, p1, s1, e1, _, hp1⟩ := below_ev c hc p s 3 hp
    obtain ⟨r2, p2, s2, e2, _, hp2⟩ := below_ev c hc p1 s1 8 hp1
    obtain ⟨b, p3, s3, e3, hp3⟩ := once_ev c hc p2 s2 5 hp2
    obtain ⟨o, z, eo, ho⟩ := putEvent_ev x (by omega) t (wrap64 (6 * (wrap64 (1 + r1)))) (wrap64 (60 + r2)) v
    have hd : wrap64 (((d + 1 : Nat) : Int) - 1) = (d : Int) := by rw [w64 (by omega) (by omega)]; omega
    cases b with
    | true =>
      obtain ⟨o', p', s', e', hp', ho'⟩ := ih o (wrap64 ((wrap64 (t + (wrap64 (6 * (wrap64 (1 + r1)))))) + 12)) p3 s3 hp3 (by omega)
      refine ⟨o', p', s', Ev.step (f := fun k => (spec_PutEvent.f k x t (wrap64 (6 * (wrap64 (1 + r1)))) (wrap64 (60 + r2)) v).bind fun bt => spec_l8Tune.l0 k v bt.1 (wrap64 ((wrap64 (t + (wrap64 (6 * (wrap64 (1 + r1)))))) + 12)) (d : Int) c p3 s3) (fun k => ?_) (Ev.bind eo e'), hp', by omega⟩
      simp only [spec_l8Tune.l0, e1, e2, e3, Option.bind_some, if_true, hd]
      rw [if_pos (by omega)]
    | false =>
      obtain ⟨o', p', s', e', hp', ho'⟩ := ih o (wrap64 (t + (wrap64 (6 * (wrap64 (1 + r1)))))) p3 s3 hp3 (by omega)
      refine ⟨o', p', s', Ev.step (f := fun k => (spec_PutEvent.f k x t (wrap64 (6 * (wrap64 (1 + r1)))) (wrap64 (60 + r2)) v).bind fun bt => spec_l8Tune.l0 k v bt.1 (wrap64 (t + (wrap64 (6 * (wrap64 (1 + r1)))))) (d : Int) c p3 s3) (fun k => ?_) (Ev.bind eo e'), hp', by omega⟩
      simp only [spec_l8Tune.l0, e1, e2, e3, Option.bind_some, Bool.false_eq_true, if_false, hd]
      rw [if_pos (by omega)]

theorem tune_ev (c : List Int) (hc : c.length ≤ 1048576) (p s v : Int) (hp : At c p) : ∃ o p' s', Ev (fun k => spec_l8Tune.f k c p s v 9) (o, p', s') ∧ At c p' ∧ o.length ≤ 9 := by
  obtain ⟨r, p1, s1, e1, hr, hp1⟩ := below_ev c hc p s 9 hp
  obtain ⟨n, rfl⟩ := Int.eq_ofNat_of_zero_le hr.1
  obtain ⟨o, p2, s2, e2, hp2, hl⟩ := tune_loop c hc v n [] 0 p1 s1 hp1 (by simp; omega)
  simp only [List.length_nil] at hl
  refine ⟨o, p2, s2, ?_, hp2, by omega⟩
  simp only [spec_l8Tune.f, e1, Option.bind_some]
  exact e2

theorem part_end (x2 : Int) (x : List S66) (hx : x.length ≤ 1000) (a : Int) (z : Bool) : ∃ o y, Ev (fun k => spec_PartFrom.j2 k x2 x a z) (o, y) ∧ o.length ≤ x.length + 1 := by
  cases z with
  | true =>
    refine ⟨[], false, Ev.one (fun k => ?_), by simp⟩
    simp only [spec_PartFrom.j2, if_true]
  | false =>
    by_cases h : x2 > a
    · refine ⟨x ++ [⟨a, wrap64 (x2 - a), 0⟩], true, Ev.one (fun k => ?_), by simp⟩
      simp only [spec_PartFrom.j2, h, Bool.false_eq_true, if_true, if_false]
      rw [if_pos (by omega)]
    · refine ⟨x, true, Ev.one (fun k => ?_), by omega⟩
      simp only [spec_PartFrom.j2, h, Bool.false_eq_true, if_false]

theorem part_stop (l v : List S60) (hl : l.length ≤ 1000) (x2 : Int) (x : List S66) (hx : x.length ≤ 1000) (a i : Int) : ∃ o y, Ev (fun k => spec_PartFrom.j1 k l x2 x v a i false) (o, y) ∧ o.length ≤ x.length + 1 := by
  have es := spec_score l (by omega)
  have step : ∀ R, Ev (fun k => if isScore l = true then (if x2 < a then spec_PartFrom.j2 k x2 x a true else spec_PartFrom.j2 k x2 x a (decide (x2 > 2096))) else spec_PartFrom.j2 k x2 x a true) R → Ev (fun k => spec_PartFrom.j1 k l x2 x v a i false) R := by
    intro R h
    refine Ev.step (f := fun k => (spec_IsScore.f k l).bind fun t => if t = true then (if x2 < a then spec_PartFrom.j2 k x2 x a true else spec_PartFrom.j2 k x2 x a (decide (x2 > 2096))) else spec_PartFrom.j2 k x2 x a true) (fun k => ?_) (Ev.bind es h)
    simp only [spec_PartFrom.j1, Bool.false_eq_true, if_false]
  by_cases h1 : isScore l = true
  · by_cases h2 : x2 < a
    · obtain ⟨o, y, e, ho⟩ := part_end x2 x hx a true
      refine ⟨o, y, step _ ?_, ho⟩
      simp only [h1, h2, if_true]
      exact e
    · obtain ⟨o, y, e, ho⟩ := part_end x2 x hx a (decide (x2 > 2096))
      refine ⟨o, y, step _ ?_, ho⟩
      simp only [h1, h2, if_true, if_false]
      exact e
  · obtain ⟨o, y, e, ho⟩ := part_end x2 x hx a true
    refine ⟨o, y, step _ ?_, ho⟩
    simp only [h1, Bool.false_eq_true, if_false]
    exact e

theorem part_loop (l v : List S60) (hl : l.length ≤ 100) (hv : v.length ≤ 100) (x2 : Int) (d : Nat) : ∀ (i : Nat) (x : List S66) (a : Int), i + d = v.length → x.length ≤ 2 * i → ∃ o y, Ev (fun k => spec_PartFrom.l0 k l x2 x v a (i : Int)) (o, y) ∧ o.length ≤ 2 * v.length + 1 := by
  induction d with
  | zero =>
    intro i x a hi hx
    obtain ⟨o, y, e, ho⟩ := part_stop l v (by omega) x2 x (by omega) a (i : Int)
    refine ⟨o, y, Ev.step (fun k => ?_) e, by omega⟩
    simp only [spec_PartFrom.l0]
    rw [if_neg (by omega)]
  | succ d ih =>
    intro i x a hi hx
    have es := spec_score l (by omega)
    have step : ∀ R, Ev (fun k => spec_PartFrom.j1 k l x2 x v a (i : Int) (isScore l)) R → Ev (fun k => spec_PartFrom.l0 k l x2 x v a (i : Int)) R := by
      intro R h
      refine Ev.step (f := fun k => (spec_IsScore.f k l).bind fun t => spec_PartFrom.j1 k l x2 x v a (i : Int) t) (fun k => ?_) (Ev.bind es h)
      simp only [spec_PartFrom.l0]
      rw [if_pos (by omega)]
    by_cases hs : isScore l = true
    · rw [hs] at step
      by_cases h1 : (rd_T60 v (i : Int)).f0 < a
      · refine ⟨[], false, step _ (Ev.one (fun k => ?_)), by simp⟩
        simp only [spec_PartFrom.j1, if_true, h1]
        rw [if_pos (by omega), if_pos (by omega)]
      · by_cases h2 : (rd_T60 v (i : Int)).f0 > a
        · obtain ⟨o, y, e, ho⟩ := ih (i + 1) ((x ++ [⟨a, wrap64 ((rd_T60 v (i : Int)).f0 - a), 0⟩]) ++ [⟨(rd_T60 v (i : Int)).f0, (rd_T60 v (i : Int)).f1, (rd_T60 v (i : Int)).f2⟩]) (wrap64 ((rd_T60 v (i : Int)).f0 + (rd_T60 v (i : Int)).f1)) (by omega) (by simp; omega)
          refine ⟨o, y, step _ (Ev.step (fun k => ?_) e), ho⟩
          simp only [spec_PartFrom.j1, if_true, h1, h2, if_false, Option.bind_some]
          rw [if_pos (by omega), if_pos (by omega), if_pos (by omega), if_pos (by simp; omega), w64_nat i (by omega)]
        · obtain ⟨o, y, e, ho⟩ := ih (i + 1) (x ++ [⟨(rd_T60 v (i : Int)).f0, (rd_T60 v (i : Int)).f1, (rd_T60 v (i : Int)).f2⟩]) (wrap64 ((rd_T60 v (i : Int)).f0 + (rd_T60 v (i : Int)).f1)) (by omega) (by simp; omega)
          refine ⟨o, y, step _ (Ev.step (fun k => ?_) e), ho⟩
          simp only [spec_PartFrom.j1, if_true, h1, h2, if_false]
          rw [if_pos (by omega), if_pos (by omega), if_pos (by omega), w64_nat i (by omega)]
    · rw [Bool.eq_false_iff.2 hs] at step
      obtain ⟨o, y, e, ho⟩ := part_stop l v (by omega) x2 x (by omega) a (i : Int)
      exact ⟨o, y, step _ e, by omega⟩

theorem partFrom_ev (l : List S60) (hl : l.length ≤ 100) (v n : Int) : ∃ o y, Ev (fun k => spec_PartFrom.f k l v n) (o, y) ∧ o.length ≤ 2 * l.length + 1 := by
  have hf : (l.filter (inV v)).length ≤ l.length := List.length_filter_le _ _
  obtain ⟨o, y, e, ho⟩ := part_loop l (l.filter (inV v)) hl (by omega) n (l.filter (inV v)).length 0 [] 0 (by omega) (by simp)
  refine ⟨o, y, ?_, by omega⟩
  simp only [spec_PartFrom.f]
  exact Ev.bind (spec_voice l v (by omega)) e

theorem raw_ev (c : List Int) (hc : c.length ≤ 1048576) (p s : Int) (hp : At c p) : ∃ r p' s', spec_l4Raw.f c p s = some (r, p', s') ∧ At c p' := by
  obtain ⟨r, p', s', e, _, hp'⟩ := int_ev c hc p s hp [(-1), 0, 1, 1000000000, (-1000000000), 1000000001, 1000000, 1000001, 9223372036854775807, (-9223372036854775808)] (by simp)
  simp only [spec_l4Raw.f, e, Option.bind_some]
  exact ⟨_, _, _, rfl, hp'⟩

theorem drawPart_ev (c : List Int) (hc : c.length ≤ 1048576) (p s : Int) (hp : At c p) : ∃ o p' s', Ev (fun k => spec_l13Part.f k c p s) (o, p', s') ∧ At c p' ∧ o.length ≤ 100 := by
  obtain ⟨l, p1, s1, e1, hp1, hl⟩ := tune_ev c hc p s 1 hp
  have e2 := spec_end l (by omega)
  obtain ⟨r3, p3, s3, e3, _, hp3⟩ := below_ev c hc p1 s1 30 hp1
  obtain ⟨o, y, e4, ho⟩ := partFrom_ev l (by omega) 1 (wrap64 (endR l + r3))
  by_cases h : (o.length : Int) > 0
  · obtain ⟨q, p5, s5, e5, hq, hp5⟩ := below_ev c hc p3 s3 (o.length : Int) hp3
    obtain ⟨r6, p6, s6, e6, _, hp6⟩ := below_ev c hc p5 s5 9 hp5
    have hq1 : q < (o.length : Int) := by omega
    by_cases h0 : r6 = 0
    · obtain ⟨v, p7, s7, e7, hp7⟩ := raw_ev c hc p6 s6 hp6
      refine ⟨o.set (q : Int).toNat (⟨v, (rd_T66 o q).f1, (rd_T66 o q).f2⟩ : S66), p7, s7, ?_, hp7, by simp only [List.length_set]; omega⟩
      simp only [spec_l13Part.f]
      refine Ev.bind e1 ?_
      refine Ev.bind e2 ?_
      simp only [e3, Option.bind_some]
      refine Ev.bind e4 ?_
      simp only [h, e5, e6, e7, h0, hq.1, hq1, Option.bind_some, if_true]
      exact Ev.now _
    · by_cases h1 : r6 = 1
      · obtain ⟨v, p7, s7, e7, _, hp7⟩ := int_ev c hc p6 s6 hp6 [0, 96, 97, 3000, 3001] (by simp)
        refine ⟨o.set (q : Int).toNat (⟨(rd_T66 o q).f0, v, (rd_T66 o q).f2⟩ : S66), p7, s7, ?_, hp7, by simp only [List.length_set]; omega⟩
        simp only [spec_l13Part.f]
        refine Ev.bind e1 ?_
        refine Ev.bind e2 ?_
        simp only [e3, Option.bind_some]
        refine Ev.bind e4 ?_
        simp only [h, e5, e6, e7, h1, hq.1, hq1, Option.bind_some, if_true]
        rw [if_neg (by decide)]
        exact Ev.now _
      · by_cases h2 : r6 = 2
        · obtain ⟨v, p7, s7, e7, _, hp7⟩ := int_ev c hc p6 s6 hp6 [0, 20, 109] (by simp)
          refine ⟨o.set (q : Int).toNat (⟨(rd_T66 o q).f0, (rd_T66 o q).f1, v⟩ : S66), p7, s7, ?_, hp7, by simp only [List.length_set]; omega⟩
          simp only [spec_l13Part.f]
          refine Ev.bind e1 ?_
          refine Ev.bind e2 ?_
          simp only [e3, Option.bind_some]
          refine Ev.bind e4 ?_
          simp only [h, e5, e6, e7, h2, hq.1, hq1, Option.bind_some, if_true]
          rw [if_neg (by decide), if_neg (by decide)]
          exact Ev.now _
        · refine ⟨o, p6, s6, ?_, hp6, by omega⟩
          simp only [spec_l13Part.f]
          refine Ev.bind e1 ?_
          refine Ev.bind e2 ?_
          simp only [e3, Option.bind_some]
          refine Ev.bind e4 ?_
          simp only [h, e5, e6, h0, h1, h2, Option.bind_some, if_true, if_false]
          exact Ev.now _
  · refine ⟨o, p3, s3, ?_, hp3, by omega⟩
    simp only [spec_l13Part.f]
    refine Ev.bind e1 ?_
    refine Ev.bind e2 ?_
    simp only [e3, Option.bind_some]
    refine Ev.bind e4 ?_
    simp only [h, if_false]
    exact Ev.now _

theorem drawMeter_ev (c : List Int) (hc : c.length ≤ 1048576) (p s : Int) (hp : At c p) : ∃ b u p' s', spec_l10Any.f c p s = some (b, u, p', s') ∧ At c p' := by
  obtain ⟨r1, p1, s1, e1, _, hp1⟩ := below_ev c hc p s 4 hp
  obtain ⟨u, p2, s2, e2, _, hp2⟩ := int_ev c hc p1 s1 hp1 [4, 4, 4, 8, 2] (by simp)
  obtain ⟨r3, p3, s3, e3, _, hp3⟩ := below_ev c hc p2 s2 9 hp2
  simp only [spec_l10Any.f, spec_l10Draw.f, e1, e2, e3, Option.bind_some]
  by_cases h0 : r3 = 0
  · obtain ⟨v, p4, s4, e4, _, hp4⟩ := int_ev c hc p3 s3 hp3 [0, 12, 13] (by simp)
    simp only [h0, e4, if_true, Option.bind_some]
    exact ⟨_, _, _, _, rfl, hp4⟩
  · by_cases h1 : r3 = 1
    · obtain ⟨v, p4, s4, e4, _, hp4⟩ := int_ev c hc p3 s3 hp3 [0, 1, 3, 16] (by simp)
      simp only [h1, e4, if_true, Option.bind_some]
      rw [if_neg (by decide)]
      exact ⟨_, _, _, _, rfl, hp4⟩
    · simp only [h0, h1, if_false]
      exact ⟨_, _, _, _, rfl, hp3⟩

theorem drawBars_ev (c : List Int) (hc : c.length ≤ 1048576) : ∃ o b u n, Ev (fun k => spec_DrawFreeBars.f k c) (o, b, u, n) ∧ o.length ≤ 100 := by
  obtain ⟨s, e0⟩ := new_ev c hc
  obtain ⟨o, p1, s1, e1, hp1, ho⟩ := drawPart_ev c hc 0 s (at_zero c)
  obtain ⟨b, u, p2, s2, e2, hp2⟩ := drawMeter_ev c hc p1 s1 hp1
  obtain ⟨n, p3, s3, e3, _, _⟩ := int_ev c hc p2 s2 hp2 [0, 2, 5, 8, 60, 61, (-1)] (by simp)
  refine ⟨o, b, u, n, ?_, ho⟩
  simp only [spec_DrawFreeBars.f]
  refine Ev.bind e0 ?_
  refine Ev.bind e1 ?_
  simp only [e2, e3, Option.bind_some]
  exact Ev.now _

/-- The events of a part. -/
def evs (v : Int) : List S66 → List S60
  | [] => []
  | x :: l => if x.f2 = 0 then evs v l else ⟨x.f0, x.f1, x.f2, v⟩ :: evs v l

theorem evs_from (v : Int) (l : List S66) : ∀ e ∈ evs v l, ∃ x ∈ l, ¬ x.f2 = 0 ∧ e.f0 = x.f0 := by
  induction l with
  | nil => intro e he; cases he
  | cons x l ih =>
    intro e he
    rw [evs] at he
    split at he
    · obtain ⟨y, hy, h⟩ := ih e he
      exact ⟨y, List.mem_cons_of_mem _ hy, h⟩
    · rename_i h2
      rcases List.mem_cons.1 he with rfl | he
      · exact ⟨x, List.mem_cons_self, h2, rfl⟩
      · obtain ⟨y, hy, h⟩ := ih e he
        exact ⟨y, List.mem_cons_of_mem _ hy, h⟩

theorem evs_len (v : Int) (l : List S66) : (evs v l).length ≤ l.length := by
  induction l with
  | nil => simp [evs]
  | cons x l ih =>
    rw [evs]
    split
    · simp
      omega
    · simp
      omega

theorem events_loop (v : Int) (l : List S66) (hl : l.length ≤ 1000) (d : Nat) : ∀ (i : Nat) (o : List S60), i + d = l.length → o.length ≤ i → Ev (fun k => impl_EventsOf.l0 k v o l (l.length : Int) (i : Int)) (o ++ evs v (l.drop i)) := by
  induction d with
  | zero =>
    intro i o hi ho
    rw [List.drop_of_length_le (by omega), evs, List.append_nil]
    refine Ev.one (fun k => ?_)
    simp only [impl_EventsOf.l0]
    rw [if_neg (by omega)]
  | succ d ih =>
    intro i o hi ho
    have hlt : i < l.length := by omega
    rw [drop_cons l i hlt, evs]
    by_cases h : l[i].f2 = 0
    · rw [if_pos h]
      refine Ev.step (fun k => ?_) (ih (i + 1) o (by omega) (by omega))
      simp only [impl_EventsOf.l0]
      rw [if_pos (by omega), if_pos (by omega), if_pos (by omega), rdSign_get l i hlt, if_pos h, w64_nat i (by omega)]
    · rw [if_neg h]
      have := ih (i + 1) (o ++ [⟨l[i].f0, l[i].f1, l[i].f2, v⟩]) (by omega) (by simp; omega)
      rw [List.append_assoc, List.singleton_append] at this
      refine Ev.step (fun k => ?_) this
      simp only [impl_EventsOf.l0]
      rw [if_pos (by omega), if_pos (by omega), if_pos (by omega), rdSign_get l i hlt, if_neg h, if_pos (by omega), w64_nat i (by omega)]

theorem events_ev (l : List S66) (hl : l.length ≤ 1000) (v : Int) : Ev (fun k => impl_EventsOf.f k l v) (if isPart l = true then evs v l else []) := by
  simp only [impl_EventsOf.f, Option.bind_some]
  refine Ev.bind (impl_part l (by omega)) ?_
  by_cases h : isPart l = true
  · simp only [h, if_true]
    exact events_loop v l hl l.length 0 [] (by omega) (by simp)
  · simp only [h, if_false, Bool.false_eq_true]
    exact Ev.now _

theorem fr_false (a b : Int) (l : List S66) : fr a b false l = false := by
  induction l with
  | nil => rfl
  | cons x l ih => rw [fr]; exact ih

theorem fr_hit (a b : Int) (l : List S66) : ∀ c : Bool, (∃ x ∈ l, ¬ x.f2 = 0 ∧ a < x.f0 + x.f1 ∧ x.f0 < b) → fr a b c l = false := by
  induction l with
  | nil => rintro c ⟨x, hx, _⟩; cases hx
  | cons y l ih =>
    rintro c ⟨x, hx, h0, h1, h2⟩
    rw [fr]
    rcases List.mem_cons.1 hx with rfl | hx
    · have e : frOne a b c x = false := by
        unfold frOne
        by_cases hc : c = true
        · rw [if_pos hc, if_neg h0, if_neg (by omega)]
          exact decide_eq_false (by omega)
        · rw [if_neg hc]
      rw [e]
      exact fr_false a b l
    · exact ih _ ⟨x, hx, h0, h1, h2⟩

theorem frs_keep (p : List S66) (L : Int) (d : Nat) : ∀ (i : Nat) (out : List Bool) (j : Nat), j < out.length → (frs p L i d out).getD j false = out.getD j false := by
  induction d with
  | zero => intro i out j _; rfl
  | succ d ih =>
    intro i out j hj
    rw [frs, ih _ _ j (by simp; omega)]
    simp [List.getD, List.getElem?_append_left hj]

theorem frs_get (p : List S66) (L : Int) (d : Nat) : ∀ (i : Nat) (out : List Bool) (j : Nat), out.length = i → i ≤ j → j < i + d → (frs p L i d out).getD j false = fr ((j : Int) * L) ((j : Int) * L + L) true p := by
  induction d with
  | zero => intro i out j _ h1 h2; omega
  | succ d ih =>
    intro i out j ho h1 h2
    rw [frs]
    rcases Nat.eq_or_lt_of_le h1 with rfl | h3
    · rw [frs_keep p L d _ _ _ (by simp; omega)]
      subst ho
      simp [List.getD]
    · exact ih (i + 1) _ j (by simp; omega) (by omega) (by omega)

theorem bars_loop (fl : List Bool) (es : List S60) (b u n : Int) (hf : fl.length ≤ 60) (hes : es.length ≤ 1000) (hend : fl.length = 0 ∨ (fl.length : Int) = n)
    (h : ∀ e ∈ es, (0 ≤ e.f0 ∧ e.f0 ≤ 1000000) ∧ (isMeter b u = true → ∀ q : Nat, (q : Int) = e.f0 / barLong b u → q < fl.length → fl.getD q false = false)) (d : Nat) : ∀ i : Nat, i + d = es.length → Ev (fun k => laws_FnPages.l0 k n fl es (i : Int) b u) true := by
  induction d with
  | zero =>
    intro i hi
    refine Ev.one (fun k => ?_)
    simp only [laws_FnPages.l0]
    rw [if_neg (by omega)]
    by_cases h0 : (fl.length : Int) = 0
    · rw [if_pos h0]
    · rw [if_neg h0, show (fl.length : Int) = n by omega, beq_self_eq_true]
  | succ d ih =>
    intro i hi
    have hlt : i < es.length := by omega
    obtain ⟨hx, hq⟩ := h _ (List.getElem_mem hlt)
    have hnext := ih (i + 1) (by omega)
    have hskip : Ev (fun k => laws_FnPages.j7 k n fl es (i : Int) false b u) true := by
      refine Ev.step (fun k => ?_) hnext
      simp only [laws_FnPages.j7]
      rw [if_neg (by decide), w64_nat i (by omega)]
    by_cases hM : isMeter b u = true
    · have hb := barLong_bound b u hM
      have e1 : Int.tdiv es[i].f0 (barLong b u) = es[i].f0 / barLong b u := Int.tdiv_eq_ediv_of_nonneg hx.1
      have hd0 : 0 ≤ es[i].f0 / barLong b u := Int.ediv_nonneg hx.1 (by omega)
      have hd1 : es[i].f0 / barLong b u ≤ es[i].f0 := Int.ediv_le_self _ hx.1
      have hq2 := hq hM
      generalize es[i].f0 / barLong b u = t at hq2 hd0 hd1 e1
      obtain ⟨q, rfl⟩ := Int.eq_ofNat_of_zero_le hd0
      by_cases h3 : (fl.length : Int) > (q : Int)
      · have := hq2 q rfl (by omega)
        refine Ev.step (f := fun k => laws_FnPages.j7 k n fl es (i : Int) false b u) (fun k => ?_) hskip
        simp only [laws_FnPages.l0, impl_bar, Option.bind_some]
        rw [if_pos (by omega), if_pos (by omega), if_pos (by omega), if_neg (by omega), rdEvent_get es i hlt, e1, w64 (x := (q : Int)) (by omega) (by omega), if_pos h3, if_neg (by omega), if_pos (by omega), if_pos (by omega), rdbg, this]
      · refine Ev.step (fun k => ?_) hskip
        simp only [laws_FnPages.l0, impl_bar, Option.bind_some]
        rw [if_pos (by omega), if_pos (by omega), if_pos (by omega), if_neg (by omega), rdEvent_get es i hlt, e1, w64 (x := (q : Int)) (by omega) (by omega), if_neg h3]
    · have e0 : barLong b u = 0 := by unfold barLong; rw [if_neg hM]
      refine Ev.step (fun k => ?_) hskip
      simp only [laws_FnPages.l0, impl_bar, Option.bind_some]
      rw [if_pos (by omega), e0, if_neg (by decide)]

theorem last_ev (c : List Int) (hc : c.length ≤ 1048576) : Ev (fun k => laws_FnPages.j5 k c) true := by
  obtain ⟨p, b, u, n, e0, hp⟩ := drawBars_ev c hc
  have e1 := impl_freeR p b u n (by omega)
  have e2 := events_ev p (by omega) 1
  have hel := evs_len 1 p
  have hfl := freeR_len p b u n
  have hloop : Ev (fun k => laws_FnPages.l0 k n (freeR p b u n) (if isPart p = true then evs 1 p else []) ((0 : Nat) : Int) b u) true := by
    refine bars_loop _ _ b u n hfl (by split; · omega
                                       · simp) ?_ ?_ _ 0 (Nat.zero_add _)
    · unfold freeR
      split
      · rename_i h
        rw [frs_len]
        simp
        omega
      · exact .inl rfl
    · intro e he
      by_cases hP : isPart p = true
      · rw [if_pos hP] at he
        obtain ⟨x, hx, hx2, hxe⟩ := evs_from 1 p e he
        obtain ⟨j, hj, rfl⟩ := List.getElem_of_mem hx
        have hat := part_at p hP j hj
        rw [hxe]
        refine ⟨by omega, fun hM q hqe hql => ?_⟩
        have hb := barLong_bound b u hM
        unfold freeR at hql ⊢
        split at hql
        · rename_i h
          rw [if_pos h]
          rw [frs_len] at hql
          simp only [List.length_nil, Nat.zero_add] at hql
          rw [frs_get p _ _ 0 [] q rfl (by omega) (by omega)]
          refine fr_hit _ _ p true ⟨p[j], List.getElem_mem hj, hx2, ?_, ?_⟩
          · have := Int.ediv_mul_le p[j].f0 (show barLong b u ≠ 0 by omega)
            rw [← hqe] at this
            omega
          · have := Int.lt_ediv_add_one_mul_self p[j].f0 (show 0 < barLong b u by omega)
            rw [← hqe, Int.add_mul, Int.one_mul] at this
            exact this
        · simp at hql
      · rw [if_neg hP] at he
        cases he
  refine Ev.step (f := fun k => (spec_DrawFreeBars.f k c).bind fun bt556 => ((impl_FreeBars.f k bt556.1 bt556.2.1 bt556.2.2.1 bt556.2.2.2).bind fun t563 => ((impl_EventsOf.f k bt556.1 1).bind fun t566 => (laws_FnPages.l0 k bt556.2.2.2 t563 t566 0 bt556.2.1 bt556.2.2.1)))) (fun k => by simp only [laws_FnPages.j5]) ?_
  refine Ev.bind e0 ?_
  refine Ev.bind e1 ?_
  refine Ev.bind e2 ?_
  exact hloop

theorem few_ev (c : List Int) (hc : c.length ≤ 1048576) : Ev (fun k => laws_FnPages.j2 k c) true := by
  have hlast := last_ev c hc
  obtain ⟨F, m, x, e0, hF, hx⟩ := drawAre_ev c hc
  have e1 := impl_brk F m x (by omega) (by omega)
  obtain ⟨r, ok, hr, hfew, _, e2⟩ := pages_both F m (by omega)
  have skip : Ev (fun k => laws_FnPages.j3 k c F m x false) true := Ev.step (fun k => by simp only [laws_FnPages.j3, Bool.false_eq_true, if_false]) hlast
  refine Ev.step (f := fun k => (spec_DrawAreBreaks.f k c).bind fun bt542 => ((impl_AreBreaks.f k bt542.1 bt542.2.1 bt542.2.2).bind fun t549 => (if t549 = true then (if (bt542.1.length : Int) ≤ 60 then (if bt542.2.1 ≥ 1 then (laws_FnPages.j3 k c bt542.1 bt542.2.1 bt542.2.2 (decide (bt542.2.1 ≤ 60))) else (laws_FnPages.j3 k c bt542.1 bt542.2.1 bt542.2.2 false)) else (laws_FnPages.j3 k c bt542.1 bt542.2.1 bt542.2.2 false)) else (laws_FnPages.j3 k c bt542.1 bt542.2.1 bt542.2.2 false)))) (fun k => by simp only [laws_FnPages.j2]) ?_
  refine Ev.bind e0 ?_
  refine Ev.bind e1 ?_
  by_cases h1 : brk F m 0 x = true
  · by_cases h2 : (F.length : Int) ≤ 60
    · by_cases h3 : m ≥ 1
      · by_cases h4 : m ≤ 60
        · obtain ⟨h5, h6⟩ := hfew.2.2 (by omega) h3 h4 x h1
          simp only [h1, h2, h3, h4, decide_true, if_true]
          refine Ev.step (f := fun k => (impl_PageBreaks.f k F m).bind fun bt550 => (if bt550.2 = true then ((impl_CountPages.f bt550.1).bind fun t554 => ((impl_CountPages.f x).bind fun t555 => (laws_FnPages.j4 k c (decide (t554 > t555))))) else (laws_FnPages.j4 k c true))) (fun k => by simp only [laws_FnPages.j3, if_true]) ?_
          refine Ev.bind e2 ?_
          have n1 : ¬ ((r.length : Int) + 1 > (x.length : Int) + 1) := by omega
          simp only [h5, if_true, count_eq r hr, count_eq x hx, Option.bind_some, n1, decide_false]
          exact Ev.step (fun k => by simp only [laws_FnPages.j4, Bool.false_eq_true, if_false]) hlast
        · simp only [h1, h2, h3, h4, decide_false, if_true]
          exact skip
      · simp only [h1, h2, h3, if_true, if_false]
        exact skip
    · simp only [h1, h2, if_true, if_false]
      exact skip
  · simp only [h1, if_false]
    exact skip

theorem wide_ev (c : List Int) (hc : c.length ≤ 1048576) (F : List Bool) (m : Int) (r : List Int) (hr : r.length ≤ 60) (hm0 : 1 ≤ m) (hm : m ≤ 60) (hF : F.length ≤ 60) (hb : brk F m 0 r = true) : Ev (fun k => laws_FnPages.j0 k c F m r true false) true := by
  have hnext : Ev (fun k => laws_FnPages.j1 k c false) true := Ev.step (fun k => by simp only [laws_FnPages.j1, Bool.false_eq_true, if_false]) (few_ev c hc)
  have e2 := page_all F m r hr hb
  obtain ⟨w, ok, hw, hfew, _, e1⟩ := pages_both F (m + 1) (by omega)
  refine Ev.step (f := fun k => (impl_PageBreaks.f k F (m + 1)).bind fun bt532 => (if bt532.2 = true then ((impl_CountPages.f bt532.1).bind fun t536 => ((impl_CountPages.f r).bind fun t537 => (if t536 > t537 then (laws_FnPages.j1 k c true) else ((impl_PageOf.f k r (F.length : Int)).bind fun t538 => ((impl_CountPages.f r).bind fun t539 => (if t538 = t539 then (laws_FnPages.j1 k c false) else (laws_FnPages.j1 k c (decide ((F.length : Int) > 0))))))))) else ((impl_PageOf.f k r (F.length : Int)).bind fun t540 => ((impl_CountPages.f r).bind fun t541 => (if t540 = t541 then (laws_FnPages.j1 k c false) else (laws_FnPages.j1 k c (decide ((F.length : Int) > 0))))))) ) (fun k => ?_) ?_
  · simp only [laws_FnPages.j0, Bool.false_eq_true, if_false, if_true]
    rw [w64 (x := m + 1) (by omega) (by omega)]
  · refine Ev.bind e1 ?_
    by_cases h : ok = true
    · obtain ⟨_, _, hm1, _⟩ := hfew.1 h
      have hmin := (hfew.2.2 hF (by omega) hm1 r (brk_more F m r 0 hb)).2
      have n1 : ¬ ((w.length : Int) + 1 > (r.length : Int) + 1) := by omega
      simp only [h, if_true, count_eq w hw, count_eq r hr, Option.bind_some, n1, if_false]
      refine Ev.bind e2 ?_
      simp only [if_true]
      exact hnext
    · simp only [h, if_false, count_eq r hr, Option.bind_some]
      refine Ev.bind e2 ?_
      simp only [if_true]
      exact hnext

theorem FnPages : ∀ (l0 : List Int), (l0.length ≤ maxLen ∧ l0.length * 1 ≤ 140737488351232 ∧ ∀ l0' ∈ l0, (Lit.int .u8 l0').wf = true) → ∃ k, laws_FnPages.f k l0 = some true := by
  intro c h0
  refine Ev.rounds (g := fun k => laws_FnPages.f k c) ?_
  simp only [laws_FnPages.f, laws_big.f, Option.bind_some]
  by_cases hb : (c.length : Int) > 1048576
  · simp only [hb, decide_true, if_true]
    exact Ev.now true
  · have hc : c.length ≤ 1048576 := by omega
    simp only [hb, decide_false, Bool.false_eq_true, if_false]
    obtain ⟨F, m, e0, hF⟩ := drawPages_ev c hc
    obtain ⟨r, ok, hr, hfew, e2, e1⟩ := pages_both F m (by omega)
    refine Ev.bind e0 ?_
    refine Ev.bind e1 ?_
    refine Ev.bind e2 ?_
    simp only [bne_self_eq_false, Bool.false_eq_true, if_false]
    cases ok with
    | true =>
      obtain ⟨h1, h2, h3, h4⟩ := hfew.1 rfl
      simp only [if_true]
      refine Ev.bind (impl_brk F m r (by omega) (by omega)) ?_
      simp only [h4, if_true]
      exact wide_ev c hc F m r hr h2 h3 h1 h4
    | false =>
      have e := hfew.2.1 rfl
      subst e
      simp only [Bool.false_eq_true, if_false]
      refine Ev.step (fun k => ?_) (few_ev c hc)
      simp only [laws_FnPages.j0, List.length_nil]
      rfl

end Go.Proofs.Ythlipgfmfgangaa.Pure
