/- The plain statement of the law FnExactCopyParts: what its printed function answers; no conditions but that the numbers are Go's ints and the slices no longer than memory. -/
import Derived.Test.YtoebmmbpfapgaaaQFnExactCopyPartsx13
set_option linter.unusedVariables false
set_option linter.unusedSimpArgs false
namespace Go.Proofs.Ytoebmmbpfapgaaa.Pure
open Go.RowKit Go.Proofs.Ytoebmmbpfapgaaa.QFnExactCopyParts Go.Proofs.YtoebmmbpfapgaaaW.PrintWords Go.Proofs.YtoebmmbpfapgaaaW.PrintLast Go.Proofs.YtoebmmbpfapgaaaW.PrintMore

theorem wf64 {x : Int} (h : (Lit.int .i64 x).wf = true) : -9223372036854775808 ≤ x ∧ x ≤ 9223372036854775807 := by
  simp only [Lit.wf, IntKind.min, IntKind.max, IntKind.signed, IntKind.bits, Bool.and_eq_true, decide_eq_true_eq, if_true] at h
  omega

theorem w64 {x : Int} (h1 : -9223372036854775808 ≤ x) (h2 : x ≤ 9223372036854775807) : wrap64 x = x := by
  unfold wrap64
  omega

theorem w64_nat (i : Nat) (h : i ≤ 9223372036854775806) : wrap64 ((i : Int) + 1) = ((i + 1 : Nat) : Int) := by
  unfold wrap64
  omega

theorem drop_cons {α : Type} (l : List α) (i : Nat) (h : i < l.length) : l.drop i = l[i] :: l.drop (i + 1) := List.drop_eq_getElem_cons h

theorem set_take {β : Type} (x : List β) (i : Nat) (v : β) (h : i < x.length) : (x.set i v).take (i + 1) = x.take i ++ [v] := by
  apply List.ext_getElem?
  intro j
  rcases Nat.lt_trichotomy j i with hj | hj | hj
  · rw [List.getElem?_take_of_lt (by omega), List.getElem?_set_ne (by omega), List.getElem?_append_left (by simp; omega), List.getElem?_take_of_lt (by omega)]
  · subst hj
    rw [List.getElem?_take_of_lt (by omega), List.getElem?_set_self (by omega), List.getElem?_append_right (by simp; omega)]
    simp [Nat.min_eq_left (Nat.le_of_lt h)]
  · rw [List.getElem?_take_eq_none (by omega), List.getElem?_append_right (by simp; omega)]
    simp
    omega

theorem copyLoop {α β : Type} (F : Nat → List β → Int → Option (List β)) (x0 : List α) (cv : α → β)
    (h1 : ∀ (x3 : List β) (i : Nat) (r : List β) (hi : i < x0.length), x3.length = x0.length → Ev (fun k => F k (x3.set i (cv x0[i])) ((i + 1 : Nat) : Int)) r → Ev (fun k => F k x3 (i : Int)) r)
    (h2 : ∀ x3 : List β, Ev (fun k => F k x3 (x0.length : Int)) x3) (init : List β) (hl : init.length = x0.length) : Ev (fun k => F k init 0) (x0.map cv) := by
  have key : ∀ (d i : Nat) (x3 : List β), i + d = x0.length → x3.length = x0.length → x3.take i = (x0.map cv).take i → Ev (fun k => F k x3 (i : Int)) (x0.map cv) := by
    intro d
    induction d with
    | zero =>
      intro i x3 hi hx ht
      obtain rfl : i = x0.length := by omega
      have e : x3 = x0.map cv := by
        rw [← hx, List.take_length] at ht
        rw [ht, hx]
        exact List.take_of_length_le (by simp)
      have := h2 x3
      rw [e] at this
      rw [e]
      exact this
    | succ d ih =>
      intro i x3 hi hx ht
      have hlt : i < x0.length := by omega
      refine h1 x3 i _ hlt hx (ih (i + 1) _ (by omega) (by rw [List.length_set]; exact hx) ?_)
      rw [set_take x3 i _ (by omega), ht]
      rw [List.take_succ_eq_append_getElem (by simpa using hlt)]
      simp
  have := key x0.length 0 init (by omega) hl (by simp)
  exact this

theorem eqLoop {α : Type} (F : Nat → Int → Option Bool) (x0 : List α)
    (h1 : ∀ (i : Nat) (r : Bool) (_ : i < x0.length), Ev (fun k => F k ((i + 1 : Nat) : Int)) r → Ev (fun k => F k (i : Int)) r)
    (h2 : Ev (fun k => F k (x0.length : Int)) true) : Ev (fun k => F k 0) true := by
  have key : ∀ (d i : Nat), i + d = x0.length → Ev (fun k => F k (i : Int)) true := by
    intro d
    induction d with
    | zero =>
      intro i hi
      obtain rfl : i = x0.length := by omega
      exact h2
    | succ d ih =>
      intro i hi
      exact h1 i true (by omega) (ih (i + 1) (by omega))
  exact key x0.length 0 (by omega)

theorem ite_eq_of {α : Type} {p : Prop} [Decidable p] {a b : α} (h : p) : (if p then a else b) = a := if_pos h

theorem Ev.one {α : Type} {g : Nat → Option α} {r : α} (h : ∀ k, g (k + 1) = some r) : Ev g r := Ev.step (f := fun _ => some r) h (Ev.now r)

theorem rdSign_get (l : List S82) (i : Nat) (h : i < l.length) : rd_T82 l (i : Int) = l[i] := by
  simp [rd_T82, List.getD, List.getElem?_eq_getElem h]

theorem eqSignS_ev (l : List S82) (hl : l.length ≤ 140737488355328) : Ev (fun k => laws_eqSignS.f k l l) true := by
  have key := eqLoop (fun k i => laws_eqSignS.l0 k l l i) l (by
    intro i r hi h
    refine Ev.step (fun k => ?_) h
    simp only [laws_eqSignS.l0, laws_eqSign.f, if_true, Option.bind_some]
    rw [if_pos (by omega), if_pos (by omega), if_pos (by omega), w64_nat i (by omega)]) (by
    refine Ev.one (fun k => ?_)
    simp only [laws_eqSignS.l0]
    rw [if_neg (by omega)])
  refine Ev.congr (fun k => ?_) key
  simp only [laws_eqSignS.f, if_true]

def sumLen {α : Type} : List (List α) → Nat
  | [] => 0
  | x :: l => x.length + sumLen l
theorem sumLen_mem {α : Type} (l : List (List α)) : ∀ x ∈ l, x.length ≤ sumLen l := by
  induction l with
  | nil => intro x h; simp at h
  | cons y l ih =>
    intro x h
    rw [sumLen]
    rcases List.mem_cons.1 h with rfl | h
    · omega
    · have := ih x h
      omega
theorem sumLen_map {α β : Type} (f : α → β) (l : List (List α)) : sumLen (l.map (List.map f)) = sumLen l := by
  induction l with
  | nil => rfl
  | cons y l ih => rw [List.map_cons, sumLen, sumLen, ih, List.length_map]
theorem rdLSign_get (l : List (List S82)) (i : Nat) (h : i < l.length) : rd_L4 l (i : Int) = l[i] := by
  simp [rd_L4, List.getD, List.getElem?_eq_getElem h]
theorem eqSignSS_ev (l : List (List S82)) (hl : l.length ≤ 1048576) (hx : ∀ x ∈ l, x.length ≤ 1048576) : Ev (fun k => laws_eqSignSS.f k l l) true := by
  have key := eqLoop (fun k i => laws_eqSignSS.l0 k l l i) l (by
    intro i r hi h
    refine Ev.step (f := fun k => (laws_eqSignS.f k l[i] l[i]).bind fun t => if t = true then laws_eqSignSS.l0 k l l ((i + 1 : Nat) : Int) else some false) (fun k => ?_) ?_
    · simp only [laws_eqSignSS.l0]
      rw [if_pos (by omega), if_pos (by omega), if_pos (by omega), rdLSign_get l i hi, w64_nat i (by omega)]
    · refine Ev.bind (eqSignS_ev l[i] (by have := hx _ (List.getElem_mem hi); omega)) ?_
      simp only [if_true]
      exact h) (by
    refine Ev.one (fun k => ?_)
    simp only [laws_eqSignSS.l0]
    rw [if_neg (by omega)])
  refine Ev.congr (fun k => ?_) key
  simp only [laws_eqSignSS.f, if_true]

theorem markLoop {β : Type} (C : Nat → Nat) (mkv : Nat → β) (F : Nat → List β → Int → Int → Option (Int × List β)) (n : Nat)
    (h1 : ∀ (x3 : List β) (i : Nat) (r : Int × List β), i < n → x3.length = n → Ev (fun k => F k (x3.set i (mkv i)) ((C (i + 1) : Nat) : Int) ((i + 1 : Nat) : Int)) r → Ev (fun k => F k x3 ((C i : Nat) : Int) (i : Int)) r)
    (h2 : ∀ x3 : List β, x3.length = n → Ev (fun k => F k x3 ((C n : Nat) : Int) (n : Int)) (((C n : Nat) : Int), x3)) (init : List β) (hl : init.length = n) :
    Ev (fun k => F k init ((C 0 : Nat) : Int) ((0 : Nat) : Int)) (((C n : Nat) : Int), (List.range n).map mkv) := by
  have key : ∀ (d i : Nat) (x3 : List β), i + d = n → x3.length = n → x3.take i = (List.range i).map mkv → Ev (fun k => F k x3 ((C i : Nat) : Int) (i : Int)) (((C n : Nat) : Int), (List.range n).map mkv) := by
    intro d
    induction d with
    | zero =>
      intro i x3 hi hx ht
      obtain rfl : i = n := by omega
      have e : x3 = (List.range i).map mkv := by
        rw [← ht, ← hx, List.take_length]
      have := h2 x3 hx
      rw [← e]
      exact this
    | succ d ih =>
      intro i x3 hi hx ht
      refine h1 x3 i _ (by omega) hx (ih (i + 1) _ (by omega) (by rw [List.length_set]; exact hx) ?_)
      rw [set_take x3 i _ (by omega), ht, List.range_succ, List.map_append]
      rfl
  exact key n 0 init (by omega) hl (by simp)

theorem heldLoop (C : Nat → Nat) (F : Nat → Int → Int → Option Int) (n : Nat)
    (h1 : ∀ (i : Nat) (r : Int), i < n → Ev (fun k => F k ((C (i + 1) : Nat) : Int) ((i + 1 : Nat) : Int)) r → Ev (fun k => F k ((C i : Nat) : Int) (i : Int)) r)
    (h2 : Ev (fun k => F k ((C n : Nat) : Int) (n : Int)) ((C n : Nat) : Int)) : Ev (fun k => F k ((C 0 : Nat) : Int) ((0 : Nat) : Int)) ((C n : Nat) : Int) := by
  have key : ∀ (d i : Nat), i + d = n → Ev (fun k => F k ((C i : Nat) : Int) (i : Int)) ((C n : Nat) : Int) := by
    intro d
    induction d with
    | zero =>
      intro i hi
      obtain rfl : i = n := by omega
      exact h2
    | succ d ih =>
      intro i hi
      exact h1 i _ (by omega) (ih (i + 1) (by omega))
  exact key n 0 (by omega)

def mkSg (c q : Nat) : S82 := ⟨((c + 3 * q : Nat) : Int), ((c + 3 * q + 1 : Nat) : Int), ((c + 3 * q + 1 + 1 : Nat) : Int)⟩
def mkSs (c n : Nat) : List S82 := (List.range n).map (mkSg c)
def mkSS : Nat → List Nat → List (List S82)
  | _, [] => []
  | c, n :: l => mkSs c n :: mkSS (c + 3 * n) l
theorem mkSs_len (c n : Nat) : (mkSs c n).length = n := by simp [mkSs]
theorem mkSS_sum (l : List Nat) : ∀ c, sumLen (mkSS c l) = l.sum := by
  induction l with
  | nil => intro c; rfl
  | cons n l ih => intro c; rw [mkSS, sumLen, ih, mkSs_len, List.sum_cons]
theorem mkSS_len (l : List Nat) : ∀ c, (mkSS c l).length = l.length := by
  induction l with
  | nil => intro c; rfl
  | cons n l ih => intro c; rw [mkSS, List.length_cons, List.length_cons, ih]
theorem sumLen_sum {α : Type} (l : List (List α)) : sumLen l = (l.map List.length).sum := by
  induction l with
  | nil => rfl
  | cons x l ih => rw [sumLen, List.map_cons, List.sum_cons, ih]
theorem rdSign_set (l : List S82) (i : Nat) (h : i < l.length) (v : S82) : rd_T82 (l.set i v) (i : Int) = v := by
  simp [rd_T82, List.getD, List.getElem?_set_self h]
theorem markSg_ev (l : List S82) (c : Nat) (hl : l.length ≤ 1048576) (hc : c ≤ 10000000) : Ev (fun k => laws_markSignS.f k l (c : Int)) (((c + 3 * l.length : Nat) : Int), mkSs c l.length) := by
  have key := markLoop (fun i => c + 3 * i) (mkSg c) (fun k x c i => laws_markSignS.l0 k x c i) l.length (by
    intro x3 i r hi hx h
    simp only [show c + 3 * (i + 1) = c + 3 * i + 1 + 1 + 1 by omega] at h
    refine Ev.step (fun k => ?_) h
    have hx' : i < x3.length := by omega
    simp only [laws_markSignS.l0, Option.bind_some, Int.toNat_natCast]
    rw [if_pos (by omega), if_pos (by omega), w64_nat (c + 3 * i) (by omega), w64_nat (c + 3 * i + 1) (by omega), w64_nat (c + 3 * i + 1 + 1) (by omega), w64_nat i (by omega)]
    simp only [rdSign_set, List.length_set, hx', List.set_set, mkSg]) (by
    intro x3 hx
    refine Ev.one (fun k => ?_)
    simp only [laws_markSignS.l0]
    rw [if_neg (by omega)]) l rfl
  exact key
theorem heldSg_ev (c n : Nat) (hl : n ≤ 1048576) (hc : c ≤ 10000000) : Ev (fun k => laws_heldSignS.f k (mkSs c n) (c : Int)) ((c + 3 * n : Nat) : Int) := by
  have hlen := mkSs_len c n
  have key := heldLoop (fun i => c + 3 * i) (fun k q i => laws_heldSignS.l0 k (mkSs c n) q i) n (by
    intro i r hi h
    simp only [show c + 3 * (i + 1) = c + 3 * i + 1 + 1 + 1 by omega] at h
    refine Ev.step (fun k => ?_) h
    simp only [laws_heldSignS.l0]
    rw [if_pos (by omega), if_pos (by omega), rdSign_get _ i (by omega), w64_nat (c + 3 * i) (by omega), w64_nat (c + 3 * i + 1) (by omega), w64_nat (c + 3 * i + 1 + 1) (by omega), w64_nat i (by omega)]
    simp only [mkSs, List.getElem_map, List.getElem_range, mkSg, if_true]) (by
    refine Ev.one (fun k => ?_)
    simp only [laws_heldSignS.l0]
    rw [if_neg (by omega)])
  exact key
theorem mkSS_get (p : List (List S82)) : ∀ (i : Nat) (h : i < p.length), True := fun _ _ => trivial
theorem markSg_loop (d : Nat) : ∀ (i c : Nat) (p : List (List S82)), i + d = p.length → p.length ≤ 1048576 → sumLen (p.drop i) ≤ 1048576 → c + 3 * sumLen (p.drop i) ≤ 10000000 →
    Ev (fun k => laws_markSignSS.l0 k p (c : Int) (i : Int)) (((c + 3 * sumLen (p.drop i) : Nat) : Int), p.take i ++ mkSS c ((p.drop i).map List.length)) := by
  induction d with
  | zero =>
    intro i c p hi hp hs hc
    rw [List.drop_of_length_le (by omega), List.take_of_length_le (by omega)]
    refine Ev.one (fun k => ?_)
    simp only [laws_markSignSS.l0]
    rw [if_neg (by omega)]
    simp [sumLen, mkSS]
  | succ d ih =>
    intro i c p hi hp hs hc
    have hlt : i < p.length := by omega
    rw [drop_cons p i hlt, sumLen] at hs hc
    have hd : (p.set i (mkSs c p[i].length)).drop (i + 1) = p.drop (i + 1) := List.drop_set_of_lt (by omega)
    have h2 := ih (i + 1) (c + 3 * p[i].length) (p.set i (mkSs c p[i].length)) (by simp; omega) (by simpa using hp) (by rw [hd]; omega) (by rw [hd]; omega)
    rw [hd, set_take p i _ (by omega), List.append_assoc, List.singleton_append] at h2
    rw [drop_cons p i hlt, sumLen, List.map_cons, mkSS, show c + 3 * (p[i].length + sumLen (p.drop (i + 1))) = c + 3 * p[i].length + 3 * sumLen (p.drop (i + 1)) by omega]
    refine Ev.step (f := fun k => (laws_markSignS.f k p[i] (c : Int)).bind fun t => laws_markSignSS.l0 k (p.set i t.2) t.1 ((i + 1 : Nat) : Int)) (fun k => ?_) (Ev.bind (markSg_ev p[i] c (by omega) (by omega)) h2)
    simp only [laws_markSignSS.l0, Int.toNat_natCast]
    rw [if_pos (by omega), if_pos (by omega), w64_nat i (by omega), List.getD_eq_getElem?_getD, List.getElem?_eq_getElem hlt]
    rfl
theorem heldSg_loop (l : List Nat) : ∀ (X : List (List S82)) (i c : Nat), X.drop i = mkSS c l → X.length ≤ 1048576 → i ≤ X.length → (∀ n ∈ l, n ≤ 1048576) → c + 3 * l.sum ≤ 10000000 →
    Ev (fun k => laws_heldSignSS.l0 k X (c : Int) (i : Int)) ((c + 3 * l.sum : Nat) : Int) := by
  induction l with
  | nil =>
    intro X i c hX hx hi hn hc
    have : X.length ≤ i := by
      have := congrArg List.length hX
      simp only [List.length_drop, mkSS, List.length_nil] at this
      omega
    refine Ev.one (fun k => ?_)
    simp only [laws_heldSignSS.l0]
    rw [if_neg (by omega)]
    simp
  | cons n l ih =>
    intro X i c hX hx hi hn hc
    rw [mkSS] at hX
    have hlt : i < X.length := by
      have := congrArg List.length hX
      rw [List.length_drop, List.length_cons] at this
      omega
    rw [drop_cons X i hlt] at hX
    obtain ⟨h1, h2⟩ := List.cons.inj hX
    have hn1 := hn n List.mem_cons_self
    rw [List.sum_cons] at hc ⊢
    have h3 := ih X (i + 1) (c + 3 * n) h2 hx (by omega) (fun m hm => hn m (List.mem_cons_of_mem _ hm)) (by omega)
    rw [show c + 3 * n + 3 * l.sum = c + 3 * (n + l.sum) by omega] at h3
    refine Ev.step (f := fun k => (laws_heldSignS.f k X[i] (c : Int)).bind fun t => if t < 0 then some (-1) else laws_heldSignSS.l0 k X t ((i + 1 : Nat) : Int)) (fun k => ?_) ?_
    · simp only [laws_heldSignSS.l0]
      rw [if_pos (by omega), if_pos (by omega), rdLSign_get X i hlt, w64_nat i (by omega)]
    · rw [h1]
      refine Ev.bind (heldSg_ev c n hn1 (by omega)) ?_
      have hneg : ¬ ((c + 3 * n : Nat) : Int) < 0 := by omega
      simp only [hneg, if_false]
      exact h3
theorem markSS_held (p : List (List S82)) (hp : p.length ≤ 1048576) (hs : sumLen p ≤ 1048576) : ∃ m, Ev (fun k => laws_markSignSS.f k p 1) (((1 + 3 * sumLen p : Nat) : Int), m) ∧ Ev (fun k => laws_heldSignSS.f k m 1) ((1 + 3 * sumLen p : Nat) : Int) := by
  have h := markSg_loop p.length 0 1 p (by omega) hp (by simpa using hs) (by simp; omega)
  rw [List.drop_zero, List.take_zero, List.nil_append] at h
  refine ⟨_, h, ?_⟩
  have hm := sumLen_mem p
  have h2 := heldSg_loop (p.map List.length) (mkSS 1 (p.map List.length)) 0 1 rfl (by rw [mkSS_len]; simpa using hp) (by omega) (fun n hn => by obtain ⟨x, hx, rfl⟩ := List.mem_map.1 hn; have := hm x hx; omega) (by rw [← sumLen_sum]; omega)
  rw [← sumLen_sum] at h2
  exact h2

theorem rdEvent_get (l : List S56) (i : Nat) (h : i < l.length) : rd_T56 l (i : Int) = l[i] := by
  simp [rd_T56, List.getD, List.getElem?_eq_getElem h]

def evOk (x : S56) : Bool := decide ((0 ≤ x.f0 ∧ x.f0 ≤ 2000) ∧ (1 ≤ x.f1 ∧ x.f1 ≤ 96) ∧ (21 ≤ x.f2 ∧ x.f2 ≤ 108) ∧ (1 ≤ x.f3 ∧ x.f3 ≤ 4))
/-- By tick, voice and pitch. -/
def evLt (a b : S56) : Bool := if a.f0 = b.f0 then (if a.f3 = b.f3 then decide (a.f2 < b.f2) else decide (a.f3 < b.f3)) else decide (a.f0 < b.f0)
def evNext (p : Option S56) (x : S56) : Bool := match p with
  | none => true
  | some y => evLt y x
def scL : Option S56 → List S56 → Bool
  | _, [] => true
  | p, x :: l => (evOk x && evNext p x) && scL (some x) l
def isScore (l : List S56) : Bool := scL none l && decide (l.length ≤ 40)

theorem isScore_iff {l : List S56} (h : isScore l = true) : scL none l = true ∧ l.length ≤ 40 := by
  simpa [isScore] using h

theorem scL_ok (l : List S56) : ∀ p, scL p l = true → ∀ x ∈ l, evOk x = true := by
  induction l with
  | nil => intro p _ x hx; simp at hx
  | cons y l ih =>
    intro p h x hx
    simp only [scL, Bool.and_eq_true] at h
    rcases List.mem_cons.1 hx with rfl | hx
    · exact h.1.1
    · exact ih _ h.2 x hx

theorem isScore_at {l : List S56} (h : isScore l = true) (x : S56) (hx : x ∈ l) : (0 ≤ x.f0 ∧ x.f0 ≤ 2000) ∧ (1 ≤ x.f1 ∧ x.f1 ≤ 96) ∧ (21 ≤ x.f2 ∧ x.f2 ≤ 108) ∧ (1 ≤ x.f3 ∧ x.f3 ≤ 4) := by
  have := scL_ok l none (isScore_iff h).1 x hx
  simpa only [evOk, decide_eq_true_eq] using this

def inV (v : Int) (x : S56) : Bool := decide (x.f3 = v)
theorem spec_voice_loop (l : List S56) (v : Int) (hl : l.length ≤ 1048576) (d : Nat) : ∀ (i : Nat) (o : List S56), i + d = l.length → o.length ≤ i → Ev (fun k => spec_VoiceOf.l0 k l v o (i : Int)) (o ++ (l.drop i).filter (inV v)) := by
  induction d with
  | zero =>
    intro i o h ho
    rw [List.drop_of_length_le (by omega)]
    refine Ev.one (fun k => ?_)
    simp only [spec_VoiceOf.l0]
    rw [if_neg (by omega)]
    simp
  | succ d ih =>
    intro i o h ho
    have hlt : i < l.length := by omega
    rw [drop_cons l i hlt]
    by_cases hc : l[i].f3 = v
    · refine Ev.step (fun k => ?_) (by rw [List.filter_cons_of_pos (by simp [inV, hc]), List.append_cons]; exact ih (i + 1) (o ++ [l[i]]) (by omega) (by simp; omega))
      simp only [spec_VoiceOf.l0]
      rw [if_pos (by omega), if_pos (by omega), rdEvent_get l i hlt, if_pos hc, if_pos (by omega), w64_nat i (by omega)]
    · refine Ev.step (fun k => ?_) (by rw [List.filter_cons_of_neg (by simp [inV, hc])]; exact ih (i + 1) o (by omega) (by omega))
      simp only [spec_VoiceOf.l0]
      rw [if_pos (by omega), if_pos (by omega), rdEvent_get l i hlt, if_neg hc, w64_nat i (by omega)]
theorem spec_voice (l : List S56) (v : Int) (hl : l.length ≤ 1048576) : Ev (fun k => spec_VoiceOf.f k l v) (l.filter (inV v)) := by
  have h := spec_voice_loop l v hl l.length 0 [] (by omega) (by simp)
  simpa [spec_VoiceOf.f] using h
theorem voice_1 (x : S56) (v : Int) : impl_VoiceOf_1.f x.f0 x.f1 x.f2 x.f3 [v] = some (!inV v x) := by
  simp only [impl_VoiceOf_1.f, inV]
  rw [if_pos (by simp)]
  have : rd [v] 0 = v := rfl
  rw [this]
  by_cases h : x.f3 = v <;> simp [h]
theorem voice_index (l : List S56) (v : Int) (hl : l.length ≤ 1048576) (d : Nat) : ∀ i : Nat, i + d = l.length → ∃ r, Ev (fun k => slices_IndexFunc_at83.l0 k l (l.length : Int) (i : Int) [v]) r ∧
    ((r = -1 ∧ l.take i ++ (l.drop i).filter (inV v) = l) ∨ ∃ t : Nat, r = (t : Int) ∧ t < l.length ∧ l.take i ++ (l.drop i).filter (inV v) = l.take t ++ (l.drop (t + 1)).filter (inV v)) := by
  induction d with
  | zero =>
    intro i h
    refine ⟨-1, Ev.one (fun k => ?_), .inl ⟨rfl, ?_⟩⟩
    · simp only [slices_IndexFunc_at83.l0]
      rw [if_neg (by omega)]
    · rw [List.drop_of_length_le (by omega), List.take_of_length_le (by omega)]
      simp
  | succ d ih =>
    intro i h
    have hlt : i < l.length := by omega
    by_cases hc : inV v l[i] = true
    · obtain ⟨r, hr, he⟩ := ih (i + 1) (by omega)
      have e2 : l.take i ++ (l.drop i).filter (inV v) = l.take (i + 1) ++ (l.drop (i + 1)).filter (inV v) := by
        rw [drop_cons l i hlt, List.filter_cons_of_pos hc, List.take_succ_eq_append_getElem hlt, List.append_assoc, List.singleton_append]
      rw [← e2] at he
      refine ⟨r, Ev.step (fun k => ?_) hr, he⟩
      simp only [slices_IndexFunc_at83.l0]
      rw [if_pos (by omega), if_pos (by omega), if_pos (by omega), rdEvent_get l i hlt, voice_1, hc, Option.bind_some, w64_nat i (by omega)]
      rfl
    · refine ⟨(i : Int), Ev.one (fun k => ?_), .inr ⟨i, rfl, hlt, ?_⟩⟩
      · rw [Bool.not_eq_true] at hc
        simp only [slices_IndexFunc_at83.l0]
        rw [if_pos (by omega), if_pos (by omega), if_pos (by omega), rdEvent_get l i hlt, voice_1, hc, Option.bind_some]
        rfl
      · rw [drop_cons l i hlt, List.filter_cons_of_neg hc]
theorem voice_delete (v : Int) (d : Nat) : ∀ (X : List S56) (i j : Nat), j + d = X.length → i ≤ j → X.length ≤ 1048576 → Ev (fun k => slices_DeleteFunc_at83.l0 k X (i : Int) (j : Int) [v]) (X.take i ++ (X.drop j).filter (inV v)) := by
  induction d with
  | zero =>
    intro X i j h hij hX
    rw [List.drop_of_length_le (by omega)]
    refine Ev.one (fun k => ?_)
    simp only [slices_DeleteFunc_at83.l0]
    rw [if_neg (by omega), if_pos (by omega), if_pos (by omega)]
    simp
  | succ d ih =>
    intro X i j h hij hX
    have hlt : j < X.length := by omega
    rw [drop_cons X j hlt]
    by_cases hc : inV v X[j] = true
    · refine Ev.step (f := fun k => slices_DeleteFunc_at83.l0 k (X.set i X[j]) ((i + 1 : Nat) : Int) ((j + 1 : Nat) : Int) [v]) (fun k => ?_) ?_
      · simp only [slices_DeleteFunc_at83.l0]
        rw [if_pos (by omega), if_pos (by omega), rdEvent_get X j hlt, voice_1, hc, Option.bind_some, Bool.not_true, if_neg (by decide), if_pos (by omega), if_pos (by omega), w64_nat i (by omega), w64_nat j (by omega), Int.toNat_natCast]
      · have h2 := ih (X.set i X[j]) (i + 1) (j + 1) (by simp; omega) (by omega) (by simp; omega)
        rw [set_take X i _ (by omega), List.drop_set_of_lt (by omega)] at h2
        rw [List.filter_cons_of_pos hc]
        simpa using h2
    · have h2 := ih X i (j + 1) (by omega) (by omega) hX
      rw [List.filter_cons_of_neg hc]
      rw [Bool.not_eq_true] at hc
      refine Ev.step (fun k => ?_) h2
      simp only [slices_DeleteFunc_at83.l0]
      rw [if_pos (by omega), if_pos (by omega), rdEvent_get X j hlt, voice_1, hc, Option.bind_some, Bool.not_false, if_pos rfl, w64_nat j (by omega)]
theorem impl_voice (l : List S56) (v : Int) (hl : l.length ≤ 1048576) : Ev (fun k => impl_VoiceOf.f k l v) (l.filter (inV v)) := by
  have hcl : impl_Event_75.f l = some l := by
    simp only [impl_Event_75.f, Option.bind_some, List.nil_append]
    rw [if_pos (by simp; omega)]
  obtain ⟨r, hr, he⟩ := voice_index l v hl l.length 0 (by omega)
  simp only [impl_VoiceOf.f, hcl, Option.bind_some, slices_DeleteFunc_at83.f, slices_IndexFunc_at83.f]
  rw [List.take_zero, List.drop_zero, List.nil_append] at he
  rcases he with ⟨rfl, h⟩ | ⟨t, rfl, ht, h⟩
  · refine Ev.bind hr ?_
    simp only [if_true]
    rw [h]
    exact Ev.now _
  · refine Ev.bind hr ?_
    have hn : ¬ (t : Int) = -1 := by omega
    simp only [hn, if_false]
    rw [h, w64_nat t (by omega)]
    exact voice_delete v (l.length - (t + 1)) l t (t + 1) (by omega) (by omega) hl

theorem l1In_eq (a b c : Int) : spec_l1In.f a b c = some (decide (b ≤ a ∧ a ≤ c)) := by
  unfold spec_l1In.f
  split <;> simp <;> omega

theorem spec_ok (a b c d : Int) : spec_l8Ok.f a b c d = some (evOk ⟨a, b, c, d⟩) := by
  simp only [spec_l8Ok.f, l1In_eq, Option.bind_some, decide_eq_true_eq, evOk]
  by_cases h0 : 0 ≤ a ∧ a ≤ 2000
  · by_cases h1 : 1 ≤ b ∧ b ≤ 96
    · by_cases h2 : 21 ≤ c ∧ c ≤ 108
      · simp only [h0, h1, h2, and_self, if_true, true_and]
      · simp only [h0, h1, h2, and_self, if_true, if_false, false_and, and_false, decide_false]
    · simp only [h0, h1, and_self, if_true, if_false, false_and, and_false, decide_false]
  · simp only [h0, if_false, false_and, decide_false]

theorem spec_before (a b : S56) : spec_l8Before.f a.f0 a.f1 a.f2 a.f3 b.f0 b.f1 b.f2 b.f3 = some (evLt a b) := by
  unfold spec_l8Before.f evLt
  repeat' split
  all_goals rfl

theorem spec_score_ev (l : List S56) (hl : l.length ≤ 1048576) (d : Nat) : ∀ (i : Nat) (p : Option S56), i + d = l.length → (i = 0 ∧ p = none ∨ ∃ h : i - 1 < l.length, 0 < i ∧ p = some l[i - 1]) →
    Ev (fun k => spec_IsScore.l0 k l (i : Int)) (scL p (l.drop i) && decide (l.length ≤ 40)) := by
  induction d with
  | zero =>
    intro i p hi hp
    rw [List.drop_of_length_le (by omega)]
    refine Ev.one (fun k => ?_)
    simp only [spec_IsScore.l0, scL, Bool.true_and]
    rw [if_neg (by omega)]
    refine congrArg some (decide_eq_decide.2 ?_)
    omega
  | succ d ih =>
    intro i p hi hp
    have hlt : i < l.length := by omega
    rw [drop_cons l i hlt]
    have next := ih (i + 1) (some l[i]) (by omega) (.inr ⟨by omega, by omega, rfl⟩)
    by_cases h0 : evOk l[i] = true
    · rcases hp with ⟨rfl, rfl⟩ | ⟨hi1, hpos, rfl⟩
      · refine Ev.step (f := fun k => spec_IsScore.l0 k l ((0 + 1 : Nat) : Int)) (fun k => ?_) ?_
        · simp only [spec_IsScore.l0, spec_ok, Option.bind_some]
          rw [if_pos (by omega), if_pos (by omega), rdEvent_get l 0 hlt, if_pos h0, if_neg (by omega), w64_nat 0 (by omega)]
        · rw [scL, h0, evNext, Bool.true_and, Bool.true_and]
          exact next
      · have hw : wrap64 ((i : Int) - 1) = ((i - 1 : Nat) : Int) := by unfold wrap64; omega
        by_cases h2 : evLt l[i - 1] l[i] = true
        · rw [scL, h0, evNext, h2, Bool.true_and, Bool.true_and]
          refine Ev.step (fun k => ?_) next
          simp only [spec_IsScore.l0, spec_ok, Option.bind_some]
          rw [if_pos (by omega), if_pos (by omega), rdEvent_get l i hlt, if_pos h0, if_pos (by omega), hw, if_pos (by omega), if_pos (by omega), rdEvent_get l (i - 1) hi1, spec_before, Option.bind_some, if_pos h2, w64_nat i (by omega)]
        · rw [Bool.not_eq_true] at h2
          rw [scL, h0, evNext, h2, Bool.and_false, Bool.false_and, Bool.false_and]
          refine Ev.one (fun k => ?_)
          simp only [spec_IsScore.l0, spec_ok, Option.bind_some]
          rw [if_pos (by omega), if_pos (by omega), rdEvent_get l i hlt, if_pos h0, if_pos (by omega), hw, if_pos (by omega), if_pos (by omega), rdEvent_get l (i - 1) hi1, spec_before, Option.bind_some, h2]
          rfl
    · have h0' := h0
      rw [Bool.not_eq_true] at h0'
      rw [scL, h0', Bool.false_and, Bool.false_and, Bool.false_and]
      refine Ev.one (fun k => ?_)
      simp only [spec_IsScore.l0, spec_ok, Option.bind_some]
      rw [if_pos (by omega), if_pos (by omega), rdEvent_get l i hlt, if_neg h0]

theorem spec_score (l : List S56) (hl : l.length ≤ 1048576) : Ev (fun k => spec_IsScore.f k l) (isScore l) := spec_score_ev l hl l.length 0 none (by omega) (.inl ⟨rfl, rfl⟩)

theorem inRange_eq (a b c : Int) : impl_InRange.f a b c = some (decide (b ≤ a ∧ a ≤ c)) := by
  unfold impl_InRange.f
  split <;> simp <;> omega

theorem rd_get (l : List Int) (i : Nat) (h : i < l.length) : rd l (i : Int) = l[i] := by
  simp [rd, List.getD, List.getElem?_eq_getElem h]

def cmp3 (a b : Int) : Int := if a < b then -1 else if a > b then 1 else 0

theorem compare_eq (a b : Int) : cmp_Compare_int.f a b = some (cmp3 a b) := by
  have h : ∀ x : Int, (x != x) = false := fun x => by simp
  simp only [cmp_Compare_int.f, cmp_isNaN_int.f, Option.bind_some, h, cmp3]
  simp only [Bool.false_eq_true, if_false]
  split
  · rfl
  · split <;> rfl

theorem or_step (l : List Int) (i : Nat) (r : Int) (hl : l.length ≤ 1048576) (hi : i < l.length) (h : l[i] = 0) (he : Ev (fun k => cmp_Or_int.l0 k 0 l (l.length : Int) ((i + 1 : Nat) : Int)) r) : Ev (fun k => cmp_Or_int.l0 k 0 l (l.length : Int) (i : Int)) r := by
  refine Ev.step (fun k => ?_) he
  simp only [cmp_Or_int.l0]
  rw [if_pos (by omega), if_pos (by omega), if_pos (by omega), rd_get l i hi, if_pos h, w64_nat i (by omega)]

theorem or_hit (l : List Int) (i : Nat) (hi : i < l.length) (h : ¬ l[i] = 0) : Ev (fun k => cmp_Or_int.l0 k 0 l (l.length : Int) (i : Int)) l[i] := by
  refine Ev.one (fun k => ?_)
  simp only [cmp_Or_int.l0]
  rw [if_pos (by omega), if_pos (by omega), if_pos (by omega), rd_get l i hi, if_neg h]

theorem or_end (l : List Int) : Ev (fun k => cmp_Or_int.l0 k 0 l (l.length : Int) ((l.length : Nat) : Int)) 0 := by
  refine Ev.one (fun k => ?_)
  simp only [cmp_Or_int.l0]
  rw [if_neg (by omega)]

theorem or2_ev (a b : Int) : Ev (fun k => cmp_Or_int.f k [a, b]) (if a = 0 then b else a) := by
  show Ev (fun k => cmp_Or_int.l0 k 0 [a, b] (([a, b] : List Int).length : Int) ((0 : Nat) : Int)) _
  by_cases ha : a = 0
  · rw [if_pos ha]
    refine or_step [a, b] 0 b (by simp) (by simp) ha ?_
    by_cases hb : b = 0
    · rw [hb]
      exact or_step [a, 0] 1 0 (by simp) (by simp) rfl (or_end _)
    · exact or_hit [a, b] 1 (by simp) hb
  · rw [if_neg ha]
    exact or_hit [a, b] 0 (by simp) ha

theorem or3_ev (a b c : Int) : Ev (fun k => cmp_Or_int.f k [a, b, c]) (if a = 0 then (if b = 0 then c else b) else a) := by
  show Ev (fun k => cmp_Or_int.l0 k 0 [a, b, c] (([a, b, c] : List Int).length : Int) ((0 : Nat) : Int)) _
  by_cases ha : a = 0
  · rw [if_pos ha]
    refine or_step [a, b, c] 0 _ (by simp) (by simp) ha ?_
    by_cases hb : b = 0
    · rw [if_pos hb]
      refine or_step [a, b, c] 1 _ (by simp) (by simp) hb ?_
      by_cases hc : c = 0
      · rw [hc]
        exact or_step [a, b, 0] 2 0 (by simp) (by simp) rfl (or_end _)
      · exact or_hit [a, b, c] 2 (by simp) hc
    · rw [if_neg hb]
      exact or_hit [a, b, c] 1 (by simp) hb
  · rw [if_neg ha]
    exact or_hit [a, b, c] 0 (by simp) ha

theorem impl_order (a b : S56) : Ev (fun k => impl_eventOrder.f k a.f0 a.f1 a.f2 a.f3 b.f0 b.f1 b.f2 b.f3) (if cmp3 a.f0 b.f0 = 0 then (if cmp3 a.f3 b.f3 = 0 then cmp3 a.f2 b.f2 else cmp3 a.f3 b.f3) else cmp3 a.f0 b.f0) := by
  simp only [impl_eventOrder.f, compare_eq, Option.bind_some]
  exact Ev.bind (or3_ev _ _ _) (Ev.now _)

theorem order_lt (a b : S56) : ((if cmp3 a.f0 b.f0 = 0 then (if cmp3 a.f3 b.f3 = 0 then cmp3 a.f2 b.f2 else cmp3 a.f3 b.f3) else cmp3 a.f0 b.f0) ≥ 0) ↔ ¬ evLt a b = true := by
  unfold cmp3 evLt
  repeat' split
  all_goals (simp <;> omega)

theorem impl_score_ev (l : List S56) (hl : l.length ≤ 1048576) (d : Nat) : ∀ (i : Nat) (p : Option S56), i + d = l.length → (i = 0 ∧ p = none ∨ ∃ h : i - 1 < l.length, 0 < i ∧ p = some l[i - 1]) →
    Ev (fun k => impl_IsScore.l0 k l l (l.length : Int) (i : Int)) (scL p (l.drop i) && decide (l.length ≤ 40)) := by
  induction d with
  | zero =>
    intro i p hi hp
    rw [List.drop_of_length_le (by omega)]
    refine Ev.one (fun k => ?_)
    simp only [impl_IsScore.l0, scL, Bool.true_and]
    rw [if_neg (by omega)]
    refine congrArg some (decide_eq_decide.2 ?_)
    omega
  | succ d ih =>
    intro i p hi hp
    have hlt : i < l.length := by omega
    rw [drop_cons l i hlt]
    have next := ih (i + 1) (some l[i]) (by omega) (.inr ⟨by omega, by omega, rfl⟩)
    by_cases h0 : evOk l[i] = true
    · have hx : (0 ≤ l[i].f0 ∧ l[i].f0 ≤ 2000) ∧ (1 ≤ l[i].f1 ∧ l[i].f1 ≤ 96) ∧ (21 ≤ l[i].f2 ∧ l[i].f2 ≤ 108) ∧ (1 ≤ l[i].f3 ∧ l[i].f3 ≤ 4) := by simpa only [evOk, decide_eq_true_eq] using h0
      rcases hp with ⟨rfl, rfl⟩ | ⟨hi1, hpos, rfl⟩
      · refine Ev.step (f := fun k => impl_IsScore.l0 k l l (l.length : Int) ((0 + 1 : Nat) : Int)) (fun k => ?_) ?_
        · simp only [impl_IsScore.l0, inRange_eq, Option.bind_some]
          rw [if_pos (by omega), if_pos (by omega), if_pos (by omega), rdEvent_get l 0 hlt, if_pos (decide_eq_true hx.1), if_pos (decide_eq_true hx.2.1), if_pos (decide_eq_true hx.2.2.1), if_pos (decide_eq_true hx.2.2.2), if_neg (by omega), w64_nat 0 (by omega)]
        · rw [scL, h0, evNext, Bool.true_and, Bool.true_and]
          exact next
      · have hw : wrap64 ((i : Int) - 1) = ((i - 1 : Nat) : Int) := by unfold wrap64; omega
        refine Ev.step (f := fun k => (impl_eventOrder.f k l[i - 1].f0 l[i - 1].f1 l[i - 1].f2 l[i - 1].f3 l[i].f0 l[i].f1 l[i].f2 l[i].f3).bind fun t => if t ≥ 0 then some false else impl_IsScore.l0 k l l (l.length : Int) ((i + 1 : Nat) : Int)) (fun k => ?_) ?_
        · simp only [impl_IsScore.l0, inRange_eq, Option.bind_some]
          rw [if_pos (by omega), if_pos (by omega), if_pos (by omega), rdEvent_get l i hlt, if_pos (decide_eq_true hx.1), if_pos (decide_eq_true hx.2.1), if_pos (decide_eq_true hx.2.2.1), if_pos (decide_eq_true hx.2.2.2), if_pos (by omega), hw, if_pos (by omega), if_pos (by omega), rdEvent_get l (i - 1) hi1, w64_nat i (by omega)]
        · refine Ev.bind (impl_order _ _) ?_
          by_cases h2 : evLt l[i - 1] l[i] = true
          · simp only [if_neg (fun h => (order_lt _ _).1 h h2)]
            rw [scL, h0, evNext, h2, Bool.true_and, Bool.true_and]
            exact next
          · simp only [if_pos ((order_lt _ _).2 h2)]
            rw [Bool.not_eq_true] at h2
            rw [scL, h0, evNext, h2, Bool.and_false, Bool.false_and, Bool.false_and]
            exact Ev.now _
    · have h0' := h0
      rw [Bool.not_eq_true] at h0'
      rw [scL, h0', Bool.false_and, Bool.false_and, Bool.false_and]
      have hx : ¬ ((0 ≤ l[i].f0 ∧ l[i].f0 ≤ 2000) ∧ (1 ≤ l[i].f1 ∧ l[i].f1 ≤ 96) ∧ (21 ≤ l[i].f2 ∧ l[i].f2 ≤ 108) ∧ (1 ≤ l[i].f3 ∧ l[i].f3 ≤ 4)) := by simpa only [evOk, decide_eq_true_eq] using h0
      refine Ev.one (fun k => ?_)
      simp only [impl_IsScore.l0, inRange_eq, Option.bind_some]
      rw [if_pos (by omega), if_pos (by omega), if_pos (by omega), rdEvent_get l i hlt]
      by_cases g0 : 0 ≤ l[i].f0 ∧ l[i].f0 ≤ 2000
      · rw [if_pos (decide_eq_true g0)]
        by_cases g1 : 1 ≤ l[i].f1 ∧ l[i].f1 ≤ 96
        · rw [if_pos (decide_eq_true g1)]
          by_cases g2 : 21 ≤ l[i].f2 ∧ l[i].f2 ≤ 108
          · rw [if_pos (decide_eq_true g2)]
            by_cases g3 : 1 ≤ l[i].f3 ∧ l[i].f3 ≤ 4
            · exact absurd ⟨g0, g1, g2, g3⟩ hx
            · rw [if_neg (by simpa using g3)]
          · rw [if_neg (by simpa using g2)]
        · rw [if_neg (by simpa using g1)]
      · rw [if_neg (by simpa using g0)]

theorem impl_score (l : List S56) (hl : l.length ≤ 1048576) : Ev (fun k => impl_IsScore.f k l) (isScore l) := impl_score_ev l hl l.length 0 none (by omega) (.inl ⟨rfl, rfl⟩)

def endL : Int → List S56 → Int
  | n, [] => n
  | n, x :: l => endL (if x.f0 + x.f1 > n then x.f0 + x.f1 else n) l
def endR (l : List S56) : Int := if isScore l = true then endL 0 l else 0

theorem endL_bound (l : List S56) : ∀ n, 0 ≤ n → n ≤ 2096 → (∀ x ∈ l, 0 ≤ x.f0 + x.f1 ∧ x.f0 + x.f1 ≤ 2096) → 0 ≤ endL n l ∧ endL n l ≤ 2096 := by
  induction l with
  | nil => intro n h0 h1 _; exact ⟨h0, h1⟩
  | cons x l ih =>
    intro n h0 h1 hx
    have := hx x (by simp)
    rw [endL]
    exact ih _ (by split <;> omega) (by split <;> omega) (fun y hy => hx y (by simp [hy]))

theorem endR_bound (l : List S56) : 0 ≤ endR l ∧ endR l ≤ 2096 := by
  unfold endR
  split
  · rename_i h
    exact endL_bound l 0 (by omega) (by omega) (fun x hx => by have := isScore_at h x hx; omega)
  · omega

theorem spec_end (l : List S56) (hl : l.length ≤ 1048576) : Ev (fun k => spec_EndOf.f k l) (endR l) := by
  unfold endR
  by_cases hs : isScore l = true
  · rw [if_pos hs]
    have hlen := (isScore_iff hs).2
    have key : ∀ (d i : Nat) (n : Int), i + d = l.length → Ev (fun k => spec_EndOf.l0 k l n (i : Int)) (endL n (l.drop i)) := by
      intro d
      induction d with
      | zero =>
        intro i n hi
        rw [List.drop_of_length_le (by omega)]
        refine Ev.one (fun k => ?_)
        simp only [spec_EndOf.l0, endL]
        rw [if_neg (by omega)]
      | succ d ih =>
        intro i n hi
        have hlt : i < l.length := by omega
        have hx := isScore_at hs _ (List.getElem_mem hlt)
        rw [drop_cons l i hlt, endL]
        refine Ev.step (f := fun k => (spec_IsScore.f k l).bind fun t => if t = true then spec_EndOf.l0 k l (if l[i].f0 + l[i].f1 > n then l[i].f0 + l[i].f1 else n) ((i + 1 : Nat) : Int) else some n) (fun k => ?_) (Ev.bind (spec_score l hl) ?_)
        · have hc : 0 ≤ (i : Int) := by omega
          have hw : wrap64 (l[i].f0 + l[i].f1) = l[i].f0 + l[i].f1 := w64 (by omega) (by omega)
          have hm : spec_Max.f n (l[i].f0 + l[i].f1) = some (if l[i].f0 + l[i].f1 > n then l[i].f0 + l[i].f1 else n) := by
            unfold spec_Max.f
            split <;> rfl
          simp only [spec_EndOf.l0, hc, if_true, rdEvent_get l i hlt, hw, hm, Option.bind_some, w64_nat i (by omega : i ≤ 9223372036854775806)]
          rw [if_pos (by omega)]
        · simp only [hs, if_true]
          exact ih (i + 1) _ (by omega)
    exact key l.length 0 0 (by omega)
  · rw [if_neg hs]
    by_cases hz : l.length = 0
    · refine Ev.one (fun k => ?_)
      simp only [spec_EndOf.f, spec_EndOf.l0]
      rw [if_neg (by omega)]
    · refine Ev.step (f := fun k => (spec_IsScore.f k l).bind fun t => if t = true then (if (0 : Int) ≤ 0 then ((spec_Max.f 0 (wrap64 ((rd_T56 l 0).f0 + (rd_T56 l 0).f1))).bind fun t => spec_EndOf.l0 k l t (wrap64 (0 + 1))) else none) else some 0) (fun k => ?_) (Ev.bind (spec_score l hl) ?_)
      · simp only [spec_EndOf.f, spec_EndOf.l0]
        rw [if_pos (by omega)]
      · simp only [hs, Bool.false_eq_true, if_false]
        exact Ev.now _

theorem impl_end (l : List S56) (hl : l.length ≤ 1048576) : Ev (fun k => impl_EndOf.f k l) (endR l) := by
  simp only [impl_EndOf.f]
  refine Ev.bind (impl_score l hl) ?_
  unfold endR
  by_cases hs : isScore l = true
  · simp only [hs, if_true]
    have hlen := (isScore_iff hs).2
    have key : ∀ (d i : Nat) (n : Int), i + d = l.length → Ev (fun k => impl_EndOf.l0 k n l (l.length : Int) (i : Int)) (endL n (l.drop i)) := by
      intro d
      induction d with
      | zero =>
        intro i n hi
        rw [List.drop_of_length_le (by omega)]
        refine Ev.one (fun k => ?_)
        simp only [impl_EndOf.l0, endL]
        rw [if_neg (by omega)]
      | succ d ih =>
        intro i n hi
        have hlt : i < l.length := by omega
        have hx := isScore_at hs _ (List.getElem_mem hlt)
        rw [drop_cons l i hlt, endL]
        refine Ev.step (fun k => ?_) (ih (i + 1) _ (by omega))
        simp only [impl_EndOf.l0]
        rw [if_pos (by omega), if_pos (by omega), if_pos (by omega), rdEvent_get l i hlt, w64_nat i (by omega), w64 (by omega) (by omega)]
        rfl
    exact key l.length 0 0 (by omega)
  · simp only [hs, Bool.false_eq_true, if_false]
    exact Ev.now _


def mkOne (x : List S56) (i c : Int) : List S56 :=
  let y1 := x.set i.toNat ⟨c, (rd_T56 x i).f1, (rd_T56 x i).f2, (rd_T56 x i).f3⟩
  let y2 := y1.set i.toNat ⟨(rd_T56 y1 i).f0, wrap64 (c + 1), (rd_T56 y1 i).f2, (rd_T56 y1 i).f3⟩
  let y3 := y2.set i.toNat ⟨(rd_T56 y2 i).f0, (rd_T56 y2 i).f1, wrap64 (wrap64 (c + 1) + 1), (rd_T56 y2 i).f3⟩
  y3.set i.toNat ⟨(rd_T56 y3 i).f0, (rd_T56 y3 i).f1, (rd_T56 y3 i).f2, wrap64 (wrap64 (wrap64 (c + 1) + 1) + 1)⟩

theorem markEvent_any (d : Nat) : ∀ (i c : Nat) (x : List S56), i + d = x.length → x.length ≤ 1048576 → c + 4 * d ≤ 100000000 → ∃ x', Ev (fun k => laws_markEventS.l0 k x (c : Int) (i : Int)) (((c + 4 * d : Nat) : Int), x') := by
  induction d with
  | zero =>
    intro i c x hi hx hc
    refine ⟨x, Ev.one (fun k => ?_)⟩
    simp only [laws_markEventS.l0]
    rw [if_neg (by omega)]
    rfl
  | succ d ih =>
    intro i c x hi hx hc
    obtain ⟨x', h⟩ := ih (i + 1) (c + 4) (mkOne x (i : Int) (c : Int)) (by simp [mkOne]; omega) (by simpa [mkOne] using hx) (by omega)
    refine ⟨x', ?_⟩
    rw [show c + 4 + 4 * d = c + 4 * (d + 1) by omega] at h
    refine Ev.step (fun k => ?_) h
    have e : wrap64 (wrap64 (wrap64 (wrap64 ((c : Int) + 1) + 1) + 1) + 1) = ((c + 4 : Nat) : Int) := by
      rw [w64_nat c (by omega), w64_nat (c + 1) (by omega), w64_nat (c + 1 + 1) (by omega), w64_nat (c + 1 + 1 + 1) (by omega)]
    simp only [laws_markEventS.l0, Option.bind_some]
    rw [if_pos (by omega), if_pos (by omega), e, w64_nat i (by omega)]
    rfl

theorem rdlEvent_get (l : List S58) (i : Nat) (h : i < l.length) : rd_T58 l (i : Int) = l[i] := by
  simp [rd_T58, List.getD, List.getElem?_eq_getElem h]

def cvEvent (x : S58) : S56 := ⟨x.f0, x.f1, x.f2, x.f3⟩

theorem toEventS_ev (l : List S58) (hl : l.length ≤ 1048576) : Ev (fun k => laws_toEventS.f k l) (l.map cvEvent) := by
  have key := copyLoop (fun k x3 i => laws_toEventS.l0 k l x3 i) l cvEvent (by
    intro x3 i r hi hx h
    refine Ev.step (fun k => ?_) h
    simp only [laws_toEventS.l0, laws_toEvent.f, Option.bind_some]
    rw [if_pos (by omega), if_pos (by omega), if_pos (by omega), rdlEvent_get l i hi, w64_nat i (by omega), Int.toNat_natCast]
    rfl) (by
    intro x3
    refine Ev.one (fun k => ?_)
    simp only [laws_toEventS.l0]
    rw [if_neg (by omega)]) (List.replicate l.length z56) (by simp)
  refine Ev.congr (fun k => ?_) key
  simp only [laws_toEventS.f, Int.toNat_natCast]
  rw [if_pos (by omega), if_pos (by omega)]

theorem eqEventS_ev (l : List S56) (hl : l.length ≤ 140737488355328) : Ev (fun k => laws_eqEventS.f k l l) true := by
  have key := eqLoop (fun k i => laws_eqEventS.l0 k l l i) l (by
    intro i r hi h
    refine Ev.step (fun k => ?_) h
    simp only [laws_eqEventS.l0, laws_eqEvent.f, if_true, Option.bind_some]
    rw [if_pos (by omega), if_pos (by omega), if_pos (by omega), w64_nat i (by omega)]) (by
    refine Ev.one (fun k => ?_)
    simp only [laws_eqEventS.l0]
    rw [if_neg (by omega)])
  refine Ev.congr (fun k => ?_) key
  simp only [laws_eqEventS.f, if_true]

theorem szEventS_ev (l : List S58) (b : Int) (hb : 0 ≤ b) (hb2 : b ≤ 1048576) (h0 : l.length ≤ 9223372036854775807) : laws_szEventS.f l b = some (if b < (l.length : Int) then -1 else b - (l.length : Int)) := by
  simp only [laws_szEventS.f]
  rw [w64 (by omega) (by omega)]
  split
  · rw [if_pos (by omega)]
  · rw [if_neg (by omega)]

def partF (e : Int) : Int → List S82 → List S56 → List S82 × Bool
  | t, out, [] => if e < t then ([], false) else if e > t then (out ++ [⟨t, e - t, 0⟩], true) else (out, true)
  | t, out, x :: l => if x.f0 < t then ([], false) else partF e (x.f0 + x.f1) ((if x.f0 > t then out ++ [⟨t, x.f0 - t, 0⟩] else out) ++ [⟨x.f0, x.f1, x.f2⟩]) l
theorem partF_len (e : Int) (l : List S56) : ∀ t out, (partF e t out l).1.length ≤ out.length + 2 * l.length + 1 := by
  induction l with
  | nil =>
    intro t out
    rw [partF]
    split
    · simp
    · split <;> simp
  | cons x l ih =>
    intro t out
    rw [partF]
    split
    · simp
    · refine Nat.le_trans (ih _ _) ?_
      rw [List.length_append, List.length_cons, List.length_cons, List.length_nil]
      split
      · rw [List.length_append, List.length_cons, List.length_nil]; omega
      · omega
theorem ev_small {l : List S56} (h : isScore l = true) (v : Int) (x : S56) (hx : x ∈ l.filter (inV v)) : 0 ≤ x.f0 ∧ x.f0 ≤ 2000 ∧ 1 ≤ x.f1 ∧ x.f1 ≤ 96 := by
  have := isScore_at h x (List.mem_filter.1 hx).1
  omega
theorem spec_part_loop (s : List S56) (e : Int) (he : 0 ≤ e ∧ e ≤ 2096) (hs : isScore s = true) (hs1 : s.length ≤ 1048576) (l : List S56) (hl : l.length ≤ 1048576) (hx : ∀ x ∈ l, 0 ≤ x.f0 ∧ x.f0 ≤ 2000 ∧ 1 ≤ x.f1 ∧ x.f1 ≤ 96) (d : Nat) : ∀ (i : Nat) (o : List S82) (t : Int), i + d = l.length → 0 ≤ t → t ≤ 2096 → o.length ≤ 2 * i →
    Ev (fun k => spec_PartFrom.l0 k s e o l t (i : Int)) (partF e t o (l.drop i)) := by
  have hsc := spec_score s hs1
  rw [hs] at hsc
  induction d with
  | zero =>
    intro i o t hi h0 h1 ho
    rw [List.drop_of_length_le (by omega), partF]
    refine Ev.step (f := fun k => spec_PartFrom.j1 k s e o l t (i : Int) false) (fun k => ?_) ?_
    · simp only [spec_PartFrom.l0]
      rw [if_neg (by omega)]
    · refine Ev.step (fun k => by simp only [spec_PartFrom.j1, Bool.false_eq_true, if_false]; rfl) ?_
      refine Ev.bind hsc ?_
      simp only [if_true]
      by_cases h2 : e < t
      · simp only [h2, if_true]
        refine Ev.one (fun k => ?_)
        simp only [spec_PartFrom.j2, if_true]
      · have h3 : decide (e > 2096) = false := decide_eq_false (by omega)
        simp only [h2, if_false, h3]
        by_cases h4 : e > t
        · refine Ev.one (fun k => ?_)
          simp only [spec_PartFrom.j2, Bool.false_eq_true, if_false]
          rw [if_pos h4, if_pos (by omega), w64 (by omega) (by omega), if_pos h4]
        · refine Ev.one (fun k => ?_)
          simp only [spec_PartFrom.j2, Bool.false_eq_true, if_false]
          rw [if_neg h4, if_neg h4]
  | succ d ih =>
    intro i o t hi h0 h1 ho
    have hlt : i < l.length := by omega
    have hxi := hx _ (List.getElem_mem hlt)
    rw [drop_cons l i hlt, partF]
    refine Ev.step (f := fun k => (spec_IsScore.f k s).bind fun q => spec_PartFrom.j1 k s e o l t (i : Int) q) (fun k => ?_) (Ev.bind hsc ?_)
    · simp only [spec_PartFrom.l0]
      rw [if_pos (by omega)]
    · by_cases h2 : l[i].f0 < t
      · rw [if_pos h2]
        refine Ev.one (fun k => ?_)
        simp only [spec_PartFrom.j1, if_true]
        rw [if_pos (by omega), if_pos (by omega), rdEvent_get l i hlt, if_pos h2]
      · rw [if_neg h2]
        by_cases h3 : l[i].f0 > t
        · rw [if_pos h3]
          refine Ev.step (fun k => ?_) (ih (i + 1) _ (l[i].f0 + l[i].f1) (by omega) (by omega) (by omega) (by simp; omega))
          simp only [spec_PartFrom.j1, if_true, Option.bind_some]
          rw [if_pos (by omega), if_pos (by omega), rdEvent_get l i hlt, if_neg h2, if_pos h3, if_pos (by omega), if_pos (by simp; omega), w64 (x := l[i].f0 - t) (by omega) (by omega), w64 (x := l[i].f0 + l[i].f1) (by omega) (by omega), w64_nat i (by omega)]
        · rw [if_neg h3]
          refine Ev.step (fun k => ?_) (ih (i + 1) _ (l[i].f0 + l[i].f1) (by omega) (by omega) (by omega) (by simp; omega))
          simp only [spec_PartFrom.j1, if_true, Option.bind_some]
          rw [if_pos (by omega), if_pos (by omega), rdEvent_get l i hlt, if_neg h2, if_neg h3, if_pos (by omega), w64 (x := l[i].f0 + l[i].f1) (by omega) (by omega), w64_nat i (by omega)]
theorem impl_part_loop (e : Int) (he : 0 ≤ e ∧ e ≤ 2096) (l : List S56) (hl : l.length ≤ 1048576) (hx : ∀ x ∈ l, 0 ≤ x.f0 ∧ x.f0 ≤ 2000 ∧ 1 ≤ x.f1 ∧ x.f1 ≤ 96) (d : Nat) : ∀ (i : Nat) (o : List S82) (t : Int), i + d = l.length → 0 ≤ t → t ≤ 2096 → o.length ≤ 2 * i →
    Ev (fun k => impl_PartFrom.l0 k e o t l (l.length : Int) (i : Int)) (partF e t o (l.drop i)) := by
  induction d with
  | zero =>
    intro i o t hi h0 h1 ho
    rw [List.drop_of_length_le (by omega), partF]
    refine Ev.one (fun k => ?_)
    simp only [impl_PartFrom.l0]
    rw [if_neg (by omega)]
    by_cases h2 : e < t
    · rw [if_pos h2, if_pos h2]
    · rw [if_neg h2, if_neg h2]
      by_cases h4 : e > t
      · rw [if_pos h4, if_pos (by omega), w64 (by omega) (by omega), if_pos h4]
      · rw [if_neg h4, if_neg h4]
  | succ d ih =>
    intro i o t hi h0 h1 ho
    have hlt : i < l.length := by omega
    have hxi := hx _ (List.getElem_mem hlt)
    rw [drop_cons l i hlt, partF]
    by_cases h2 : l[i].f0 < t
    · rw [if_pos h2]
      refine Ev.one (fun k => ?_)
      simp only [impl_PartFrom.l0]
      rw [if_pos (by omega), if_pos (by omega), if_pos (by omega), rdEvent_get l i hlt, if_pos h2]
    · rw [if_neg h2]
      by_cases h3 : l[i].f0 > t
      · rw [if_pos h3]
        refine Ev.step (fun k => ?_) (ih (i + 1) _ (l[i].f0 + l[i].f1) (by omega) (by omega) (by omega) (by simp; omega))
        simp only [impl_PartFrom.l0, Option.bind_some]
        rw [if_pos (by omega), if_pos (by omega), if_pos (by omega), rdEvent_get l i hlt, if_neg h2, if_pos h3, if_pos (by omega), if_pos (by simp; omega), w64 (x := l[i].f0 - t) (by omega) (by omega), w64 (x := l[i].f0 + l[i].f1) (by omega) (by omega), w64_nat i (by omega)]
      · rw [if_neg h3]
        refine Ev.step (fun k => ?_) (ih (i + 1) _ (l[i].f0 + l[i].f1) (by omega) (by omega) (by omega) (by simp; omega))
        simp only [impl_PartFrom.l0, Option.bind_some]
        rw [if_pos (by omega), if_pos (by omega), if_pos (by omega), rdEvent_get l i hlt, if_neg h2, if_neg h3, if_pos (by omega), w64 (x := l[i].f0 + l[i].f1) (by omega) (by omega), w64_nat i (by omega)]
def partV (l : List S56) (v : Int) : List S82 × Bool := partF (endR l) 0 [] (l.filter (inV v))
theorem filt_le (l : List S56) (v : Int) : (l.filter (inV v)).length ≤ l.length := List.length_filter_le _ _
theorem spec_part (l : List S56) (v : Int) (hs : isScore l = true) : Ev (fun k => spec_PartFrom.f k l v (endR l)) (partV l v) := by
  have h40 := (isScore_iff hs).2
  have hf := filt_le l v
  simp only [spec_PartFrom.f]
  refine Ev.bind (spec_voice l v (by omega)) ?_
  exact spec_part_loop l (endR l) (endR_bound l) hs (by omega) (l.filter (inV v)) (by omega) (ev_small hs v) (l.filter (inV v)).length 0 [] 0 (by omega) (by omega) (by omega) (by simp)
theorem impl_partv (l : List S56) (v : Int) (hs : isScore l = true) : Ev (fun k => impl_PartFrom.f k l v (endR l)) (partV l v) := by
  have h40 := (isScore_iff hs).2
  have hf := filt_le l v
  have hsc := impl_score l (by omega)
  have hb := endR_bound l
  rw [hs] at hsc
  simp only [impl_PartFrom.f, Option.bind_some]
  refine Ev.bind hsc ?_
  have h3 : decide (endR l > 2096) = false := decide_eq_false (by omega)
  simp only [if_true, h3]
  refine Ev.step (fun k => by simp only [impl_PartFrom.j0, Bool.false_eq_true, if_false]; rfl) ?_
  refine Ev.bind (impl_voice l v (by omega)) ?_
  exact impl_part_loop (endR l) hb (l.filter (inV v)) (by omega) (ev_small hs v) (l.filter (inV v)).length 0 [] 0 (by omega) (by omega) (by omega) (by simp)
def copyL (l : List S56) : Nat → Int → List (List S82) → List (List S82) × Bool
  | 0, _, out => (out, true)
  | n + 1, v, out => if (partV l v).2 = true then copyL l n (v + 1) (out ++ [(partV l v).1]) else ([], false)
def copyR (l : List S56) (n : Int) : List (List S82) × Bool := if isScore l = true ∧ (1 ≤ n ∧ n ≤ 4) then copyL l n.toNat 1 [] else ([], false)
theorem sumLen_app {α : Type} (a b : List (List α)) : sumLen (a ++ b) = sumLen a + sumLen b := by
  induction a with
  | nil => simp [sumLen]
  | cons x a ih => rw [List.cons_append, sumLen, sumLen, ih]; omega
theorem copyL_len (l : List S56) (hs : l.length ≤ 40) (n : Nat) : ∀ v out, (copyL l n v out).1.length ≤ out.length + n ∧ sumLen (copyL l n v out).1 ≤ sumLen out + 100 * n := by
  induction n with
  | zero => intro v out; exact ⟨by simp [copyL], by simp [copyL]⟩
  | succ n ih =>
    intro v out
    rw [copyL]
    split
    · obtain ⟨h1, h2⟩ := ih (v + 1) (out ++ [(partV l v).1])
      have h3 := partF_len (endR l) (l.filter (inV v)) 0 []
      have h4 := filt_le l v
      have h5 : (partV l v).1.length ≤ 100 := by
        unfold partV
        rw [List.length_nil] at h3
        omega
      rw [List.length_append, List.length_cons, List.length_nil] at h1
      rw [sumLen_app, sumLen, sumLen] at h2
      exact ⟨by omega, by omega⟩
    · exact ⟨by simp, by simp [sumLen]⟩
theorem copyR_len (l : List S56) (n : Int) : (copyR l n).1.length ≤ 4 ∧ sumLen (copyR l n).1 ≤ 400 := by
  unfold copyR
  split
  · rename_i h
    obtain ⟨h1, h2⟩ := copyL_len l (isScore_iff h.1).2 n.toNat 1 []
    rw [List.length_nil] at h1
    rw [sumLen] at h2
    exact ⟨by omega, by omega⟩
  · exact ⟨by simp, by simp [sumLen]⟩
theorem spec_copy_loop (l : List S56) (n : Int) (hn : 1 ≤ n ∧ n ≤ 4) (hs : isScore l = true) (d : Nat) : ∀ (v : Int) (o : List (List S82)), v + d = n + 1 → 1 ≤ v → (o.length : Int) ≤ v → Ev (fun k => spec_CopyParts.l0 k l n o v) (copyL l d v o) := by
  have h40 := (isScore_iff hs).2
  induction d with
  | zero =>
    intro v o hv h1 ho
    rw [copyL]
    refine Ev.one (fun k => ?_)
    simp only [spec_CopyParts.l0]
    rw [if_neg (by omega)]
  | succ d ih =>
    intro v o hv h1 ho
    rw [copyL]
    refine Ev.step (f := fun k => (spec_EndOf.f k l).bind fun t => (spec_PartFrom.f k l v t).bind fun b => if b.2 = true then (if o.length < 5864062014805 then spec_CopyParts.l0 k l n (o ++ [b.1]) (v + 1) else none) else some ([], false)) (fun k => ?_) (Ev.bind (spec_end l (by omega)) (Ev.bind (spec_part l v hs) ?_))
    · simp only [spec_CopyParts.l0]
      rw [if_pos (by omega), w64 (x := v + 1) (by omega) (by omega)]
    · by_cases h : (partV l v).2 = true
      · have hlim : o.length < 5864062014805 := by omega
        simp only [h, if_true, hlim]
        exact ih (v + 1) _ (by omega) (by omega) (by rw [List.length_append, List.length_cons, List.length_nil]; omega)
      · simp only [h, Bool.false_eq_true, if_false]
        exact Ev.now _
theorem impl_copy_loop (l : List S56) (n : Int) (hn : 1 ≤ n ∧ n ≤ 4) (hs : isScore l = true) (d : Nat) : ∀ (v : Int) (o : List (List S82)), v + d = n + 1 → 1 ≤ v → (o.length : Int) ≤ v → Ev (fun k => impl_CopyParts.l0 k l n o v) (copyL l d v o) := by
  have h40 := (isScore_iff hs).2
  induction d with
  | zero =>
    intro v o hv h1 ho
    rw [copyL]
    refine Ev.one (fun k => ?_)
    simp only [impl_CopyParts.l0]
    rw [if_neg (by omega)]
  | succ d ih =>
    intro v o hv h1 ho
    rw [copyL]
    refine Ev.step (f := fun k => (impl_EndOf.f k l).bind fun t => (impl_PartFrom.f k l v t).bind fun b => if b.2 = true then (if o.length < 5864062014805 then impl_CopyParts.l0 k l n (o ++ [b.1]) (v + 1) else none) else some ([], false)) (fun k => ?_) (Ev.bind (impl_end l (by omega)) (Ev.bind (impl_partv l v hs) ?_))
    · simp only [impl_CopyParts.l0]
      rw [if_pos (by omega), w64 (x := v + 1) (by omega) (by omega)]
    · by_cases h : (partV l v).2 = true
      · have hlim : o.length < 5864062014805 := by omega
        simp only [h, if_true, hlim]
        exact ih (v + 1) _ (by omega) (by omega) (by rw [List.length_append, List.length_cons, List.length_nil]; omega)
      · simp only [h, Bool.false_eq_true, if_false]
        exact Ev.now _
theorem spec_copy (l : List S56) (n : Int) (hl : l.length ≤ 1048576) : Ev (fun k => spec_CopyParts.f k l n) (copyR l n) := by
  have hbad : Ev (fun k => spec_CopyParts.j0 k l n [] true) ([], false) := Ev.one (fun k => by simp only [spec_CopyParts.j0, if_true])
  simp only [spec_CopyParts.f, Option.bind_some, copyR]
  refine Ev.bind (spec_score l hl) ?_
  by_cases h1 : isScore l = true
  · simp only [h1, if_true, true_and, l1In_eq, Option.bind_some]
    by_cases h2 : 1 ≤ n ∧ n ≤ 4
    · rw [if_pos h2]
      simp only [h2, and_self, decide_true, Bool.not_true]
      refine Ev.step (fun k => by simp only [spec_CopyParts.j0, Bool.false_eq_true, if_false]; rfl) ?_
      exact spec_copy_loop l n h2 h1 n.toNat 1 [] (by omega) (by omega) (by simp)
    · rw [if_neg h2]
      simp only [h2, decide_false, Bool.not_false]
      exact hbad
  · simp only [h1, Bool.false_eq_true, if_false, false_and]
    exact hbad
theorem impl_copy (l : List S56) (n : Int) (hl : l.length ≤ 1048576) : Ev (fun k => impl_CopyParts.f k l n) (copyR l n) := by
  have hbad : Ev (fun k => impl_CopyParts.j0 k l n [] true) ([], false) := Ev.one (fun k => by simp only [impl_CopyParts.j0, if_true])
  simp only [impl_CopyParts.f, Option.bind_some, copyR]
  refine Ev.bind (impl_score l hl) ?_
  by_cases h1 : isScore l = true
  · simp only [h1, if_true, true_and, inRange_eq, Option.bind_some]
    by_cases h2 : 1 ≤ n ∧ n ≤ 4
    · rw [if_pos h2]
      simp only [h2, and_self, decide_true, Bool.not_true]
      refine Ev.step (fun k => by simp only [impl_CopyParts.j0, Bool.false_eq_true, if_false]; rfl) ?_
      exact impl_copy_loop l n h2 h1 n.toNat 1 [] (by omega) (by omega) (by simp)
    · rw [if_neg h2]
      simp only [h2, decide_false, Bool.not_false]
      exact hbad
  · simp only [h1, Bool.false_eq_true, if_false, false_and]
    exact hbad
theorem FnExactCopyParts : ∀ (l0 : List (S58)) (a1 : Int), (l0.length ≤ maxLen ∧ l0.length * 32 ≤ 140737488351232 ∧ ∀ l0' ∈ l0, ((Lit.int .i64 l0'.f0).wf = true) ∧ ((Lit.int .i64 l0'.f1).wf = true) ∧ ((Lit.int .i64 l0'.f2).wf = true) ∧ ((Lit.int .i64 l0'.f3).wf = true)) → ((Lit.int .i64 a1).wf = true) → ∃ k, laws_FnExactCopyParts.f k l0 a1 = some true := by
  intro a n ha _
  have hma : a.length ≤ 9223372036854775807 := ha.1
  refine Ev.rounds (g := fun k => laws_FnExactCopyParts.f k a n) ?_
  simp only [laws_FnExactCopyParts.f, szEventS_ev a 1048576 (by omega) (by omega) hma, Option.bind_some]
  by_cases h1 : (1048576 : Int) < (a.length : Int)
  · simp only [h1, if_true]
    exact Ev.now true
  · have h1' : ¬ (1048576 - (a.length : Int) < 0) := by omega
    simp only [h1, h1', if_false]
    have hneg : ∀ q : Nat, ¬ ((q : Int) < 0) := fun q => by omega
    have ta := toEventS_ev a (by omega)
    have ea := eqEventS_ev (a.map cvEvent) (by simp; omega)
    have hs := spec_copy (a.map cvEvent) n (by simp; omega)
    have hi := impl_copy (a.map cvEvent) n (by simp; omega)
    obtain ⟨hl4, hl400⟩ := copyR_len (a.map cvEvent) n
    generalize copyR (a.map cvEvent) n = R at hs hi hl4 hl400
    have hmem := sumLen_mem R.1
    have hre := eqSignSS_ev R.1 (by omega) (fun x hx => by have := hmem x hx; omega)
    obtain ⟨m, hmr, hhe⟩ := markSS_held R.1 (by omega) (by omega)
    obtain ⟨m1, hm1⟩ := markEvent_any (a.map cvEvent).length 0 1 (a.map cvEvent) (by omega) (by simp; omega) (by simp; omega)
    refine Ev.bind ta ?_
    refine Ev.bind hs ?_
    refine Ev.bind ta ?_
    refine Ev.bind hi ?_
    refine Ev.bind hre ?_
    simp only [if_true, bne_self_eq_false]
    refine Ev.step (fun k => by simp only [laws_FnExactCopyParts.j0, Bool.false_eq_true, if_false]; rfl) ?_
    refine Ev.bind ta ?_
    refine Ev.bind ea ?_
    simp only [if_true]
    refine Ev.bind (g := fun k => laws_markEventS.f k (a.map cvEvent) 1) hm1 ?_
    simp only [hneg, if_false]
    refine Ev.bind hre ?_
    simp only [if_true, bne_self_eq_false]
    refine Ev.step (fun k => by simp only [laws_FnExactCopyParts.j1, Bool.false_eq_true, if_false]; rfl) ?_
    refine Ev.bind hmr ?_
    refine Ev.bind hhe ?_
    simp only [hneg, if_false, if_true]
    refine Ev.bind ta ?_
    refine Ev.bind hi ?_
    refine Ev.bind hre ?_
    simp only [if_true, bne_self_eq_false]
    refine Ev.step (fun k => by simp only [laws_FnExactCopyParts.j2, Bool.false_eq_true, if_false]; rfl) ?_
    refine Ev.bind hhe ?_
    simp only [hneg, if_false, if_true]
    exact Ev.now true

end Go.Proofs.Ytoebmmbpfapgaaa.Pure
