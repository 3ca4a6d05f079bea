/- Plain functions for the Go functions that the law FnExactCalledIn reaches, and for each the proof that the call answers as the plain function says; printed by a program of this session. -/
import Derived.Test.YtddpogakdagojaaQFnExactCalledInx0
import Derived.Test.YtddpogakdagojaaQFnExactCalledInx3
namespace Go.Proofs.Ytddpogakdagojaa.QFnExactCalledIn
open Go.RowKit Go.Proofs.YtddpogakdagojaaW.PrintWords Go.Proofs.YtddpogakdagojaaW.PrintLast Go.Proofs.YtddpogakdagojaaW.PrintMore
attribute [local go_sem] max2_int min2_int max_two min_two max_three min_three max_four min_four   -- for this text's walks alone
set_option linter.unusedVariables false
set_option linter.unusedSimpArgs false

/-! ### spec_CalledIn: function 32 -/
mutual
def spec_CalledIn.l0 : Nat → List (S59) → List Int → Int → List Int → Int → Option (List Int)
 | 0, _, _, _, _, _ => none
 | k + 1, x0, x1, x2, x7, x8 => if x8 < (x0.length : Int) then (spec_CalledIn.j1 k x0 x1 x2 x7 x8 (decide (x8 < (x1.length : Int)))) else (spec_CalledIn.j1 k x0 x1 x2 x7 x8 false)
def spec_CalledIn.j1 : Nat → List (S59) → List Int → Int → List Int → Int → Bool → Option (List Int)
 | 0, _, _, _, _, _, _ => none
 | k + 1, x0, x1, x2, x7, x8, x20 => if x20 = true then (if 0 ≤ x8 then (if x8 < (x1.length : Int) then (if (rd x1 x8) = x2 then (spec_CalledIn.l1 k x0 x1 x2 x7 x8 0) else (spec_CalledIn.l0 k x0 x1 x2 x7 (wrap64 (x8 + 1)))) else (none)) else (none)) else (some x7)
def spec_CalledIn.l1 : Nat → List (S59) → List Int → Int → List Int → Int → Int → Option (List Int)
 | 0, _, _, _, _, _, _ => none
 | k + 1, x0, x1, x2, x7, x8, x9 => if 0 ≤ x8 then (if x8 < (x0.length : Int) then (if x9 < (((rd_T59 x0 x8).f1).length : Int) then (if 0 ≤ x9 then ((spec_l8Num.f k x7 (rd ((rd_T59 x0 x8).f1) x9)).bind fun t184 => (spec_CalledIn.l1 k x0 x1 x2 t184 x8 (wrap64 (x9 + 1)))) else (none)) else (spec_CalledIn.l0 k x0 x1 x2 x7 (wrap64 (x8 + 1)))) else (none)) else (none)
end
def spec_CalledIn.f (k : Nat) (l0 : List (S59)) (l1 : List Int) (a2 : Int) : Option (List Int) := spec_CalledIn.l0 k l0 l1 a2 (([] : List Int)) 0
theorem spec_CalledIn.mono_l : ∀ k, (∀ y0 y1 y2 y3 y4, LeO (spec_CalledIn.l0 k y0 y1 y2 y3 y4) (spec_CalledIn.l0 (k + 1) y0 y1 y2 y3 y4)) ∧ (∀ y0 y1 y2 y3 y4 y5, LeO (spec_CalledIn.j1 k y0 y1 y2 y3 y4 y5) (spec_CalledIn.j1 (k + 1) y0 y1 y2 y3 y4 y5)) ∧ (∀ y0 y1 y2 y3 y4 y5, LeO (spec_CalledIn.l1 k y0 y1 y2 y3 y4 y5) (spec_CalledIn.l1 (k + 1) y0 y1 y2 y3 y4 y5))
 | 0 => ⟨fun _ _ _ _ _ r h => by simp [spec_CalledIn.l0] at h, fun _ _ _ _ _ _ r h => by simp [spec_CalledIn.j1] at h, fun _ _ _ _ _ _ r h => by simp [spec_CalledIn.l1] at h⟩
 | k + 1 => by
  obtain ⟨ih0, ih1, ih2⟩ := spec_CalledIn.mono_l k
  refine ⟨?_, ?_, ?_⟩
  ·intro y0 y1 y2 y3 y4
   unfold spec_CalledIn.l0
   repeat' first
   | (with_reducible exact ih0 _ _ _ _ _)
   | (with_reducible exact ih1 _ _ _ _ _ _)
   | (with_reducible exact ih2 _ _ _ _ _ _)
   | (with_reducible exact spec_l8Num.mono _ _ _)
   | (with_reducible exact LeO.refl _)
   | (with_reducible exact LeO.none _)
   | (with_reducible refine LeO.ite ?_ ?_)
   | (with_reducible refine LeO.bind ?_ (fun _ => ?_))
   | exact ih0 _ _ _ _ _
   | exact ih1 _ _ _ _ _ _
   | exact ih2 _ _ _ _ _ _
   | exact spec_l8Num.mono _ _ _
   | exact LeO.none _
   | refine LeO.ite ?_ ?_
   | refine LeO.bind ?_ (fun _ => ?_)
  ·intro y0 y1 y2 y3 y4 y5
   unfold spec_CalledIn.j1
   repeat' first
   | (with_reducible exact ih0 _ _ _ _ _)
   | (with_reducible exact ih1 _ _ _ _ _ _)
   | (with_reducible exact ih2 _ _ _ _ _ _)
   | (with_reducible exact spec_l8Num.mono _ _ _)
   | (with_reducible exact LeO.refl _)
   | (with_reducible exact LeO.none _)
   | (with_reducible refine LeO.ite ?_ ?_)
   | (with_reducible refine LeO.bind ?_ (fun _ => ?_))
   | exact ih0 _ _ _ _ _
   | exact ih1 _ _ _ _ _ _
   | exact ih2 _ _ _ _ _ _
   | exact spec_l8Num.mono _ _ _
   | exact LeO.none _
   | refine LeO.ite ?_ ?_
   | refine LeO.bind ?_ (fun _ => ?_)
  ·intro y0 y1 y2 y3 y4 y5
   unfold spec_CalledIn.l1
   repeat' first
   | (with_reducible exact ih0 _ _ _ _ _)
   | (with_reducible exact ih1 _ _ _ _ _ _)
   | (with_reducible exact ih2 _ _ _ _ _ _)
   | (with_reducible exact spec_l8Num.mono _ _ _)
   | (with_reducible exact LeO.refl _)
   | (with_reducible exact LeO.none _)
   | (with_reducible refine LeO.ite ?_ ?_)
   | (with_reducible refine LeO.bind ?_ (fun _ => ?_))
   | exact ih0 _ _ _ _ _
   | exact ih1 _ _ _ _ _ _
   | exact ih2 _ _ _ _ _ _
   | exact spec_l8Num.mono _ _ _
   | exact LeO.none _
   | refine LeO.ite ?_ ?_
   | refine LeO.bind ?_ (fun _ => ?_)
theorem spec_CalledIn.mono : ∀ a0 a1 a2 k, LeO (spec_CalledIn.f k a0 a1 a2) (spec_CalledIn.f (k + 1) a0 a1 a2) := by
 intro a0 a1 a2 k; obtain ⟨ih0, ih1, ih2⟩ := spec_CalledIn.mono_l k; unfold spec_CalledIn.f
 repeat' first
   | (with_reducible exact ih0 _ _ _ _ _)
   | (with_reducible exact ih1 _ _ _ _ _ _)
   | (with_reducible exact ih2 _ _ _ _ _ _)
   | (with_reducible exact spec_l8Num.mono _ _ _)
   | (with_reducible exact LeO.refl _)
   | (with_reducible exact LeO.none _)
   | (with_reducible refine LeO.ite ?_ ?_)
   | (with_reducible refine LeO.bind ?_ (fun _ => ?_))
   | exact ih0 _ _ _ _ _
   | exact ih1 _ _ _ _ _ _
   | exact ih2 _ _ _ _ _ _
   | exact spec_l8Num.mono _ _ _
   | exact LeO.none _
   | refine LeO.ite ?_ ?_
   | refine LeO.bind ?_ (fun _ => ?_)
set_option maxHeartbeats 8000000 in
set_option maxRecDepth 100000 in
theorem spec_CalledIn.calls (k : Nat) (A0 : Option Addr) (c0 : Nat) (l0 : List (S59)) (A1 : Option Addr) (c1 : Nat) (l1 : List Int) (a2 : Int) (r : List Int) (w : World) (hr0 : Kd.C k59 w A0 l0.length l0) (hc0 : l0.length ≤ c0) (hr1 : Kd.C (Kd.int .i64) w A1 l1.length l1) (hc1 : l1.length ≤ c1) (h : spec_CalledIn.f k l0 l1 a2 = some r) :
  Calls Try.prog 32 #[.slice A0 l0.length c0, .slice A1 l1.length c1, .int .i64 a2] w fun e w' => ∃ v0_ : Value, e = .returned (v0_) ∧ Kd.R (Kd.int .i64) 3 w' w.heap.size (fun _ => True) v0_ r ∧ Below w.heap.size w w' := by
 have HR0 := Aside0.mk hr0; have HC0 := Aside0.mk hc0; clear hr0 hc0; have HR1 := Aside0.mk hr1; have HC1 := Aside0.mk hc1; clear hr1 hc1; have HB := Aside0.mk (Below.refl w.heap.size w); have H : (spec_CalledIn.l0 k l0 l1 a2 (([] : List Int)) 0) = some r := h; clear h; obtain ⟨y177, hy177⟩ : ∃ y_ : List Int, y_ = (([] : List Int)) := ⟨_, rfl⟩; replace H : (spec_CalledIn.l0 k l0 l1 a2 y177 0) = some r := by first | (rw [hy177]; with_reducible exact H) | (have H2_ := (Option.bind_some _ _).symm.trans H; rw [hy177]; with_reducible exact H2_) | (have H2_ := (Option.bind_some _ _).symm.trans H; with_reducible exact H2_) | with_reducible exact H | (rw [hy177]; exact H) | exact H
 have Ny177 := Aside0.mk hy177; clear hy177; have H' := Aside0.mk H; clear H; go_enter Try.func32, Try.ntmps32; go_wp2_with (first | ((with_reducible refine gate_dst (N := 10) rfl ?_); (try (refine gate_guard (by rfl) ?_; dsimp only)); refine Kd.R_lit (Kd.int .i64) _ 3 ?hg (N := 10) ?hd (xs := ([] : List Int)) (inner := []) (ok := fun _ => True) (okp := fun _ => True) ?hr ?hp (fun _ hk => hk) trivial (Below.refl _ _) (Nat.le_refl _) (by simp) ?_; (case hd => rfl); (case hg => rfl); (case hr => first | (go_simp; done) | (go_simp; rfl)); (case hp => exact (Reps.none _ _)); intro v178 w4 ho5 hb hg_ hnew_; clear hg_ hnew_; (first | rw [← Ny177.out] at ho5 | (simp only [Int.reduceToNat] at ho5; rw [← Ny177.out] at ho5)); have n0_ := Aside0.mk (Kd.R_lower ho5 (below_size bl_)); have n1_ := Aside0.mk (below_step bl_ hb); clear HB; have HO179 := n0_; have HB := n1_; clear n0_ n1_; clear hb ho5)); go_loopg [7, 8] k (fun kq v7 v8 w' => ∃ (x7_1 : List Int) (x8_1 : Int), v8 = .int .i64 x8_1 ∧ Aside0 (spec_CalledIn.l0 kq l0 l1 a2 x7_1 x8_1 = some r) ∧ Aside0 (kq ≤ k) ∧ Aside0 (Kd.R (Kd.int .i64) 3 w' w.heap.size (fun _ => True) v7 x7_1) ∧ Aside0 (Below w.heap.size w w'))
 case atStart => exact ⟨(y177), (0), (by first | rfl | (simp; done) | (simp [*]; done)), H', ⟨Nat.le_refl _⟩, ⟨by exact rw_ HO179.out⟩, ⟨bl_⟩⟩
 case round =>
  clear H'; try clear c1
  try clear p2
  try clear c3
  obtain ⟨x7_1, x8_1, rfl, HA, HK1, HO_7, HB⟩ := hrel
  cases gk with
  | zero => exact absurd HA.out (by simp [spec_CalledIn.l0])
  | succ k1 =>
   have H := HA.out; clear HA; simp only [spec_CalledIn.l0] at H; have HC6 := Aside0.mk H; clear H; go_upto_region 3 with (fail)
   go_cut [20] (fun v20 wc => ∃ (kq : Nat) (x20_5 : Bool), v20 = .bool x20_5 ∧ Aside0 (spec_CalledIn.j1 kq l0 l1 a2 x7_1 x8_1 x20_5 = some r) ∧ Aside0 (kq ≤ k1) ∧ Aside0 (Kd.R (Kd.int .i64) 3 wc w.heap.size (fun _ => True) u7 x7_1) ∧ Aside0 (Below w.heap.size w wc))
   case first =>
    have H := HC6.out; clear HC6; by_cases c7 : x8_1 < (l0.length : Int)
    ·rw [if_pos c7] at H; have c7b0 : decide (x8_1 < (l0.length : Int)) = true := decide_eq_true c7; clear c7; (first | rw [c7b0] | (simp only [i64_w, i32_w]; rw [c7b0]) | skip); have H' := Aside0.mk H; clear H; go_wp2; go_meet
     case rel => exact ⟨_, (decide (x8_1 < (l1.length : Int))), (by first | rfl | (simp; done) | (simp [*]; done)), H', ⟨by have := HK1.out; first | omega | exact Nat.le_refl _⟩, ⟨by exact rw_ HO_7.out⟩, ⟨bl_⟩⟩
    ·rw [if_neg c7] at H; have c7b0 : decide (x8_1 < (l0.length : Int)) = false := decide_eq_false c7; clear c7; (first | rw [c7b0] | (simp only [i64_w, i32_w]; rw [c7b0]) | skip); have H' := Aside0.mk H; clear H; go_wp2; go_meet
     case rel => exact ⟨_, (false), (by first | rfl | (simp; done) | (simp [*]; done)), H', ⟨by have := HK1.out; first | omega | exact Nat.le_refl _⟩, ⟨by exact rw_ HO_7.out⟩, ⟨bl_⟩⟩
   case rest =>
    clear HC6; try clear c1
    try clear p2
    try clear c3
    try clear c7
    try clear c7b0
    try clear p2
    obtain ⟨kq, x20_5, rfl, HA, HJ5, HO_7, HB⟩ := hcut
    cases kq with
    | zero => exact absurd HA.out (by simp [spec_CalledIn.j1])
    | succ kj5 =>
     have H := HA.out; clear HA; simp only [spec_CalledIn.j1] at H; by_cases c8 : x20_5 = true
     ·subst c8; rw [if_pos rfl] at H; by_cases c9 : 0 ≤ x8_1
      ·rw [if_pos c9] at H; have c9b0 : decide (0 ≤ x8_1) = true := decide_eq_true c9; clear c9; by_cases c10 : x8_1 < (l1.length : Int)
       ·rw [if_pos c10] at H; have c10b0 : decide (x8_1 < (l1.length : Int)) = true := decide_eq_true c10; clear c10; by_cases c11 : (rd l1 x8_1) = a2
        ·rw [if_pos c11] at H; have c11b0 : ((rd l1 x8_1) == a2) = true := beq_iff_eq.mpr c11; have c11b1 : ((rd l1 x8_1) != a2) = false := bne_eq_false_iff_eq.mpr c11; clear c11; have H' := Aside0.mk H; clear H; have p180 : 0 ≤ (x8_1 : Int) := of_decide_eq_true (by first | (with_reducible assumption) | assumption); have q180 : x8_1 < (l1.length : Int) := of_decide_eq_true (by first | (with_reducible assumption) | assumption); obtain ⟨ad180, e180, hx180_0⟩ := Kd.at_int HR1.out x8_1 p180 q180
         cases e180; replace hx180_0 := (HB.out.cell (World.block_lt_of_cell? w _ hx180_0)).trans hx180_0; replace p180 := eq_true p180; replace q180 := eq_true q180; go_wp2; go_loopg [7, 9] kj5 (fun kq v7 v9 w' => ∃ (x7_3 : List Int) (x9_3 : Int), v9 = .int .i64 x9_3 ∧ Aside0 (spec_CalledIn.l1 kq l0 l1 a2 x7_3 x8_1 x9_3 = some r) ∧ Aside0 (kq ≤ kj5) ∧ Aside0 (Kd.R (Kd.int .i64) 3 w' w.heap.size (fun _ => True) v7 x7_3) ∧ Aside0 (Below w.heap.size w w'))
         case atStart => exact ⟨(x7_1), (0), (by first | rfl | (simp; done) | (simp [*]; done)), H', ⟨Nat.le_refl _⟩, ⟨by exact rw_ HO_7.out⟩, ⟨bl_⟩⟩
         case round =>
          clear H'; try clear c1
          try clear p1
          try clear q1
          try clear hx1
          try clear p2
          try clear c3
          try clear p6
          try clear c7
          try clear c7b0
          try clear c8
          try clear c9
          try clear c9b0
          try clear c10
          try clear c10b0
          try clear c11
          try clear c11b0
          try clear c11b1
          try clear hx180_0
          try clear p180
          try clear p2
          try clear q180
          obtain ⟨x7_3, x9_3, rfl, HA, HK3, HO_7, HB⟩ := hrel
          cases gk with
          | zero => exact absurd HA.out (by simp [spec_CalledIn.l1])
          | succ k3 =>
           have H := HA.out; clear HA; simp only [spec_CalledIn.l1] at H; by_cases c12 : 0 ≤ x8_1
           ·rw [if_pos c12] at H; have c12b0 : decide (0 ≤ x8_1) = true := decide_eq_true c12; clear c12; by_cases c13 : x8_1 < (l0.length : Int)
            ·rw [if_pos c13] at H; have c13b0 : decide (x8_1 < (l0.length : Int)) = true := decide_eq_true c13; clear c13; by_cases c14 : x9_3 < (((rd_T59 l0 x8_1).f1).length : Int)
             ·rw [if_pos c14] at H; have c14b0 : decide (x9_3 < (((rd_T59 l0 x8_1).f1).length : Int)) = true := decide_eq_true c14; clear c14; by_cases c15 : 0 ≤ x9_3
              ·rw [if_pos c15] at H; have c15b0 : decide (0 ≤ x9_3) = true := decide_eq_true c15; clear c15; replace H := Option.bind_eq_some_iff.mp H; obtain ⟨t184, A160, H⟩ := H; (try dsimp only at H); have A16 := Aside0.mk A160; clear A160; have H' := Aside0.mk H; clear H; have p181 : 0 ≤ (x8_1 : Int) := of_decide_eq_true (by first | (with_reducible assumption) | assumption); have q181 : x8_1 < (l0.length : Int) := of_decide_eq_true (by first | (with_reducible assumption) | assumption); obtain ⟨ad181, A181_1, c181_1, e181, hx181_0, hx181_1, hl181_1, hi181_1⟩ := at_T59 HR0.out x8_1 p181 q181
               cases e181; replace hx181_0 := (HB.out.cell (World.block_lt_of_cell? w _ hx181_0)).trans hx181_0; replace hx181_1 := (HB.out.cell (World.block_lt_of_cell? w _ hx181_1)).trans hx181_1; have HR181_1 := Aside0.mk hi181_1; have HC181_1 := Aside0.mk hl181_1; clear hi181_1 hl181_1; replace p181 := eq_true p181; replace q181 := eq_true q181; have p182 : 0 ≤ (x8_1 : Int) := of_decide_eq_true (by first | (with_reducible assumption) | assumption); have q182 : x8_1 < (l0.length : Int) := of_decide_eq_true (by first | (with_reducible assumption) | assumption); obtain ⟨ad182, A182_1, c182_1, e182, hx182_0, hx182_1, hl182_1, hi182_1⟩ := at_T59 HR0.out x8_1 p182 q182; obtain rfl : ad181 = ad182 := (by injection e182)
               replace hx182_0 := (HB.out.cell (World.block_lt_of_cell? w _ hx182_0)).trans hx182_0; replace hx182_1 := (HB.out.cell (World.block_lt_of_cell? w _ hx182_1)).trans hx182_1; have HR182_1 := Aside0.mk hi182_1; have HC182_1 := Aside0.mk hl182_1; clear hi182_1 hl182_1; replace p182 := eq_true p182; replace q182 := eq_true q182; have ea_ := Option.some.inj (hx181_1.symm.trans hx182_1); injection ea_ with ea_ en_ ec_
               subst ea_; subst ec_; clear en_; have p183 : 0 ≤ (x9_3 : Int) := of_decide_eq_true (by first | (with_reducible assumption) | assumption); have q183 : x9_3 < (((rd_T59 l0 x8_1).f1).length : Int) := of_decide_eq_true (by first | (with_reducible assumption) | assumption); obtain ⟨ad183, e183, hx183_0⟩ := Kd.at_int HR182_1.out x9_3 p183 q183
               cases e183; replace hx183_0 := (HB.out.cell (World.block_lt_of_cell? w _ hx183_0)).trans hx183_0; replace p183 := eq_true p183; replace q183 := eq_true q183; obtain ⟨Ao17, co17, eo17⟩ := Kd.R_slice HO_7.out; subst eo17; go_wp2_with (first | ((with_reducible refine gate_callee (f := 54) rfl ?_); refine goesM_ (some 48) rfl rfl Try.func54 (by kernel_rfl) rfl #[.slice Ao17 x7_3.length co17, .int .i64 (rd ((rd_T59 l0 x8_1).f1) x9_3)] rfl ?_; (with_reducible refine (spec_l8Num.calls k3 _ _ x7_3 (rd ((rd_T59 l0 x8_1).f1) x9_3) t184 _ ?side1 ?side2 A16.out).mono ?_); (case side1 => exact cw_ ((Kd.R_reads' HO_7.out).2.2)); (case side2 => exact (Kd.R_reads' HO_7.out).2.1); rintro e w18 ⟨v185, rfl, ho0, hb⟩; refine ⟨_, rfl, ?_⟩; have n0_ := Aside0.mk (Kd.R_elder' (by exact rw_ HO_7.out) (Kd.R_base ho0) hb); have n1_ := Aside0.mk (Kd.R_lower (Kd.R_new' ho0 (Kd.R_lt (by exact rw_ HO_7.out))) (below_size bl_)); have n2_ := Aside0.mk (below_step bl_ hb); clear HO_7; clear HB; have HO_7 := n0_; have HO186 := n1_; have HB := n2_; clear n0_ n1_ n2_; (try clear hb); (try clear hb2); (try clear hk); (try clear hi); (try clear ho0))); go_roundg k3
               case measure => have := HK1.out; have := HJ5.out; have := HK3.out; omega
               case rel => exact ⟨(t184), (wrap64 (x9_3 + 1)), (by first | rfl | (simp; done) | (simp [*]; done)), H', ⟨by have := HK1.out; have := HJ5.out; have := HK3.out; omega⟩, ⟨by (with_reducible repeat (first | apply Kd.R_alloc | apply Kd.R_drewN | apply Kd.R_drew)); exact Kd.R_mono HO186.out (fun _ hk => trivial)⟩, ⟨bl_⟩⟩
              ·rw [if_neg c15] at H; exact absurd H (by simp)
             ·rw [if_neg c14] at H; have c14b0 : decide (x9_3 < (((rd_T59 l0 x8_1).f1).length : Int)) = false := decide_eq_false c14; clear c14; have H' := Aside0.mk H; clear H; have p181 : 0 ≤ (x8_1 : Int) := of_decide_eq_true (by first | (with_reducible assumption) | assumption); have q181 : x8_1 < (l0.length : Int) := of_decide_eq_true (by first | (with_reducible assumption) | assumption); obtain ⟨ad181, A181_1, c181_1, e181, hx181_0, hx181_1, hl181_1, hi181_1⟩ := at_T59 HR0.out x8_1 p181 q181
              cases e181; replace hx181_0 := (HB.out.cell (World.block_lt_of_cell? w _ hx181_0)).trans hx181_0; replace hx181_1 := (HB.out.cell (World.block_lt_of_cell? w _ hx181_1)).trans hx181_1; have HR181_1 := Aside0.mk hi181_1; have HC181_1 := Aside0.mk hl181_1; clear hi181_1 hl181_1; replace p181 := eq_true p181; replace q181 := eq_true q181; go_wp2; go_roundg k3
              case measure => have := HK1.out; have := HJ5.out; have := HK3.out; omega
              case rel => exact ⟨(x7_3), (wrap64 (x8_1 + 1)), (by first | rfl | (simp; done) | (simp [*]; done)), H', ⟨by have := HK1.out; have := HJ5.out; have := HK3.out; omega⟩, ⟨by exact rw_ HO_7.out⟩, ⟨bl_⟩⟩
            ·rw [if_neg c13] at H; exact absurd H (by simp)
           ·rw [if_neg c12] at H; exact absurd H (by simp)
        ·rw [if_neg c11] at H; have c11b0 : ((rd l1 x8_1) == a2) = false := beq_eq_false_iff_ne.mpr c11; have c11b1 : ((rd l1 x8_1) != a2) = true := bne_iff_ne.mpr c11; have H' := Aside0.mk H; clear H; have p180 : 0 ≤ (x8_1 : Int) := of_decide_eq_true (by first | (with_reducible assumption) | assumption); have q180 : x8_1 < (l1.length : Int) := of_decide_eq_true (by first | (with_reducible assumption) | assumption); obtain ⟨ad180, e180, hx180_0⟩ := Kd.at_int HR1.out x8_1 p180 q180
         cases e180; replace hx180_0 := (HB.out.cell (World.block_lt_of_cell? w _ hx180_0)).trans hx180_0; replace p180 := eq_true p180; replace q180 := eq_true q180; go_wp2; go_roundg kj5
         case measure => have := HK1.out; have := HJ5.out; omega
         case rel => exact ⟨(x7_1), (wrap64 (x8_1 + 1)), (by first | rfl | (simp; done) | (simp [*]; done)), H', ⟨by have := HK1.out; have := HJ5.out; omega⟩, ⟨by exact rw_ HO_7.out⟩, ⟨bl_⟩⟩
       ·rw [if_neg c10] at H; exact absurd H (by simp)
      ·rw [if_neg c9] at H; exact absurd H (by simp)
     ·replace c8 := Bool.eq_false_iff.mpr c8; subst c8; rw [if_neg (show ¬ (false = true) by decide)] at H; obtain rfl := Option.some.inj H
      go_wp2; go_ret; exact ⟨_, by first | rfl | (simp [errW_none, errW_some] <;> rfl) | (simp [*, errW_none, errW_some] <;> rfl), by exact rw_ HO_7.out, bl_⟩

/-! ### slices_Sort_int_int: function 55 -/
open Go.Shelf Go.Sort in
def lays189_ren : Ren :=
{
 f := fun x =>
  match x with
  | 189 => 55
  | 125 => 70
  | 257 => 69
  | 128 => 85
  | 129 => 86
  | 294 => 76
  | 295 => 77
  | 296 => 78
  | 297 => 79
  | 298 => 80
  | 299 => 81
  | 216 => 82
  | 300 => 83
  | 301 => 84
  | 328 => 87
  | 329 => 88
  | 330 => 89
  | 331 => 90
  | 332 => 91
  | 215 => 92
  | 343 => 93
  | n => n,
 t := fun x =>
  match x with
  | 28 => 36
  | 3 => 3
  | 46 => 90
  | 0 => 0
  | 51 => 106
  | 53 => 108
  | 4 => 4
  | 183 => 99
  | 182 => 98
  | 131 => 103
  | 5 => 5
  | 9 => 9
  | 218 => 109
  | 222 => 113
  | 228 => 115
  | 229 => 116
  | n => n,
 g := fun x =>
  have n := x;
  n }
set_option maxRecDepth 100000 in
open Go.Shelf Go.Sort in
theorem lays189 : Lays.n189 Try.prog lays189_ren := { mixed := Eq.refl true, f125 := Eq.trans Try.func70 (congrArg some (Eq.refl (Body.n125 lays189_ren))), f128 := Eq.trans Try.func85 (congrArg some (Eq.refl (Body.n128 lays189_ren))), f129 := Eq.trans Try.func86 (congrArg some (Eq.refl (Body.n129 lays189_ren))), f189 := Eq.trans Try.func55 (congrArg some (Eq.refl (Body.n189 lays189_ren))), f215 := Eq.trans Try.func92 (congrArg some (Eq.refl (Body.n215 lays189_ren))), f216 := Eq.trans Try.func82 (congrArg some (Eq.refl (Body.n216 lays189_ren))), f257 := Eq.trans Try.func69 (congrArg some (Eq.refl (Body.n257 lays189_ren))), f294 := Eq.trans Try.func76 (congrArg some (Eq.refl (Body.n294 lays189_ren))), f295 := Eq.trans Try.func77 (congrArg some (Eq.refl (Body.n295 lays189_ren))), f296 := Eq.trans Try.func78 (congrArg some (Eq.refl (Body.n296 lays189_ren))), f297 := Eq.trans Try.func79 (congrArg some (Eq.refl (Body.n297 lays189_ren))), f298 := Eq.trans Try.func80 (congrArg some (Eq.refl (Body.n298 lays189_ren))), f299 := Eq.trans Try.func81 (congrArg some (Eq.refl (Body.n299 lays189_ren))), f300 := Eq.trans Try.func83 (congrArg some (Eq.refl (Body.n300 lays189_ren))), f301 := Eq.trans Try.func84 (congrArg some (Eq.refl (Body.n301 lays189_ren))), f328 := Eq.trans Try.func87 (congrArg some (Eq.refl (Body.n328 lays189_ren))), f329 := Eq.trans Try.func88 (congrArg some (Eq.refl (Body.n329 lays189_ren))), f330 := Eq.trans Try.func89 (congrArg some (Eq.refl (Body.n330 lays189_ren))), f331 := Eq.trans Try.func90 (congrArg some (Eq.refl (Body.n331 lays189_ren))), f332 := Eq.trans Try.func91 (congrArg some (Eq.refl (Body.n332 lays189_ren))), f343 := Eq.trans Try.func93 (congrArg some (Eq.refl (Body.n343 lays189_ren))), t0 := Try.underlying0, a0 := Try.isAgg0, z0 := Try.sizeOf0, v0 := Try.zeroValue0, t3 := Try.underlying3, a3 := Try.isAgg3, z3 := Try.sizeOf3, v3 := Try.zeroValue3, t4 := Try.underlying4, a4 := Try.isAgg4, z4 := Try.sizeOf4, v4 := Try.zeroValue4, t5 := Try.underlying5, a5 := Try.isAgg5, z5 := Try.sizeOf5, v5 := Try.zeroValue5, t9 := Try.underlying9, a9 := Try.isAgg9, z9 := Try.sizeOf9, v9 := Try.zeroValue9, t28 := Try.underlying36, a28 := Try.isAgg36, z28 := Try.sizeOf36, v28 := Try.zeroValue36, t46 := Try.underlying90, a46 := Try.isAgg90, z46 := Try.sizeOf90, v46 := Try.zeroValue90, t51 := Try.underlying106, a51 := Try.isAgg106, z51 := Try.sizeOf106, v51 := Try.zeroValue106, t53 := Try.underlying108, a53 := Try.isAgg108, z53 := Try.sizeOf108, v53 := Try.zeroValue108, t131 := Try.underlying103, a131 := Try.isAgg103, z131 := Try.sizeOf103, v131 := Try.zeroValue103, t182 := Try.underlying98, a182 := Try.isAgg98, z182 := Try.sizeOf98, v182 := Try.zeroValue98, t183 := Try.underlying99, a183 := Try.isAgg99, z183 := Try.sizeOf99, v183 := Try.zeroValue99, t218 := Try.underlying109, a218 := Try.isAgg109, z218 := Try.sizeOf109, v218 := Try.zeroValue109, t222 := Try.underlying113, a222 := Try.isAgg113, z222 := Try.sizeOf113, v222 := Try.zeroValue113, t228 := Try.underlying115, a228 := Try.isAgg115, z228 := Try.sizeOf115, v228 := Try.zeroValue115, t229 := Try.underlying116, a229 := Try.isAgg116, z229 := Try.sizeOf116, v229 := Try.zeroValue116 }
theorem ints_inner {b : Nat} {ok : Nat → Prop} {w : World} {l : List Int} {inner : List Value} (h : Reps ((Kd.int .i64).M w b ok) 1 l inner) : inner = l.map (Value.int .i64) := by
 obtain ⟨hl, h⟩ := h; apply List.ext_getElem?
 intro j; rcases Nat.lt_or_ge j l.length with hj | hj
 ·have h1 : (inner.drop (j * 1)).take 1 = [Value.int .i64 l[j]] := h j l[j] (List.getElem?_eq_getElem hj); rw [Nat.mul_one] at h1; have h2 : inner[j]? = ((inner.drop j).take 1)[0]? := by rw [List.getElem?_take_of_lt (by omega), List.getElem?_drop, Nat.add_zero]
  rw [h2, h1, List.getElem?_map, List.getElem?_eq_getElem hj]; rfl
 ·rw [List.getElem?_eq_none (by omega), List.getElem?_eq_none (by simp; omega)]
theorem ints_reps {b : Nat} {ok : Nat → Prop} {w : World} (l : List Int) : Reps ((Kd.int .i64).M w b ok) 1 l (l.map (Value.int .i64)) := by
 refine ⟨by simp, fun j p hp => ?_⟩; show _ = _; rw [Nat.mul_one]; apply List.ext_getElem?
 intro i; rcases i with _ | i
 ·rw [List.getElem?_take_of_lt (by omega), List.getElem?_drop, List.getElem?_map, Nat.add_zero, hp]; rfl
 ·rw [List.getElem?_take_eq_none (by omega)]; rfl
def slices_Sort_int_int.f (l0 : List Int) : Option (List Int) := if l0.length < 4611686018427387904 then some (l0.mergeSort fun x y => decide (x ≤ y)) else none
open Go.Shelf Go.Sort in
theorem slices_Sort_int_int.calls (P0_ : Nat → Prop) (u0_ : Value) (l0 : List Int) (r : List Int) (w0 w : World) (hB : Below w0.heap.size w0 w) (ho0 : Kd.R (Kd.int .i64) 3 w w0.heap.size P0_ u0_ l0) (h : slices_Sort_int_int.f l0 = some r) :
  Calls Try.prog 55 #[u0_] w fun e w' => e = .returned (.tuple #[]) ∧ Kd.R (Kd.int .i64) 3 w' w0.heap.size (fun k_ => (P0_ k_ ∨ w.heap.size ≤ k_)) u0_ r ∧ Below w0.heap.size w0 w' ∧ Kept w w' (fun k_ => P0_ k_) := by
 have hsz : l0.length < 4611686018427387904 := by
  refine Classical.byContradiction fun hn => ?_
  rw [slices_Sort_int_int.f, if_neg hn] at h
  cases h
 rw [slices_Sort_int_int.f, if_pos hsz] at h; obtain rfl := Option.some.inj h
 obtain ⟨hP0, inner, ⟨hlen, ho⟩, hr⟩ := ho0; rcases ho with ⟨rfl, hn0⟩ | ⟨g, cap, cur, rfl, hbg, hg, hnc, hcm, hcs, htk⟩
 ·obtain rfl := List.length_eq_zero_iff.1 hn0
  refine (Any.slices_Sort_int_none lays189 none 0 w).mono ?_; rintro e w' ⟨rfl, rfl⟩; refine ⟨rfl, ?_, hB, Kept.refl _ _⟩; simpa using Kd.R_nil _ _ _ _ _
 ·have hin := ints_inner hr; subst hin; have hmx : maxLen = 9223372036854775807 := rfl; have hcs' : cur.size = cap * 1 := hcs; have hH : Holds (Value.int .i64) w g 0 l0.toArray := holds_of_blockI hg (by rw [← htk]; congr 1; exact (Nat.mul_one _).symm); have hgl : g < w.heap.size := (Array.getElem?_eq_some_iff.1 hg).1; have hl : (l0.mergeSort fun x y => decide (x ≤ y)).length = l0.length := List.length_mergeSort _; refine (Any.slices_Sort_int lays189 g 0 cap l0 w hH hgl hsz).mono ?_; rintro e w' ⟨rfl, n, os, rfl⟩; have hgb := grownBy_sortedI (w := w) (g := g) (n := n) (os := os) (l0.mergeSort fun x y => decide (x ≤ y)).toArray; have hgb' := hgb; obtain ⟨_, _, _, hs2, hk2⟩ := hgb'; refine ⟨rfl, ⟨fun k hk => .inl (hP0 k hk), _, ?_, ints_reps _⟩, pw_below_grown hB (some g) (below_size hB) hgb (fun k e => by injection e with e; subst e; exact hbg), ⟨hs2, fun k hk hn => hk2 k hk (fun e => hn (hP0 k (by injection e with e; rw [e]; rfl)))⟩⟩
  have := ownsRow_sortedI (n := n) (os := os) hl hbg hg hnc hcm hcs'; rw [hl]; exact this

/-! ### slices_Compact_int_int: function 56 -/
open Go.Shelf Go.Sort in
def lays20_ren : Ren :=
{
 f := fun x =>
  match x with
  | 20 => 56
  | n => n,
 t := fun x =>
  match x with
  | 22 => 36
  | 3 => 3
  | 4 => 4
  | 0 => 0
  | n => n,
 g := fun x =>
  have n := x;
  n }
set_option maxRecDepth 100000 in
open Go.Shelf Go.Sort in
theorem lays20 : Lays2.n20 Try.prog lays20_ren := { mixed := Eq.refl true, f20 := Eq.trans Try.func56 (congrArg some (Eq.refl (Body2.n20 lays20_ren))), t0 := Try.underlying0, a0 := Try.isAgg0, z0 := Try.sizeOf0, v0 := Try.zeroValue0, t3 := Try.underlying3, a3 := Try.isAgg3, z3 := Try.sizeOf3, v3 := Try.zeroValue3, t4 := Try.underlying4, a4 := Try.isAgg4, z4 := Try.sizeOf4, v4 := Try.zeroValue4, t22 := Try.underlying36, a22 := Try.isAgg36, z22 := Try.sizeOf36, v22 := Try.zeroValue36, i3 := Eq.refl (some (some (Value.int IntKind.i64 0), 1, 8)) }
theorem ints_innerC {b : Nat} {ok : Nat → Prop} {w : World} {l : List Int} {inner : List Value} (h : Reps ((Kd.int .i64).M w b ok) 1 l inner) : inner = l.map (Value.int .i64) := by
 obtain ⟨hl, h⟩ := h; apply List.ext_getElem?
 intro j; rcases Nat.lt_or_ge j l.length with hj | hj
 ·have h1 : (inner.drop (j * 1)).take 1 = [Value.int .i64 l[j]] := h j l[j] (List.getElem?_eq_getElem hj); rw [Nat.mul_one] at h1; have h2 : inner[j]? = ((inner.drop j).take 1)[0]? := by rw [List.getElem?_take_of_lt (by omega), List.getElem?_drop, Nat.add_zero]
  rw [h2, h1, List.getElem?_map, List.getElem?_eq_getElem hj]; rfl
 ·rw [List.getElem?_eq_none (by omega), List.getElem?_eq_none (by simp; omega)]
theorem ints_repsC {b : Nat} {ok : Nat → Prop} {w : World} (l : List Int) : Reps ((Kd.int .i64).M w b ok) 1 l (l.map (Value.int .i64)) := by
 refine ⟨by simp, fun j p hp => ?_⟩; show _ = _; rw [Nat.mul_one]; apply List.ext_getElem?
 intro i; rcases i with _ | i
 ·rw [List.getElem?_take_of_lt (by omega), List.getElem?_drop, List.getElem?_map, Nat.add_zero, hp]; rfl
 ·rw [List.getElem?_take_eq_none (by omega)]; rfl
def slices_Compact_int_int.f (l0 : List Int) : Option (List Int) := some (Lib.compact l0)
open Go.Shelf Go.Sort in
theorem slices_Compact_int_int.calls (P0_ : Nat → Prop) (u0_ : Value) (l0 : List Int) (r : List Int) (w0 w : World) (hB : Below w0.heap.size w0 w) (ho0 : Kd.R (Kd.int .i64) 3 w w0.heap.size P0_ u0_ l0) (h : slices_Compact_int_int.f l0 = some r) :
  Calls Try.prog 56 #[u0_] w fun e w' => ∃ v0_ : Value, e = .returned (v0_) ∧ Kd.R (Kd.int .i64) 3 w' w0.heap.size (fun k_ => (P0_ k_ ∨ w.heap.size ≤ k_)) v0_ r ∧ Below w0.heap.size w0 w' ∧ Kept w w' (fun k_ => P0_ k_) := by
 obtain rfl := Option.some.inj h
 obtain ⟨hP0, inner, ⟨hlen, ho⟩, hr⟩ := ho0; rcases ho with ⟨rfl, hn0⟩ | ⟨g, cap, cur, rfl, hbg, hg, hnc, hcm, hcs, htk⟩
 ·obtain rfl := List.length_eq_zero_iff.1 hn0
  refine (Any.slices_Compact_int_empty lays20 none 0 w).mono ?_; rintro e w' ⟨rfl, rfl⟩; exact ⟨_, rfl, Kd.R_nil _ _ _ _ _, hB, Kept.refl _ _⟩
 ·have hin := ints_innerC hr; subst hin; have hmx : maxLen = 9223372036854775807 := rfl; have hcs' : cur.size = cap * 1 := hcs; have hH : Holds (Value.int .i64) w g 0 l0.toArray := holds_of_blockI hg (by rw [← htk]; congr 1; exact (Nat.mul_one _).symm); have hgl : g < w.heap.size := (Array.getElem?_eq_some_iff.1 hg).1; have hle : (Lib.compact l0).length ≤ l0.length := by simp only [Lib.compact, Lib.compactUpTo, List.length_map]; exact Nat.le_trans (List.length_filter_le _ _) (by simp)
  refine (Any.slices_Compact_int lays20 g 0 cap l0 w hH (by omega) hnc).mono ?_; rintro e w' ⟨rfl, n, rfl⟩
  have e0 : putRow (Value.int .i64) (Go.Sort.ahead w n) g 0 (Lib.compact l0 ++ List.replicate (l0.length - (Lib.compact l0).length) 0).toArray = grow (putRow (Value.int .i64) (Go.Sort.ahead w n) g 0 (Lib.compact l0 ++ List.replicate (l0.length - (Lib.compact l0).length) 0).toArray) #[] := by
   simp [grow, putRow, mapBlock, Go.Sort.ahead]
  rw [e0]; have hgb := grownBy_sortedI (w := w) (g := g) (n := n) (os := #[]) (Lib.compact l0 ++ List.replicate (l0.length - (Lib.compact l0).length) 0).toArray; have hgb' := hgb; obtain ⟨_, _, _, hs2, hk2⟩ := hgb'; have hl : (Lib.compact l0 ++ List.replicate (l0.length - (Lib.compact l0).length) (0 : Int)).length = l0.length := by simp; omega
  have hh := heap_sortedI (n := n) (os := #[]) (Lib.compact l0 ++ List.replicate (l0.length - (Lib.compact l0).length) 0).toArray hg; have ht := take_putCellsI cur (Lib.compact l0 ++ List.replicate (l0.length - (Lib.compact l0).length) 0) (by omega); refine ⟨_, rfl, ⟨fun k hk => .inl (hP0 k hk), (Lib.compact l0).map (Value.int .i64), ⟨by show _ = _ * 1; simp, .inr ⟨g, cap, _, rfl, hbg, hh, by omega, hcm, by show _ = cap * 1; simp [putCells, hcs'], ?_⟩⟩, ints_repsC _⟩, pw_below_grown hB (some g) (below_size hB) hgb (fun k e => by injection e with e; subst e; exact hbg), ⟨hs2, fun k hk hn => hk2 k hk (fun e => hn (hP0 k (by injection e with e; rw [e]; rfl)))⟩⟩
  rw [hl] at ht; have := congrArg (List.take (Lib.compact l0).length) ht; rw [List.take_take, Nat.min_eq_left hle] at this; show List.take ((Lib.compact l0).length * 1) _ = _; rw [Nat.mul_one, this]; simp

/-! ### impl_CalledIn: function 33 -/
def impl_CalledIn.l0 : Nat → List Int → Int → List Int → List (S59) → Int → Int → Option (List Int)
 | 0, _, _, _, _, _, _ => none
 | k + 1, x1, x2, x7, x11, x12, x13 => if x13 < x12 then (if 0 ≤ x13 then (if x13 < (x11.length : Int) then (if x13 < (x1.length : Int) then (if (rd x1 x13) = x2 then (if x7.length + ((rd_T59 x11 x13).f1).length < 17592186044416 then (impl_CalledIn.l0 k x1 x2 (x7 ++ ((rd_T59 x11 x13).f1)) x11 x12 (wrap64 (x13 + 1))) else (none)) else (impl_CalledIn.l0 k x1 x2 x7 x11 x12 (wrap64 (x13 + 1)))) else (impl_CalledIn.l0 k x1 x2 x7 x11 x12 (wrap64 (x13 + 1)))) else (none)) else (none)) else ((slices_Sort_int_int.f x7).bind fun t196 => ((slices_Compact_int_int.f t196).bind fun t197 => (some t197)))
def impl_CalledIn.f (k : Nat) (l0 : List (S59)) (l1 : List Int) (a2 : Int) : Option (List Int) := impl_CalledIn.l0 k l1 a2 (([] : List Int)) l0 (l0.length : Int) 0
theorem impl_CalledIn.mono_l : ∀ k, (∀ y0 y1 y2 y3 y4 y5, LeO (impl_CalledIn.l0 k y0 y1 y2 y3 y4 y5) (impl_CalledIn.l0 (k + 1) y0 y1 y2 y3 y4 y5))
 | 0 => fun _ _ _ _ _ _ r h => by simp [impl_CalledIn.l0] at h
 | k + 1 => by
  have ih0 := impl_CalledIn.mono_l k
  ·intro y0 y1 y2 y3 y4 y5
   unfold impl_CalledIn.l0
   repeat' first
   | (with_reducible exact ih0 _ _ _ _ _ _)
   | (with_reducible exact LeO.refl _)
   | (with_reducible exact LeO.none _)
   | (with_reducible refine LeO.ite ?_ ?_)
   | (with_reducible refine LeO.bind ?_ (fun _ => ?_))
   | exact ih0 _ _ _ _ _ _
   | exact LeO.none _
   | refine LeO.ite ?_ ?_
   | refine LeO.bind ?_ (fun _ => ?_)
theorem impl_CalledIn.mono : ∀ a0 a1 a2 k, LeO (impl_CalledIn.f k a0 a1 a2) (impl_CalledIn.f (k + 1) a0 a1 a2) := by
 intro a0 a1 a2 k; have ih0 := impl_CalledIn.mono_l k; unfold impl_CalledIn.f
 repeat' first
   | (with_reducible exact ih0 _ _ _ _ _ _)
   | (with_reducible exact LeO.refl _)
   | (with_reducible exact LeO.none _)
   | (with_reducible refine LeO.ite ?_ ?_)
   | (with_reducible refine LeO.bind ?_ (fun _ => ?_))
   | exact ih0 _ _ _ _ _ _
   | exact LeO.none _
   | refine LeO.ite ?_ ?_
   | refine LeO.bind ?_ (fun _ => ?_)
set_option maxHeartbeats 8000000 in
set_option maxRecDepth 100000 in
theorem impl_CalledIn.calls (k : Nat) (A0 : Option Addr) (c0 : Nat) (l0 : List (S59)) (A1 : Option Addr) (c1 : Nat) (l1 : List Int) (a2 : Int) (r : List Int) (w : World) (hr0 : Kd.C k59 w A0 l0.length l0) (hc0 : l0.length ≤ c0) (hr1 : Kd.C (Kd.int .i64) w A1 l1.length l1) (hc1 : l1.length ≤ c1) (h : impl_CalledIn.f k l0 l1 a2 = some r) :
  Calls Try.prog 33 #[.slice A0 l0.length c0, .slice A1 l1.length c1, .int .i64 a2] w fun e w' => ∃ v0_ : Value, e = .returned (v0_) ∧ Kd.R (Kd.int .i64) 3 w' w.heap.size (fun _ => True) v0_ r ∧ Below w.heap.size w w' := by
 have hu59 := Try.underlying59; have HR0 := Aside0.mk hr0; have HC0 := Aside0.mk hc0; clear hr0 hc0; have HR1 := Aside0.mk hr1; have HC1 := Aside0.mk hc1; clear hr1 hc1; have HB := Aside0.mk (Below.refl w.heap.size w); have H : (impl_CalledIn.l0 k l1 a2 (([] : List Int)) l0 (l0.length : Int) 0) = some r := h; clear h; obtain ⟨y187, hy187⟩ : ∃ y_ : List Int, y_ = (([] : List Int)) := ⟨_, rfl⟩; replace H : (impl_CalledIn.l0 k l1 a2 y187 l0 (l0.length : Int) 0) = some r := by first | (rw [hy187]; with_reducible exact H) | (have H2_ := (Option.bind_some _ _).symm.trans H; rw [hy187]; with_reducible exact H2_) | (have H2_ := (Option.bind_some _ _).symm.trans H; with_reducible exact H2_) | with_reducible exact H | (rw [hy187]; exact H) | exact H
 have Ny187 := Aside0.mk hy187; clear hy187; have H' := Aside0.mk H; clear H; go_enter Try.func33, Try.ntmps33; go_wp2_with (first | ((with_reducible refine gate_dst (N := 10) rfl ?_); refine Kd.R_lit (Kd.int .i64) _ 3 ?hg (N := 10) ?hd (xs := ([] : List Int)) (inner := []) (ok := fun _ => True) (okp := fun _ => True) ?hr ?hp (fun _ hk => hk) trivial (Below.refl _ _) (Nat.le_refl _) (by simp) ?_; (case hd => rfl); (case hg => rfl); (case hr => first | (go_simp; done) | (go_simp; rfl)); (case hp => exact (Reps.none _ _)); intro v188 w4 ho5 hb hg_ hnew_; clear hg_ hnew_; (first | rw [← Ny187.out] at ho5 | (simp only [Int.reduceToNat] at ho5; rw [← Ny187.out] at ho5)); have n0_ := Aside0.mk (Kd.R_lower ho5 (below_size bl_)); have n1_ := Aside0.mk (below_step bl_ hb); clear HB; have HO189 := n0_; have HB := n1_; clear n0_ n1_; clear hb ho5)); go_loopg [7, 13] k (fun kq v7 v13 w' => ∃ (x7_1 : List Int) (x13_1 : Int), v13 = .int .i64 x13_1 ∧ Aside0 (impl_CalledIn.l0 kq l1 a2 x7_1 l0 (l0.length : Int) x13_1 = some r) ∧ Aside0 (kq ≤ k) ∧ Aside0 (Kd.R (Kd.int .i64) 3 w' w.heap.size (fun _ => True) v7 x7_1) ∧ Aside0 (Below w.heap.size w w'))
 case atStart => exact ⟨(y187), (0), (by first | rfl | (simp; done) | (simp [*]; done)), H', ⟨Nat.le_refl _⟩, ⟨by exact rw_ HO189.out⟩, ⟨bl_⟩⟩
 case round =>
  clear H'; try clear c1
  try clear p2
  try clear c3
  obtain ⟨x7_1, x13_1, rfl, HA, HK1, HO_7, HB⟩ := hrel
  cases gk with
  | zero => exact absurd HA.out (by simp [impl_CalledIn.l0])
  | succ k1 =>
   have H := HA.out; clear HA; simp only [impl_CalledIn.l0] at H; by_cases c6 : x13_1 < (l0.length : Int)
   ·rw [if_pos c6] at H; have c6b0 : decide (x13_1 < (l0.length : Int)) = true := decide_eq_true c6; clear c6; by_cases c7 : 0 ≤ x13_1
    ·rw [if_pos c7] at H; have c7b0 : decide (0 ≤ x13_1) = true := decide_eq_true c7; clear c7; by_cases c8 : x13_1 < (l0.length : Int)
     ·rw [if_pos c8] at H; have c8b0 : decide (x13_1 < (l0.length : Int)) = true := decide_eq_true c8; clear c8; by_cases c9 : x13_1 < (l1.length : Int)
      ·rw [if_pos c9] at H; have c9b0 : decide (x13_1 < (l1.length : Int)) = true := decide_eq_true c9; clear c9; by_cases c10 : (rd l1 x13_1) = a2
       ·rw [if_pos c10] at H; have c10b0 : ((rd l1 x13_1) == a2) = true := beq_iff_eq.mpr c10; have c10b1 : ((rd l1 x13_1) != a2) = false := bne_eq_false_iff_eq.mpr c10; clear c10; by_cases c11 : x7_1.length + ((rd_T59 l0 x13_1).f1).length < 17592186044416
        ·rw [if_pos c11] at H; have LMc11 := Aside0.mk c11; clear c11; obtain ⟨y193, hy193⟩ : ∃ y_ : List Int, y_ = (x7_1 ++ ((rd_T59 l0 x13_1).f1)) := ⟨_, rfl⟩; replace H : (impl_CalledIn.l0 k1 l1 a2 y193 l0 (l0.length : Int) (wrap64 (x13_1 + 1))) = some r := by first | (rw [hy193]; with_reducible exact H) | (have H2_ := (Option.bind_some _ _).symm.trans H; rw [hy193]; with_reducible exact H2_) | (have H2_ := (Option.bind_some _ _).symm.trans H; with_reducible exact H2_) | with_reducible exact H | (rw [hy193]; exact H) | exact H
         have Ny193 := Aside0.mk hy193; clear hy193; have H' := Aside0.mk H; clear H; have p190 : 0 ≤ (x13_1 : Int) := of_decide_eq_true (by first | (with_reducible assumption) | assumption); have q190 : x13_1 < (l0.length : Int) := of_decide_eq_true (by first | (with_reducible assumption) | assumption); obtain ⟨ad190, A190_1, c190_1, e190, hx190_0, hx190_1, hl190_1, hi190_1⟩ := at_T59 HR0.out x13_1 p190 q190
         cases e190; replace hx190_0 := (HB.out.cell (World.block_lt_of_cell? w _ hx190_0)).trans hx190_0; replace hx190_1 := (HB.out.cell (World.block_lt_of_cell? w _ hx190_1)).trans hx190_1; have HR190_1 := Aside0.mk hi190_1; have HC190_1 := Aside0.mk hl190_1; clear hi190_1 hl190_1; replace p190 := eq_true p190; replace q190 := eq_true q190; go_wp2_with (first | ((with_reducible refine gate_dst (N := 9) rfl ?_); refine box_event ?hg (N := 9) ?hd (cs := #[.int .i64 0, .slice none 0 0]) (t := 59) ?hr ?_; (case hd => rfl); (case hg => rfl); (case hr => first | (go_simp; done) | (go_simp; rfl)); intro gb191 hg w12 hbox hb; have n0_ := Aside0.mk (Kd.R_below (by exact rw_ HO_7.out) hb); have n1_ := Aside0.mk (below_step bl_ hb); have n2_ := Aside0.mk (hbox); have n3_ := Aside0.mk ((by rw [hg]; exact (below_size bl_) : w.heap.size ≤ gb191)); have n4_ := Aside0.mk ((by rw [hg]; exact (below_size bl_) : w.heap.size ≤ gb191)); clear HO_7; clear HB; have HO_7 := n0_; have HB := n1_; have BK191 := n2_; have GW191 := n3_; have GE191 := n4_; clear n0_ n1_ n2_ n3_ n4_; clear hb hbox hg; have hcz13_0 : w12.cell? ⟨gb191, 0, none⟩ = some (.int .i64 0) := (blk_cell BK191.out 0).trans rfl; have hcz13_1 : w12.cell? ⟨gb191, 1, none⟩ = some (.slice none 0 0) := (blk_cell BK191.out 1).trans rfl; have hfz13_0 := blk_frozen BK191.out 0; have hfz13_1 := blk_frozen BK191.out 1; have p192 : 0 ≤ (x13_1 : Int) := of_decide_eq_true (by first | (with_reducible assumption) | assumption); have q192 : x13_1 < (l1.length : Int) := of_decide_eq_true (by first | (with_reducible assumption) | assumption); obtain ⟨ad192, e192, hx192_0⟩ := Kd.at_int HR1.out x13_1 p192 q192; cases e192; have hn192_0 : ad192.block ≠ gb191 := Nat.ne_of_lt (Nat.lt_of_lt_of_le (by have := World.block_lt_of_cell? _ _ hx192_0; first | rwa [add_block] at this | exact this) GW191.out); have hn192_1 : ad192.block ≠ gb191 := Nat.ne_of_lt (Nat.lt_of_lt_of_le (by have := World.block_lt_of_cell? _ _ hx192_0; first | rwa [add_block] at this | exact this) GW191.out); replace hx192_0 := (HB.out.cell (World.block_lt_of_cell? w _ hx192_0)).trans hx192_0; replace hx192_0 := (cell_far (p := ⟨gb191, 0, none⟩) (by first | (rw [add_block]; exact hn192_0) | (show (Addr.add _ _).block ≠ _; rw [add_block]; exact hn192_0) | exact hn192_0) (.int .i64 ((rd_T59 l0 x13_1).f0))).trans hx192_0; replace hx192_0 := (cell_far (p := ⟨gb191, 1, none⟩) (by first | (rw [add_block]; exact hn192_1) | (show (Addr.add _ _).block ≠ _; rw [add_block]; exact hn192_1) | exact hn192_1) (.slice A190_1 ((rd_T59 l0 x13_1).f1).length c190_1)).trans hx192_0; clear hn192_0; clear hn192_1; replace p192 := eq_true p192; replace q192 := eq_true q192) | ((with_reducible refine gate_builtin (b := .append) (xs := #[.tmp 30, .tmp 32]) rfl ?_); at_builtin; refine Kd.R_append_rows (Kd.int .i64) (w0 := w) w.heap.size rfl (.tmp 30) (.tmp 32) 36 3 (.int .i64 0) 8 rfl Try.underlying36 info3 rfl (by decide) (by omega) u7 x7_1 ((rd_T59 l0 x13_1).f1) _ _ _ (fun _ => True) (fun _ => False) rfl rfl ?aO ?aR (fun _ _ h => h) (fun _ h => h.elim) ?aF ?aB ?aS ?aL ?_; (case aR => exact Kd.C_below HR190_1.out bl_); (case aB => exact bl_); (case aF => exact (fun _ _ => trivial)); (case aO => exact (by (with_reducible repeat (first | apply Kd.R_alloc | apply Kd.R_drewN | apply Kd.R_drew)); exact Kd.R_mono (Kd.R_far (p := ⟨gb191, 1, none⟩) (Kd.R_far (p := ⟨gb191, 0, none⟩) (Kd.R_types HO_7.out BK191.out (by decide)) (fun _ hk => hk.2) (.int .i64 ((rd_T59 l0 x13_1).f0))) (fun _ hk => hk.2) (.slice A190_1 ((rd_T59 l0 x13_1).f1).length c190_1)) (fun _ hk => trivial))); (case aS => exact (below_size bl_)); (case aL => have := LMc11.out; omega); intro v194 w14 ho hb hg hat; rw [← Ny193.out] at ho; have n0_ := Aside0.mk (blk_grown (g := gb191) (o := .cells #[.int .i64 ((rd_T59 l0 x13_1).f0), .slice A190_1 ((rd_T59 l0 x13_1).f1).length c190_1] 59 (0, 0)) (by (with_reducible repeat (first | refine blk_drewN ?_ _ | refine blk_drew ?_ | refine blk_alloc ?_ _)); refine blk_put (cs := #[.int .i64 ((rd_T59 l0 x13_1).f0), .slice none 0 0]) ?_ 1 _ rfl; (with_reducible repeat (first | refine blk_drewN ?_ _ | refine blk_drew ?_ | refine blk_alloc ?_ _)); refine blk_put (cs := #[.int .i64 0, .slice none 0 0]) ?_ 0 _ rfl; (with_reducible repeat (first | refine blk_drewN ?_ _ | refine blk_drew ?_ | refine blk_alloc ?_ _)); exact BK191.out) hg (Kd.R_ne HO_7.out BK191.out (by decide))); have n1_ := Aside0.mk (hb); have n2_ := Aside0.mk (ho); clear BK191; clear HB; clear HO_7; have BK191 := n0_; have HB := n1_; have HO195 := n2_; clear n0_ n1_ n2_; clear ho hb hg hat)); go_roundg k1
         case measure => have := HK1.out; omega
         case rel => exact ⟨(y193), (wrap64 (x13_1 + 1)), (by first | rfl | (simp; done) | (simp [*]; done)), H', ⟨by have := HK1.out; omega⟩, ⟨by exact rw_ HO195.out⟩, ⟨bl_⟩⟩
        ·rw [if_neg c11] at H; exact absurd H (by simp)
       ·rw [if_neg c10] at H; have c10b0 : ((rd l1 x13_1) == a2) = false := beq_eq_false_iff_ne.mpr c10; have c10b1 : ((rd l1 x13_1) != a2) = true := bne_iff_ne.mpr c10; have H' := Aside0.mk H; clear H; have p190 : 0 ≤ (x13_1 : Int) := of_decide_eq_true (by first | (with_reducible assumption) | assumption); have q190 : x13_1 < (l0.length : Int) := of_decide_eq_true (by first | (with_reducible assumption) | assumption); obtain ⟨ad190, A190_1, c190_1, e190, hx190_0, hx190_1, hl190_1, hi190_1⟩ := at_T59 HR0.out x13_1 p190 q190
        cases e190; replace hx190_0 := (HB.out.cell (World.block_lt_of_cell? w _ hx190_0)).trans hx190_0; replace hx190_1 := (HB.out.cell (World.block_lt_of_cell? w _ hx190_1)).trans hx190_1; have HR190_1 := Aside0.mk hi190_1; have HC190_1 := Aside0.mk hl190_1; clear hi190_1 hl190_1; replace p190 := eq_true p190; replace q190 := eq_true q190; go_wp2_with (first | ((with_reducible refine gate_dst (N := 9) rfl ?_); refine box_event ?hg (N := 9) ?hd (cs := #[.int .i64 0, .slice none 0 0]) (t := 59) ?hr ?_; (case hd => rfl); (case hg => rfl); (case hr => first | (go_simp; done) | (go_simp; rfl)); intro gb191 hg w15 hbox hb; have n0_ := Aside0.mk (Kd.R_below (by exact rw_ HO_7.out) hb); have n1_ := Aside0.mk (below_step bl_ hb); have n2_ := Aside0.mk (hbox); have n3_ := Aside0.mk ((by rw [hg]; exact (below_size bl_) : w.heap.size ≤ gb191)); have n4_ := Aside0.mk ((by rw [hg]; exact (below_size bl_) : w.heap.size ≤ gb191)); clear HO_7; clear HB; have HO_7 := n0_; have HB := n1_; have BK191 := n2_; have GW191 := n3_; have GE191 := n4_; clear n0_ n1_ n2_ n3_ n4_; clear hb hbox hg; have hcz16_0 : w15.cell? ⟨gb191, 0, none⟩ = some (.int .i64 0) := (blk_cell BK191.out 0).trans rfl; have hcz16_1 : w15.cell? ⟨gb191, 1, none⟩ = some (.slice none 0 0) := (blk_cell BK191.out 1).trans rfl; have hfz16_0 := blk_frozen BK191.out 0; have hfz16_1 := blk_frozen BK191.out 1; have p192 : 0 ≤ (x13_1 : Int) := of_decide_eq_true (by first | (with_reducible assumption) | assumption); have q192 : x13_1 < (l1.length : Int) := of_decide_eq_true (by first | (with_reducible assumption) | assumption); obtain ⟨ad192, e192, hx192_0⟩ := Kd.at_int HR1.out x13_1 p192 q192; cases e192; have hn192_0 : ad192.block ≠ gb191 := Nat.ne_of_lt (Nat.lt_of_lt_of_le (by have := World.block_lt_of_cell? _ _ hx192_0; first | rwa [add_block] at this | exact this) GW191.out); have hn192_1 : ad192.block ≠ gb191 := Nat.ne_of_lt (Nat.lt_of_lt_of_le (by have := World.block_lt_of_cell? _ _ hx192_0; first | rwa [add_block] at this | exact this) GW191.out); replace hx192_0 := (HB.out.cell (World.block_lt_of_cell? w _ hx192_0)).trans hx192_0; replace hx192_0 := (cell_far (p := ⟨gb191, 0, none⟩) (by first | (rw [add_block]; exact hn192_0) | (show (Addr.add _ _).block ≠ _; rw [add_block]; exact hn192_0) | exact hn192_0) (.int .i64 ((rd_T59 l0 x13_1).f0))).trans hx192_0; replace hx192_0 := (cell_far (p := ⟨gb191, 1, none⟩) (by first | (rw [add_block]; exact hn192_1) | (show (Addr.add _ _).block ≠ _; rw [add_block]; exact hn192_1) | exact hn192_1) (.slice A190_1 ((rd_T59 l0 x13_1).f1).length c190_1)).trans hx192_0; clear hn192_0; clear hn192_1; replace p192 := eq_true p192; replace q192 := eq_true q192)); go_roundg k1
        case measure => have := HK1.out; omega
        case rel => exact ⟨(x7_1), (wrap64 (x13_1 + 1)), (by first | rfl | (simp; done) | (simp [*]; done)), H', ⟨by have := HK1.out; omega⟩, ⟨by (with_reducible repeat (first | apply Kd.R_alloc | apply Kd.R_drewN | apply Kd.R_drew)); exact Kd.R_mono (Kd.R_far (p := ⟨gb191, 1, none⟩) (Kd.R_far (p := ⟨gb191, 0, none⟩) (Kd.R_types HO_7.out BK191.out (by decide)) (fun _ hk => hk.2) (.int .i64 ((rd_T59 l0 x13_1).f0))) (fun _ hk => hk.2) (.slice A190_1 ((rd_T59 l0 x13_1).f1).length c190_1)) (fun _ hk => trivial)⟩, ⟨bl_⟩⟩
      ·rw [if_neg c9] at H; have c9b0 : decide (x13_1 < (l1.length : Int)) = false := decide_eq_false c9; clear c9; have H' := Aside0.mk H; clear H; have p190 : 0 ≤ (x13_1 : Int) := of_decide_eq_true (by first | (with_reducible assumption) | assumption); have q190 : x13_1 < (l0.length : Int) := of_decide_eq_true (by first | (with_reducible assumption) | assumption); obtain ⟨ad190, A190_1, c190_1, e190, hx190_0, hx190_1, hl190_1, hi190_1⟩ := at_T59 HR0.out x13_1 p190 q190
       cases e190; replace hx190_0 := (HB.out.cell (World.block_lt_of_cell? w _ hx190_0)).trans hx190_0; replace hx190_1 := (HB.out.cell (World.block_lt_of_cell? w _ hx190_1)).trans hx190_1; have HR190_1 := Aside0.mk hi190_1; have HC190_1 := Aside0.mk hl190_1; clear hi190_1 hl190_1; replace p190 := eq_true p190; replace q190 := eq_true q190; go_wp2_with (first | ((with_reducible refine gate_dst (N := 9) rfl ?_); refine box_event ?hg (N := 9) ?hd (cs := #[.int .i64 0, .slice none 0 0]) (t := 59) ?hr ?_; (case hd => rfl); (case hg => rfl); (case hr => first | (go_simp; done) | (go_simp; rfl)); intro gb191 hg w17 hbox hb; have n0_ := Aside0.mk (Kd.R_below (by exact rw_ HO_7.out) hb); have n1_ := Aside0.mk (below_step bl_ hb); have n2_ := Aside0.mk (hbox); have n3_ := Aside0.mk ((by rw [hg]; exact (below_size bl_) : w.heap.size ≤ gb191)); have n4_ := Aside0.mk ((by rw [hg]; exact (below_size bl_) : w.heap.size ≤ gb191)); clear HO_7; clear HB; have HO_7 := n0_; have HB := n1_; have BK191 := n2_; have GW191 := n3_; have GE191 := n4_; clear n0_ n1_ n2_ n3_ n4_; clear hb hbox hg; have hcz18_0 : w17.cell? ⟨gb191, 0, none⟩ = some (.int .i64 0) := (blk_cell BK191.out 0).trans rfl; have hcz18_1 : w17.cell? ⟨gb191, 1, none⟩ = some (.slice none 0 0) := (blk_cell BK191.out 1).trans rfl; have hfz18_0 := blk_frozen BK191.out 0; have hfz18_1 := blk_frozen BK191.out 1)); go_roundg k1
       case measure => have := HK1.out; omega
       case rel => exact ⟨(x7_1), (wrap64 (x13_1 + 1)), (by first | rfl | (simp; done) | (simp [*]; done)), H', ⟨by have := HK1.out; omega⟩, ⟨by (with_reducible repeat (first | apply Kd.R_alloc | apply Kd.R_drewN | apply Kd.R_drew)); exact Kd.R_mono (Kd.R_far (p := ⟨gb191, 1, none⟩) (Kd.R_far (p := ⟨gb191, 0, none⟩) (Kd.R_types HO_7.out BK191.out (by decide)) (fun _ hk => hk.2) (.int .i64 ((rd_T59 l0 x13_1).f0))) (fun _ hk => hk.2) (.slice A190_1 ((rd_T59 l0 x13_1).f1).length c190_1)) (fun _ hk => trivial)⟩, ⟨bl_⟩⟩
     ·rw [if_neg c8] at H; exact absurd H (by simp)
    ·rw [if_neg c7] at H; exact absurd H (by simp)
   ·rw [if_neg c6] at H; have c6b0 : decide (x13_1 < (l0.length : Int)) = false := decide_eq_false c6; clear c6; replace H := Option.bind_eq_some_iff.mp H; obtain ⟨t196, A190, H⟩ := H; (try dsimp only at H); have A19 := Aside0.mk A190; clear A190; replace H := Option.bind_eq_some_iff.mp H; obtain ⟨t197, A200, H⟩ := H; (try dsimp only at H); have A20 := Aside0.mk A200; clear A200; obtain rfl := Option.some.inj H
    obtain ⟨Ao21, co21, eo21⟩ := Kd.R_slice HO_7.out; subst eo21; go_wp2_with (first | ((with_reducible refine gate_callee (f := 55) rfl ?_); refine goesM_ (some 36) rfl rfl Try.func55 (by kernel_rfl) rfl #[.slice Ao21 x7_1.length co21] rfl ?_; (with_reducible refine (slices_Sort_int_int.calls (fun k_ => some k_ = (.slice Ao21 x7_1.length co21 : Value).ownBlock) (.slice Ao21 x7_1.length co21) x7_1 t196 w _ ?side1 ?side2 A19.out).mono ?_); (case side1 => repeat (first | (with_reducible first | exact HB.out | apply below_alloc | apply pw_below_drewN | apply below_drew1) | exact HB.out)); (case side2 => exact Kd.R_tight rfl HO_7.out); rintro e w22 ⟨rfl, hy0, hb, hkp⟩; refine ⟨_, rfl, ?_⟩; have n0_ := Aside0.mk (Kd.R_reok rfl hy0 (fun k_ e_ => HO_7.out.1 k_ e_)); have n1_ := Aside0.mk (hb); clear HO_7; clear HB; have HO_7 := n0_; have HB := n1_; clear n0_ n1_; (try clear hb); (try clear hkp); (try clear hy0)) | ((with_reducible refine gate_callee (f := 56) rfl ?_); refine goesM_ (some 38) rfl rfl Try.func56 (by kernel_rfl) rfl #[.slice Ao21 x7_1.length co21] rfl ?_; (with_reducible refine (slices_Compact_int_int.calls (fun k_ => some k_ = (.slice Ao21 x7_1.length co21 : Value).ownBlock) (.slice Ao21 x7_1.length co21) t196 t197 w _ ?side1 ?side2 A20.out).mono ?_); (case side1 => repeat (first | (with_reducible first | exact HB.out | apply below_alloc | apply pw_below_drewN | apply below_drew1) | exact HB.out)); (case side2 => exact Kd.R_tight rfl HO_7.out); rintro e w23 ⟨v198, rfl, ho0, hb, hkp⟩; refine ⟨_, rfl, ?_⟩; have n0_ := Aside0.mk (Kd.R_mono (ok' := fun k_ => True) ho0 (fun k_ hk_ => trivial)); have n1_ := Aside0.mk (hb); clear HB; clear HO_7; have HO199 := n0_; have HB := n1_; clear n0_ n1_; (try clear hb); (try clear hkp); (try clear ho0))); go_ret; exact ⟨_, by first | rfl | (simp [errW_none, errW_some] <;> rfl) | (simp [*, errW_none, errW_some] <;> rfl), by exact rw_ HO199.out, bl_⟩

end Go.Proofs.Ytddpogakdagojaa.QFnExactCalledIn
