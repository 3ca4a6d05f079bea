/- Plain functions for the Go functions that the law FnPages reaches, and for each the proof that the call answers as the plain function says; printed by a program of this session. -/
import Derived.Test.YthlipgfmfgangaaQFnPagesx0
import Derived.Test.YthlipgfmfgangaaQFnPagesx8
import Derived.Test.YthlipgfmfgangaaQFnPagesx10
namespace Go.Proofs.Ythlipgfmfgangaa.QFnPages
open Go.RowKit Go.Proofs.YthlipgfmfgangaaW.PrintWords Go.Proofs.YthlipgfmfgangaaW.PrintLast Go.Proofs.YthlipgfmfgangaaW.PrintMore
attribute [local go_sem] max2_int min2_int max_two min_two max_three min_three max_four min_four   -- for this text's walks alone
set_option linter.unusedVariables false
set_option linter.unusedSimpArgs false

/-! ### spec_PartFrom: function 57 -/
mutual
def spec_PartFrom.l0 : Nat → List (S60) → Int → List (S66) → List (S60) → Int → Int → Option ((List (S66)) × Bool)
 | 0, _, _, _, _, _, _ => none
 | k + 1, x0, x2, x8, x9, x10, x11 => if x11 < (x9.length : Int) then ((spec_IsScore.f k x0).bind fun t377 => (spec_PartFrom.j1 k x0 x2 x8 x9 x10 x11 t377)) else (spec_PartFrom.j1 k x0 x2 x8 x9 x10 x11 false)
def spec_PartFrom.j1 : Nat → List (S60) → Int → List (S66) → List (S60) → Int → Int → Bool → Option ((List (S66)) × Bool)
 | 0, _, _, _, _, _, _, _ => none
 | k + 1, x0, x2, x8, x9, x10, x11, x23 => if x23 = true then (if 0 ≤ x11 then (if x11 < (x9.length : Int) then (if ((rd_T60 x9 x11).f0) < x10 then (some ((([] : List (S66))), false)) else (if ((rd_T60 x9 x11).f0) > x10 then (if x8.length < 5864062014805 then ((some (x8 ++ [(⟨x10, wrap64 (((rd_T60 x9 x11).f0) - x10), 0⟩ : S66)] : List (S66))).bind fun y384 => (if y384.length < 5864062014805 then (spec_PartFrom.l0 k x0 x2 (y384 ++ [(⟨(rd_T60 x9 x11).f0, (rd_T60 x9 x11).f1, (rd_T60 x9 x11).f2⟩ : S66)]) x9 (wrap64 (((rd_T60 x9 x11).f0) + ((rd_T60 x9 x11).f1))) (wrap64 (x11 + 1))) else (none))) else (none)) else (if x8.length < 5864062014805 then (spec_PartFrom.l0 k x0 x2 (x8 ++ [(⟨(rd_T60 x9 x11).f0, (rd_T60 x9 x11).f1, (rd_T60 x9 x11).f2⟩ : S66)]) x9 (wrap64 (((rd_T60 x9 x11).f0) + ((rd_T60 x9 x11).f1))) (wrap64 (x11 + 1))) else (none)))) else (none)) else (none)) else ((spec_IsScore.f k x0).bind fun t403 => (if t403 = true then (if x2 < x10 then (spec_PartFrom.j2 k x2 x8 x10 true) else (spec_PartFrom.j2 k x2 x8 x10 (decide (x2 > 2096)))) else (spec_PartFrom.j2 k x2 x8 x10 true)))
def spec_PartFrom.j2 : Nat → Int → List (S66) → Int → Bool → Option ((List (S66)) × Bool)
 | 0, _, _, _, _ => none
 | k + 1, x2, x8, x10, x94 => if x94 = true then (some ((([] : List (S66))), false)) else (if x2 > x10 then (if x8.length < 5864062014805 then (some ((x8 ++ [(⟨x10, wrap64 (x2 - x10), 0⟩ : S66)]), true)) else (none)) else (some (x8, true)))
end
def spec_PartFrom.f (k : Nat) (l0 : List (S60)) (a1 : Int) (a2 : Int) : Option ((List (S66)) × Bool) := (spec_VoiceOf.f k l0 a1).bind fun t374 => (spec_PartFrom.l0 k l0 a2 (([] : List (S66))) t374 0 0)
theorem spec_PartFrom.mono_l : ∀ k, (∀ y0 y1 y2 y3 y4 y5, LeO (spec_PartFrom.l0 k y0 y1 y2 y3 y4 y5) (spec_PartFrom.l0 (k + 1) y0 y1 y2 y3 y4 y5)) ∧ (∀ y0 y1 y2 y3 y4 y5 y6, LeO (spec_PartFrom.j1 k y0 y1 y2 y3 y4 y5 y6) (spec_PartFrom.j1 (k + 1) y0 y1 y2 y3 y4 y5 y6)) ∧ (∀ y0 y1 y2 y3, LeO (spec_PartFrom.j2 k y0 y1 y2 y3) (spec_PartFrom.j2 (k + 1) y0 y1 y2 y3))
 | 0 => ⟨fun _ _ _ _ _ _ r h => by simp [spec_PartFrom.l0] at h, fun _ _ _ _ _ _ _ r h => by simp [spec_PartFrom.j1] at h, fun _ _ _ _ r h => by simp [spec_PartFrom.j2] at h⟩
 | k + 1 => by
  obtain ⟨ih0, ih1, ih2⟩ := spec_PartFrom.mono_l k
  refine ⟨?_, ?_, ?_⟩
  ·intro y0 y1 y2 y3 y4 y5
   unfold spec_PartFrom.l0
   repeat' first
   | (with_reducible exact ih0 _ _ _ _ _ _)
   | (with_reducible exact ih1 _ _ _ _ _ _ _)
   | (with_reducible exact ih2 _ _ _ _)
   | (with_reducible exact spec_IsScore.mono _ _)
   | (with_reducible exact spec_VoiceOf.mono _ _ _)
   | (with_reducible exact LeO.refl _)
   | (with_reducible exact LeO.none _)
   | (with_reducible refine LeO.ite ?_ ?_)
   | (with_reducible refine LeO.bind ?_ (fun _ => ?_))
   | exact ih0 _ _ _ _ _ _
   | exact ih1 _ _ _ _ _ _ _
   | exact ih2 _ _ _ _
   | exact spec_IsScore.mono _ _
   | exact spec_VoiceOf.mono _ _ _
   | exact LeO.none _
   | refine LeO.ite ?_ ?_
   | refine LeO.bind ?_ (fun _ => ?_)
  ·intro y0 y1 y2 y3 y4 y5 y6
   unfold spec_PartFrom.j1
   repeat' first
   | (with_reducible exact ih0 _ _ _ _ _ _)
   | (with_reducible exact ih1 _ _ _ _ _ _ _)
   | (with_reducible exact ih2 _ _ _ _)
   | (with_reducible exact spec_IsScore.mono _ _)
   | (with_reducible exact spec_VoiceOf.mono _ _ _)
   | (with_reducible exact LeO.refl _)
   | (with_reducible exact LeO.none _)
   | (with_reducible refine LeO.ite ?_ ?_)
   | (with_reducible refine LeO.bind ?_ (fun _ => ?_))
   | exact ih0 _ _ _ _ _ _
   | exact ih1 _ _ _ _ _ _ _
   | exact ih2 _ _ _ _
   | exact spec_IsScore.mono _ _
   | exact spec_VoiceOf.mono _ _ _
   | exact LeO.none _
   | refine LeO.ite ?_ ?_
   | refine LeO.bind ?_ (fun _ => ?_)
  ·intro y0 y1 y2 y3
   unfold spec_PartFrom.j2
   repeat' first
   | (with_reducible exact ih0 _ _ _ _ _ _)
   | (with_reducible exact ih1 _ _ _ _ _ _ _)
   | (with_reducible exact ih2 _ _ _ _)
   | (with_reducible exact spec_IsScore.mono _ _)
   | (with_reducible exact spec_VoiceOf.mono _ _ _)
   | (with_reducible exact LeO.refl _)
   | (with_reducible exact LeO.none _)
   | (with_reducible refine LeO.ite ?_ ?_)
   | (with_reducible refine LeO.bind ?_ (fun _ => ?_))
   | exact ih0 _ _ _ _ _ _
   | exact ih1 _ _ _ _ _ _ _
   | exact ih2 _ _ _ _
   | exact spec_IsScore.mono _ _
   | exact spec_VoiceOf.mono _ _ _
   | exact LeO.none _
   | refine LeO.ite ?_ ?_
   | refine LeO.bind ?_ (fun _ => ?_)
theorem spec_PartFrom.mono : ∀ a0 a1 a2 k, LeO (spec_PartFrom.f k a0 a1 a2) (spec_PartFrom.f (k + 1) a0 a1 a2) := by
 intro a0 a1 a2 k; obtain ⟨ih0, ih1, ih2⟩ := spec_PartFrom.mono_l k; unfold spec_PartFrom.f
 repeat' first
   | (with_reducible exact ih0 _ _ _ _ _ _)
   | (with_reducible exact ih1 _ _ _ _ _ _ _)
   | (with_reducible exact ih2 _ _ _ _)
   | (with_reducible exact spec_IsScore.mono _ _)
   | (with_reducible exact spec_VoiceOf.mono _ _ _)
   | (with_reducible exact LeO.refl _)
   | (with_reducible exact LeO.none _)
   | (with_reducible refine LeO.ite ?_ ?_)
   | (with_reducible refine LeO.bind ?_ (fun _ => ?_))
   | exact ih0 _ _ _ _ _ _
   | exact ih1 _ _ _ _ _ _ _
   | exact ih2 _ _ _ _
   | exact spec_IsScore.mono _ _
   | exact spec_VoiceOf.mono _ _ _
   | exact LeO.none _
   | refine LeO.ite ?_ ?_
   | refine LeO.bind ?_ (fun _ => ?_)
def spec_PartFrom.T11 : Bool × List (List Nat × List Nat) := (true, [([], []), ([], []), ([], []), ([1, 2], [1, 2]), ([3], [3]), ([4], [4]), ([], []), ([], []), ([6, 7], [6, 7]), ([8], [8]), ([9], [9]), ([], []), ([], []), ([11, 12], [11, 12]), ([13], [13]), ([14], [14]), ([5, 10, 15], [5, 10, 15]), ([16], [16]), ([0, 17], [0, 17]), ([18, 18, 0, 1, 2, 3, 4, 5, 6, 7, 8, 9, 10, 11, 12, 13, 14, 15, 16, 17, 18], [0, 18])])
def spec_PartFrom.B11 : List Nat := [0, 0, 0, 6, 14, 30, 0, 0, 192, 448, 960, 0, 0, 6144, 14336, 30720, 65534, 131070, 262143, 524287]
theorem spec_PartFrom.tab11 : rtab .any (opsOf Try.f57 11) = spec_PartFrom.T11 := by kernel_rfl
theorem spec_PartFrom.bits11 : waitsOk spec_PartFrom.T11.2 spec_PartFrom.B11 = true := by kernel_rfl
def spec_PartFrom.T12 : Bool × List (List Nat × List Nat) := (true, [([], []), ([], []), ([0, 1], [0, 1]), ([2], [2]), ([3], [3]), ([], []), ([], []), ([5, 6], [5, 6]), ([7], [7]), ([8], [8]), ([4, 9], [4, 9]), ([10, 0, 1, 2, 3, 4, 5, 6, 7, 8, 9, 10], [10])])
def spec_PartFrom.B12 : List Nat := [0, 0, 3, 7, 15, 0, 0, 96, 224, 480, 1023, 2047]
theorem spec_PartFrom.tab12 : rtab .any (opsOf Try.f57 12) = spec_PartFrom.T12 := by kernel_rfl
theorem spec_PartFrom.bits12 : waitsOk spec_PartFrom.T12.2 spec_PartFrom.B12 = true := by kernel_rfl
set_option maxHeartbeats 8000000 in
set_option maxRecDepth 100000 in
theorem spec_PartFrom.calls (k : Nat) (A0 : Option Addr) (c0 : Nat) (l0 : List (S60)) (a1 : Int) (a2 : Int) (r1 : List (S66)) (r2 : Bool) (w : World) (hr0 : Kd.C k60 w A0 l0.length l0) (hc0 : l0.length ≤ c0) (h : spec_PartFrom.f k l0 a1 a2 = some (r1, r2)) :
  Calls Try.prog 57 #[.slice A0 l0.length c0, .int .i64 a1, .int .i64 a2] w fun e w' => ∃ v0_ : Value, e = .returned (.tuple #[v0_, .bool r2]) ∧ Kd.R k66 66 w' w.heap.size (fun _ => True) v0_ r1 ∧ Below w.heap.size w w' := by
 have hu66 := Try.underlying66; have HR0 := Aside0.mk hr0; have HC0 := Aside0.mk hc0; clear hr0 hc0; have HB := Aside0.mk (Below.refl w.heap.size w); have H : ((spec_VoiceOf.f k l0 a1).bind fun t374 => (spec_PartFrom.l0 k l0 a2 (([] : List (S66))) t374 0 0)) = some (r1, r2) := h; clear h; obtain ⟨y371, hy371⟩ : ∃ y_ : List (S66), y_ = (([] : List (S66))) := ⟨_, rfl⟩; replace H : ((spec_VoiceOf.f k l0 a1).bind fun t374 => (spec_PartFrom.l0 k l0 a2 y371 t374 0 0)) = some (r1, r2) := by first | (rw [hy371]; with_reducible exact H) | (have H2_ := (Option.bind_some _ _).symm.trans H; rw [hy371]; with_reducible exact H2_) | (have H2_ := (Option.bind_some _ _).symm.trans H; with_reducible exact H2_) | with_reducible exact H | (rw [hy371]; exact H) | exact H
 have Ny371 := Aside0.mk hy371; clear hy371; replace H := Option.bind_eq_some_iff.mp H; obtain ⟨t374, A40, H⟩ := H; (try dsimp only at H); have A4 := Aside0.mk A40; clear A40; have H' := Aside0.mk H; clear H; go_enter Try.func57, Try.ntmps57; go_wp2_with (first | ((with_reducible refine gate_dst (N := 12) rfl ?_); refine Kd.R_lit k66 _ 66 ?hg (N := 12) ?hd (xs := ([] : List (S66))) (inner := []) (ok := fun _ => True) (okp := fun _ => True) ?hr ?hp (fun _ hk => hk) trivial (Below.refl _ _) (Nat.le_refl _) (by simp) ?_; (case hd => rfl); (case hg => rfl); (case hr => first | (go_simp; done) | (go_simp; rfl)); (case hp => exact (Reps.none _ _)); intro v372 w5 ho6 hb hg_ hnew_; clear hg_ hnew_; (first | rw [← Ny371.out] at ho6 | (simp only [Int.reduceToNat] at ho6; rw [← Ny371.out] at ho6)); have n0_ := Aside0.mk (Kd.R_lower ho6 (below_size bl_)); have n1_ := Aside0.mk (below_step bl_ hb); clear HB; have HO373 := n0_; have HB := n1_; clear n0_ n1_; clear hb ho6) | ((with_reducible refine gate_callee (f := 63) rfl ?_); refine goesM_ (some 15) rfl rfl Try.func63 (by kernel_rfl) rfl #[.slice A0 l0.length c0, .int .i64 a1] rfl ?_; (with_reducible refine (spec_VoiceOf.calls k _ _ l0 a1 t374 _ ?side1 ?side2 A4.out).mono ?_); (case side1 => exact cw_ (Kd.C_below HR0.out HB.out)); (case side2 => exact HC0.out); rintro e w7 ⟨v375, rfl, ho0, hb⟩; refine ⟨_, rfl, ?_⟩; have n0_ := Aside0.mk (Kd.R_below (by exact rw_ HO373.out) hb); have n1_ := Aside0.mk (Kd.R_lower ho0 (below_size bl_)); have n2_ := Aside0.mk (below_step bl_ hb); clear HO373; clear HB; have HO373 := n0_; have HO376 := n1_; have HB := n2_; clear n0_ n1_ n2_; (try clear hb); (try clear hb2); (try clear hk); (try clear hi); (try clear ho0))); go_loopg [8, 10, 11] k (fun kq v8 v10 v11 w' => ∃ (x8_1 : List (S66)) (x10_1 : Int) (x11_1 : Int), v10 = .int .i64 x10_1 ∧ v11 = .int .i64 x11_1 ∧ Aside0 (spec_PartFrom.l0 kq l0 a2 x8_1 t374 x10_1 x11_1 = some (r1, r2)) ∧ Aside0 (kq ≤ k) ∧ Aside0 (Kd.R k66 66 w' w.heap.size (fun _ => True) v8 x8_1) ∧ Aside0 (Kd.R k60 60 w' w.heap.size (fun _ => True) v375 t374) ∧ Aside0 (Below w.heap.size w w'))
 case atStart => exact ⟨(y371), (0), (0), (by first | rfl | (simp; done) | (simp [*]; done)), (by first | rfl | (simp; done) | (simp [*]; done)), H', ⟨Nat.le_refl _⟩, ⟨by exact rw_ HO373.out⟩, ⟨by exact rw_ HO376.out⟩, ⟨bl_⟩⟩
 case round =>
  clear H'; try clear p2
  try clear c5
  try clear c6
  obtain ⟨x8_1, x10_1, x11_1, rfl, rfl, HA, HK1, HO_8, HO_9, HB⟩ := hrel
  cases gk with
  | zero => exact absurd HA.out (by simp [spec_PartFrom.l0])
  | succ k1 =>
   have H := HA.out; clear HA; simp only [spec_PartFrom.l0] at H; have HC8 := Aside0.mk H; clear H; go_upto_region 5 with (fail)
   go_cut [23] (fun v23 wc => ∃ (kq : Nat) (x23_7 : Bool), v23 = .bool x23_7 ∧ Aside0 (spec_PartFrom.j1 kq l0 a2 x8_1 t374 x10_1 x11_1 x23_7 = some (r1, r2)) ∧ Aside0 (kq ≤ k1) ∧ Aside0 (Kd.R k66 66 wc w.heap.size (fun _ => True) u8 x8_1) ∧ Aside0 (Kd.R k60 60 wc w.heap.size (fun _ => True) v375 t374) ∧ Aside0 (Below w.heap.size w wc))
   case first =>
    have H := HC8.out; clear HC8; by_cases c9 : x11_1 < (t374.length : Int)
    ·rw [if_pos c9] at H; have c9b0 : decide (x11_1 < (t374.length : Int)) = true := decide_eq_true c9; clear c9; (first | rw [c9b0] | (simp only [i64_w, i32_w]; rw [c9b0]) | skip); replace H := Option.bind_eq_some_iff.mp H; obtain ⟨t377, A100, H⟩ := H; (try dsimp only at H); have A10 := Aside0.mk A100; clear A100; have H' := Aside0.mk H; clear H; obtain ⟨Ao11, co11, eo11⟩ := Kd.R_slice HO_9.out; subst eo11; go_wp2_with (first | (go_at_call 64; (with_reducible refine (spec_IsScore.calls k1 _ _ l0 t377 _ ?side1 ?side2 A10.out).mono ?_); (case side1 => exact cw_ (Kd.C_below HR0.out HB.out)); (case side2 => exact HC0.out); rintro e w12 ⟨rfl, hb⟩; have n0_ := Aside0.mk (Kd.R_below (by exact rw_ HO_8.out) hb); have n1_ := Aside0.mk (Kd.R_below (by exact rw_ HO_9.out) hb); have n2_ := Aside0.mk (below_step bl_ hb); clear HO_8; clear HO_9; clear HB; have HO_8 := n0_; have HO_9 := n1_; have HB := n2_; clear n0_ n1_ n2_; (try clear hb); (try clear hb2); (try clear hk); (try clear hi))); go_meet
     case rel => exact ⟨_, (t377), (by first | rfl | (simp; done) | (simp [*]; done)), H', ⟨by have := HK1.out; first | omega | exact Nat.le_refl _⟩, ⟨by exact rw_ HO_8.out⟩, ⟨by exact rw_ HO_9.out⟩, ⟨bl_⟩⟩
    ·rw [if_neg c9] at H; have c9b0 : decide (x11_1 < (t374.length : Int)) = false := decide_eq_false c9; clear c9; (first | rw [c9b0] | (simp only [i64_w, i32_w]; rw [c9b0]) | skip); have H' := Aside0.mk H; clear H; obtain ⟨Ao13, co13, eo13⟩ := Kd.R_slice HO_9.out; subst eo13; go_wp2; go_meet
     case rel => exact ⟨_, (false), (by first | rfl | (simp; done) | (simp [*]; done)), H', ⟨by have := HK1.out; first | omega | exact Nat.le_refl _⟩, ⟨by exact rw_ HO_8.out⟩, ⟨by exact rw_ HO_9.out⟩, ⟨bl_⟩⟩
   case rest =>
    clear HC8; try clear p2
    try clear c5
    try clear c6
    try clear c9
    try clear c9b0
    try clear p2
    obtain ⟨kq, x23_7, rfl, HA, HJ7, HO_8, HO_9, HB⟩ := hcut
    cases kq with
    | zero => exact absurd HA.out (by simp [spec_PartFrom.j1])
    | succ kj7 =>
     have H := HA.out; clear HA; simp only [spec_PartFrom.j1] at H; by_cases c14 : x23_7 = true
     ·subst c14; rw [if_pos rfl] at H; by_cases c15 : 0 ≤ x11_1
      ·rw [if_pos c15] at H; have c15b0 : decide (0 ≤ x11_1) = true := decide_eq_true c15; clear c15; by_cases c16 : x11_1 < (t374.length : Int)
       ·rw [if_pos c16] at H; have c16b0 : decide (x11_1 < (t374.length : Int)) = true := decide_eq_true c16; clear c16; by_cases c17 : ((rd_T60 t374 x11_1).f0) < x10_1
        ·rw [if_pos c17] at H; have c17b0 : decide (((rd_T60 t374 x11_1).f0) < x10_1) = true := decide_eq_true c17; clear c17; obtain ⟨y379, hy379⟩ : ∃ y_ : List (S66), y_ = (([] : List (S66))) := ⟨_, rfl⟩; replace H : (some (y379, false)) = some (r1, r2) := by first | (rw [hy379]; with_reducible exact H) | (have H2_ := (Option.bind_some _ _).symm.trans H; rw [hy379]; with_reducible exact H2_) | (have H2_ := (Option.bind_some _ _).symm.trans H; with_reducible exact H2_) | with_reducible exact H | (rw [hy379]; exact H) | exact H
         have Ny379 := Aside0.mk hy379; clear hy379; simp only [Option.some.injEq, Prod.mk.injEq] at H; obtain ⟨rfl, rfl⟩ := H; obtain ⟨Ao18, co18, eo18⟩ := Kd.R_slice HO_9.out; subst eo18; have p378 : 0 ≤ (x11_1 : Int) := of_decide_eq_true (by first | (with_reducible assumption) | assumption); have q378 : x11_1 < (t374.length : Int) := of_decide_eq_true (by first | (with_reducible assumption) | assumption); obtain ⟨ad378, e378, hx378_0, hx378_1, hx378_2, hx378_3⟩ := at_T60 (Kd.R_reads' HO_9.out).2.2 x11_1 p378 q378
         cases e378; replace p378 := eq_true p378; replace q378 := eq_true q378; go_wp2_with (first | ((with_reducible refine gate_dst (N := 33) rfl ?_); refine Kd.R_lit k66 _ 66 ?hg (N := 33) ?hd (xs := ([] : List (S66))) (inner := []) (ok := fun _ => True) (okp := fun _ => True) ?hr ?hp (fun _ hk => hk) trivial (Below.refl _ _) (Nat.le_refl _) (by simp) ?_; (case hd => rfl); (case hg => rfl); (case hr => first | (go_simp; done) | (go_simp; rfl)); (case hp => exact (Reps.none _ _)); intro v380 w19 ho20 hb hg_ hnew_; clear hg_ hnew_; (first | rw [← Ny379.out] at ho20 | (simp only [Int.reduceToNat] at ho20; rw [← Ny379.out] at ho20)); have n0_ := Aside0.mk (Kd.R_elder' (by exact rw_ HO_8.out) (Kd.R_base ho20) hb); have n1_ := Aside0.mk (Kd.R_below (by exact rw_ HO_9.out) hb); have n2_ := Aside0.mk (Kd.R_lower (Kd.R_new' ho20 (Kd.R_lt (by exact rw_ HO_8.out))) (below_size bl_)); have n3_ := Aside0.mk (below_step bl_ hb); clear HO_8; clear HO_9; clear HB; have HO_8 := n0_; have HO_9 := n1_; have HO381 := n2_; have HB := n3_; clear n0_ n1_ n2_ n3_; clear hb ho20)); go_ret2; exact ⟨_, by first | rfl | (simp [errW_none, errW_some] <;> rfl) | (simp [*, errW_none, errW_some] <;> rfl), by (with_reducible repeat (first | apply Kd.R_alloc | apply Kd.R_drewN | apply Kd.R_drew)); exact Kd.R_mono HO381.out (fun _ hk => trivial), bl_⟩
        ·rw [if_neg c17] at H; have c17b0 : decide (((rd_T60 t374 x11_1).f0) < x10_1) = false := decide_eq_false c17; clear c17; by_cases c21 : ((rd_T60 t374 x11_1).f0) > x10_1
         ·rw [if_pos c21] at H; have c21b0 : decide (x10_1 < ((rd_T60 t374 x11_1).f0)) = true := decide_eq_true c21; clear c21; by_cases c22 : x8_1.length < 5864062014805
          ·rw [if_pos c22] at H; have LMc22 := Aside0.mk c22; clear c22; obtain ⟨y384, hy384⟩ : ∃ y_ : List (S66), y_ = (x8_1 ++ [(⟨x10_1, wrap64 (((rd_T60 t374 x11_1).f0) - x10_1), 0⟩ : S66)]) := ⟨_, rfl⟩; replace H : (if y384.length < 5864062014805 then (spec_PartFrom.l0 kj7 l0 a2 (y384 ++ [(⟨(rd_T60 t374 x11_1).f0, (rd_T60 t374 x11_1).f1, (rd_T60 t374 x11_1).f2⟩ : S66)]) t374 (wrap64 (((rd_T60 t374 x11_1).f0) + ((rd_T60 t374 x11_1).f1))) (wrap64 (x11_1 + 1))) else (none)) = some (r1, r2) := by first | (rw [hy384]; with_reducible exact H) | (have H2_ := (Option.bind_some _ _).symm.trans H; rw [hy384]; with_reducible exact H2_) | (have H2_ := (Option.bind_some _ _).symm.trans H; with_reducible exact H2_) | with_reducible exact H | (rw [hy384]; exact H) | exact H
           have Ny384 := Aside0.mk hy384; clear hy384; by_cases c23 : y384.length < 5864062014805
           ·rw [if_pos c23] at H; have LMc23 := Aside0.mk c23; clear c23; obtain ⟨y390, hy390⟩ : ∃ y_ : List (S66), y_ = (y384 ++ [(⟨(rd_T60 t374 x11_1).f0, (rd_T60 t374 x11_1).f1, (rd_T60 t374 x11_1).f2⟩ : S66)]) := ⟨_, rfl⟩; replace H : (spec_PartFrom.l0 kj7 l0 a2 y390 t374 (wrap64 (((rd_T60 t374 x11_1).f0) + ((rd_T60 t374 x11_1).f1))) (wrap64 (x11_1 + 1))) = some (r1, r2) := by first | (rw [hy390]; with_reducible exact H) | (have H2_ := (Option.bind_some _ _).symm.trans H; rw [hy390]; with_reducible exact H2_) | (have H2_ := (Option.bind_some _ _).symm.trans H; with_reducible exact H2_) | with_reducible exact H | (rw [hy390]; exact H) | exact H
            have Ny390 := Aside0.mk hy390; clear hy390; have H' := Aside0.mk H; clear H; obtain ⟨Ao24, co24, eo24⟩ := Kd.R_slice HO_9.out; subst eo24; have p378 : 0 ≤ (x11_1 : Int) := of_decide_eq_true (by first | (with_reducible assumption) | assumption); have q378 : x11_1 < (t374.length : Int) := of_decide_eq_true (by first | (with_reducible assumption) | assumption); obtain ⟨ad378, e378, hx378_0, hx378_1, hx378_2, hx378_3⟩ := at_T60 (Kd.R_reads' HO_9.out).2.2 x11_1 p378 q378
            cases e378; replace p378 := eq_true p378; replace q378 := eq_true q378; have p382 : 0 ≤ (x11_1 : Int) := of_decide_eq_true (by first | (with_reducible assumption) | assumption); have q382 : x11_1 < (t374.length : Int) := of_decide_eq_true (by first | (with_reducible assumption) | assumption); obtain ⟨ad382, e382, hx382_0, hx382_1, hx382_2, hx382_3⟩ := at_T60 (Kd.R_reads' HO_9.out).2.2 x11_1 p382 q382; obtain rfl : ad378 = ad382 := (by injection e382)
            replace p382 := eq_true p382; replace q382 := eq_true q382; have p383 : 0 ≤ (x11_1 : Int) := of_decide_eq_true (by first | (with_reducible assumption) | assumption); have q383 : x11_1 < (t374.length : Int) := of_decide_eq_true (by first | (with_reducible assumption) | assumption); obtain ⟨ad383, e383, hx383_0, hx383_1, hx383_2, hx383_3⟩ := at_T60 (Kd.R_reads' HO_9.out).2.2 x11_1 p383 q383; obtain rfl : ad378 = ad383 := (by injection e383)
            replace p383 := eq_true p383; replace q383 := eq_true q383; try go_wp2_with (first | ((with_reducible refine gate_builtin (b := .append) (xs := #[.tmp 41, .tmp 51]) rfl ?_); at_builtin; refine Kd.R_append k66 (w0 := w) w.heap.size rfl (.tmp 41) (.tmp 51) 40 66 (.agg #[(.int .i64 0), (.int .i64 0), (.int .i64 0)]) 24 rfl Try.underlying40 info66 rfl (by decide) (by omega) u8 x8_1 (⟨x10_1, wrap64 (((rd_T60 t374 x11_1).f0) - x10_1), 0⟩ : S66) [.int .i64 x10_1, .int .i64 (wrap64 (((rd_T60 t374 x11_1).f0) - x10_1)), .int .i64 0] (fun _ => True) (fun _ => False) rfl rfl ?aP (fun _ hk => hk.elim) ?aF ?aO ?aB ?aS ?aL ?_; (case aP => exact k66_mkM _ _ _ (⟨x10_1, wrap64 (((rd_T60 t374 x11_1).f0) - x10_1), 0⟩ : S66)); (case aB => exact bl_); (case aF => exact (fun _ _ => trivial)); (case aO => exact (by exact rw_ HO_8.out)); (case aS => exact (below_size bl_)); (case aL => have := LMc22.out; omega); intro v385 w25 ho hb hg hat; rw [← Ny384.out] at ho; have n0_ := Aside0.mk (Kd.R_over' (by exact rw_ HO_9.out) (Kd.R_typed (by exact rw_ HO_8.out)) (by decide) hg); have n1_ := Aside0.mk (hb); have n2_ := Aside0.mk (ho); clear HO_9; clear HB; clear HO_8; have HO_9 := n0_; have HB := n1_; have HO386 := n2_; clear n0_ n1_ n2_; clear ho hb hg hat))
            have n0_ := Aside0.mk (Kd.R_drew HO_9.out); have n1_ := Aside0.mk (Kd.R_drew HO386.out); have n2_ := Aside0.mk (below_drew1 HB.out); clear HO_9; clear HO386; clear HB; have HO_9 := n0_; have HO386 := n1_; have HB := n2_; clear n0_ n1_ n2_; have p387 : 0 ≤ (x11_1 : Int) := of_decide_eq_true (by first | (with_reducible assumption) | assumption); have q387 : x11_1 < (t374.length : Int) := of_decide_eq_true (by first | (with_reducible assumption) | assumption); obtain ⟨ad387, e387, hx387_0, hx387_1, hx387_2, hx387_3⟩ := at_T60 (Kd.R_reads' HO_9.out).2.2 x11_1 p387 q387; obtain rfl : ad378 = ad387 := (by injection e387)
            replace p387 := eq_true p387; replace q387 := eq_true q387; have p388 : 0 ≤ (x11_1 : Int) := of_decide_eq_true (by first | (with_reducible assumption) | assumption); have q388 : x11_1 < (t374.length : Int) := of_decide_eq_true (by first | (with_reducible assumption) | assumption); obtain ⟨ad388, e388, hx388_0, hx388_1, hx388_2, hx388_3⟩ := at_T60 (Kd.R_reads' HO_9.out).2.2 x11_1 p388 q388; obtain rfl : ad378 = ad388 := (by injection e388)
            replace p388 := eq_true p388; replace q388 := eq_true q388; have p389 : 0 ≤ (x11_1 : Int) := of_decide_eq_true (by first | (with_reducible assumption) | assumption); have q389 : x11_1 < (t374.length : Int) := of_decide_eq_true (by first | (with_reducible assumption) | assumption); obtain ⟨ad389, e389, hx389_0, hx389_1, hx389_2, hx389_3⟩ := at_T60 (Kd.R_reads' HO_9.out).2.2 x11_1 p389 q389; obtain rfl : ad378 = ad389 := (by injection e389)
            replace p389 := eq_true p389; replace q389 := eq_true q389; refine start_ (n := 20) (S := fun w' => w'.cell? (ad378.add ((x11_1).toNat * 4)) = some (.int .i64 ((rd_T60 t374 x11_1).f0)) ∧ w'.cell? ⟨(ad378.add ((x11_1).toNat * 4)).block, (ad378.add ((x11_1).toNat * 4)).off + 1, none⟩ = some (.int .i64 ((rd_T60 t374 x11_1).f1)) ∧ w'.cell? ⟨(ad378.add ((x11_1).toNat * 4)).block, (ad378.add ((x11_1).toNat * 4)).off + 2, none⟩ = some (.int .i64 ((rd_T60 t374 x11_1).f2)) ∧ w'.cell? ⟨(ad378.add ((x11_1).toNat * 4)).block, (ad378.add ((x11_1).toNat * 4)).off + 3, none⟩ = some (.int .i64 ((rd_T60 t374 x11_1).f3)) ∧ w'.cell? (ad378.add ((x11_1).toNat * 4)) = some (.int .i64 ((rd_T60 t374 x11_1).f0)) ∧ w'.cell? ⟨(ad378.add ((x11_1).toNat * 4)).block, (ad378.add ((x11_1).toNat * 4)).off + 1, none⟩ = some (.int .i64 ((rd_T60 t374 x11_1).f1)) ∧ w'.cell? ⟨(ad378.add ((x11_1).toNat * 4)).block, (ad378.add ((x11_1).toNat * 4)).off + 2, none⟩ = some (.int .i64 ((rd_T60 t374 x11_1).f2)) ∧ w'.cell? ⟨(ad378.add ((x11_1).toNat * 4)).block, (ad378.add ((x11_1).toNat * 4)).off + 3, none⟩ = some (.int .i64 ((rd_T60 t374 x11_1).f3)) ∧ w'.cell? (ad378.add ((x11_1).toNat * 4)) = some (.int .i64 ((rd_T60 t374 x11_1).f0)) ∧ w'.cell? ⟨(ad378.add ((x11_1).toNat * 4)).block, (ad378.add ((x11_1).toNat * 4)).off + 1, none⟩ = some (.int .i64 ((rd_T60 t374 x11_1).f1)) ∧ w'.cell? ⟨(ad378.add ((x11_1).toNat * 4)).block, (ad378.add ((x11_1).toNat * 4)).off + 2, none⟩ = some (.int .i64 ((rd_T60 t374 x11_1).f2)) ∧ w'.cell? ⟨(ad378.add ((x11_1).toNat * 4)).block, (ad378.add ((x11_1).toNat * 4)).off + 3, none⟩ = some (.int .i64 ((rd_T60 t374 x11_1).f3))) (ds := [17, 18]) #[ff,ff,ff,ff,ff,ff,ff,ff,ff,ff,ff,ff,ff,ff,ff,ff,ff,ff,ff,ff] (by kernel_rfl) rfl rfl ⟨hx387_0, hx387_1, hx387_2, hx387_3, hx388_0, hx388_1, hx388_2, hx388_3, hx389_0, hx389_1, hx389_2, hx389_3⟩ (fun hHeld => ?_); refine with_tabW spec_PartFrom.tab11 spec_PartFrom.bits11 (fun HT_ HW_ => ?_); generalize w25.drew = w26 at HO_9 HO386 HB hx387_0 hx387_1 hx387_2 hx387_3 hx388_0 hx388_1 hx388_2 hx388_3 hx389_0 hx389_1 hx389_2 hx389_3 hHeld ⊢
            refine pure_ (i := 0) (N := some 53) (v := ?_) (a' := ?_) #[tt,ff,ff,ff,ff,ff,ff,ff,ff,ff,ff,ff,ff,ff,ff,ff,ff,ff,ff,ff] rfl rfl (any_of HT_.out (by kernel_rfl)) (fun _ _ _ h => h) (Or.inl ⟨by rfl, ?_⟩) ?_ ?_; rotate_left
            ·intro w'; go_simp; (with_reducible rfl)
            rotate_left
            ·simp only [Act.put, List.setIfInBounds_toArray, List.set_cons_zero, List.set_cons_succ, i64_w, i32_w]; rfl
            refine pure_ (i := 1) (N := some 54) (v := ?_) (a' := ?_) #[tt,tt,ff,ff,ff,ff,ff,ff,ff,ff,ff,ff,ff,ff,ff,ff,ff,ff,ff,ff] rfl rfl (any_of HT_.out (by kernel_rfl)) (fun _ _ _ h => h) (Or.inl ⟨by rfl, ?_⟩) ?_ ?_; rotate_left
            ·intro w'; go_simp; (with_reducible rfl)
            rotate_left
            ·simp only [Act.put, List.setIfInBounds_toArray, List.set_cons_zero, List.set_cons_succ, i64_w, i32_w]; rfl
            refine pure_ (i := 2) (N := some 55) (v := ?_) (a' := ?_) #[tt,tt,tt,ff,ff,ff,ff,ff,ff,ff,ff,ff,ff,ff,ff,ff,ff,ff,ff,ff] rfl rfl (any_of HT_.out (by kernel_rfl)) (fun _ _ _ h => h) (Or.inl ⟨by rfl, ?_⟩) ?_ ?_; rotate_left
            ·intro w'; go_simp; (with_reducible rfl)
            rotate_left
            ·simp only [Act.put, List.setIfInBounds_toArray, List.set_cons_zero, List.set_cons_succ, i64_w, i32_w]; rfl
            refine pure_ (i := 3) (N := some 56) (v := ?_) (a' := ?_) #[tt,tt,tt,tt,ff,ff,ff,ff,ff,ff,ff,ff,ff,ff,ff,ff,ff,ff,ff,ff] rfl rfl (any_of HT_.out (by kernel_rfl)) (fun _ _ _ h => h) (Or.inl ⟨by rfl, ?_⟩) ?_ ?_; rotate_left
            ·intro w'; go_simp; (with_reducible rfl)
            rotate_left
            ·simp only [Act.put, List.setIfInBounds_toArray, List.set_cons_zero, List.set_cons_succ, i64_w, i32_w]; rfl
            refine pure_ (i := 4) (N := some 57) (v := ?_) (a' := ?_) #[tt,tt,tt,tt,tt,ff,ff,ff,ff,ff,ff,ff,ff,ff,ff,ff,ff,ff,ff,ff] rfl rfl (any_of HT_.out (by kernel_rfl)) (fun _ _ _ h => h) (Or.inl ⟨by rfl, ?_⟩) ?_ ?_; rotate_left
            ·intro w'; go_simp; (with_reducible rfl)
            rotate_left
            ·simp only [Act.put, List.setIfInBounds_toArray, List.set_cons_zero, List.set_cons_succ, i64_w, i32_w]; rfl
            refine pure_ (i := 6) (N := some 59) (v := ?_) (a' := ?_) #[tt,tt,tt,tt,tt,ff,tt,ff,ff,ff,ff,ff,ff,ff,ff,ff,ff,ff,ff,ff] rfl rfl (any_of HT_.out (by kernel_rfl)) (fun _ _ _ h => h) (Or.inl ⟨by rfl, ?_⟩) ?_ ?_; rotate_left
            ·intro w'; go_simp; (with_reducible rfl)
            rotate_left
            ·simp only [Act.put, List.setIfInBounds_toArray, List.set_cons_zero, List.set_cons_succ, i64_w, i32_w]; rfl
            refine pure_ (i := 7) (N := some 60) (v := ?_) (a' := ?_) #[tt,tt,tt,tt,tt,ff,tt,tt,ff,ff,ff,ff,ff,ff,ff,ff,ff,ff,ff,ff] rfl rfl (any_of HT_.out (by kernel_rfl)) (fun _ _ _ h => h) (Or.inl ⟨by rfl, ?_⟩) ?_ ?_; rotate_left
            ·intro w'; go_simp; (with_reducible rfl)
            rotate_left
            ·simp only [Act.put, List.setIfInBounds_toArray, List.set_cons_zero, List.set_cons_succ, i64_w, i32_w]; rfl
            refine pure_ (i := 8) (N := some 61) (v := ?_) (a' := ?_) #[tt,tt,tt,tt,tt,ff,tt,tt,tt,ff,ff,ff,ff,ff,ff,ff,ff,ff,ff,ff] rfl rfl (any_of HT_.out (by kernel_rfl)) (fun _ _ _ h => h) (Or.inl ⟨by rfl, ?_⟩) ?_ ?_; rotate_left
            ·intro w'; go_simp; (with_reducible rfl)
            rotate_left
            ·simp only [Act.put, List.setIfInBounds_toArray, List.set_cons_zero, List.set_cons_succ, i64_w, i32_w]; rfl
            refine pure_ (i := 9) (N := some 62) (v := ?_) (a' := ?_) #[tt,tt,tt,tt,tt,ff,tt,tt,tt,tt,ff,ff,ff,ff,ff,ff,ff,ff,ff,ff] rfl rfl (any_of HT_.out (by kernel_rfl)) (fun _ _ _ h => h) (Or.inl ⟨by rfl, ?_⟩) ?_ ?_; rotate_left
            ·intro w'; go_simp; (with_reducible rfl)
            rotate_left
            ·simp only [Act.put, List.setIfInBounds_toArray, List.set_cons_zero, List.set_cons_succ, i64_w, i32_w]; rfl
            refine pure_ (i := 11) (N := some 64) (v := ?_) (a' := ?_) #[tt,tt,tt,tt,tt,ff,tt,tt,tt,tt,ff,tt,ff,ff,ff,ff,ff,ff,ff,ff] rfl rfl (any_of HT_.out (by kernel_rfl)) (fun _ _ _ h => h) (Or.inl ⟨by rfl, ?_⟩) ?_ ?_; rotate_left
            ·intro w'; go_simp; (with_reducible rfl)
            rotate_left
            ·simp only [Act.put, List.setIfInBounds_toArray, List.set_cons_zero, List.set_cons_succ, i64_w, i32_w]; rfl
            refine pure_ (i := 12) (N := some 65) (v := ?_) (a' := ?_) #[tt,tt,tt,tt,tt,ff,tt,tt,tt,tt,ff,tt,tt,ff,ff,ff,ff,ff,ff,ff] rfl rfl (any_of HT_.out (by kernel_rfl)) (fun _ _ _ h => h) (Or.inl ⟨by rfl, ?_⟩) ?_ ?_; rotate_left
            ·intro w'; go_simp; (with_reducible rfl)
            rotate_left
            ·simp only [Act.put, List.setIfInBounds_toArray, List.set_cons_zero, List.set_cons_succ, i64_w, i32_w]; rfl
            refine pure_ (i := 13) (N := some 66) (v := ?_) (a' := ?_) #[tt,tt,tt,tt,tt,ff,tt,tt,tt,tt,ff,tt,tt,tt,ff,ff,ff,ff,ff,ff] rfl rfl (any_of HT_.out (by kernel_rfl)) (fun _ _ _ h => h) (Or.inl ⟨by rfl, ?_⟩) ?_ ?_; rotate_left
            ·intro w'; go_simp; (with_reducible rfl)
            rotate_left
            ·simp only [Act.put, List.setIfInBounds_toArray, List.set_cons_zero, List.set_cons_succ, i64_w, i32_w]; rfl
            refine pure_ (i := 14) (N := some 67) (v := ?_) (a' := ?_) #[tt,tt,tt,tt,tt,ff,tt,tt,tt,tt,ff,tt,tt,tt,tt,ff,ff,ff,ff,ff] rfl rfl (any_of HT_.out (by kernel_rfl)) (fun _ _ _ h => h) (Or.inl ⟨by rfl, ?_⟩) ?_ ?_; rotate_left
            ·intro w'; go_simp; (with_reducible rfl)
            rotate_left
            ·simp only [Act.put, List.setIfInBounds_toArray, List.set_cons_zero, List.set_cons_succ, i64_w, i32_w]; rfl
            refine take_ (i := 5) (N := some 58) (v := ?_) (a' := ?_) #[tt,tt,tt,tt,tt,tt,tt,tt,tt,tt,ff,tt,tt,tt,tt,ff,ff,ff,ff,ff] rfl rfl (take_ofW HT_.out HW_.out (by kernel_rfl)) (fun _ _ _ h => h) (Or.inl ⟨by rfl, ?_⟩) hHeld ?_ ?_; rotate_left
            ·rintro w' ⟨s0, s1, s2, s3, s4, s5, s6, s7, s8, s9, s10, s11⟩; go_simp; (with_reducible rfl)
            rotate_left
            ·simp only [Act.put, List.setIfInBounds_toArray, List.set_cons_zero, List.set_cons_succ, i64_w, i32_w]; rfl
            refine take_ (i := 10) (N := some 63) (v := ?_) (a' := ?_) #[tt,tt,tt,tt,tt,tt,tt,tt,tt,tt,tt,tt,tt,tt,tt,ff,ff,ff,ff,ff] rfl rfl (take_ofW HT_.out HW_.out (by kernel_rfl)) (fun _ _ _ h => h) (Or.inl ⟨by rfl, ?_⟩) hHeld ?_ ?_; rotate_left
            ·rintro w' ⟨s0, s1, s2, s3, s4, s5, s6, s7, s8, s9, s10, s11⟩; go_simp; (with_reducible rfl)
            rotate_left
            ·simp only [Act.put, List.setIfInBounds_toArray, List.set_cons_zero, List.set_cons_succ, i64_w, i32_w]; rfl
            refine take_ (i := 15) (N := some 68) (v := ?_) (a' := ?_) #[tt,tt,tt,tt,tt,tt,tt,tt,tt,tt,tt,tt,tt,tt,tt,tt,ff,ff,ff,ff] rfl rfl (take_ofW HT_.out HW_.out (by kernel_rfl)) (fun _ _ _ h => h) (Or.inl ⟨by rfl, ?_⟩) hHeld ?_ ?_; rotate_left
            ·rintro w' ⟨s0, s1, s2, s3, s4, s5, s6, s7, s8, s9, s10, s11⟩; go_simp; (with_reducible rfl)
            rotate_left
            ·simp only [Act.put, List.setIfInBounds_toArray, List.set_cons_zero, List.set_cons_succ, i64_w, i32_w]; rfl
            refine pure_ (i := 16) (N := some 69) (v := ?_) (a' := ?_) #[tt,tt,tt,tt,tt,tt,tt,tt,tt,tt,tt,tt,tt,tt,tt,tt,tt,ff,ff,ff] rfl rfl (any_of HT_.out (by kernel_rfl)) (fun _ _ _ h => h) (Or.inl ⟨by rfl, ?_⟩) ?_ ?_; rotate_left
            ·intro w'; go_simp; (with_reducible rfl)
            rotate_left
            ·simp only [Act.put, List.setIfInBounds_toArray, List.set_cons_zero, List.set_cons_succ, i64_w, i32_w]; rfl
            refine last_ (i := 17) (N := some 70) #[tt,tt,tt,tt,tt,tt,tt,tt,tt,tt,tt,tt,tt,tt,tt,tt,tt,tt,ff,ff] rfl rfl (one_of HT_.out (by kernel_rfl)) (by decide) (fun K hK => ?_); refine value_ (w1 := ?_) (v := ?_) (by rfl) rfl ?_ ?_; rotate_left 2
            ·go_simp; constructor
             ·rfl
             ·rfl
            refine hK.out _ _ ?_; clear hK K; refine norm_ (a' := ?_) ?_ ?_; rotate_left
            ·show Act.put _ (some 70) _ = _; simp only [Act.put, List.setIfInBounds_toArray, List.set_cons_zero, List.set_cons_succ, i64_w, i32_w]; rfl
            refine last_ (i := 18) (N := some 71) #[tt,tt,tt,tt,tt,tt,tt,tt,tt,tt,tt,tt,tt,tt,tt,tt,tt,tt,tt,ff] rfl rfl (one_of HT_.out (by kernel_rfl)) (by decide) (fun K hK => ?_); refine Kd.R_append_step k66 (w0 := w) w.heap.size (by rfl) (.tmp 53) (.tmp 70) 40 66 (.agg #[(.int .i64 0), (.int .i64 0), (.int .i64 0)]) 24 rfl Try.underlying40 info66 rfl (by decide) (by omega) v385 y384 (⟨(rd_T60 t374 x11_1).f0, (rd_T60 t374 x11_1).f1, (rd_T60 t374 x11_1).f2⟩ : S66) [.int .i64 ((rd_T60 t374 x11_1).f0), .int .i64 ((rd_T60 t374 x11_1).f1), .int .i64 ((rd_T60 t374 x11_1).f2)] (fun _ => True) (fun _ => False) rfl rfl ?aP (fun _ hk => hk.elim) ?aF ?aO ?aB ?aS ?aL ?_; (case aP => exact k66_mkM _ _ _ (⟨(rd_T60 t374 x11_1).f0, (rd_T60 t374 x11_1).f1, (rd_T60 t374 x11_1).f2⟩ : S66)); (case aB => exact bl_); (case aF => exact (fun _ _ => trivial)); (case aO => exact (by exact rw_ HO386.out)); (case aS => exact (below_size bl_)); (case aL => have := LMc23.out; omega); intro v391 w27 ho hb hg hat; rw [← Ny390.out] at ho; have n0_ := Aside0.mk (Kd.R_over' (by exact rw_ HO_9.out) (Kd.R_typed (by exact rw_ HO386.out)) (by decide) hg); have n1_ := Aside0.mk (hb); have n2_ := Aside0.mk (ho); clear HO_9; clear HB; clear HO386; have HO_9 := n0_; have HB := n1_; have HO392 := n2_; clear n0_ n1_ n2_; clear ho hb hg hat; refine hK.out _ _ ?_; clear hK K; refine norm_ (a' := ?_) ?_ ?_; rotate_left
            ·show Act.put _ (some 71) _ = _; simp only [Act.put, List.setIfInBounds_toArray, List.set_cons_zero, List.set_cons_succ, i64_w, i32_w]; rfl
            refine pure_ (i := 19) (N := some 8) (v := ?_) (a' := ?_) #[tt,tt,tt,tt,tt,tt,tt,tt,tt,tt,tt,tt,tt,tt,tt,tt,tt,tt,tt,tt] rfl rfl (any_of HT_.out (by kernel_rfl)) (fun _ _ _ h => h) (Or.inl ⟨by rfl, ?_⟩) ?_ ?_; rotate_left
            ·intro w'; go_simp; (with_reducible rfl)
            rotate_left
            ·simp only [Act.put, List.setIfInBounds_toArray, List.set_cons_zero, List.set_cons_succ, i64_w, i32_w]; rfl
            refine done_ (done_of HT_.out (by kernel_rfl)) ?_; try go_wp2
            have n0_ := Aside0.mk (Kd.R_drew HO_9.out); have n1_ := Aside0.mk (Kd.R_drew HO392.out); have n2_ := Aside0.mk (below_drew1 HB.out); clear HO_9; clear HO392; clear HB; have HO_9 := n0_; have HO392 := n1_; have HB := n2_; clear n0_ n1_ n2_; have p393 : 0 ≤ (x11_1 : Int) := of_decide_eq_true (by first | (with_reducible assumption) | assumption); have q393 : x11_1 < (t374.length : Int) := of_decide_eq_true (by first | (with_reducible assumption) | assumption); obtain ⟨ad393, e393, hx393_0, hx393_1, hx393_2, hx393_3⟩ := at_T60 (Kd.R_reads' HO_9.out).2.2 x11_1 p393 q393; obtain rfl : ad378 = ad393 := (by injection e393)
            replace p393 := eq_true p393; replace q393 := eq_true q393; have p394 : 0 ≤ (x11_1 : Int) := of_decide_eq_true (by first | (with_reducible assumption) | assumption); have q394 : x11_1 < (t374.length : Int) := of_decide_eq_true (by first | (with_reducible assumption) | assumption); obtain ⟨ad394, e394, hx394_0, hx394_1, hx394_2, hx394_3⟩ := at_T60 (Kd.R_reads' HO_9.out).2.2 x11_1 p394 q394; obtain rfl : ad378 = ad394 := (by injection e394)
            replace p394 := eq_true p394; replace q394 := eq_true q394; refine start_ (n := 12) (S := fun w' => w'.cell? (ad378.add ((x11_1).toNat * 4)) = some (.int .i64 ((rd_T60 t374 x11_1).f0)) ∧ w'.cell? ⟨(ad378.add ((x11_1).toNat * 4)).block, (ad378.add ((x11_1).toNat * 4)).off + 1, none⟩ = some (.int .i64 ((rd_T60 t374 x11_1).f1)) ∧ w'.cell? ⟨(ad378.add ((x11_1).toNat * 4)).block, (ad378.add ((x11_1).toNat * 4)).off + 2, none⟩ = some (.int .i64 ((rd_T60 t374 x11_1).f2)) ∧ w'.cell? ⟨(ad378.add ((x11_1).toNat * 4)).block, (ad378.add ((x11_1).toNat * 4)).off + 3, none⟩ = some (.int .i64 ((rd_T60 t374 x11_1).f3)) ∧ w'.cell? (ad378.add ((x11_1).toNat * 4)) = some (.int .i64 ((rd_T60 t374 x11_1).f0)) ∧ w'.cell? ⟨(ad378.add ((x11_1).toNat * 4)).block, (ad378.add ((x11_1).toNat * 4)).off + 1, none⟩ = some (.int .i64 ((rd_T60 t374 x11_1).f1)) ∧ w'.cell? ⟨(ad378.add ((x11_1).toNat * 4)).block, (ad378.add ((x11_1).toNat * 4)).off + 2, none⟩ = some (.int .i64 ((rd_T60 t374 x11_1).f2)) ∧ w'.cell? ⟨(ad378.add ((x11_1).toNat * 4)).block, (ad378.add ((x11_1).toNat * 4)).off + 3, none⟩ = some (.int .i64 ((rd_T60 t374 x11_1).f3))) (ds := []) #[ff,ff,ff,ff,ff,ff,ff,ff,ff,ff,ff,ff] (by kernel_rfl) rfl rfl ⟨hx393_0, hx393_1, hx393_2, hx393_3, hx394_0, hx394_1, hx394_2, hx394_3⟩ (fun hHeld => ?_); refine with_tabW spec_PartFrom.tab12 spec_PartFrom.bits12 (fun HT_ HW_ => ?_); generalize w27.drew = w28 at HO_9 HO392 HB hx393_0 hx393_1 hx393_2 hx393_3 hx394_0 hx394_1 hx394_2 hx394_3 hHeld ⊢
            refine pure_ (i := 0) (N := some 72) (v := ?_) (a' := ?_) #[tt,ff,ff,ff,ff,ff,ff,ff,ff,ff,ff,ff] rfl rfl (any_of HT_.out (by kernel_rfl)) (fun _ _ _ h => h) (Or.inl ⟨by rfl, ?_⟩) ?_ ?_; rotate_left
            ·intro w'; go_simp; (with_reducible rfl)
            rotate_left
            ·simp only [Act.put, List.setIfInBounds_toArray, List.set_cons_zero, List.set_cons_succ, i64_w, i32_w]; rfl
            refine pure_ (i := 1) (N := some 73) (v := ?_) (a' := ?_) #[tt,tt,ff,ff,ff,ff,ff,ff,ff,ff,ff,ff] rfl rfl (any_of HT_.out (by kernel_rfl)) (fun _ _ _ h => h) (Or.inl ⟨by rfl, ?_⟩) ?_ ?_; rotate_left
            ·intro w'; go_simp; (with_reducible rfl)
            rotate_left
            ·simp only [Act.put, List.setIfInBounds_toArray, List.set_cons_zero, List.set_cons_succ, i64_w, i32_w]; rfl
            refine pure_ (i := 2) (N := some 74) (v := ?_) (a' := ?_) #[tt,tt,tt,ff,ff,ff,ff,ff,ff,ff,ff,ff] rfl rfl (any_of HT_.out (by kernel_rfl)) (fun _ _ _ h => h) (Or.inl ⟨by rfl, ?_⟩) ?_ ?_; rotate_left
            ·intro w'; go_simp; (with_reducible rfl)
            rotate_left
            ·simp only [Act.put, List.setIfInBounds_toArray, List.set_cons_zero, List.set_cons_succ, i64_w, i32_w]; rfl
            refine pure_ (i := 3) (N := some 75) (v := ?_) (a' := ?_) #[tt,tt,tt,tt,ff,ff,ff,ff,ff,ff,ff,ff] rfl rfl (any_of HT_.out (by kernel_rfl)) (fun _ _ _ h => h) (Or.inl ⟨by rfl, ?_⟩) ?_ ?_; rotate_left
            ·intro w'; go_simp; (with_reducible rfl)
            rotate_left
            ·simp only [Act.put, List.setIfInBounds_toArray, List.set_cons_zero, List.set_cons_succ, i64_w, i32_w]; rfl
            refine pure_ (i := 5) (N := some 77) (v := ?_) (a' := ?_) #[tt,tt,tt,tt,ff,tt,ff,ff,ff,ff,ff,ff] rfl rfl (any_of HT_.out (by kernel_rfl)) (fun _ _ _ h => h) (Or.inl ⟨by rfl, ?_⟩) ?_ ?_; rotate_left
            ·intro w'; go_simp; (with_reducible rfl)
            rotate_left
            ·simp only [Act.put, List.setIfInBounds_toArray, List.set_cons_zero, List.set_cons_succ, i64_w, i32_w]; rfl
            refine pure_ (i := 6) (N := some 78) (v := ?_) (a' := ?_) #[tt,tt,tt,tt,ff,tt,tt,ff,ff,ff,ff,ff] rfl rfl (any_of HT_.out (by kernel_rfl)) (fun _ _ _ h => h) (Or.inl ⟨by rfl, ?_⟩) ?_ ?_; rotate_left
            ·intro w'; go_simp; (with_reducible rfl)
            rotate_left
            ·simp only [Act.put, List.setIfInBounds_toArray, List.set_cons_zero, List.set_cons_succ, i64_w, i32_w]; rfl
            refine pure_ (i := 7) (N := some 79) (v := ?_) (a' := ?_) #[tt,tt,tt,tt,ff,tt,tt,tt,ff,ff,ff,ff] rfl rfl (any_of HT_.out (by kernel_rfl)) (fun _ _ _ h => h) (Or.inl ⟨by rfl, ?_⟩) ?_ ?_; rotate_left
            ·intro w'; go_simp; (with_reducible rfl)
            rotate_left
            ·simp only [Act.put, List.setIfInBounds_toArray, List.set_cons_zero, List.set_cons_succ, i64_w, i32_w]; rfl
            refine pure_ (i := 8) (N := some 80) (v := ?_) (a' := ?_) #[tt,tt,tt,tt,ff,tt,tt,tt,tt,ff,ff,ff] rfl rfl (any_of HT_.out (by kernel_rfl)) (fun _ _ _ h => h) (Or.inl ⟨by rfl, ?_⟩) ?_ ?_; rotate_left
            ·intro w'; go_simp; (with_reducible rfl)
            rotate_left
            ·simp only [Act.put, List.setIfInBounds_toArray, List.set_cons_zero, List.set_cons_succ, i64_w, i32_w]; rfl
            refine take_ (i := 4) (N := some 76) (v := ?_) (a' := ?_) #[tt,tt,tt,tt,tt,tt,tt,tt,tt,ff,ff,ff] rfl rfl (take_ofW HT_.out HW_.out (by kernel_rfl)) (fun _ _ _ h => h) (Or.inl ⟨by rfl, ?_⟩) hHeld ?_ ?_; rotate_left
            ·rintro w' ⟨s0, s1, s2, s3, s4, s5, s6, s7⟩; go_simp; (with_reducible rfl)
            rotate_left
            ·simp only [Act.put, List.setIfInBounds_toArray, List.set_cons_zero, List.set_cons_succ, i64_w, i32_w]; rfl
            refine take_ (i := 9) (N := some 81) (v := ?_) (a' := ?_) #[tt,tt,tt,tt,tt,tt,tt,tt,tt,tt,ff,ff] rfl rfl (take_ofW HT_.out HW_.out (by kernel_rfl)) (fun _ _ _ h => h) (Or.inl ⟨by rfl, ?_⟩) hHeld ?_ ?_; rotate_left
            ·rintro w' ⟨s0, s1, s2, s3, s4, s5, s6, s7⟩; go_simp; (with_reducible rfl)
            rotate_left
            ·simp only [Act.put, List.setIfInBounds_toArray, List.set_cons_zero, List.set_cons_succ, i64_w, i32_w]; rfl
            refine pure_ (i := 10) (N := some 82) (v := ?_) (a' := ?_) #[tt,tt,tt,tt,tt,tt,tt,tt,tt,tt,tt,ff] rfl rfl (any_of HT_.out (by kernel_rfl)) (fun _ _ _ h => h) (Or.inl ⟨by rfl, ?_⟩) ?_ ?_; rotate_left
            ·intro w'; go_simp; (with_reducible rfl)
            rotate_left
            ·simp only [Act.put, List.setIfInBounds_toArray, List.set_cons_zero, List.set_cons_succ, i64_w, i32_w]; rfl
            refine pure_ (i := 11) (N := some 10) (v := ?_) (a' := ?_) #[tt,tt,tt,tt,tt,tt,tt,tt,tt,tt,tt,tt] rfl rfl (any_of HT_.out (by kernel_rfl)) (fun _ _ _ h => h) (Or.inl ⟨by rfl, ?_⟩) ?_ ?_; rotate_left
            ·intro w'; go_simp; (with_reducible rfl)
            rotate_left
            ·simp only [Act.put, List.setIfInBounds_toArray, List.set_cons_zero, List.set_cons_succ, i64_w, i32_w]; rfl
            refine done_ (done_of HT_.out (by kernel_rfl)) ?_; try go_wp2
            go_roundg kj7
            case measure => have := HK1.out; have := HJ7.out; omega
            case rel => exact ⟨(y390), (wrap64 (((rd_T60 t374 x11_1).f0) + ((rd_T60 t374 x11_1).f1))), (wrap64 (x11_1 + 1)), (by first | rfl | (simp; done) | (simp [*]; done)), (by first | rfl | (simp; done) | (simp [*]; done)), H', ⟨by have := HK1.out; have := HJ7.out; omega⟩, ⟨by exact rw_ HO392.out⟩, ⟨by exact rw_ HO_9.out⟩, ⟨bl_⟩⟩
           ·rw [if_neg c23] at H; exact absurd H (by simp)
          ·rw [if_neg c22] at H; exact absurd H (by simp)
         ·rw [if_neg c21] at H; have c21b0 : decide (x10_1 < ((rd_T60 t374 x11_1).f0)) = false := decide_eq_false c21; clear c21; by_cases c29 : x8_1.length < 5864062014805
          ·rw [if_pos c29] at H; have LMc29 := Aside0.mk c29; clear c29; obtain ⟨y398, hy398⟩ : ∃ y_ : List (S66), y_ = (x8_1 ++ [(⟨(rd_T60 t374 x11_1).f0, (rd_T60 t374 x11_1).f1, (rd_T60 t374 x11_1).f2⟩ : S66)]) := ⟨_, rfl⟩; replace H : (spec_PartFrom.l0 kj7 l0 a2 y398 t374 (wrap64 (((rd_T60 t374 x11_1).f0) + ((rd_T60 t374 x11_1).f1))) (wrap64 (x11_1 + 1))) = some (r1, r2) := by first | (rw [hy398]; with_reducible exact H) | (have H2_ := (Option.bind_some _ _).symm.trans H; rw [hy398]; with_reducible exact H2_) | (have H2_ := (Option.bind_some _ _).symm.trans H; with_reducible exact H2_) | with_reducible exact H | (rw [hy398]; exact H) | exact H
           have Ny398 := Aside0.mk hy398; clear hy398; have H' := Aside0.mk H; clear H; obtain ⟨Ao30, co30, eo30⟩ := Kd.R_slice HO_9.out; subst eo30; have p378 : 0 ≤ (x11_1 : Int) := of_decide_eq_true (by first | (with_reducible assumption) | assumption); have q378 : x11_1 < (t374.length : Int) := of_decide_eq_true (by first | (with_reducible assumption) | assumption); obtain ⟨ad378, e378, hx378_0, hx378_1, hx378_2, hx378_3⟩ := at_T60 (Kd.R_reads' HO_9.out).2.2 x11_1 p378 q378
           cases e378; replace p378 := eq_true p378; replace q378 := eq_true q378; have p382 : 0 ≤ (x11_1 : Int) := of_decide_eq_true (by first | (with_reducible assumption) | assumption); have q382 : x11_1 < (t374.length : Int) := of_decide_eq_true (by first | (with_reducible assumption) | assumption); obtain ⟨ad382, e382, hx382_0, hx382_1, hx382_2, hx382_3⟩ := at_T60 (Kd.R_reads' HO_9.out).2.2 x11_1 p382 q382; obtain rfl : ad378 = ad382 := (by injection e382)
           replace p382 := eq_true p382; replace q382 := eq_true q382; try go_wp2
           have n0_ := Aside0.mk (Kd.R_drew HO_8.out); have n1_ := Aside0.mk (Kd.R_drew HO_9.out); have n2_ := Aside0.mk (below_drew1 HB.out); clear HO_8; clear HO_9; clear HB; have HO_8 := n0_; have HO_9 := n1_; have HB := n2_; clear n0_ n1_ n2_; have p395 : 0 ≤ (x11_1 : Int) := of_decide_eq_true (by first | (with_reducible assumption) | assumption); have q395 : x11_1 < (t374.length : Int) := of_decide_eq_true (by first | (with_reducible assumption) | assumption); obtain ⟨ad395, e395, hx395_0, hx395_1, hx395_2, hx395_3⟩ := at_T60 (Kd.R_reads' HO_9.out).2.2 x11_1 p395 q395; obtain rfl : ad378 = ad395 := (by injection e395)
           replace p395 := eq_true p395; replace q395 := eq_true q395; have p396 : 0 ≤ (x11_1 : Int) := of_decide_eq_true (by first | (with_reducible assumption) | assumption); have q396 : x11_1 < (t374.length : Int) := of_decide_eq_true (by first | (with_reducible assumption) | assumption); obtain ⟨ad396, e396, hx396_0, hx396_1, hx396_2, hx396_3⟩ := at_T60 (Kd.R_reads' HO_9.out).2.2 x11_1 p396 q396; obtain rfl : ad378 = ad396 := (by injection e396)
           replace p396 := eq_true p396; replace q396 := eq_true q396; have p397 : 0 ≤ (x11_1 : Int) := of_decide_eq_true (by first | (with_reducible assumption) | assumption); have q397 : x11_1 < (t374.length : Int) := of_decide_eq_true (by first | (with_reducible assumption) | assumption); obtain ⟨ad397, e397, hx397_0, hx397_1, hx397_2, hx397_3⟩ := at_T60 (Kd.R_reads' HO_9.out).2.2 x11_1 p397 q397; obtain rfl : ad378 = ad397 := (by injection e397)
           replace p397 := eq_true p397; replace q397 := eq_true q397; refine start_ (n := 20) (S := fun w' => w'.cell? (ad378.add ((x11_1).toNat * 4)) = some (.int .i64 ((rd_T60 t374 x11_1).f0)) ∧ w'.cell? ⟨(ad378.add ((x11_1).toNat * 4)).block, (ad378.add ((x11_1).toNat * 4)).off + 1, none⟩ = some (.int .i64 ((rd_T60 t374 x11_1).f1)) ∧ w'.cell? ⟨(ad378.add ((x11_1).toNat * 4)).block, (ad378.add ((x11_1).toNat * 4)).off + 2, none⟩ = some (.int .i64 ((rd_T60 t374 x11_1).f2)) ∧ w'.cell? ⟨(ad378.add ((x11_1).toNat * 4)).block, (ad378.add ((x11_1).toNat * 4)).off + 3, none⟩ = some (.int .i64 ((rd_T60 t374 x11_1).f3)) ∧ w'.cell? (ad378.add ((x11_1).toNat * 4)) = some (.int .i64 ((rd_T60 t374 x11_1).f0)) ∧ w'.cell? ⟨(ad378.add ((x11_1).toNat * 4)).block, (ad378.add ((x11_1).toNat * 4)).off + 1, none⟩ = some (.int .i64 ((rd_T60 t374 x11_1).f1)) ∧ w'.cell? ⟨(ad378.add ((x11_1).toNat * 4)).block, (ad378.add ((x11_1).toNat * 4)).off + 2, none⟩ = some (.int .i64 ((rd_T60 t374 x11_1).f2)) ∧ w'.cell? ⟨(ad378.add ((x11_1).toNat * 4)).block, (ad378.add ((x11_1).toNat * 4)).off + 3, none⟩ = some (.int .i64 ((rd_T60 t374 x11_1).f3)) ∧ w'.cell? (ad378.add ((x11_1).toNat * 4)) = some (.int .i64 ((rd_T60 t374 x11_1).f0)) ∧ w'.cell? ⟨(ad378.add ((x11_1).toNat * 4)).block, (ad378.add ((x11_1).toNat * 4)).off + 1, none⟩ = some (.int .i64 ((rd_T60 t374 x11_1).f1)) ∧ w'.cell? ⟨(ad378.add ((x11_1).toNat * 4)).block, (ad378.add ((x11_1).toNat * 4)).off + 2, none⟩ = some (.int .i64 ((rd_T60 t374 x11_1).f2)) ∧ w'.cell? ⟨(ad378.add ((x11_1).toNat * 4)).block, (ad378.add ((x11_1).toNat * 4)).off + 3, none⟩ = some (.int .i64 ((rd_T60 t374 x11_1).f3))) (ds := [17, 18]) #[ff,ff,ff,ff,ff,ff,ff,ff,ff,ff,ff,ff,ff,ff,ff,ff,ff,ff,ff,ff] (by kernel_rfl) rfl rfl ⟨hx395_0, hx395_1, hx395_2, hx395_3, hx396_0, hx396_1, hx396_2, hx396_3, hx397_0, hx397_1, hx397_2, hx397_3⟩ (fun hHeld => ?_); refine with_tabW spec_PartFrom.tab11 spec_PartFrom.bits11 (fun HT_ HW_ => ?_); generalize wc.drew = w31 at HO_8 HO_9 HB hx395_0 hx395_1 hx395_2 hx395_3 hx396_0 hx396_1 hx396_2 hx396_3 hx397_0 hx397_1 hx397_2 hx397_3 hHeld ⊢
           refine pure_ (i := 0) (N := some 53) (v := ?_) (a' := ?_) #[tt,ff,ff,ff,ff,ff,ff,ff,ff,ff,ff,ff,ff,ff,ff,ff,ff,ff,ff,ff] rfl rfl (any_of HT_.out (by kernel_rfl)) (fun _ _ _ h => h) (Or.inl ⟨by rfl, ?_⟩) ?_ ?_; rotate_left
           ·intro w'; go_simp; (with_reducible rfl)
           rotate_left
           ·simp only [Act.put, List.setIfInBounds_toArray, List.set_cons_zero, List.set_cons_succ, i64_w, i32_w]; rfl
           refine pure_ (i := 1) (N := some 54) (v := ?_) (a' := ?_) #[tt,tt,ff,ff,ff,ff,ff,ff,ff,ff,ff,ff,ff,ff,ff,ff,ff,ff,ff,ff] rfl rfl (any_of HT_.out (by kernel_rfl)) (fun _ _ _ h => h) (Or.inl ⟨by rfl, ?_⟩) ?_ ?_; rotate_left
           ·intro w'; go_simp; (with_reducible rfl)
           rotate_left
           ·simp only [Act.put, List.setIfInBounds_toArray, List.set_cons_zero, List.set_cons_succ, i64_w, i32_w]; rfl
           refine pure_ (i := 2) (N := some 55) (v := ?_) (a' := ?_) #[tt,tt,tt,ff,ff,ff,ff,ff,ff,ff,ff,ff,ff,ff,ff,ff,ff,ff,ff,ff] rfl rfl (any_of HT_.out (by kernel_rfl)) (fun _ _ _ h => h) (Or.inl ⟨by rfl, ?_⟩) ?_ ?_; rotate_left
           ·intro w'; go_simp; (with_reducible rfl)
           rotate_left
           ·simp only [Act.put, List.setIfInBounds_toArray, List.set_cons_zero, List.set_cons_succ, i64_w, i32_w]; rfl
           refine pure_ (i := 3) (N := some 56) (v := ?_) (a' := ?_) #[tt,tt,tt,tt,ff,ff,ff,ff,ff,ff,ff,ff,ff,ff,ff,ff,ff,ff,ff,ff] rfl rfl (any_of HT_.out (by kernel_rfl)) (fun _ _ _ h => h) (Or.inl ⟨by rfl, ?_⟩) ?_ ?_; rotate_left
           ·intro w'; go_simp; (with_reducible rfl)
           rotate_left
           ·simp only [Act.put, List.setIfInBounds_toArray, List.set_cons_zero, List.set_cons_succ, i64_w, i32_w]; rfl
           refine pure_ (i := 4) (N := some 57) (v := ?_) (a' := ?_) #[tt,tt,tt,tt,tt,ff,ff,ff,ff,ff,ff,ff,ff,ff,ff,ff,ff,ff,ff,ff] rfl rfl (any_of HT_.out (by kernel_rfl)) (fun _ _ _ h => h) (Or.inl ⟨by rfl, ?_⟩) ?_ ?_; rotate_left
           ·intro w'; go_simp; (with_reducible rfl)
           rotate_left
           ·simp only [Act.put, List.setIfInBounds_toArray, List.set_cons_zero, List.set_cons_succ, i64_w, i32_w]; rfl
           refine pure_ (i := 6) (N := some 59) (v := ?_) (a' := ?_) #[tt,tt,tt,tt,tt,ff,tt,ff,ff,ff,ff,ff,ff,ff,ff,ff,ff,ff,ff,ff] rfl rfl (any_of HT_.out (by kernel_rfl)) (fun _ _ _ h => h) (Or.inl ⟨by rfl, ?_⟩) ?_ ?_; rotate_left
           ·intro w'; go_simp; (with_reducible rfl)
           rotate_left
           ·simp only [Act.put, List.setIfInBounds_toArray, List.set_cons_zero, List.set_cons_succ, i64_w, i32_w]; rfl
           refine pure_ (i := 7) (N := some 60) (v := ?_) (a' := ?_) #[tt,tt,tt,tt,tt,ff,tt,tt,ff,ff,ff,ff,ff,ff,ff,ff,ff,ff,ff,ff] rfl rfl (any_of HT_.out (by kernel_rfl)) (fun _ _ _ h => h) (Or.inl ⟨by rfl, ?_⟩) ?_ ?_; rotate_left
           ·intro w'; go_simp; (with_reducible rfl)
           rotate_left
           ·simp only [Act.put, List.setIfInBounds_toArray, List.set_cons_zero, List.set_cons_succ, i64_w, i32_w]; rfl
           refine pure_ (i := 8) (N := some 61) (v := ?_) (a' := ?_) #[tt,tt,tt,tt,tt,ff,tt,tt,tt,ff,ff,ff,ff,ff,ff,ff,ff,ff,ff,ff] rfl rfl (any_of HT_.out (by kernel_rfl)) (fun _ _ _ h => h) (Or.inl ⟨by rfl, ?_⟩) ?_ ?_; rotate_left
           ·intro w'; go_simp; (with_reducible rfl)
           rotate_left
           ·simp only [Act.put, List.setIfInBounds_toArray, List.set_cons_zero, List.set_cons_succ, i64_w, i32_w]; rfl
           refine pure_ (i := 9) (N := some 62) (v := ?_) (a' := ?_) #[tt,tt,tt,tt,tt,ff,tt,tt,tt,tt,ff,ff,ff,ff,ff,ff,ff,ff,ff,ff] rfl rfl (any_of HT_.out (by kernel_rfl)) (fun _ _ _ h => h) (Or.inl ⟨by rfl, ?_⟩) ?_ ?_; rotate_left
           ·intro w'; go_simp; (with_reducible rfl)
           rotate_left
           ·simp only [Act.put, List.setIfInBounds_toArray, List.set_cons_zero, List.set_cons_succ, i64_w, i32_w]; rfl
           refine pure_ (i := 11) (N := some 64) (v := ?_) (a' := ?_) #[tt,tt,tt,tt,tt,ff,tt,tt,tt,tt,ff,tt,ff,ff,ff,ff,ff,ff,ff,ff] rfl rfl (any_of HT_.out (by kernel_rfl)) (fun _ _ _ h => h) (Or.inl ⟨by rfl, ?_⟩) ?_ ?_; rotate_left
           ·intro w'; go_simp; (with_reducible rfl)
           rotate_left
           ·simp only [Act.put, List.setIfInBounds_toArray, List.set_cons_zero, List.set_cons_succ, i64_w, i32_w]; rfl
           refine pure_ (i := 12) (N := some 65) (v := ?_) (a' := ?_) #[tt,tt,tt,tt,tt,ff,tt,tt,tt,tt,ff,tt,tt,ff,ff,ff,ff,ff,ff,ff] rfl rfl (any_of HT_.out (by kernel_rfl)) (fun _ _ _ h => h) (Or.inl ⟨by rfl, ?_⟩) ?_ ?_; rotate_left
           ·intro w'; go_simp; (with_reducible rfl)
           rotate_left
           ·simp only [Act.put, List.setIfInBounds_toArray, List.set_cons_zero, List.set_cons_succ, i64_w, i32_w]; rfl
           refine pure_ (i := 13) (N := some 66) (v := ?_) (a' := ?_) #[tt,tt,tt,tt,tt,ff,tt,tt,tt,tt,ff,tt,tt,tt,ff,ff,ff,ff,ff,ff] rfl rfl (any_of HT_.out (by kernel_rfl)) (fun _ _ _ h => h) (Or.inl ⟨by rfl, ?_⟩) ?_ ?_; rotate_left
           ·intro w'; go_simp; (with_reducible rfl)
           rotate_left
           ·simp only [Act.put, List.setIfInBounds_toArray, List.set_cons_zero, List.set_cons_succ, i64_w, i32_w]; rfl
           refine pure_ (i := 14) (N := some 67) (v := ?_) (a' := ?_) #[tt,tt,tt,tt,tt,ff,tt,tt,tt,tt,ff,tt,tt,tt,tt,ff,ff,ff,ff,ff] rfl rfl (any_of HT_.out (by kernel_rfl)) (fun _ _ _ h => h) (Or.inl ⟨by rfl, ?_⟩) ?_ ?_; rotate_left
           ·intro w'; go_simp; (with_reducible rfl)
           rotate_left
           ·simp only [Act.put, List.setIfInBounds_toArray, List.set_cons_zero, List.set_cons_succ, i64_w, i32_w]; rfl
           refine take_ (i := 5) (N := some 58) (v := ?_) (a' := ?_) #[tt,tt,tt,tt,tt,tt,tt,tt,tt,tt,ff,tt,tt,tt,tt,ff,ff,ff,ff,ff] rfl rfl (take_ofW HT_.out HW_.out (by kernel_rfl)) (fun _ _ _ h => h) (Or.inl ⟨by rfl, ?_⟩) hHeld ?_ ?_; rotate_left
           ·rintro w' ⟨s0, s1, s2, s3, s4, s5, s6, s7, s8, s9, s10, s11⟩; go_simp; (with_reducible rfl)
           rotate_left
           ·simp only [Act.put, List.setIfInBounds_toArray, List.set_cons_zero, List.set_cons_succ, i64_w, i32_w]; rfl
           refine take_ (i := 10) (N := some 63) (v := ?_) (a' := ?_) #[tt,tt,tt,tt,tt,tt,tt,tt,tt,tt,tt,tt,tt,tt,tt,ff,ff,ff,ff,ff] rfl rfl (take_ofW HT_.out HW_.out (by kernel_rfl)) (fun _ _ _ h => h) (Or.inl ⟨by rfl, ?_⟩) hHeld ?_ ?_; rotate_left
           ·rintro w' ⟨s0, s1, s2, s3, s4, s5, s6, s7, s8, s9, s10, s11⟩; go_simp; (with_reducible rfl)
           rotate_left
           ·simp only [Act.put, List.setIfInBounds_toArray, List.set_cons_zero, List.set_cons_succ, i64_w, i32_w]; rfl
           refine take_ (i := 15) (N := some 68) (v := ?_) (a' := ?_) #[tt,tt,tt,tt,tt,tt,tt,tt,tt,tt,tt,tt,tt,tt,tt,tt,ff,ff,ff,ff] rfl rfl (take_ofW HT_.out HW_.out (by kernel_rfl)) (fun _ _ _ h => h) (Or.inl ⟨by rfl, ?_⟩) hHeld ?_ ?_; rotate_left
           ·rintro w' ⟨s0, s1, s2, s3, s4, s5, s6, s7, s8, s9, s10, s11⟩; go_simp; (with_reducible rfl)
           rotate_left
           ·simp only [Act.put, List.setIfInBounds_toArray, List.set_cons_zero, List.set_cons_succ, i64_w, i32_w]; rfl
           refine pure_ (i := 16) (N := some 69) (v := ?_) (a' := ?_) #[tt,tt,tt,tt,tt,tt,tt,tt,tt,tt,tt,tt,tt,tt,tt,tt,tt,ff,ff,ff] rfl rfl (any_of HT_.out (by kernel_rfl)) (fun _ _ _ h => h) (Or.inl ⟨by rfl, ?_⟩) ?_ ?_; rotate_left
           ·intro w'; go_simp; (with_reducible rfl)
           rotate_left
           ·simp only [Act.put, List.setIfInBounds_toArray, List.set_cons_zero, List.set_cons_succ, i64_w, i32_w]; rfl
           refine last_ (i := 17) (N := some 70) #[tt,tt,tt,tt,tt,tt,tt,tt,tt,tt,tt,tt,tt,tt,tt,tt,tt,tt,ff,ff] rfl rfl (one_of HT_.out (by kernel_rfl)) (by decide) (fun K hK => ?_); refine value_ (w1 := ?_) (v := ?_) (by rfl) rfl ?_ ?_; rotate_left 2
           ·go_simp; constructor
            ·rfl
            ·rfl
           refine hK.out _ _ ?_; clear hK K; refine norm_ (a' := ?_) ?_ ?_; rotate_left
           ·show Act.put _ (some 70) _ = _; simp only [Act.put, List.setIfInBounds_toArray, List.set_cons_zero, List.set_cons_succ, i64_w, i32_w]; rfl
           refine last_ (i := 18) (N := some 71) #[tt,tt,tt,tt,tt,tt,tt,tt,tt,tt,tt,tt,tt,tt,tt,tt,tt,tt,tt,ff] rfl rfl (one_of HT_.out (by kernel_rfl)) (by decide) (fun K hK => ?_); refine Kd.R_append_step k66 (w0 := w) w.heap.size (by rfl) (.tmp 53) (.tmp 70) 40 66 (.agg #[(.int .i64 0), (.int .i64 0), (.int .i64 0)]) 24 rfl Try.underlying40 info66 rfl (by decide) (by omega) u8 x8_1 (⟨(rd_T60 t374 x11_1).f0, (rd_T60 t374 x11_1).f1, (rd_T60 t374 x11_1).f2⟩ : S66) [.int .i64 ((rd_T60 t374 x11_1).f0), .int .i64 ((rd_T60 t374 x11_1).f1), .int .i64 ((rd_T60 t374 x11_1).f2)] (fun _ => True) (fun _ => False) rfl rfl ?aP (fun _ hk => hk.elim) ?aF ?aO ?aB ?aS ?aL ?_; (case aP => exact k66_mkM _ _ _ (⟨(rd_T60 t374 x11_1).f0, (rd_T60 t374 x11_1).f1, (rd_T60 t374 x11_1).f2⟩ : S66)); (case aB => exact bl_); (case aF => exact (fun _ _ => trivial)); (case aO => exact (by exact rw_ HO_8.out)); (case aS => exact (below_size bl_)); (case aL => have := LMc29.out; omega); intro v399 w32 ho hb hg hat; rw [← Ny398.out] at ho; have n0_ := Aside0.mk (Kd.R_over' (by exact rw_ HO_9.out) (Kd.R_typed (by exact rw_ HO_8.out)) (by decide) hg); have n1_ := Aside0.mk (hb); have n2_ := Aside0.mk (ho); clear HO_9; clear HB; clear HO_8; have HO_9 := n0_; have HB := n1_; have HO400 := n2_; clear n0_ n1_ n2_; clear ho hb hg hat; refine hK.out _ _ ?_; clear hK K; refine norm_ (a' := ?_) ?_ ?_; rotate_left
           ·show Act.put _ (some 71) _ = _; simp only [Act.put, List.setIfInBounds_toArray, List.set_cons_zero, List.set_cons_succ, i64_w, i32_w]; rfl
           refine pure_ (i := 19) (N := some 8) (v := ?_) (a' := ?_) #[tt,tt,tt,tt,tt,tt,tt,tt,tt,tt,tt,tt,tt,tt,tt,tt,tt,tt,tt,tt] rfl rfl (any_of HT_.out (by kernel_rfl)) (fun _ _ _ h => h) (Or.inl ⟨by rfl, ?_⟩) ?_ ?_; rotate_left
           ·intro w'; go_simp; (with_reducible rfl)
           rotate_left
           ·simp only [Act.put, List.setIfInBounds_toArray, List.set_cons_zero, List.set_cons_succ, i64_w, i32_w]; rfl
           refine done_ (done_of HT_.out (by kernel_rfl)) ?_; try go_wp2
           have n0_ := Aside0.mk (Kd.R_drew HO_9.out); have n1_ := Aside0.mk (Kd.R_drew HO400.out); have n2_ := Aside0.mk (below_drew1 HB.out); clear HO_9; clear HO400; clear HB; have HO_9 := n0_; have HO400 := n1_; have HB := n2_; clear n0_ n1_ n2_; have p401 : 0 ≤ (x11_1 : Int) := of_decide_eq_true (by first | (with_reducible assumption) | assumption); have q401 : x11_1 < (t374.length : Int) := of_decide_eq_true (by first | (with_reducible assumption) | assumption); obtain ⟨ad401, e401, hx401_0, hx401_1, hx401_2, hx401_3⟩ := at_T60 (Kd.R_reads' HO_9.out).2.2 x11_1 p401 q401; obtain rfl : ad378 = ad401 := (by injection e401)
           replace p401 := eq_true p401; replace q401 := eq_true q401; have p402 : 0 ≤ (x11_1 : Int) := of_decide_eq_true (by first | (with_reducible assumption) | assumption); have q402 : x11_1 < (t374.length : Int) := of_decide_eq_true (by first | (with_reducible assumption) | assumption); obtain ⟨ad402, e402, hx402_0, hx402_1, hx402_2, hx402_3⟩ := at_T60 (Kd.R_reads' HO_9.out).2.2 x11_1 p402 q402; obtain rfl : ad378 = ad402 := (by injection e402)
           replace p402 := eq_true p402; replace q402 := eq_true q402; refine start_ (n := 12) (S := fun w' => w'.cell? (ad378.add ((x11_1).toNat * 4)) = some (.int .i64 ((rd_T60 t374 x11_1).f0)) ∧ w'.cell? ⟨(ad378.add ((x11_1).toNat * 4)).block, (ad378.add ((x11_1).toNat * 4)).off + 1, none⟩ = some (.int .i64 ((rd_T60 t374 x11_1).f1)) ∧ w'.cell? ⟨(ad378.add ((x11_1).toNat * 4)).block, (ad378.add ((x11_1).toNat * 4)).off + 2, none⟩ = some (.int .i64 ((rd_T60 t374 x11_1).f2)) ∧ w'.cell? ⟨(ad378.add ((x11_1).toNat * 4)).block, (ad378.add ((x11_1).toNat * 4)).off + 3, none⟩ = some (.int .i64 ((rd_T60 t374 x11_1).f3)) ∧ w'.cell? (ad378.add ((x11_1).toNat * 4)) = some (.int .i64 ((rd_T60 t374 x11_1).f0)) ∧ w'.cell? ⟨(ad378.add ((x11_1).toNat * 4)).block, (ad378.add ((x11_1).toNat * 4)).off + 1, none⟩ = some (.int .i64 ((rd_T60 t374 x11_1).f1)) ∧ w'.cell? ⟨(ad378.add ((x11_1).toNat * 4)).block, (ad378.add ((x11_1).toNat * 4)).off + 2, none⟩ = some (.int .i64 ((rd_T60 t374 x11_1).f2)) ∧ w'.cell? ⟨(ad378.add ((x11_1).toNat * 4)).block, (ad378.add ((x11_1).toNat * 4)).off + 3, none⟩ = some (.int .i64 ((rd_T60 t374 x11_1).f3))) (ds := []) #[ff,ff,ff,ff,ff,ff,ff,ff,ff,ff,ff,ff] (by kernel_rfl) rfl rfl ⟨hx401_0, hx401_1, hx401_2, hx401_3, hx402_0, hx402_1, hx402_2, hx402_3⟩ (fun hHeld => ?_); refine with_tabW spec_PartFrom.tab12 spec_PartFrom.bits12 (fun HT_ HW_ => ?_); generalize w32.drew = w33 at HO_9 HO400 HB hx401_0 hx401_1 hx401_2 hx401_3 hx402_0 hx402_1 hx402_2 hx402_3 hHeld ⊢
           refine pure_ (i := 0) (N := some 72) (v := ?_) (a' := ?_) #[tt,ff,ff,ff,ff,ff,ff,ff,ff,ff,ff,ff] rfl rfl (any_of HT_.out (by kernel_rfl)) (fun _ _ _ h => h) (Or.inl ⟨by rfl, ?_⟩) ?_ ?_; rotate_left
           ·intro w'; go_simp; (with_reducible rfl)
           rotate_left
           ·simp only [Act.put, List.setIfInBounds_toArray, List.set_cons_zero, List.set_cons_succ, i64_w, i32_w]; rfl
           refine pure_ (i := 1) (N := some 73) (v := ?_) (a' := ?_) #[tt,tt,ff,ff,ff,ff,ff,ff,ff,ff,ff,ff] rfl rfl (any_of HT_.out (by kernel_rfl)) (fun _ _ _ h => h) (Or.inl ⟨by rfl, ?_⟩) ?_ ?_; rotate_left
           ·intro w'; go_simp; (with_reducible rfl)
           rotate_left
           ·simp only [Act.put, List.setIfInBounds_toArray, List.set_cons_zero, List.set_cons_succ, i64_w, i32_w]; rfl
           refine pure_ (i := 2) (N := some 74) (v := ?_) (a' := ?_) #[tt,tt,tt,ff,ff,ff,ff,ff,ff,ff,ff,ff] rfl rfl (any_of HT_.out (by kernel_rfl)) (fun _ _ _ h => h) (Or.inl ⟨by rfl, ?_⟩) ?_ ?_; rotate_left
           ·intro w'; go_simp; (with_reducible rfl)
           rotate_left
           ·simp only [Act.put, List.setIfInBounds_toArray, List.set_cons_zero, List.set_cons_succ, i64_w, i32_w]; rfl
           refine pure_ (i := 3) (N := some 75) (v := ?_) (a' := ?_) #[tt,tt,tt,tt,ff,ff,ff,ff,ff,ff,ff,ff] rfl rfl (any_of HT_.out (by kernel_rfl)) (fun _ _ _ h => h) (Or.inl ⟨by rfl, ?_⟩) ?_ ?_; rotate_left
           ·intro w'; go_simp; (with_reducible rfl)
           rotate_left
           ·simp only [Act.put, List.setIfInBounds_toArray, List.set_cons_zero, List.set_cons_succ, i64_w, i32_w]; rfl
           refine pure_ (i := 5) (N := some 77) (v := ?_) (a' := ?_) #[tt,tt,tt,tt,ff,tt,ff,ff,ff,ff,ff,ff] rfl rfl (any_of HT_.out (by kernel_rfl)) (fun _ _ _ h => h) (Or.inl ⟨by rfl, ?_⟩) ?_ ?_; rotate_left
           ·intro w'; go_simp; (with_reducible rfl)
           rotate_left
           ·simp only [Act.put, List.setIfInBounds_toArray, List.set_cons_zero, List.set_cons_succ, i64_w, i32_w]; rfl
           refine pure_ (i := 6) (N := some 78) (v := ?_) (a' := ?_) #[tt,tt,tt,tt,ff,tt,tt,ff,ff,ff,ff,ff] rfl rfl (any_of HT_.out (by kernel_rfl)) (fun _ _ _ h => h) (Or.inl ⟨by rfl, ?_⟩) ?_ ?_; rotate_left
           ·intro w'; go_simp; (with_reducible rfl)
           rotate_left
           ·simp only [Act.put, List.setIfInBounds_toArray, List.set_cons_zero, List.set_cons_succ, i64_w, i32_w]; rfl
           refine pure_ (i := 7) (N := some 79) (v := ?_) (a' := ?_) #[tt,tt,tt,tt,ff,tt,tt,tt,ff,ff,ff,ff] rfl rfl (any_of HT_.out (by kernel_rfl)) (fun _ _ _ h => h) (Or.inl ⟨by rfl, ?_⟩) ?_ ?_; rotate_left
           ·intro w'; go_simp; (with_reducible rfl)
           rotate_left
           ·simp only [Act.put, List.setIfInBounds_toArray, List.set_cons_zero, List.set_cons_succ, i64_w, i32_w]; rfl
           refine pure_ (i := 8) (N := some 80) (v := ?_) (a' := ?_) #[tt,tt,tt,tt,ff,tt,tt,tt,tt,ff,ff,ff] rfl rfl (any_of HT_.out (by kernel_rfl)) (fun _ _ _ h => h) (Or.inl ⟨by rfl, ?_⟩) ?_ ?_; rotate_left
           ·intro w'; go_simp; (with_reducible rfl)
           rotate_left
           ·simp only [Act.put, List.setIfInBounds_toArray, List.set_cons_zero, List.set_cons_succ, i64_w, i32_w]; rfl
           refine take_ (i := 4) (N := some 76) (v := ?_) (a' := ?_) #[tt,tt,tt,tt,tt,tt,tt,tt,tt,ff,ff,ff] rfl rfl (take_ofW HT_.out HW_.out (by kernel_rfl)) (fun _ _ _ h => h) (Or.inl ⟨by rfl, ?_⟩) hHeld ?_ ?_; rotate_left
           ·rintro w' ⟨s0, s1, s2, s3, s4, s5, s6, s7⟩; go_simp; (with_reducible rfl)
           rotate_left
           ·simp only [Act.put, List.setIfInBounds_toArray, List.set_cons_zero, List.set_cons_succ, i64_w, i32_w]; rfl
           refine take_ (i := 9) (N := some 81) (v := ?_) (a' := ?_) #[tt,tt,tt,tt,tt,tt,tt,tt,tt,tt,ff,ff] rfl rfl (take_ofW HT_.out HW_.out (by kernel_rfl)) (fun _ _ _ h => h) (Or.inl ⟨by rfl, ?_⟩) hHeld ?_ ?_; rotate_left
           ·rintro w' ⟨s0, s1, s2, s3, s4, s5, s6, s7⟩; go_simp; (with_reducible rfl)
           rotate_left
           ·simp only [Act.put, List.setIfInBounds_toArray, List.set_cons_zero, List.set_cons_succ, i64_w, i32_w]; rfl
           refine pure_ (i := 10) (N := some 82) (v := ?_) (a' := ?_) #[tt,tt,tt,tt,tt,tt,tt,tt,tt,tt,tt,ff] rfl rfl (any_of HT_.out (by kernel_rfl)) (fun _ _ _ h => h) (Or.inl ⟨by rfl, ?_⟩) ?_ ?_; rotate_left
           ·intro w'; go_simp; (with_reducible rfl)
           rotate_left
           ·simp only [Act.put, List.setIfInBounds_toArray, List.set_cons_zero, List.set_cons_succ, i64_w, i32_w]; rfl
           refine pure_ (i := 11) (N := some 10) (v := ?_) (a' := ?_) #[tt,tt,tt,tt,tt,tt,tt,tt,tt,tt,tt,tt] rfl rfl (any_of HT_.out (by kernel_rfl)) (fun _ _ _ h => h) (Or.inl ⟨by rfl, ?_⟩) ?_ ?_; rotate_left
           ·intro w'; go_simp; (with_reducible rfl)
           rotate_left
           ·simp only [Act.put, List.setIfInBounds_toArray, List.set_cons_zero, List.set_cons_succ, i64_w, i32_w]; rfl
           refine done_ (done_of HT_.out (by kernel_rfl)) ?_; try go_wp2
           go_roundg kj7
           case measure => have := HK1.out; have := HJ7.out; omega
           case rel => exact ⟨(y398), (wrap64 (((rd_T60 t374 x11_1).f0) + ((rd_T60 t374 x11_1).f1))), (wrap64 (x11_1 + 1)), (by first | rfl | (simp; done) | (simp [*]; done)), (by first | rfl | (simp; done) | (simp [*]; done)), H', ⟨by have := HK1.out; have := HJ7.out; omega⟩, ⟨by exact rw_ HO400.out⟩, ⟨by exact rw_ HO_9.out⟩, ⟨bl_⟩⟩
          ·rw [if_neg c29] at H; exact absurd H (by simp)
       ·rw [if_neg c16] at H; exact absurd H (by simp)
      ·rw [if_neg c15] at H; exact absurd H (by simp)
     ·replace c14 := Bool.eq_false_iff.mpr c14; subst c14; rw [if_neg (show ¬ (false = true) by decide)] at H; have HC34 := Aside0.mk H; clear H; go_upto_region 13 with (fail)
      go_cut [94] (fun v94 wc => ∃ (kq : Nat) (x94_33 : Bool), v94 = .bool x94_33 ∧ Aside0 (spec_PartFrom.j2 kq a2 x8_1 x10_1 x94_33 = some (r1, r2)) ∧ Aside0 (kq ≤ kj7) ∧ Aside0 (Kd.R k66 66 wc w.heap.size (fun _ => True) u8 x8_1) ∧ Aside0 (Below w.heap.size w wc))
      case first =>
       have H := HC34.out; clear HC34; replace H := Option.bind_eq_some_iff.mp H; obtain ⟨t403, A350, H⟩ := H; (try dsimp only at H); have A35 := Aside0.mk A350; clear A350; by_cases c36 : t403 = true
       ·subst c36; rw [if_pos rfl] at H; by_cases c37 : a2 < x10_1
        ·rw [if_pos c37] at H; have c37b0 : decide (a2 < x10_1) = true := decide_eq_true c37; clear c37; (first | rw [c37b0] | (simp only [i64_w, i32_w]; rw [c37b0]) | skip); have H' := Aside0.mk H; clear H; go_wp2_with (first | ((with_reducible refine gate_callee (f := 64) rfl ?_); refine goesM_ (some 84) rfl rfl Try.func64 (by kernel_rfl) rfl #[.slice A0 l0.length c0] rfl ?_; (with_reducible refine (spec_IsScore.calls kj7 _ _ l0 true _ ?side1 ?side2 A35.out).mono ?_); (case side1 => exact cw_ (Kd.C_below HR0.out HB.out)); (case side2 => exact HC0.out); rintro e w38 ⟨rfl, hb⟩; refine ⟨_, rfl, ?_⟩; have n0_ := Aside0.mk (Kd.R_below (by exact rw_ HO_8.out) hb); have n1_ := Aside0.mk (Kd.R_below (by exact rw_ HO_9.out) hb); have n2_ := Aside0.mk (below_step bl_ hb); clear HO_8; clear HO_9; clear HB; have HO_8 := n0_; have HO_9 := n1_; have HB := n2_; clear n0_ n1_ n2_; (try clear hb); (try clear hb2); (try clear hk); (try clear hi))); go_meet
         case rel => exact ⟨_, (true), (by first | rfl | (simp; done) | (simp [*]; done)), H', ⟨by have := HK1.out; have := HJ7.out; first | omega | exact Nat.le_refl _⟩, ⟨by exact rw_ HO_8.out⟩, ⟨bl_⟩⟩
        ·rw [if_neg c37] at H; have c37b0 : decide (a2 < x10_1) = false := decide_eq_false c37; clear c37; (first | rw [c37b0] | (simp only [i64_w, i32_w]; rw [c37b0]) | skip); have H' := Aside0.mk H; clear H; go_wp2_with (first | ((with_reducible refine gate_callee (f := 64) rfl ?_); refine goesM_ (some 84) rfl rfl Try.func64 (by kernel_rfl) rfl #[.slice A0 l0.length c0] rfl ?_; (with_reducible refine (spec_IsScore.calls kj7 _ _ l0 true _ ?side1 ?side2 A35.out).mono ?_); (case side1 => exact cw_ (Kd.C_below HR0.out HB.out)); (case side2 => exact HC0.out); rintro e w39 ⟨rfl, hb⟩; refine ⟨_, rfl, ?_⟩; have n0_ := Aside0.mk (Kd.R_below (by exact rw_ HO_8.out) hb); have n1_ := Aside0.mk (Kd.R_below (by exact rw_ HO_9.out) hb); have n2_ := Aside0.mk (below_step bl_ hb); clear HO_8; clear HO_9; clear HB; have HO_8 := n0_; have HO_9 := n1_; have HB := n2_; clear n0_ n1_ n2_; (try clear hb); (try clear hb2); (try clear hk); (try clear hi))); go_meet
         case rel => exact ⟨_, (decide (a2 > 2096)), (by first | rfl | (simp; done) | (simp [*]; done)), H', ⟨by have := HK1.out; have := HJ7.out; first | omega | exact Nat.le_refl _⟩, ⟨by exact rw_ HO_8.out⟩, ⟨bl_⟩⟩
       ·replace c36 := Bool.eq_false_iff.mpr c36; subst c36; rw [if_neg (show ¬ (false = true) by decide)] at H; have H' := Aside0.mk H; clear H; go_wp2_with (first | ((with_reducible refine gate_callee (f := 64) rfl ?_); refine goesM_ (some 84) rfl rfl Try.func64 (by kernel_rfl) rfl #[.slice A0 l0.length c0] rfl ?_; (with_reducible refine (spec_IsScore.calls kj7 _ _ l0 false _ ?side1 ?side2 A35.out).mono ?_); (case side1 => exact cw_ (Kd.C_below HR0.out HB.out)); (case side2 => exact HC0.out); rintro e w40 ⟨rfl, hb⟩; refine ⟨_, rfl, ?_⟩; have n0_ := Aside0.mk (Kd.R_below (by exact rw_ HO_8.out) hb); have n1_ := Aside0.mk (Kd.R_below (by exact rw_ HO_9.out) hb); have n2_ := Aside0.mk (below_step bl_ hb); clear HO_8; clear HO_9; clear HB; have HO_8 := n0_; have HO_9 := n1_; have HB := n2_; clear n0_ n1_ n2_; (try clear hb); (try clear hb2); (try clear hk); (try clear hi))); go_meet
        case rel => exact ⟨_, (true), (by first | rfl | (simp; done) | (simp [*]; done)), H', ⟨by have := HK1.out; have := HJ7.out; first | omega | exact Nat.le_refl _⟩, ⟨by exact rw_ HO_8.out⟩, ⟨bl_⟩⟩
      case rest =>
       clear HC34; try clear c1
       try clear c2
       try clear p2
       try clear c3
       try clear p3
       try clear q3
       try clear hx3
       try clear p4
       try clear q4
       try clear hx4
       try clear c6
       try clear p6
       try clear c14
       try clear c15
       try clear c16
       try clear c21
       try clear c21b0
       try clear c22
       try clear c23
       try clear c29
       try clear c36
       try clear c37
       try clear c37b0
       try clear p37
       try clear q37
       try clear hx37
       try clear p38
       try clear q38
       try clear hx38
       try clear p39
       try clear q39
       try clear hx39
       try clear p40
       try clear q40
       try clear hx40
       try clear hx378_0
       try clear hx378_1
       try clear hx378_2
       try clear hx378_3
       try clear hx382_0
       try clear hx382_1
       try clear hx382_2
       try clear hx382_3
       try clear hx393_0
       try clear hx393_1
       try clear hx393_2
       try clear hx393_3
       try clear hx394_0
       try clear hx394_1
       try clear hx394_2
       try clear hx394_3
       try clear hx395_0
       try clear hx395_1
       try clear hx395_2
       try clear hx395_3
       try clear hx396_0
       try clear hx396_1
       try clear hx396_2
       try clear hx396_3
       try clear hx397_0
       try clear hx397_1
       try clear hx397_2
       try clear hx397_3
       try clear hx401_0
       try clear hx401_1
       try clear hx401_2
       try clear hx401_3
       try clear hx402_0
       try clear hx402_1
       try clear hx402_2
       try clear hx402_3
       try clear p378
       try clear p382
       try clear p393
       try clear p394
       try clear p395
       try clear p396
       try clear p397
       try clear p401
       try clear p402
       try clear q378
       try clear q382
       try clear q393
       try clear q394
       try clear q395
       try clear q396
       try clear q397
       try clear q401
       try clear q402
       obtain ⟨kq, x94_33, rfl, HA, HJ33, HO_8, HB⟩ := hcut
       cases kq with
       | zero => exact absurd HA.out (by simp [spec_PartFrom.j2])
       | succ kj33 =>
        have H := HA.out; clear HA; simp only [spec_PartFrom.j2] at H; by_cases c41 : x94_33 = true
        ·subst c41; rw [if_pos rfl] at H; obtain ⟨y404, hy404⟩ : ∃ y_ : List (S66), y_ = (([] : List (S66))) := ⟨_, rfl⟩; replace H : (some (y404, false)) = some (r1, r2) := by first | (rw [hy404]; with_reducible exact H) | (have H2_ := (Option.bind_some _ _).symm.trans H; rw [hy404]; with_reducible exact H2_) | (have H2_ := (Option.bind_some _ _).symm.trans H; with_reducible exact H2_) | with_reducible exact H | (rw [hy404]; exact H) | exact H
         have Ny404 := Aside0.mk hy404; clear hy404; simp only [Option.some.injEq, Prod.mk.injEq] at H; obtain ⟨rfl, rfl⟩ := H; go_wp2_with (first | ((with_reducible refine gate_dst (N := 95) rfl ?_); refine Kd.R_lit k66 _ 66 ?hg (N := 95) ?hd (xs := ([] : List (S66))) (inner := []) (ok := fun _ => True) (okp := fun _ => True) ?hr ?hp (fun _ hk => hk) trivial (Below.refl _ _) (Nat.le_refl _) (by simp) ?_; (case hd => rfl); (case hg => rfl); (case hr => first | (go_simp; done) | (go_simp; rfl)); (case hp => exact (Reps.none _ _)); intro v405 w42 ho43 hb hg_ hnew_; clear hg_ hnew_; (first | rw [← Ny404.out] at ho43 | (simp only [Int.reduceToNat] at ho43; rw [← Ny404.out] at ho43)); have n0_ := Aside0.mk (Kd.R_elder' (by exact rw_ HO_8.out) (Kd.R_base ho43) hb); have n1_ := Aside0.mk (Kd.R_lower (Kd.R_new' ho43 (Kd.R_lt (by exact rw_ HO_8.out))) (below_size bl_)); have n2_ := Aside0.mk (below_step bl_ hb); clear HO_8; clear HB; have HO_8 := n0_; have HO406 := n1_; have HB := n2_; clear n0_ n1_ n2_; clear hb ho43)); go_ret2; exact ⟨_, by first | rfl | (simp [errW_none, errW_some] <;> rfl) | (simp [*, errW_none, errW_some] <;> rfl), by (with_reducible repeat (first | apply Kd.R_alloc | apply Kd.R_drewN | apply Kd.R_drew)); exact Kd.R_mono HO406.out (fun _ hk => trivial), bl_⟩
        ·replace c41 := Bool.eq_false_iff.mpr c41; subst c41; rw [if_neg (show ¬ (false = true) by decide)] at H; by_cases c44 : a2 > x10_1
         ·rw [if_pos c44] at H; have c44b0 : decide (x10_1 < a2) = true := decide_eq_true c44; clear c44; by_cases c45 : x8_1.length < 5864062014805
          ·rw [if_pos c45] at H; have LMc45 := Aside0.mk c45; clear c45; obtain ⟨y407, hy407⟩ : ∃ y_ : List (S66), y_ = (x8_1 ++ [(⟨x10_1, wrap64 (a2 - x10_1), 0⟩ : S66)]) := ⟨_, rfl⟩; replace H : (some (y407, true)) = some (r1, r2) := by first | (rw [hy407]; with_reducible exact H) | (have H2_ := (Option.bind_some _ _).symm.trans H; rw [hy407]; with_reducible exact H2_) | (have H2_ := (Option.bind_some _ _).symm.trans H; with_reducible exact H2_) | with_reducible exact H | (rw [hy407]; exact H) | exact H
           have Ny407 := Aside0.mk hy407; clear hy407; simp only [Option.some.injEq, Prod.mk.injEq] at H; obtain ⟨rfl, rfl⟩ := H; go_wp2_with (first | ((with_reducible refine gate_builtin (b := .append) (xs := #[.tmp 99, .tmp 105]) rfl ?_); at_builtin; refine Kd.R_append k66 (w0 := w) w.heap.size rfl (.tmp 99) (.tmp 105) 40 66 (.agg #[(.int .i64 0), (.int .i64 0), (.int .i64 0)]) 24 rfl Try.underlying40 info66 rfl (by decide) (by omega) u8 x8_1 (⟨x10_1, wrap64 (a2 - x10_1), 0⟩ : S66) [.int .i64 x10_1, .int .i64 (wrap64 (a2 - x10_1)), .int .i64 0] (fun _ => True) (fun _ => False) rfl rfl ?aP (fun _ hk => hk.elim) ?aF ?aO ?aB ?aS ?aL ?_; (case aP => exact k66_mkM _ _ _ (⟨x10_1, wrap64 (a2 - x10_1), 0⟩ : S66)); (case aB => exact bl_); (case aF => exact (fun _ _ => trivial)); (case aO => exact (by exact rw_ HO_8.out)); (case aS => exact (below_size bl_)); (case aL => have := LMc45.out; omega); intro v408 w46 ho hb hg hat; rw [← Ny407.out] at ho; have n0_ := Aside0.mk (hb); have n1_ := Aside0.mk (ho); clear HB; clear HO_8; have HB := n0_; have HO409 := n1_; clear n0_ n1_; clear ho hb hg hat)); go_ret2; exact ⟨_, by first | rfl | (simp [errW_none, errW_some] <;> rfl) | (simp [*, errW_none, errW_some] <;> rfl), by exact rw_ HO409.out, bl_⟩
          ·rw [if_neg c45] at H; exact absurd H (by simp)
         ·rw [if_neg c44] at H; have c44b0 : decide (x10_1 < a2) = false := decide_eq_false c44; clear c44; simp only [Option.some.injEq, Prod.mk.injEq] at H; obtain ⟨rfl, rfl⟩ := H; go_wp2; go_ret2; exact ⟨_, by first | rfl | (simp [errW_none, errW_some] <;> rfl) | (simp [*, errW_none, errW_some] <;> rfl), by exact rw_ HO_8.out, bl_⟩

end Go.Proofs.Ythlipgfmfgangaa.QFnPages
