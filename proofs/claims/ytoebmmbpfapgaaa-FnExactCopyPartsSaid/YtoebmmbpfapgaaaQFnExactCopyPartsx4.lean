/- Plain functions for the Go functions that the law FnExactCopyParts reaches, and for each the proof that the call answers as the plain function says; printed by a program of this session. -/
import Derived.Test.YtoebmmbpfapgaaaQFnExactCopyPartsx0
import Derived.Test.YtoebmmbpfapgaaaQFnExactCopyPartsx2
import Derived.Test.YtoebmmbpfapgaaaQFnExactCopyPartsx3
namespace Go.Proofs.Ytoebmmbpfapgaaa.QFnExactCopyParts
open Go.RowKit Go.Proofs.YtoebmmbpfapgaaaW.PrintWords Go.Proofs.YtoebmmbpfapgaaaW.PrintLast Go.Proofs.YtoebmmbpfapgaaaW.PrintMore
attribute [local go_sem] max2_int min2_int max_two min_two max_three min_three max_four min_four   -- for this text's walks alone
set_option linter.unusedVariables false
set_option linter.unusedSimpArgs false

/-! ### spec_PartFrom: function 32 -/
mutual
def spec_PartFrom.l0 : Nat → List (S56) → Int → List (S82) → List (S56) → Int → Int → Option ((List (S82)) × Bool)
 | 0, _, _, _, _, _, _ => none
 | k + 1, x0, x2, x8, x9, x10, x11 => if x11 < (x9.length : Int) then ((spec_IsScore.f k x0).bind fun t127 => (spec_PartFrom.j1 k x0 x2 x8 x9 x10 x11 t127)) else (spec_PartFrom.j1 k x0 x2 x8 x9 x10 x11 false)
def spec_PartFrom.j1 : Nat → List (S56) → Int → List (S82) → List (S56) → Int → Int → Bool → Option ((List (S82)) × Bool)
 | 0, _, _, _, _, _, _, _ => none
 | k + 1, x0, x2, x8, x9, x10, x11, x23 => if x23 = true then (if 0 ≤ x11 then (if x11 < (x9.length : Int) then (if ((rd_T56 x9 x11).f0) < x10 then (some ((([] : List (S82))), false)) else (if ((rd_T56 x9 x11).f0) > x10 then (if x8.length < 5864062014805 then ((some (x8 ++ [(⟨x10, wrap64 (((rd_T56 x9 x11).f0) - x10), 0⟩ : S82)] : List (S82))).bind fun y134 => (if y134.length < 5864062014805 then (spec_PartFrom.l0 k x0 x2 (y134 ++ [(⟨(rd_T56 x9 x11).f0, (rd_T56 x9 x11).f1, (rd_T56 x9 x11).f2⟩ : S82)]) x9 (wrap64 (((rd_T56 x9 x11).f0) + ((rd_T56 x9 x11).f1))) (wrap64 (x11 + 1))) else (none))) else (none)) else (if x8.length < 5864062014805 then (spec_PartFrom.l0 k x0 x2 (x8 ++ [(⟨(rd_T56 x9 x11).f0, (rd_T56 x9 x11).f1, (rd_T56 x9 x11).f2⟩ : S82)]) x9 (wrap64 (((rd_T56 x9 x11).f0) + ((rd_T56 x9 x11).f1))) (wrap64 (x11 + 1))) else (none)))) else (none)) else (none)) else ((spec_IsScore.f k x0).bind fun t153 => (if t153 = true then (if x2 < x10 then (spec_PartFrom.j2 k x2 x8 x10 true) else (spec_PartFrom.j2 k x2 x8 x10 (decide (x2 > 2096)))) else (spec_PartFrom.j2 k x2 x8 x10 true)))
def spec_PartFrom.j2 : Nat → Int → List (S82) → Int → Bool → Option ((List (S82)) × Bool)
 | 0, _, _, _, _ => none
 | k + 1, x2, x8, x10, x94 => if x94 = true then (some ((([] : List (S82))), false)) else (if x2 > x10 then (if x8.length < 5864062014805 then (some ((x8 ++ [(⟨x10, wrap64 (x2 - x10), 0⟩ : S82)]), true)) else (none)) else (some (x8, true)))
end
def spec_PartFrom.f (k : Nat) (l0 : List (S56)) (a1 : Int) (a2 : Int) : Option ((List (S82)) × Bool) := (spec_VoiceOf.f k l0 a1).bind fun t124 => (spec_PartFrom.l0 k l0 a2 (([] : List (S82))) t124 0 0)
theorem spec_PartFrom.mono_l : ∀ k, (∀ y0 y1 y2 y3 y4 y5, LeO (spec_PartFrom.l0 k y0 y1 y2 y3 y4 y5) (spec_PartFrom.l0 (k + 1) y0 y1 y2 y3 y4 y5)) ∧ (∀ y0 y1 y2 y3 y4 y5 y6, LeO (spec_PartFrom.j1 k y0 y1 y2 y3 y4 y5 y6) (spec_PartFrom.j1 (k + 1) y0 y1 y2 y3 y4 y5 y6)) ∧ (∀ y0 y1 y2 y3, LeO (spec_PartFrom.j2 k y0 y1 y2 y3) (spec_PartFrom.j2 (k + 1) y0 y1 y2 y3))
 | 0 => ⟨fun _ _ _ _ _ _ r h => by simp [spec_PartFrom.l0] at h, fun _ _ _ _ _ _ _ r h => by simp [spec_PartFrom.j1] at h, fun _ _ _ _ r h => by simp [spec_PartFrom.j2] at h⟩
 | k + 1 => by
  obtain ⟨ih0, ih1, ih2⟩ := spec_PartFrom.mono_l k
  refine ⟨?_, ?_, ?_⟩
  ·intro y0 y1 y2 y3 y4 y5
   unfold spec_PartFrom.l0
   repeat' first
   | (with_reducible exact ih0 _ _ _ _ _ _)
   | (with_reducible exact ih1 _ _ _ _ _ _ _)
   | (with_reducible exact ih2 _ _ _ _)
   | (with_reducible exact spec_IsScore.mono _ _)
   | (with_reducible exact spec_VoiceOf.mono _ _ _)
   | (with_reducible exact LeO.refl _)
   | (with_reducible exact LeO.none _)
   | (with_reducible refine LeO.ite ?_ ?_)
   | (with_reducible refine LeO.bind ?_ (fun _ => ?_))
   | exact ih0 _ _ _ _ _ _
   | exact ih1 _ _ _ _ _ _ _
   | exact ih2 _ _ _ _
   | exact spec_IsScore.mono _ _
   | exact spec_VoiceOf.mono _ _ _
   | exact LeO.none _
   | refine LeO.ite ?_ ?_
   | refine LeO.bind ?_ (fun _ => ?_)
  ·intro y0 y1 y2 y3 y4 y5 y6
   unfold spec_PartFrom.j1
   repeat' first
   | (with_reducible exact ih0 _ _ _ _ _ _)
   | (with_reducible exact ih1 _ _ _ _ _ _ _)
   | (with_reducible exact ih2 _ _ _ _)
   | (with_reducible exact spec_IsScore.mono _ _)
   | (with_reducible exact spec_VoiceOf.mono _ _ _)
   | (with_reducible exact LeO.refl _)
   | (with_reducible exact LeO.none _)
   | (with_reducible refine LeO.ite ?_ ?_)
   | (with_reducible refine LeO.bind ?_ (fun _ => ?_))
   | exact ih0 _ _ _ _ _ _
   | exact ih1 _ _ _ _ _ _ _
   | exact ih2 _ _ _ _
   | exact spec_IsScore.mono _ _
   | exact spec_VoiceOf.mono _ _ _
   | exact LeO.none _
   | refine LeO.ite ?_ ?_
   | refine LeO.bind ?_ (fun _ => ?_)
  ·intro y0 y1 y2 y3
   unfold spec_PartFrom.j2
   repeat' first
   | (with_reducible exact ih0 _ _ _ _ _ _)
   | (with_reducible exact ih1 _ _ _ _ _ _ _)
   | (with_reducible exact ih2 _ _ _ _)
   | (with_reducible exact spec_IsScore.mono _ _)
   | (with_reducible exact spec_VoiceOf.mono _ _ _)
   | (with_reducible exact LeO.refl _)
   | (with_reducible exact LeO.none _)
   | (with_reducible refine LeO.ite ?_ ?_)
   | (with_reducible refine LeO.bind ?_ (fun _ => ?_))
   | exact ih0 _ _ _ _ _ _
   | exact ih1 _ _ _ _ _ _ _
   | exact ih2 _ _ _ _
   | exact spec_IsScore.mono _ _
   | exact spec_VoiceOf.mono _ _ _
   | exact LeO.none _
   | refine LeO.ite ?_ ?_
   | refine LeO.bind ?_ (fun _ => ?_)
theorem spec_PartFrom.mono : ∀ a0 a1 a2 k, LeO (spec_PartFrom.f k a0 a1 a2) (spec_PartFrom.f (k + 1) a0 a1 a2) := by
 intro a0 a1 a2 k; obtain ⟨ih0, ih1, ih2⟩ := spec_PartFrom.mono_l k; unfold spec_PartFrom.f
 repeat' first
   | (with_reducible exact ih0 _ _ _ _ _ _)
   | (with_reducible exact ih1 _ _ _ _ _ _ _)
   | (with_reducible exact ih2 _ _ _ _)
   | (with_reducible exact spec_IsScore.mono _ _)
   | (with_reducible exact spec_VoiceOf.mono _ _ _)
   | (with_reducible exact LeO.refl _)
   | (with_reducible exact LeO.none _)
   | (with_reducible refine LeO.ite ?_ ?_)
   | (with_reducible refine LeO.bind ?_ (fun _ => ?_))
   | exact ih0 _ _ _ _ _ _
   | exact ih1 _ _ _ _ _ _ _
   | exact ih2 _ _ _ _
   | exact spec_IsScore.mono _ _
   | exact spec_VoiceOf.mono _ _ _
   | exact LeO.none _
   | refine LeO.ite ?_ ?_
   | refine LeO.bind ?_ (fun _ => ?_)
def spec_PartFrom.T11 : Bool × List (List Nat × List Nat) := (true, [([], []), ([], []), ([], []), ([1, 2], [1, 2]), ([3], [3]), ([4], [4]), ([], []), ([], []), ([6, 7], [6, 7]), ([8], [8]), ([9], [9]), ([], []), ([], []), ([11, 12], [11, 12]), ([13], [13]), ([14], [14]), ([5, 10, 15], [5, 10, 15]), ([16], [16]), ([0, 17], [0, 17]), ([18, 18, 0, 1, 2, 3, 4, 5, 6, 7, 8, 9, 10, 11, 12, 13, 14, 15, 16, 17, 18], [0, 18])])
def spec_PartFrom.B11 : List Nat := [0, 0, 0, 6, 14, 30, 0, 0, 192, 448, 960, 0, 0, 6144, 14336, 30720, 65534, 131070, 262143, 524287]
theorem spec_PartFrom.tab11 : rtab .any (opsOf Try.f32 11) = spec_PartFrom.T11 := by kernel_rfl
theorem spec_PartFrom.bits11 : waitsOk spec_PartFrom.T11.2 spec_PartFrom.B11 = true := by kernel_rfl
def spec_PartFrom.T12 : Bool × List (List Nat × List Nat) := (true, [([], []), ([], []), ([0, 1], [0, 1]), ([2], [2]), ([3], [3]), ([], []), ([], []), ([5, 6], [5, 6]), ([7], [7]), ([8], [8]), ([4, 9], [4, 9]), ([10, 0, 1, 2, 3, 4, 5, 6, 7, 8, 9, 10], [10])])
def spec_PartFrom.B12 : List Nat := [0, 0, 3, 7, 15, 0, 0, 96, 224, 480, 1023, 2047]
theorem spec_PartFrom.tab12 : rtab .any (opsOf Try.f32 12) = spec_PartFrom.T12 := by kernel_rfl
theorem spec_PartFrom.bits12 : waitsOk spec_PartFrom.T12.2 spec_PartFrom.B12 = true := by kernel_rfl
set_option maxHeartbeats 8000000 in
set_option maxRecDepth 100000 in
theorem spec_PartFrom.calls (k : Nat) (A0 : Option Addr) (c0 : Nat) (l0 : List (S56)) (a1 : Int) (a2 : Int) (r1 : List (S82)) (r2 : Bool) (w : World) (hr0 : Kd.C k56 w A0 l0.length l0) (hc0 : l0.length ≤ c0) (h : spec_PartFrom.f k l0 a1 a2 = some (r1, r2)) :
  Calls Try.prog 32 #[.slice A0 l0.length c0, .int .i64 a1, .int .i64 a2] w fun e w' => ∃ v0_ : Value, e = .returned (.tuple #[v0_, .bool r2]) ∧ Kd.R k82 82 w' w.heap.size (fun _ => True) v0_ r1 ∧ Below w.heap.size w w' := by
 have hu82 := Try.underlying82; have HR0 := Aside0.mk hr0; have HC0 := Aside0.mk hc0; clear hr0 hc0; have HB := Aside0.mk (Below.refl w.heap.size w); have H : ((spec_VoiceOf.f k l0 a1).bind fun t124 => (spec_PartFrom.l0 k l0 a2 (([] : List (S82))) t124 0 0)) = some (r1, r2) := h; clear h; obtain ⟨y121, hy121⟩ : ∃ y_ : List (S82), y_ = (([] : List (S82))) := ⟨_, rfl⟩; replace H : ((spec_VoiceOf.f k l0 a1).bind fun t124 => (spec_PartFrom.l0 k l0 a2 y121 t124 0 0)) = some (r1, r2) := by first | (rw [hy121]; with_reducible exact H) | (have H2_ := (Option.bind_some _ _).symm.trans H; rw [hy121]; with_reducible exact H2_) | (have H2_ := (Option.bind_some _ _).symm.trans H; with_reducible exact H2_) | with_reducible exact H | (rw [hy121]; exact H) | exact H
 have Ny121 := Aside0.mk hy121; clear hy121; replace H := Option.bind_eq_some_iff.mp H; obtain ⟨t124, A40, H⟩ := H; (try dsimp only at H); have A4 := Aside0.mk A40; clear A40; have H' := Aside0.mk H; clear H; go_enter Try.func32, Try.ntmps32; go_wp2_with (first | ((with_reducible refine gate_dst (N := 12) rfl ?_); refine Kd.R_lit k82 _ 82 ?hg (N := 12) ?hd (xs := ([] : List (S82))) (inner := []) (ok := fun _ => True) (okp := fun _ => True) ?hr ?hp (fun _ hk => hk) trivial (Below.refl _ _) (Nat.le_refl _) (by simp) ?_; (case hd => rfl); (case hg => rfl); (case hr => first | (go_simp; done) | (go_simp; rfl)); (case hp => exact (Reps.none _ _)); intro v122 w5 ho6 hb hg_ hnew_; clear hg_ hnew_; (first | rw [← Ny121.out] at ho6 | (simp only [Int.reduceToNat] at ho6; rw [← Ny121.out] at ho6)); have n0_ := Aside0.mk (Kd.R_lower ho6 (below_size bl_)); have n1_ := Aside0.mk (below_step bl_ hb); clear HB; have HO123 := n0_; have HB := n1_; clear n0_ n1_; clear hb ho6) | ((with_reducible refine gate_callee (f := 65) rfl ?_); refine goesM_ (some 15) rfl rfl Try.func65 (by kernel_rfl) rfl #[.slice A0 l0.length c0, .int .i64 a1] rfl ?_; (with_reducible refine (spec_VoiceOf.calls k _ _ l0 a1 t124 _ ?side1 ?side2 A4.out).mono ?_); (case side1 => exact cw_ (Kd.C_below HR0.out HB.out)); (case side2 => exact HC0.out); rintro e w7 ⟨v125, rfl, ho0, hb⟩; refine ⟨_, rfl, ?_⟩; have n0_ := Aside0.mk (Kd.R_below (by exact rw_ HO123.out) hb); have n1_ := Aside0.mk (Kd.R_lower ho0 (below_size bl_)); have n2_ := Aside0.mk (below_step bl_ hb); clear HO123; clear HB; have HO123 := n0_; have HO126 := n1_; have HB := n2_; clear n0_ n1_ n2_; (try clear hb); (try clear hb2); (try clear hk); (try clear hi); (try clear ho0))); go_loopg [8, 10, 11] k (fun kq v8 v10 v11 w' => ∃ (x8_1 : List (S82)) (x10_1 : Int) (x11_1 : Int), v10 = .int .i64 x10_1 ∧ v11 = .int .i64 x11_1 ∧ Aside0 (spec_PartFrom.l0 kq l0 a2 x8_1 t124 x10_1 x11_1 = some (r1, r2)) ∧ Aside0 (kq ≤ k) ∧ Aside0 (Kd.R k82 82 w' w.heap.size (fun _ => True) v8 x8_1) ∧ Aside0 (Kd.R k56 56 w' w.heap.size (fun _ => True) v125 t124) ∧ Aside0 (Below w.heap.size w w'))
 case atStart => exact ⟨(y121), (0), (0), (by first | rfl | (simp; done) | (simp [*]; done)), (by first | rfl | (simp; done) | (simp [*]; done)), H', ⟨Nat.le_refl _⟩, ⟨by exact rw_ HO123.out⟩, ⟨by exact rw_ HO126.out⟩, ⟨bl_⟩⟩
 case round =>
  clear H'; try clear p2
  try clear c3
  try clear c6
  obtain ⟨x8_1, x10_1, x11_1, rfl, rfl, HA, HK1, HO_8, HO_9, HB⟩ := hrel
  cases gk with
  | zero => exact absurd HA.out (by simp [spec_PartFrom.l0])
  | succ k1 =>
   have H := HA.out; clear HA; simp only [spec_PartFrom.l0] at H; have HC8 := Aside0.mk H; clear H; go_upto_region 5 with (fail)
   go_cut [23] (fun v23 wc => ∃ (kq : Nat) (x23_7 : Bool), v23 = .bool x23_7 ∧ Aside0 (spec_PartFrom.j1 kq l0 a2 x8_1 t124 x10_1 x11_1 x23_7 = some (r1, r2)) ∧ Aside0 (kq ≤ k1) ∧ Aside0 (Kd.R k82 82 wc w.heap.size (fun _ => True) u8 x8_1) ∧ Aside0 (Kd.R k56 56 wc w.heap.size (fun _ => True) v125 t124) ∧ Aside0 (Below w.heap.size w wc))
   case first =>
    have H := HC8.out; clear HC8; by_cases c9 : x11_1 < (t124.length : Int)
    ·rw [if_pos c9] at H; have c9b0 : decide (x11_1 < (t124.length : Int)) = true := decide_eq_true c9; clear c9; (first | rw [c9b0] | (simp only [i64_w, i32_w]; rw [c9b0]) | skip); replace H := Option.bind_eq_some_iff.mp H; obtain ⟨t127, A100, H⟩ := H; (try dsimp only at H); have A10 := Aside0.mk A100; clear A100; have H' := Aside0.mk H; clear H; obtain ⟨Ao11, co11, eo11⟩ := Kd.R_slice HO_9.out; subst eo11; go_wp2_with (first | (go_at_call 30; (with_reducible refine (spec_IsScore.calls k1 _ _ l0 t127 _ ?side1 ?side2 A10.out).mono ?_); (case side1 => exact cw_ (Kd.C_below HR0.out HB.out)); (case side2 => exact HC0.out); rintro e w12 ⟨rfl, hb⟩; have n0_ := Aside0.mk (Kd.R_below (by exact rw_ HO_8.out) hb); have n1_ := Aside0.mk (Kd.R_below (by exact rw_ HO_9.out) hb); have n2_ := Aside0.mk (below_step bl_ hb); clear HO_8; clear HO_9; clear HB; have HO_8 := n0_; have HO_9 := n1_; have HB := n2_; clear n0_ n1_ n2_; (try clear hb); (try clear hb2); (try clear hk); (try clear hi))); go_meet
     case rel => exact ⟨_, (t127), (by first | rfl | (simp; done) | (simp [*]; done)), H', ⟨by have := HK1.out; first | omega | exact Nat.le_refl _⟩, ⟨by exact rw_ HO_8.out⟩, ⟨by exact rw_ HO_9.out⟩, ⟨bl_⟩⟩
    ·rw [if_neg c9] at H; have c9b0 : decide (x11_1 < (t124.length : Int)) = false := decide_eq_false c9; clear c9; (first | rw [c9b0] | (simp only [i64_w, i32_w]; rw [c9b0]) | skip); have H' := Aside0.mk H; clear H; obtain ⟨Ao13, co13, eo13⟩ := Kd.R_slice HO_9.out; subst eo13; go_wp2; go_meet
     case rel => exact ⟨_, (false), (by first | rfl | (simp; done) | (simp [*]; done)), H', ⟨by have := HK1.out; first | omega | exact Nat.le_refl _⟩, ⟨by exact rw_ HO_8.out⟩, ⟨by exact rw_ HO_9.out⟩, ⟨bl_⟩⟩
   case rest =>
    clear HC8; try clear p2
    try clear c3
    try clear c6
    try clear c9
    try clear c9b0
    try clear p2
    obtain ⟨kq, x23_7, rfl, HA, HJ7, HO_8, HO_9, HB⟩ := hcut
    cases kq with
    | zero => exact absurd HA.out (by simp [spec_PartFrom.j1])
    | succ kj7 =>
     have H := HA.out; clear HA; simp only [spec_PartFrom.j1] at H; by_cases c14 : x23_7 = true
     ·subst c14; rw [if_pos rfl] at H; by_cases c15 : 0 ≤ x11_1
      ·rw [if_pos c15] at H; have c15b0 : decide (0 ≤ x11_1) = true := decide_eq_true c15; clear c15; by_cases c16 : x11_1 < (t124.length : Int)
       ·rw [if_pos c16] at H; have c16b0 : decide (x11_1 < (t124.length : Int)) = true := decide_eq_true c16; clear c16; by_cases c17 : ((rd_T56 t124 x11_1).f0) < x10_1
        ·rw [if_pos c17] at H; have c17b0 : decide (((rd_T56 t124 x11_1).f0) < x10_1) = true := decide_eq_true c17; clear c17; obtain ⟨y129, hy129⟩ : ∃ y_ : List (S82), y_ = (([] : List (S82))) := ⟨_, rfl⟩; replace H : (some (y129, false)) = some (r1, r2) := by first | (rw [hy129]; with_reducible exact H) | (have H2_ := (Option.bind_some _ _).symm.trans H; rw [hy129]; with_reducible exact H2_) | (have H2_ := (Option.bind_some _ _).symm.trans H; with_reducible exact H2_) | with_reducible exact H | (rw [hy129]; exact H) | exact H
         have Ny129 := Aside0.mk hy129; clear hy129; simp only [Option.some.injEq, Prod.mk.injEq] at H; obtain ⟨rfl, rfl⟩ := H; obtain ⟨Ao18, co18, eo18⟩ := Kd.R_slice HO_9.out; subst eo18; have p128 : 0 ≤ (x11_1 : Int) := of_decide_eq_true (by first | (with_reducible assumption) | assumption); have q128 : x11_1 < (t124.length : Int) := of_decide_eq_true (by first | (with_reducible assumption) | assumption); obtain ⟨ad128, e128, hx128_0, hx128_1, hx128_2, hx128_3⟩ := at_T56 (Kd.R_reads' HO_9.out).2.2 x11_1 p128 q128
         cases e128; replace p128 := eq_true p128; replace q128 := eq_true q128; go_wp2_with (first | ((with_reducible refine gate_dst (N := 33) rfl ?_); refine Kd.R_lit k82 _ 82 ?hg (N := 33) ?hd (xs := ([] : List (S82))) (inner := []) (ok := fun _ => True) (okp := fun _ => True) ?hr ?hp (fun _ hk => hk) trivial (Below.refl _ _) (Nat.le_refl _) (by simp) ?_; (case hd => rfl); (case hg => rfl); (case hr => first | (go_simp; done) | (go_simp; rfl)); (case hp => exact (Reps.none _ _)); intro v130 w19 ho20 hb hg_ hnew_; clear hg_ hnew_; (first | rw [← Ny129.out] at ho20 | (simp only [Int.reduceToNat] at ho20; rw [← Ny129.out] at ho20)); have n0_ := Aside0.mk (Kd.R_elder' (by exact rw_ HO_8.out) (Kd.R_base ho20) hb); have n1_ := Aside0.mk (Kd.R_below (by exact rw_ HO_9.out) hb); have n2_ := Aside0.mk (Kd.R_lower (Kd.R_new' ho20 (Kd.R_lt (by exact rw_ HO_8.out))) (below_size bl_)); have n3_ := Aside0.mk (below_step bl_ hb); clear HO_8; clear HO_9; clear HB; have HO_8 := n0_; have HO_9 := n1_; have HO131 := n2_; have HB := n3_; clear n0_ n1_ n2_ n3_; clear hb ho20)); go_ret2; exact ⟨_, by first | rfl | (simp [errW_none, errW_some] <;> rfl) | (simp [*, errW_none, errW_some] <;> rfl), by (with_reducible repeat (first | apply Kd.R_alloc | apply Kd.R_drewN | apply Kd.R_drew)); exact Kd.R_mono HO131.out (fun _ hk => trivial), bl_⟩
        ·rw [if_neg c17] at H; have c17b0 : decide (((rd_T56 t124 x11_1).f0) < x10_1) = false := decide_eq_false c17; clear c17; by_cases c21 : ((rd_T56 t124 x11_1).f0) > x10_1
         ·rw [if_pos c21] at H; have c21b0 : decide (x10_1 < ((rd_T56 t124 x11_1).f0)) = true := decide_eq_true c21; clear c21; by_cases c22 : x8_1.length < 5864062014805
          ·rw [if_pos c22] at H; have LMc22 := Aside0.mk c22; clear c22; obtain ⟨y134, hy134⟩ : ∃ y_ : List (S82), y_ = (x8_1 ++ [(⟨x10_1, wrap64 (((rd_T56 t124 x11_1).f0) - x10_1), 0⟩ : S82)]) := ⟨_, rfl⟩; replace H : (if y134.length < 5864062014805 then (spec_PartFrom.l0 kj7 l0 a2 (y134 ++ [(⟨(rd_T56 t124 x11_1).f0, (rd_T56 t124 x11_1).f1, (rd_T56 t124 x11_1).f2⟩ : S82)]) t124 (wrap64 (((rd_T56 t124 x11_1).f0) + ((rd_T56 t124 x11_1).f1))) (wrap64 (x11_1 + 1))) else (none)) = some (r1, r2) := by first | (rw [hy134]; with_reducible exact H) | (have H2_ := (Option.bind_some _ _).symm.trans H; rw [hy134]; with_reducible exact H2_) | (have H2_ := (Option.bind_some _ _).symm.trans H; with_reducible exact H2_) | with_reducible exact H | (rw [hy134]; exact H) | exact H
           have Ny134 := Aside0.mk hy134; clear hy134; by_cases c23 : y134.length < 5864062014805
           ·rw [if_pos c23] at H; have LMc23 := Aside0.mk c23; clear c23; obtain ⟨y140, hy140⟩ : ∃ y_ : List (S82), y_ = (y134 ++ [(⟨(rd_T56 t124 x11_1).f0, (rd_T56 t124 x11_1).f1, (rd_T56 t124 x11_1).f2⟩ : S82)]) := ⟨_, rfl⟩; replace H : (spec_PartFrom.l0 kj7 l0 a2 y140 t124 (wrap64 (((rd_T56 t124 x11_1).f0) + ((rd_T56 t124 x11_1).f1))) (wrap64 (x11_1 + 1))) = some (r1, r2) := by first | (rw [hy140]; with_reducible exact H) | (have H2_ := (Option.bind_some _ _).symm.trans H; rw [hy140]; with_reducible exact H2_) | (have H2_ := (Option.bind_some _ _).symm.trans H; with_reducible exact H2_) | with_reducible exact H | (rw [hy140]; exact H) | exact H
            have Ny140 := Aside0.mk hy140; clear hy140; have H' := Aside0.mk H; clear H; obtain ⟨Ao24, co24, eo24⟩ := Kd.R_slice HO_9.out; subst eo24; have p128 : 0 ≤ (x11_1 : Int) := of_decide_eq_true (by first | (with_reducible assumption) | assumption); have q128 : x11_1 < (t124.length : Int) := of_decide_eq_true (by first | (with_reducible assumption) | assumption); obtain ⟨ad128, e128, hx128_0, hx128_1, hx128_2, hx128_3⟩ := at_T56 (Kd.R_reads' HO_9.out).2.2 x11_1 p128 q128
            cases e128; replace p128 := eq_true p128; replace q128 := eq_true q128; have p132 : 0 ≤ (x11_1 : Int) := of_decide_eq_true (by first | (with_reducible assumption) | assumption); have q132 : x11_1 < (t124.length : Int) := of_decide_eq_true (by first | (with_reducible assumption) | assumption); obtain ⟨ad132, e132, hx132_0, hx132_1, hx132_2, hx132_3⟩ := at_T56 (Kd.R_reads' HO_9.out).2.2 x11_1 p132 q132; obtain rfl : ad128 = ad132 := (by injection e132)
            replace p132 := eq_true p132; replace q132 := eq_true q132; have p133 : 0 ≤ (x11_1 : Int) := of_decide_eq_true (by first | (with_reducible assumption) | assumption); have q133 : x11_1 < (t124.length : Int) := of_decide_eq_true (by first | (with_reducible assumption) | assumption); obtain ⟨ad133, e133, hx133_0, hx133_1, hx133_2, hx133_3⟩ := at_T56 (Kd.R_reads' HO_9.out).2.2 x11_1 p133 q133; obtain rfl : ad128 = ad133 := (by injection e133)
            replace p133 := eq_true p133; replace q133 := eq_true q133; try go_wp2_with (first | ((with_reducible refine gate_builtin (b := .append) (xs := #[.tmp 41, .tmp 51]) rfl ?_); at_builtin; refine Kd.R_append k82 (w0 := w) w.heap.size rfl (.tmp 41) (.tmp 51) 51 82 (.agg #[(.int .i64 0), (.int .i64 0), (.int .i64 0)]) 24 rfl Try.underlying51 info82 rfl (by decide) (by omega) u8 x8_1 (⟨x10_1, wrap64 (((rd_T56 t124 x11_1).f0) - x10_1), 0⟩ : S82) [.int .i64 x10_1, .int .i64 (wrap64 (((rd_T56 t124 x11_1).f0) - x10_1)), .int .i64 0] (fun _ => True) (fun _ => False) rfl rfl ?aP (fun _ hk => hk.elim) ?aF ?aO ?aB ?aS ?aL ?_; (case aP => exact k82_mkM _ _ _ (⟨x10_1, wrap64 (((rd_T56 t124 x11_1).f0) - x10_1), 0⟩ : S82)); (case aB => exact bl_); (case aF => exact (fun _ _ => trivial)); (case aO => exact (by exact rw_ HO_8.out)); (case aS => exact (below_size bl_)); (case aL => have := LMc22.out; omega); intro v135 w25 ho hb hg hat; rw [← Ny134.out] at ho; have n0_ := Aside0.mk (Kd.R_over' (by exact rw_ HO_9.out) (Kd.R_typed (by exact rw_ HO_8.out)) (by decide) hg); have n1_ := Aside0.mk (hb); have n2_ := Aside0.mk (ho); clear HO_9; clear HB; clear HO_8; have HO_9 := n0_; have HB := n1_; have HO136 := n2_; clear n0_ n1_ n2_; clear ho hb hg hat))
            have n0_ := Aside0.mk (Kd.R_drew HO_9.out); have n1_ := Aside0.mk (Kd.R_drew HO136.out); have n2_ := Aside0.mk (below_drew1 HB.out); clear HO_9; clear HO136; clear HB; have HO_9 := n0_; have HO136 := n1_; have HB := n2_; clear n0_ n1_ n2_; have p137 : 0 ≤ (x11_1 : Int) := of_decide_eq_true (by first | (with_reducible assumption) | assumption); have q137 : x11_1 < (t124.length : Int) := of_decide_eq_true (by first | (with_reducible assumption) | assumption); obtain ⟨ad137, e137, hx137_0, hx137_1, hx137_2, hx137_3⟩ := at_T56 (Kd.R_reads' HO_9.out).2.2 x11_1 p137 q137; obtain rfl : ad128 = ad137 := (by injection e137)
            replace p137 := eq_true p137; replace q137 := eq_true q137; have p138 : 0 ≤ (x11_1 : Int) := of_decide_eq_true (by first | (with_reducible assumption) | assumption); have q138 : x11_1 < (t124.length : Int) := of_decide_eq_true (by first | (with_reducible assumption) | assumption); obtain ⟨ad138, e138, hx138_0, hx138_1, hx138_2, hx138_3⟩ := at_T56 (Kd.R_reads' HO_9.out).2.2 x11_1 p138 q138; obtain rfl : ad128 = ad138 := (by injection e138)
            replace p138 := eq_true p138; replace q138 := eq_true q138; have p139 : 0 ≤ (x11_1 : Int) := of_decide_eq_true (by first | (with_reducible assumption) | assumption); have q139 : x11_1 < (t124.length : Int) := of_decide_eq_true (by first | (with_reducible assumption) | assumption); obtain ⟨ad139, e139, hx139_0, hx139_1, hx139_2, hx139_3⟩ := at_T56 (Kd.R_reads' HO_9.out).2.2 x11_1 p139 q139; obtain rfl : ad128 = ad139 := (by injection e139)
            replace p139 := eq_true p139; replace q139 := eq_true q139; refine start_ (n := 20) (S := fun w' => w'.cell? (ad128.add ((x11_1).toNat * 4)) = some (.int .i64 ((rd_T56 t124 x11_1).f0)) ∧ w'.cell? ⟨(ad128.add ((x11_1).toNat * 4)).block, (ad128.add ((x11_1).toNat * 4)).off + 1, none⟩ = some (.int .i64 ((rd_T56 t124 x11_1).f1)) ∧ w'.cell? ⟨(ad128.add ((x11_1).toNat * 4)).block, (ad128.add ((x11_1).toNat * 4)).off + 2, none⟩ = some (.int .i64 ((rd_T56 t124 x11_1).f2)) ∧ w'.cell? ⟨(ad128.add ((x11_1).toNat * 4)).block, (ad128.add ((x11_1).toNat * 4)).off + 3, none⟩ = some (.int .i64 ((rd_T56 t124 x11_1).f3)) ∧ w'.cell? (ad128.add ((x11_1).toNat * 4)) = some (.int .i64 ((rd_T56 t124 x11_1).f0)) ∧ w'.cell? ⟨(ad128.add ((x11_1).toNat * 4)).block, (ad128.add ((x11_1).toNat * 4)).off + 1, none⟩ = some (.int .i64 ((rd_T56 t124 x11_1).f1)) ∧ w'.cell? ⟨(ad128.add ((x11_1).toNat * 4)).block, (ad128.add ((x11_1).toNat * 4)).off + 2, none⟩ = some (.int .i64 ((rd_T56 t124 x11_1).f2)) ∧ w'.cell? ⟨(ad128.add ((x11_1).toNat * 4)).block, (ad128.add ((x11_1).toNat * 4)).off + 3, none⟩ = some (.int .i64 ((rd_T56 t124 x11_1).f3)) ∧ w'.cell? (ad128.add ((x11_1).toNat * 4)) = some (.int .i64 ((rd_T56 t124 x11_1).f0)) ∧ w'.cell? ⟨(ad128.add ((x11_1).toNat * 4)).block, (ad128.add ((x11_1).toNat * 4)).off + 1, none⟩ = some (.int .i64 ((rd_T56 t124 x11_1).f1)) ∧ w'.cell? ⟨(ad128.add ((x11_1).toNat * 4)).block, (ad128.add ((x11_1).toNat * 4)).off + 2, none⟩ = some (.int .i64 ((rd_T56 t124 x11_1).f2)) ∧ w'.cell? ⟨(ad128.add ((x11_1).toNat * 4)).block, (ad128.add ((x11_1).toNat * 4)).off + 3, none⟩ = some (.int .i64 ((rd_T56 t124 x11_1).f3))) (ds := [17, 18]) #[ff,ff,ff,ff,ff,ff,ff,ff,ff,ff,ff,ff,ff,ff,ff,ff,ff,ff,ff,ff] (by kernel_rfl) rfl rfl ⟨hx137_0, hx137_1, hx137_2, hx137_3, hx138_0, hx138_1, hx138_2, hx138_3, hx139_0, hx139_1, hx139_2, hx139_3⟩ (fun hHeld => ?_); refine with_tabW spec_PartFrom.tab11 spec_PartFrom.bits11 (fun HT_ HW_ => ?_); generalize w25.drew = w26 at HO_9 HO136 HB hx137_0 hx137_1 hx137_2 hx137_3 hx138_0 hx138_1 hx138_2 hx138_3 hx139_0 hx139_1 hx139_2 hx139_3 hHeld ⊢
            refine pureM_ (i := 0) (N := some 53) #[tt,ff,ff,ff,ff,ff,ff,ff,ff,ff,ff,ff,ff,ff,ff,ff,ff,ff,ff,ff] rfl rfl ?_
            refine pureM_ (i := 1) (N := some 54) #[tt,tt,ff,ff,ff,ff,ff,ff,ff,ff,ff,ff,ff,ff,ff,ff,ff,ff,ff,ff] rfl rfl ?_
            refine pureM_ (i := 2) (N := some 55) #[tt,tt,tt,ff,ff,ff,ff,ff,ff,ff,ff,ff,ff,ff,ff,ff,ff,ff,ff,ff] rfl rfl ?_
            refine pureM_ (i := 3) (N := some 56) #[tt,tt,tt,tt,ff,ff,ff,ff,ff,ff,ff,ff,ff,ff,ff,ff,ff,ff,ff,ff] rfl rfl ?_
            refine pureM_ (i := 4) (N := some 57) #[tt,tt,tt,tt,tt,ff,ff,ff,ff,ff,ff,ff,ff,ff,ff,ff,ff,ff,ff,ff] rfl rfl ?_
            refine pureM_ (i := 6) (N := some 59) #[tt,tt,tt,tt,tt,ff,tt,ff,ff,ff,ff,ff,ff,ff,ff,ff,ff,ff,ff,ff] rfl rfl ?_
            refine pureM_ (i := 7) (N := some 60) #[tt,tt,tt,tt,tt,ff,tt,tt,ff,ff,ff,ff,ff,ff,ff,ff,ff,ff,ff,ff] rfl rfl ?_
            refine pureM_ (i := 8) (N := some 61) #[tt,tt,tt,tt,tt,ff,tt,tt,tt,ff,ff,ff,ff,ff,ff,ff,ff,ff,ff,ff] rfl rfl ?_
            refine pureM_ (i := 9) (N := some 62) #[tt,tt,tt,tt,tt,ff,tt,tt,tt,tt,ff,ff,ff,ff,ff,ff,ff,ff,ff,ff] rfl rfl ?_
            refine pureM_ (i := 11) (N := some 64) #[tt,tt,tt,tt,tt,ff,tt,tt,tt,tt,ff,tt,ff,ff,ff,ff,ff,ff,ff,ff] rfl rfl ?_
            refine pureM_ (i := 12) (N := some 65) #[tt,tt,tt,tt,tt,ff,tt,tt,tt,tt,ff,tt,tt,ff,ff,ff,ff,ff,ff,ff] rfl rfl ?_
            refine pureM_ (i := 13) (N := some 66) #[tt,tt,tt,tt,tt,ff,tt,tt,tt,tt,ff,tt,tt,tt,ff,ff,ff,ff,ff,ff] rfl rfl ?_
            refine pureM_ (i := 14) (N := some 67) #[tt,tt,tt,tt,tt,ff,tt,tt,tt,tt,ff,tt,tt,tt,tt,ff,ff,ff,ff,ff] rfl rfl ?_
            refine take_ (i := 5) (N := some 58) (v := ?_) (a' := ?_) #[tt,tt,tt,tt,tt,tt,tt,tt,tt,tt,ff,tt,tt,tt,tt,ff,ff,ff,ff,ff] rfl rfl (take_ofW HT_.out HW_.out (by kernel_rfl)) (fun _ _ _ h => h) (Or.inl ⟨by rfl, ?_⟩) hHeld ?_ ?_; rotate_left
            ·rintro w' ⟨s0, s1, s2, s3, s4, s5, s6, s7, s8, s9, s10, s11⟩; go_simp; (with_reducible rfl)
            rotate_left
            ·simp only [Act.put, List.setIfInBounds_toArray, List.set_cons_zero, List.set_cons_succ, i64_w, i32_w]; rfl
            refine take_ (i := 10) (N := some 63) (v := ?_) (a' := ?_) #[tt,tt,tt,tt,tt,tt,tt,tt,tt,tt,tt,tt,tt,tt,tt,ff,ff,ff,ff,ff] rfl rfl (take_ofW HT_.out HW_.out (by kernel_rfl)) (fun _ _ _ h => h) (Or.inl ⟨by rfl, ?_⟩) hHeld ?_ ?_; rotate_left
            ·rintro w' ⟨s0, s1, s2, s3, s4, s5, s6, s7, s8, s9, s10, s11⟩; go_simp; (with_reducible rfl)
            rotate_left
            ·simp only [Act.put, List.setIfInBounds_toArray, List.set_cons_zero, List.set_cons_succ, i64_w, i32_w]; rfl
            refine take_ (i := 15) (N := some 68) (v := ?_) (a' := ?_) #[tt,tt,tt,tt,tt,tt,tt,tt,tt,tt,tt,tt,tt,tt,tt,tt,ff,ff,ff,ff] rfl rfl (take_ofW HT_.out HW_.out (by kernel_rfl)) (fun _ _ _ h => h) (Or.inl ⟨by rfl, ?_⟩) hHeld ?_ ?_; rotate_left
            ·rintro w' ⟨s0, s1, s2, s3, s4, s5, s6, s7, s8, s9, s10, s11⟩; go_simp; (with_reducible rfl)
            rotate_left
            ·simp only [Act.put, List.setIfInBounds_toArray, List.set_cons_zero, List.set_cons_succ, i64_w, i32_w]; rfl
            refine pureM_ (i := 16) (N := some 69) #[tt,tt,tt,tt,tt,tt,tt,tt,tt,tt,tt,tt,tt,tt,tt,tt,tt,ff,ff,ff] rfl rfl ?_
            refine last_ (i := 17) (N := some 70) #[tt,tt,tt,tt,tt,tt,tt,tt,tt,tt,tt,tt,tt,tt,tt,tt,tt,tt,ff,ff] rfl rfl (one_of HT_.out (by kernel_rfl)) (by decide) (fun K hK => ?_); refine value_ (w1 := ?_) (v := ?_) (by rfl) rfl ?_ ?_; rotate_left 2
            ·go_simp; constructor
             ·rfl
             ·rfl
            refine hK.out _ _ ?_; clear hK K; refine norm_ (a' := ?_) ?_ ?_; rotate_left
            ·show Act.put _ (some 70) _ = _; simp only [Act.put, List.setIfInBounds_toArray, List.set_cons_zero, List.set_cons_succ, i64_w, i32_w]; rfl
            refine last_ (i := 18) (N := some 71) #[tt,tt,tt,tt,tt,tt,tt,tt,tt,tt,tt,tt,tt,tt,tt,tt,tt,tt,tt,ff] rfl rfl (one_of HT_.out (by kernel_rfl)) (by decide) (fun K hK => ?_); refine Kd.R_append_step k82 (w0 := w) w.heap.size (by rfl) (.tmp 53) (.tmp 70) 51 82 (.agg #[(.int .i64 0), (.int .i64 0), (.int .i64 0)]) 24 rfl Try.underlying51 info82 rfl (by decide) (by omega) v135 y134 (⟨(rd_T56 t124 x11_1).f0, (rd_T56 t124 x11_1).f1, (rd_T56 t124 x11_1).f2⟩ : S82) [.int .i64 ((rd_T56 t124 x11_1).f0), .int .i64 ((rd_T56 t124 x11_1).f1), .int .i64 ((rd_T56 t124 x11_1).f2)] (fun _ => True) (fun _ => False) rfl rfl ?aP (fun _ hk => hk.elim) ?aF ?aO ?aB ?aS ?aL ?_; (case aP => exact k82_mkM _ _ _ (⟨(rd_T56 t124 x11_1).f0, (rd_T56 t124 x11_1).f1, (rd_T56 t124 x11_1).f2⟩ : S82)); (case aB => exact bl_); (case aF => exact (fun _ _ => trivial)); (case aO => exact (by exact rw_ HO136.out)); (case aS => exact (below_size bl_)); (case aL => have := LMc23.out; omega); intro v141 w27 ho hb hg hat; rw [← Ny140.out] at ho; have n0_ := Aside0.mk (Kd.R_over' (by exact rw_ HO_9.out) (Kd.R_typed (by exact rw_ HO136.out)) (by decide) hg); have n1_ := Aside0.mk (hb); have n2_ := Aside0.mk (ho); clear HO_9; clear HB; clear HO136; have HO_9 := n0_; have HB := n1_; have HO142 := n2_; clear n0_ n1_ n2_; clear ho hb hg hat; refine hK.out _ _ ?_; clear hK K; refine norm_ (a' := ?_) ?_ ?_; rotate_left
            ·show Act.put _ (some 71) _ = _; simp only [Act.put, List.setIfInBounds_toArray, List.set_cons_zero, List.set_cons_succ, i64_w, i32_w]; rfl
            refine pureM_ (i := 19) (N := some 8) #[tt,tt,tt,tt,tt,tt,tt,tt,tt,tt,tt,tt,tt,tt,tt,tt,tt,tt,tt,tt] rfl rfl ?_
            refine done_ (done_of HT_.out (by kernel_rfl)) ?_; try go_wp2
            have n0_ := Aside0.mk (Kd.R_drew HO_9.out); have n1_ := Aside0.mk (Kd.R_drew HO142.out); have n2_ := Aside0.mk (below_drew1 HB.out); clear HO_9; clear HO142; clear HB; have HO_9 := n0_; have HO142 := n1_; have HB := n2_; clear n0_ n1_ n2_; have p143 : 0 ≤ (x11_1 : Int) := of_decide_eq_true (by first | (with_reducible assumption) | assumption); have q143 : x11_1 < (t124.length : Int) := of_decide_eq_true (by first | (with_reducible assumption) | assumption); obtain ⟨ad143, e143, hx143_0, hx143_1, hx143_2, hx143_3⟩ := at_T56 (Kd.R_reads' HO_9.out).2.2 x11_1 p143 q143; obtain rfl : ad128 = ad143 := (by injection e143)
            replace p143 := eq_true p143; replace q143 := eq_true q143; have p144 : 0 ≤ (x11_1 : Int) := of_decide_eq_true (by first | (with_reducible assumption) | assumption); have q144 : x11_1 < (t124.length : Int) := of_decide_eq_true (by first | (with_reducible assumption) | assumption); obtain ⟨ad144, e144, hx144_0, hx144_1, hx144_2, hx144_3⟩ := at_T56 (Kd.R_reads' HO_9.out).2.2 x11_1 p144 q144; obtain rfl : ad128 = ad144 := (by injection e144)
            replace p144 := eq_true p144; replace q144 := eq_true q144; refine start_ (n := 12) (S := fun w' => w'.cell? (ad128.add ((x11_1).toNat * 4)) = some (.int .i64 ((rd_T56 t124 x11_1).f0)) ∧ w'.cell? ⟨(ad128.add ((x11_1).toNat * 4)).block, (ad128.add ((x11_1).toNat * 4)).off + 1, none⟩ = some (.int .i64 ((rd_T56 t124 x11_1).f1)) ∧ w'.cell? ⟨(ad128.add ((x11_1).toNat * 4)).block, (ad128.add ((x11_1).toNat * 4)).off + 2, none⟩ = some (.int .i64 ((rd_T56 t124 x11_1).f2)) ∧ w'.cell? ⟨(ad128.add ((x11_1).toNat * 4)).block, (ad128.add ((x11_1).toNat * 4)).off + 3, none⟩ = some (.int .i64 ((rd_T56 t124 x11_1).f3)) ∧ w'.cell? (ad128.add ((x11_1).toNat * 4)) = some (.int .i64 ((rd_T56 t124 x11_1).f0)) ∧ w'.cell? ⟨(ad128.add ((x11_1).toNat * 4)).block, (ad128.add ((x11_1).toNat * 4)).off + 1, none⟩ = some (.int .i64 ((rd_T56 t124 x11_1).f1)) ∧ w'.cell? ⟨(ad128.add ((x11_1).toNat * 4)).block, (ad128.add ((x11_1).toNat * 4)).off + 2, none⟩ = some (.int .i64 ((rd_T56 t124 x11_1).f2)) ∧ w'.cell? ⟨(ad128.add ((x11_1).toNat * 4)).block, (ad128.add ((x11_1).toNat * 4)).off + 3, none⟩ = some (.int .i64 ((rd_T56 t124 x11_1).f3))) (ds := []) #[ff,ff,ff,ff,ff,ff,ff,ff,ff,ff,ff,ff] (by kernel_rfl) rfl rfl ⟨hx143_0, hx143_1, hx143_2, hx143_3, hx144_0, hx144_1, hx144_2, hx144_3⟩ (fun hHeld => ?_); refine with_tabW spec_PartFrom.tab12 spec_PartFrom.bits12 (fun HT_ HW_ => ?_); generalize w27.drew = w28 at HO_9 HO142 HB hx143_0 hx143_1 hx143_2 hx143_3 hx144_0 hx144_1 hx144_2 hx144_3 hHeld ⊢
            refine pureM_ (i := 0) (N := some 72) #[tt,ff,ff,ff,ff,ff,ff,ff,ff,ff,ff,ff] rfl rfl ?_
            refine pureM_ (i := 1) (N := some 73) #[tt,tt,ff,ff,ff,ff,ff,ff,ff,ff,ff,ff] rfl rfl ?_
            refine pureM_ (i := 2) (N := some 74) #[tt,tt,tt,ff,ff,ff,ff,ff,ff,ff,ff,ff] rfl rfl ?_
            refine pureM_ (i := 3) (N := some 75) #[tt,tt,tt,tt,ff,ff,ff,ff,ff,ff,ff,ff] rfl rfl ?_
            refine pureM_ (i := 5) (N := some 77) #[tt,tt,tt,tt,ff,tt,ff,ff,ff,ff,ff,ff] rfl rfl ?_
            refine pureM_ (i := 6) (N := some 78) #[tt,tt,tt,tt,ff,tt,tt,ff,ff,ff,ff,ff] rfl rfl ?_
            refine pureM_ (i := 7) (N := some 79) #[tt,tt,tt,tt,ff,tt,tt,tt,ff,ff,ff,ff] rfl rfl ?_
            refine pureM_ (i := 8) (N := some 80) #[tt,tt,tt,tt,ff,tt,tt,tt,tt,ff,ff,ff] rfl rfl ?_
            refine take_ (i := 4) (N := some 76) (v := ?_) (a' := ?_) #[tt,tt,tt,tt,tt,tt,tt,tt,tt,ff,ff,ff] rfl rfl (take_ofW HT_.out HW_.out (by kernel_rfl)) (fun _ _ _ h => h) (Or.inl ⟨by rfl, ?_⟩) hHeld ?_ ?_; rotate_left
            ·rintro w' ⟨s0, s1, s2, s3, s4, s5, s6, s7⟩; go_simp; (with_reducible rfl)
            rotate_left
            ·simp only [Act.put, List.setIfInBounds_toArray, List.set_cons_zero, List.set_cons_succ, i64_w, i32_w]; rfl
            refine take_ (i := 9) (N := some 81) (v := ?_) (a' := ?_) #[tt,tt,tt,tt,tt,tt,tt,tt,tt,tt,ff,ff] rfl rfl (take_ofW HT_.out HW_.out (by kernel_rfl)) (fun _ _ _ h => h) (Or.inl ⟨by rfl, ?_⟩) hHeld ?_ ?_; rotate_left
            ·rintro w' ⟨s0, s1, s2, s3, s4, s5, s6, s7⟩; go_simp; (with_reducible rfl)
            rotate_left
            ·simp only [Act.put, List.setIfInBounds_toArray, List.set_cons_zero, List.set_cons_succ, i64_w, i32_w]; rfl
            refine pureM_ (i := 10) (N := some 82) #[tt,tt,tt,tt,tt,tt,tt,tt,tt,tt,tt,ff] rfl rfl ?_
            refine pureM_ (i := 11) (N := some 10) #[tt,tt,tt,tt,tt,tt,tt,tt,tt,tt,tt,tt] rfl rfl ?_
            refine done_ (done_of HT_.out (by kernel_rfl)) ?_; try go_wp2
            go_roundg kj7
            case measure => have := HK1.out; have := HJ7.out; omega
            case rel => exact ⟨(y140), (wrap64 (((rd_T56 t124 x11_1).f0) + ((rd_T56 t124 x11_1).f1))), (wrap64 (x11_1 + 1)), (by first | rfl | (simp; done) | (simp [*]; done)), (by first | rfl | (simp; done) | (simp [*]; done)), H', ⟨by have := HK1.out; have := HJ7.out; omega⟩, ⟨by exact rw_ HO142.out⟩, ⟨by exact rw_ HO_9.out⟩, ⟨bl_⟩⟩
           ·rw [if_neg c23] at H; exact absurd H (by simp)
          ·rw [if_neg c22] at H; exact absurd H (by simp)
         ·rw [if_neg c21] at H; have c21b0 : decide (x10_1 < ((rd_T56 t124 x11_1).f0)) = false := decide_eq_false c21; clear c21; by_cases c29 : x8_1.length < 5864062014805
          ·rw [if_pos c29] at H; have LMc29 := Aside0.mk c29; clear c29; obtain ⟨y148, hy148⟩ : ∃ y_ : List (S82), y_ = (x8_1 ++ [(⟨(rd_T56 t124 x11_1).f0, (rd_T56 t124 x11_1).f1, (rd_T56 t124 x11_1).f2⟩ : S82)]) := ⟨_, rfl⟩; replace H : (spec_PartFrom.l0 kj7 l0 a2 y148 t124 (wrap64 (((rd_T56 t124 x11_1).f0) + ((rd_T56 t124 x11_1).f1))) (wrap64 (x11_1 + 1))) = some (r1, r2) := by first | (rw [hy148]; with_reducible exact H) | (have H2_ := (Option.bind_some _ _).symm.trans H; rw [hy148]; with_reducible exact H2_) | (have H2_ := (Option.bind_some _ _).symm.trans H; with_reducible exact H2_) | with_reducible exact H | (rw [hy148]; exact H) | exact H
           have Ny148 := Aside0.mk hy148; clear hy148; have H' := Aside0.mk H; clear H; obtain ⟨Ao30, co30, eo30⟩ := Kd.R_slice HO_9.out; subst eo30; have p128 : 0 ≤ (x11_1 : Int) := of_decide_eq_true (by first | (with_reducible assumption) | assumption); have q128 : x11_1 < (t124.length : Int) := of_decide_eq_true (by first | (with_reducible assumption) | assumption); obtain ⟨ad128, e128, hx128_0, hx128_1, hx128_2, hx128_3⟩ := at_T56 (Kd.R_reads' HO_9.out).2.2 x11_1 p128 q128
           cases e128; replace p128 := eq_true p128; replace q128 := eq_true q128; have p132 : 0 ≤ (x11_1 : Int) := of_decide_eq_true (by first | (with_reducible assumption) | assumption); have q132 : x11_1 < (t124.length : Int) := of_decide_eq_true (by first | (with_reducible assumption) | assumption); obtain ⟨ad132, e132, hx132_0, hx132_1, hx132_2, hx132_3⟩ := at_T56 (Kd.R_reads' HO_9.out).2.2 x11_1 p132 q132; obtain rfl : ad128 = ad132 := (by injection e132)
           replace p132 := eq_true p132; replace q132 := eq_true q132; try go_wp2
           have n0_ := Aside0.mk (Kd.R_drew HO_8.out); have n1_ := Aside0.mk (Kd.R_drew HO_9.out); have n2_ := Aside0.mk (below_drew1 HB.out); clear HO_8; clear HO_9; clear HB; have HO_8 := n0_; have HO_9 := n1_; have HB := n2_; clear n0_ n1_ n2_; have p145 : 0 ≤ (x11_1 : Int) := of_decide_eq_true (by first | (with_reducible assumption) | assumption); have q145 : x11_1 < (t124.length : Int) := of_decide_eq_true (by first | (with_reducible assumption) | assumption); obtain ⟨ad145, e145, hx145_0, hx145_1, hx145_2, hx145_3⟩ := at_T56 (Kd.R_reads' HO_9.out).2.2 x11_1 p145 q145; obtain rfl : ad128 = ad145 := (by injection e145)
           replace p145 := eq_true p145; replace q145 := eq_true q145; have p146 : 0 ≤ (x11_1 : Int) := of_decide_eq_true (by first | (with_reducible assumption) | assumption); have q146 : x11_1 < (t124.length : Int) := of_decide_eq_true (by first | (with_reducible assumption) | assumption); obtain ⟨ad146, e146, hx146_0, hx146_1, hx146_2, hx146_3⟩ := at_T56 (Kd.R_reads' HO_9.out).2.2 x11_1 p146 q146; obtain rfl : ad128 = ad146 := (by injection e146)
           replace p146 := eq_true p146; replace q146 := eq_true q146; have p147 : 0 ≤ (x11_1 : Int) := of_decide_eq_true (by first | (with_reducible assumption) | assumption); have q147 : x11_1 < (t124.length : Int) := of_decide_eq_true (by first | (with_reducible assumption) | assumption); obtain ⟨ad147, e147, hx147_0, hx147_1, hx147_2, hx147_3⟩ := at_T56 (Kd.R_reads' HO_9.out).2.2 x11_1 p147 q147; obtain rfl : ad128 = ad147 := (by injection e147)
           replace p147 := eq_true p147; replace q147 := eq_true q147; refine start_ (n := 20) (S := fun w' => w'.cell? (ad128.add ((x11_1).toNat * 4)) = some (.int .i64 ((rd_T56 t124 x11_1).f0)) ∧ w'.cell? ⟨(ad128.add ((x11_1).toNat * 4)).block, (ad128.add ((x11_1).toNat * 4)).off + 1, none⟩ = some (.int .i64 ((rd_T56 t124 x11_1).f1)) ∧ w'.cell? ⟨(ad128.add ((x11_1).toNat * 4)).block, (ad128.add ((x11_1).toNat * 4)).off + 2, none⟩ = some (.int .i64 ((rd_T56 t124 x11_1).f2)) ∧ w'.cell? ⟨(ad128.add ((x11_1).toNat * 4)).block, (ad128.add ((x11_1).toNat * 4)).off + 3, none⟩ = some (.int .i64 ((rd_T56 t124 x11_1).f3)) ∧ w'.cell? (ad128.add ((x11_1).toNat * 4)) = some (.int .i64 ((rd_T56 t124 x11_1).f0)) ∧ w'.cell? ⟨(ad128.add ((x11_1).toNat * 4)).block, (ad128.add ((x11_1).toNat * 4)).off + 1, none⟩ = some (.int .i64 ((rd_T56 t124 x11_1).f1)) ∧ w'.cell? ⟨(ad128.add ((x11_1).toNat * 4)).block, (ad128.add ((x11_1).toNat * 4)).off + 2, none⟩ = some (.int .i64 ((rd_T56 t124 x11_1).f2)) ∧ w'.cell? ⟨(ad128.add ((x11_1).toNat * 4)).block, (ad128.add ((x11_1).toNat * 4)).off + 3, none⟩ = some (.int .i64 ((rd_T56 t124 x11_1).f3)) ∧ w'.cell? (ad128.add ((x11_1).toNat * 4)) = some (.int .i64 ((rd_T56 t124 x11_1).f0)) ∧ w'.cell? ⟨(ad128.add ((x11_1).toNat * 4)).block, (ad128.add ((x11_1).toNat * 4)).off + 1, none⟩ = some (.int .i64 ((rd_T56 t124 x11_1).f1)) ∧ w'.cell? ⟨(ad128.add ((x11_1).toNat * 4)).block, (ad128.add ((x11_1).toNat * 4)).off + 2, none⟩ = some (.int .i64 ((rd_T56 t124 x11_1).f2)) ∧ w'.cell? ⟨(ad128.add ((x11_1).toNat * 4)).block, (ad128.add ((x11_1).toNat * 4)).off + 3, none⟩ = some (.int .i64 ((rd_T56 t124 x11_1).f3))) (ds := [17, 18]) #[ff,ff,ff,ff,ff,ff,ff,ff,ff,ff,ff,ff,ff,ff,ff,ff,ff,ff,ff,ff] (by kernel_rfl) rfl rfl ⟨hx145_0, hx145_1, hx145_2, hx145_3, hx146_0, hx146_1, hx146_2, hx146_3, hx147_0, hx147_1, hx147_2, hx147_3⟩ (fun hHeld => ?_); refine with_tabW spec_PartFrom.tab11 spec_PartFrom.bits11 (fun HT_ HW_ => ?_); generalize wc.drew = w31 at HO_8 HO_9 HB hx145_0 hx145_1 hx145_2 hx145_3 hx146_0 hx146_1 hx146_2 hx146_3 hx147_0 hx147_1 hx147_2 hx147_3 hHeld ⊢
           refine pureM_ (i := 0) (N := some 53) #[tt,ff,ff,ff,ff,ff,ff,ff,ff,ff,ff,ff,ff,ff,ff,ff,ff,ff,ff,ff] rfl rfl ?_
           refine pureM_ (i := 1) (N := some 54) #[tt,tt,ff,ff,ff,ff,ff,ff,ff,ff,ff,ff,ff,ff,ff,ff,ff,ff,ff,ff] rfl rfl ?_
           refine pureM_ (i := 2) (N := some 55) #[tt,tt,tt,ff,ff,ff,ff,ff,ff,ff,ff,ff,ff,ff,ff,ff,ff,ff,ff,ff] rfl rfl ?_
           refine pureM_ (i := 3) (N := some 56) #[tt,tt,tt,tt,ff,ff,ff,ff,ff,ff,ff,ff,ff,ff,ff,ff,ff,ff,ff,ff] rfl rfl ?_
           refine pureM_ (i := 4) (N := some 57) #[tt,tt,tt,tt,tt,ff,ff,ff,ff,ff,ff,ff,ff,ff,ff,ff,ff,ff,ff,ff] rfl rfl ?_
           refine pureM_ (i := 6) (N := some 59) #[tt,tt,tt,tt,tt,ff,tt,ff,ff,ff,ff,ff,ff,ff,ff,ff,ff,ff,ff,ff] rfl rfl ?_
           refine pureM_ (i := 7) (N := some 60) #[tt,tt,tt,tt,tt,ff,tt,tt,ff,ff,ff,ff,ff,ff,ff,ff,ff,ff,ff,ff] rfl rfl ?_
           refine pureM_ (i := 8) (N := some 61) #[tt,tt,tt,tt,tt,ff,tt,tt,tt,ff,ff,ff,ff,ff,ff,ff,ff,ff,ff,ff] rfl rfl ?_
           refine pureM_ (i := 9) (N := some 62) #[tt,tt,tt,tt,tt,ff,tt,tt,tt,tt,ff,ff,ff,ff,ff,ff,ff,ff,ff,ff] rfl rfl ?_
           refine pureM_ (i := 11) (N := some 64) #[tt,tt,tt,tt,tt,ff,tt,tt,tt,tt,ff,tt,ff,ff,ff,ff,ff,ff,ff,ff] rfl rfl ?_
           refine pureM_ (i := 12) (N := some 65) #[tt,tt,tt,tt,tt,ff,tt,tt,tt,tt,ff,tt,tt,ff,ff,ff,ff,ff,ff,ff] rfl rfl ?_
           refine pureM_ (i := 13) (N := some 66) #[tt,tt,tt,tt,tt,ff,tt,tt,tt,tt,ff,tt,tt,tt,ff,ff,ff,ff,ff,ff] rfl rfl ?_
           refine pureM_ (i := 14) (N := some 67) #[tt,tt,tt,tt,tt,ff,tt,tt,tt,tt,ff,tt,tt,tt,tt,ff,ff,ff,ff,ff] rfl rfl ?_
           refine take_ (i := 5) (N := some 58) (v := ?_) (a' := ?_) #[tt,tt,tt,tt,tt,tt,tt,tt,tt,tt,ff,tt,tt,tt,tt,ff,ff,ff,ff,ff] rfl rfl (take_ofW HT_.out HW_.out (by kernel_rfl)) (fun _ _ _ h => h) (Or.inl ⟨by rfl, ?_⟩) hHeld ?_ ?_; rotate_left
           ·rintro w' ⟨s0, s1, s2, s3, s4, s5, s6, s7, s8, s9, s10, s11⟩; go_simp; (with_reducible rfl)
           rotate_left
           ·simp only [Act.put, List.setIfInBounds_toArray, List.set_cons_zero, List.set_cons_succ, i64_w, i32_w]; rfl
           refine take_ (i := 10) (N := some 63) (v := ?_) (a' := ?_) #[tt,tt,tt,tt,tt,tt,tt,tt,tt,tt,tt,tt,tt,tt,tt,ff,ff,ff,ff,ff] rfl rfl (take_ofW HT_.out HW_.out (by kernel_rfl)) (fun _ _ _ h => h) (Or.inl ⟨by rfl, ?_⟩) hHeld ?_ ?_; rotate_left
           ·rintro w' ⟨s0, s1, s2, s3, s4, s5, s6, s7, s8, s9, s10, s11⟩; go_simp; (with_reducible rfl)
           rotate_left
           ·simp only [Act.put, List.setIfInBounds_toArray, List.set_cons_zero, List.set_cons_succ, i64_w, i32_w]; rfl
           refine take_ (i := 15) (N := some 68) (v := ?_) (a' := ?_) #[tt,tt,tt,tt,tt,tt,tt,tt,tt,tt,tt,tt,tt,tt,tt,tt,ff,ff,ff,ff] rfl rfl (take_ofW HT_.out HW_.out (by kernel_rfl)) (fun _ _ _ h => h) (Or.inl ⟨by rfl, ?_⟩) hHeld ?_ ?_; rotate_left
           ·rintro w' ⟨s0, s1, s2, s3, s4, s5, s6, s7, s8, s9, s10, s11⟩; go_simp; (with_reducible rfl)
           rotate_left
           ·simp only [Act.put, List.setIfInBounds_toArray, List.set_cons_zero, List.set_cons_succ, i64_w, i32_w]; rfl
           refine pureM_ (i := 16) (N := some 69) #[tt,tt,tt,tt,tt,tt,tt,tt,tt,tt,tt,tt,tt,tt,tt,tt,tt,ff,ff,ff] rfl rfl ?_
           refine last_ (i := 17) (N := some 70) #[tt,tt,tt,tt,tt,tt,tt,tt,tt,tt,tt,tt,tt,tt,tt,tt,tt,tt,ff,ff] rfl rfl (one_of HT_.out (by kernel_rfl)) (by decide) (fun K hK => ?_); refine value_ (w1 := ?_) (v := ?_) (by rfl) rfl ?_ ?_; rotate_left 2
           ·go_simp; constructor
            ·rfl
            ·rfl
           refine hK.out _ _ ?_; clear hK K; refine norm_ (a' := ?_) ?_ ?_; rotate_left
           ·show Act.put _ (some 70) _ = _; simp only [Act.put, List.setIfInBounds_toArray, List.set_cons_zero, List.set_cons_succ, i64_w, i32_w]; rfl
           refine last_ (i := 18) (N := some 71) #[tt,tt,tt,tt,tt,tt,tt,tt,tt,tt,tt,tt,tt,tt,tt,tt,tt,tt,tt,ff] rfl rfl (one_of HT_.out (by kernel_rfl)) (by decide) (fun K hK => ?_); refine Kd.R_append_step k82 (w0 := w) w.heap.size (by rfl) (.tmp 53) (.tmp 70) 51 82 (.agg #[(.int .i64 0), (.int .i64 0), (.int .i64 0)]) 24 rfl Try.underlying51 info82 rfl (by decide) (by omega) u8 x8_1 (⟨(rd_T56 t124 x11_1).f0, (rd_T56 t124 x11_1).f1, (rd_T56 t124 x11_1).f2⟩ : S82) [.int .i64 ((rd_T56 t124 x11_1).f0), .int .i64 ((rd_T56 t124 x11_1).f1), .int .i64 ((rd_T56 t124 x11_1).f2)] (fun _ => True) (fun _ => False) rfl rfl ?aP (fun _ hk => hk.elim) ?aF ?aO ?aB ?aS ?aL ?_; (case aP => exact k82_mkM _ _ _ (⟨(rd_T56 t124 x11_1).f0, (rd_T56 t124 x11_1).f1, (rd_T56 t124 x11_1).f2⟩ : S82)); (case aB => exact bl_); (case aF => exact (fun _ _ => trivial)); (case aO => exact (by exact rw_ HO_8.out)); (case aS => exact (below_size bl_)); (case aL => have := LMc29.out; omega); intro v149 w32 ho hb hg hat; rw [← Ny148.out] at ho; have n0_ := Aside0.mk (Kd.R_over' (by exact rw_ HO_9.out) (Kd.R_typed (by exact rw_ HO_8.out)) (by decide) hg); have n1_ := Aside0.mk (hb); have n2_ := Aside0.mk (ho); clear HO_9; clear HB; clear HO_8; have HO_9 := n0_; have HB := n1_; have HO150 := n2_; clear n0_ n1_ n2_; clear ho hb hg hat; refine hK.out _ _ ?_; clear hK K; refine norm_ (a' := ?_) ?_ ?_; rotate_left
           ·show Act.put _ (some 71) _ = _; simp only [Act.put, List.setIfInBounds_toArray, List.set_cons_zero, List.set_cons_succ, i64_w, i32_w]; rfl
           refine pureM_ (i := 19) (N := some 8) #[tt,tt,tt,tt,tt,tt,tt,tt,tt,tt,tt,tt,tt,tt,tt,tt,tt,tt,tt,tt] rfl rfl ?_
           refine done_ (done_of HT_.out (by kernel_rfl)) ?_; try go_wp2
           have n0_ := Aside0.mk (Kd.R_drew HO_9.out); have n1_ := Aside0.mk (Kd.R_drew HO150.out); have n2_ := Aside0.mk (below_drew1 HB.out); clear HO_9; clear HO150; clear HB; have HO_9 := n0_; have HO150 := n1_; have HB := n2_; clear n0_ n1_ n2_; have p151 : 0 ≤ (x11_1 : Int) := of_decide_eq_true (by first | (with_reducible assumption) | assumption); have q151 : x11_1 < (t124.length : Int) := of_decide_eq_true (by first | (with_reducible assumption) | assumption); obtain ⟨ad151, e151, hx151_0, hx151_1, hx151_2, hx151_3⟩ := at_T56 (Kd.R_reads' HO_9.out).2.2 x11_1 p151 q151; obtain rfl : ad128 = ad151 := (by injection e151)
           replace p151 := eq_true p151; replace q151 := eq_true q151; have p152 : 0 ≤ (x11_1 : Int) := of_decide_eq_true (by first | (with_reducible assumption) | assumption); have q152 : x11_1 < (t124.length : Int) := of_decide_eq_true (by first | (with_reducible assumption) | assumption); obtain ⟨ad152, e152, hx152_0, hx152_1, hx152_2, hx152_3⟩ := at_T56 (Kd.R_reads' HO_9.out).2.2 x11_1 p152 q152; obtain rfl : ad128 = ad152 := (by injection e152)
           replace p152 := eq_true p152; replace q152 := eq_true q152; refine start_ (n := 12) (S := fun w' => w'.cell? (ad128.add ((x11_1).toNat * 4)) = some (.int .i64 ((rd_T56 t124 x11_1).f0)) ∧ w'.cell? ⟨(ad128.add ((x11_1).toNat * 4)).block, (ad128.add ((x11_1).toNat * 4)).off + 1, none⟩ = some (.int .i64 ((rd_T56 t124 x11_1).f1)) ∧ w'.cell? ⟨(ad128.add ((x11_1).toNat * 4)).block, (ad128.add ((x11_1).toNat * 4)).off + 2, none⟩ = some (.int .i64 ((rd_T56 t124 x11_1).f2)) ∧ w'.cell? ⟨(ad128.add ((x11_1).toNat * 4)).block, (ad128.add ((x11_1).toNat * 4)).off + 3, none⟩ = some (.int .i64 ((rd_T56 t124 x11_1).f3)) ∧ w'.cell? (ad128.add ((x11_1).toNat * 4)) = some (.int .i64 ((rd_T56 t124 x11_1).f0)) ∧ w'.cell? ⟨(ad128.add ((x11_1).toNat * 4)).block, (ad128.add ((x11_1).toNat * 4)).off + 1, none⟩ = some (.int .i64 ((rd_T56 t124 x11_1).f1)) ∧ w'.cell? ⟨(ad128.add ((x11_1).toNat * 4)).block, (ad128.add ((x11_1).toNat * 4)).off + 2, none⟩ = some (.int .i64 ((rd_T56 t124 x11_1).f2)) ∧ w'.cell? ⟨(ad128.add ((x11_1).toNat * 4)).block, (ad128.add ((x11_1).toNat * 4)).off + 3, none⟩ = some (.int .i64 ((rd_T56 t124 x11_1).f3))) (ds := []) #[ff,ff,ff,ff,ff,ff,ff,ff,ff,ff,ff,ff] (by kernel_rfl) rfl rfl ⟨hx151_0, hx151_1, hx151_2, hx151_3, hx152_0, hx152_1, hx152_2, hx152_3⟩ (fun hHeld => ?_); refine with_tabW spec_PartFrom.tab12 spec_PartFrom.bits12 (fun HT_ HW_ => ?_); generalize w32.drew = w33 at HO_9 HO150 HB hx151_0 hx151_1 hx151_2 hx151_3 hx152_0 hx152_1 hx152_2 hx152_3 hHeld ⊢
           refine pureM_ (i := 0) (N := some 72) #[tt,ff,ff,ff,ff,ff,ff,ff,ff,ff,ff,ff] rfl rfl ?_
           refine pureM_ (i := 1) (N := some 73) #[tt,tt,ff,ff,ff,ff,ff,ff,ff,ff,ff,ff] rfl rfl ?_
           refine pureM_ (i := 2) (N := some 74) #[tt,tt,tt,ff,ff,ff,ff,ff,ff,ff,ff,ff] rfl rfl ?_
           refine pureM_ (i := 3) (N := some 75) #[tt,tt,tt,tt,ff,ff,ff,ff,ff,ff,ff,ff] rfl rfl ?_
           refine pureM_ (i := 5) (N := some 77) #[tt,tt,tt,tt,ff,tt,ff,ff,ff,ff,ff,ff] rfl rfl ?_
           refine pureM_ (i := 6) (N := some 78) #[tt,tt,tt,tt,ff,tt,tt,ff,ff,ff,ff,ff] rfl rfl ?_
           refine pureM_ (i := 7) (N := some 79) #[tt,tt,tt,tt,ff,tt,tt,tt,ff,ff,ff,ff] rfl rfl ?_
           refine pureM_ (i := 8) (N := some 80) #[tt,tt,tt,tt,ff,tt,tt,tt,tt,ff,ff,ff] rfl rfl ?_
           refine take_ (i := 4) (N := some 76) (v := ?_) (a' := ?_) #[tt,tt,tt,tt,tt,tt,tt,tt,tt,ff,ff,ff] rfl rfl (take_ofW HT_.out HW_.out (by kernel_rfl)) (fun _ _ _ h => h) (Or.inl ⟨by rfl, ?_⟩) hHeld ?_ ?_; rotate_left
           ·rintro w' ⟨s0, s1, s2, s3, s4, s5, s6, s7⟩; go_simp; (with_reducible rfl)
           rotate_left
           ·simp only [Act.put, List.setIfInBounds_toArray, List.set_cons_zero, List.set_cons_succ, i64_w, i32_w]; rfl
           refine take_ (i := 9) (N := some 81) (v := ?_) (a' := ?_) #[tt,tt,tt,tt,tt,tt,tt,tt,tt,tt,ff,ff] rfl rfl (take_ofW HT_.out HW_.out (by kernel_rfl)) (fun _ _ _ h => h) (Or.inl ⟨by rfl, ?_⟩) hHeld ?_ ?_; rotate_left
           ·rintro w' ⟨s0, s1, s2, s3, s4, s5, s6, s7⟩; go_simp; (with_reducible rfl)
           rotate_left
           ·simp only [Act.put, List.setIfInBounds_toArray, List.set_cons_zero, List.set_cons_succ, i64_w, i32_w]; rfl
           refine pureM_ (i := 10) (N := some 82) #[tt,tt,tt,tt,tt,tt,tt,tt,tt,tt,tt,ff] rfl rfl ?_
           refine pureM_ (i := 11) (N := some 10) #[tt,tt,tt,tt,tt,tt,tt,tt,tt,tt,tt,tt] rfl rfl ?_
           refine done_ (done_of HT_.out (by kernel_rfl)) ?_; try go_wp2
           go_roundg kj7
           case measure => have := HK1.out; have := HJ7.out; omega
           case rel => exact ⟨(y148), (wrap64 (((rd_T56 t124 x11_1).f0) + ((rd_T56 t124 x11_1).f1))), (wrap64 (x11_1 + 1)), (by first | rfl | (simp; done) | (simp [*]; done)), (by first | rfl | (simp; done) | (simp [*]; done)), H', ⟨by have := HK1.out; have := HJ7.out; omega⟩, ⟨by exact rw_ HO150.out⟩, ⟨by exact rw_ HO_9.out⟩, ⟨bl_⟩⟩
          ·rw [if_neg c29] at H; exact absurd H (by simp)
       ·rw [if_neg c16] at H; exact absurd H (by simp)
      ·rw [if_neg c15] at H; exact absurd H (by simp)
     ·replace c14 := Bool.eq_false_iff.mpr c14; subst c14; rw [if_neg (show ¬ (false = true) by decide)] at H; have HC34 := Aside0.mk H; clear H; go_upto_region 13 with (fail)
      go_cut [94] (fun v94 wc => ∃ (kq : Nat) (x94_33 : Bool), v94 = .bool x94_33 ∧ Aside0 (spec_PartFrom.j2 kq a2 x8_1 x10_1 x94_33 = some (r1, r2)) ∧ Aside0 (kq ≤ kj7) ∧ Aside0 (Kd.R k82 82 wc w.heap.size (fun _ => True) u8 x8_1) ∧ Aside0 (Below w.heap.size w wc))
      case first =>
       have H := HC34.out; clear HC34; replace H := Option.bind_eq_some_iff.mp H; obtain ⟨t153, A350, H⟩ := H; (try dsimp only at H); have A35 := Aside0.mk A350; clear A350; by_cases c36 : t153 = true
       ·subst c36; rw [if_pos rfl] at H; by_cases c37 : a2 < x10_1
        ·rw [if_pos c37] at H; have c37b0 : decide (a2 < x10_1) = true := decide_eq_true c37; clear c37; (first | rw [c37b0] | (simp only [i64_w, i32_w]; rw [c37b0]) | skip); have H' := Aside0.mk H; clear H; go_wp2_with (first | ((with_reducible refine gate_callee (f := 30) rfl ?_); refine goesM_ (some 84) rfl rfl Try.func30 (by kernel_rfl) rfl #[.slice A0 l0.length c0] rfl ?_; (with_reducible refine (spec_IsScore.calls kj7 _ _ l0 true _ ?side1 ?side2 A35.out).mono ?_); (case side1 => exact cw_ (Kd.C_below HR0.out HB.out)); (case side2 => exact HC0.out); rintro e w38 ⟨rfl, hb⟩; refine ⟨_, rfl, ?_⟩; have n0_ := Aside0.mk (Kd.R_below (by exact rw_ HO_8.out) hb); have n1_ := Aside0.mk (Kd.R_below (by exact rw_ HO_9.out) hb); have n2_ := Aside0.mk (below_step bl_ hb); clear HO_8; clear HO_9; clear HB; have HO_8 := n0_; have HO_9 := n1_; have HB := n2_; clear n0_ n1_ n2_; (try clear hb); (try clear hb2); (try clear hk); (try clear hi))); go_meet
         case rel => exact ⟨_, (true), (by first | rfl | (simp; done) | (simp [*]; done)), H', ⟨by have := HK1.out; have := HJ7.out; first | omega | exact Nat.le_refl _⟩, ⟨by exact rw_ HO_8.out⟩, ⟨bl_⟩⟩
        ·rw [if_neg c37] at H; have c37b0 : decide (a2 < x10_1) = false := decide_eq_false c37; clear c37; (first | rw [c37b0] | (simp only [i64_w, i32_w]; rw [c37b0]) | skip); have H' := Aside0.mk H; clear H; go_wp2_with (first | ((with_reducible refine gate_callee (f := 30) rfl ?_); refine goesM_ (some 84) rfl rfl Try.func30 (by kernel_rfl) rfl #[.slice A0 l0.length c0] rfl ?_; (with_reducible refine (spec_IsScore.calls kj7 _ _ l0 true _ ?side1 ?side2 A35.out).mono ?_); (case side1 => exact cw_ (Kd.C_below HR0.out HB.out)); (case side2 => exact HC0.out); rintro e w39 ⟨rfl, hb⟩; refine ⟨_, rfl, ?_⟩; have n0_ := Aside0.mk (Kd.R_below (by exact rw_ HO_8.out) hb); have n1_ := Aside0.mk (Kd.R_below (by exact rw_ HO_9.out) hb); have n2_ := Aside0.mk (below_step bl_ hb); clear HO_8; clear HO_9; clear HB; have HO_8 := n0_; have HO_9 := n1_; have HB := n2_; clear n0_ n1_ n2_; (try clear hb); (try clear hb2); (try clear hk); (try clear hi))); go_meet
         case rel => exact ⟨_, (decide (a2 > 2096)), (by first | rfl | (simp; done) | (simp [*]; done)), H', ⟨by have := HK1.out; have := HJ7.out; first | omega | exact Nat.le_refl _⟩, ⟨by exact rw_ HO_8.out⟩, ⟨bl_⟩⟩
       ·replace c36 := Bool.eq_false_iff.mpr c36; subst c36; rw [if_neg (show ¬ (false = true) by decide)] at H; have H' := Aside0.mk H; clear H; go_wp2_with (first | ((with_reducible refine gate_callee (f := 30) rfl ?_); refine goesM_ (some 84) rfl rfl Try.func30 (by kernel_rfl) rfl #[.slice A0 l0.length c0] rfl ?_; (with_reducible refine (spec_IsScore.calls kj7 _ _ l0 false _ ?side1 ?side2 A35.out).mono ?_); (case side1 => exact cw_ (Kd.C_below HR0.out HB.out)); (case side2 => exact HC0.out); rintro e w40 ⟨rfl, hb⟩; refine ⟨_, rfl, ?_⟩; have n0_ := Aside0.mk (Kd.R_below (by exact rw_ HO_8.out) hb); have n1_ := Aside0.mk (Kd.R_below (by exact rw_ HO_9.out) hb); have n2_ := Aside0.mk (below_step bl_ hb); clear HO_8; clear HO_9; clear HB; have HO_8 := n0_; have HO_9 := n1_; have HB := n2_; clear n0_ n1_ n2_; (try clear hb); (try clear hb2); (try clear hk); (try clear hi))); go_meet
        case rel => exact ⟨_, (true), (by first | rfl | (simp; done) | (simp [*]; done)), H', ⟨by have := HK1.out; have := HJ7.out; first | omega | exact Nat.le_refl _⟩, ⟨by exact rw_ HO_8.out⟩, ⟨bl_⟩⟩
      case rest =>
       clear HC34; try clear c1
       try clear p1
       try clear q1
       try clear hx1
       try clear c2
       try clear p2
       try clear c3
       try clear p6
       try clear p12
       try clear q12
       try clear hx12
       try clear p13
       try clear q13
       try clear hx13
       try clear c14
       try clear p14
       try clear q14
       try clear hx14
       try clear c15
       try clear p15
       try clear q15
       try clear hx15
       try clear c16
       try clear c21
       try clear c21b0
       try clear c22
       try clear c23
       try clear c29
       try clear c30
       try clear c36
       try clear c37
       try clear c37b0
       try clear hx128_0
       try clear hx128_1
       try clear hx128_2
       try clear hx128_3
       try clear hx132_0
       try clear hx132_1
       try clear hx132_2
       try clear hx132_3
       try clear hx143_0
       try clear hx143_1
       try clear hx143_2
       try clear hx143_3
       try clear hx144_0
       try clear hx144_1
       try clear hx144_2
       try clear hx144_3
       try clear hx145_0
       try clear hx145_1
       try clear hx145_2
       try clear hx145_3
       try clear hx146_0
       try clear hx146_1
       try clear hx146_2
       try clear hx146_3
       try clear hx147_0
       try clear hx147_1
       try clear hx147_2
       try clear hx147_3
       try clear hx151_0
       try clear hx151_1
       try clear hx151_2
       try clear hx151_3
       try clear hx152_0
       try clear hx152_1
       try clear hx152_2
       try clear hx152_3
       try clear p128
       try clear p132
       try clear p143
       try clear p144
       try clear p145
       try clear p146
       try clear p147
       try clear p151
       try clear p152
       try clear q128
       try clear q132
       try clear q143
       try clear q144
       try clear q145
       try clear q146
       try clear q147
       try clear q151
       try clear q152
       obtain ⟨kq, x94_33, rfl, HA, HJ33, HO_8, HB⟩ := hcut
       cases kq with
       | zero => exact absurd HA.out (by simp [spec_PartFrom.j2])
       | succ kj33 =>
        have H := HA.out; clear HA; simp only [spec_PartFrom.j2] at H; by_cases c41 : x94_33 = true
        ·subst c41; rw [if_pos rfl] at H; obtain ⟨y154, hy154⟩ : ∃ y_ : List (S82), y_ = (([] : List (S82))) := ⟨_, rfl⟩; replace H : (some (y154, false)) = some (r1, r2) := by first | (rw [hy154]; with_reducible exact H) | (have H2_ := (Option.bind_some _ _).symm.trans H; rw [hy154]; with_reducible exact H2_) | (have H2_ := (Option.bind_some _ _).symm.trans H; with_reducible exact H2_) | with_reducible exact H | (rw [hy154]; exact H) | exact H
         have Ny154 := Aside0.mk hy154; clear hy154; simp only [Option.some.injEq, Prod.mk.injEq] at H; obtain ⟨rfl, rfl⟩ := H; go_wp2_with (first | ((with_reducible refine gate_dst (N := 95) rfl ?_); refine Kd.R_lit k82 _ 82 ?hg (N := 95) ?hd (xs := ([] : List (S82))) (inner := []) (ok := fun _ => True) (okp := fun _ => True) ?hr ?hp (fun _ hk => hk) trivial (Below.refl _ _) (Nat.le_refl _) (by simp) ?_; (case hd => rfl); (case hg => rfl); (case hr => first | (go_simp; done) | (go_simp; rfl)); (case hp => exact (Reps.none _ _)); intro v155 w42 ho43 hb hg_ hnew_; clear hg_ hnew_; (first | rw [← Ny154.out] at ho43 | (simp only [Int.reduceToNat] at ho43; rw [← Ny154.out] at ho43)); have n0_ := Aside0.mk (Kd.R_elder' (by exact rw_ HO_8.out) (Kd.R_base ho43) hb); have n1_ := Aside0.mk (Kd.R_lower (Kd.R_new' ho43 (Kd.R_lt (by exact rw_ HO_8.out))) (below_size bl_)); have n2_ := Aside0.mk (below_step bl_ hb); clear HO_8; clear HB; have HO_8 := n0_; have HO156 := n1_; have HB := n2_; clear n0_ n1_ n2_; clear hb ho43)); go_ret2; exact ⟨_, by first | rfl | (simp [errW_none, errW_some] <;> rfl) | (simp [*, errW_none, errW_some] <;> rfl), by (with_reducible repeat (first | apply Kd.R_alloc | apply Kd.R_drewN | apply Kd.R_drew)); exact Kd.R_mono HO156.out (fun _ hk => trivial), bl_⟩
        ·replace c41 := Bool.eq_false_iff.mpr c41; subst c41; rw [if_neg (show ¬ (false = true) by decide)] at H; by_cases c44 : a2 > x10_1
         ·rw [if_pos c44] at H; have c44b0 : decide (x10_1 < a2) = true := decide_eq_true c44; clear c44; by_cases c45 : x8_1.length < 5864062014805
          ·rw [if_pos c45] at H; have LMc45 := Aside0.mk c45; clear c45; obtain ⟨y157, hy157⟩ : ∃ y_ : List (S82), y_ = (x8_1 ++ [(⟨x10_1, wrap64 (a2 - x10_1), 0⟩ : S82)]) := ⟨_, rfl⟩; replace H : (some (y157, true)) = some (r1, r2) := by first | (rw [hy157]; with_reducible exact H) | (have H2_ := (Option.bind_some _ _).symm.trans H; rw [hy157]; with_reducible exact H2_) | (have H2_ := (Option.bind_some _ _).symm.trans H; with_reducible exact H2_) | with_reducible exact H | (rw [hy157]; exact H) | exact H
           have Ny157 := Aside0.mk hy157; clear hy157; simp only [Option.some.injEq, Prod.mk.injEq] at H; obtain ⟨rfl, rfl⟩ := H; go_wp2_with (first | ((with_reducible refine gate_builtin (b := .append) (xs := #[.tmp 99, .tmp 105]) rfl ?_); at_builtin; refine Kd.R_append k82 (w0 := w) w.heap.size rfl (.tmp 99) (.tmp 105) 51 82 (.agg #[(.int .i64 0), (.int .i64 0), (.int .i64 0)]) 24 rfl Try.underlying51 info82 rfl (by decide) (by omega) u8 x8_1 (⟨x10_1, wrap64 (a2 - x10_1), 0⟩ : S82) [.int .i64 x10_1, .int .i64 (wrap64 (a2 - x10_1)), .int .i64 0] (fun _ => True) (fun _ => False) rfl rfl ?aP (fun _ hk => hk.elim) ?aF ?aO ?aB ?aS ?aL ?_; (case aP => exact k82_mkM _ _ _ (⟨x10_1, wrap64 (a2 - x10_1), 0⟩ : S82)); (case aB => exact bl_); (case aF => exact (fun _ _ => trivial)); (case aO => exact (by exact rw_ HO_8.out)); (case aS => exact (below_size bl_)); (case aL => have := LMc45.out; omega); intro v158 w46 ho hb hg hat; rw [← Ny157.out] at ho; have n0_ := Aside0.mk (hb); have n1_ := Aside0.mk (ho); clear HB; clear HO_8; have HB := n0_; have HO159 := n1_; clear n0_ n1_; clear ho hb hg hat)); go_ret2; exact ⟨_, by first | rfl | (simp [errW_none, errW_some] <;> rfl) | (simp [*, errW_none, errW_some] <;> rfl), by exact rw_ HO159.out, bl_⟩
          ·rw [if_neg c45] at H; exact absurd H (by simp)
         ·rw [if_neg c44] at H; have c44b0 : decide (x10_1 < a2) = false := decide_eq_false c44; clear c44; simp only [Option.some.injEq, Prod.mk.injEq] at H; obtain ⟨rfl, rfl⟩ := H; go_wp2; go_ret2; exact ⟨_, by first | rfl | (simp [errW_none, errW_some] <;> rfl) | (simp [*, errW_none, errW_some] <;> rfl), by exact rw_ HO_8.out, bl_⟩

end Go.Proofs.Ytoebmmbpfapgaaa.QFnExactCopyParts
