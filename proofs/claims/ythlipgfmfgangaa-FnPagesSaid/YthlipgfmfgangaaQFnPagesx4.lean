/- Plain functions for the Go functions that the law FnPages reaches, and for each the proof that the call answers as the plain function says; printed by a program of this session. -/
import Derived.Test.YthlipgfmfgangaaQFnPagesx0
import Derived.Test.YthlipgfmfgangaaQFnPagesx3
namespace Go.Proofs.Ythlipgfmfgangaa.QFnPages
open Go.RowKit Go.Proofs.YthlipgfmfgangaaW.PrintWords Go.Proofs.YthlipgfmfgangaaW.PrintLast Go.Proofs.YthlipgfmfgangaaW.PrintMore
attribute [local go_sem] max2_int min2_int max_two min_two max_three min_three max_four min_four   -- for this text's walks alone
set_option linter.unusedVariables false
set_option linter.unusedSimpArgs false

/-! ### impl_PageBreaks: function 17 -/
mutual
def impl_PageBreaks.j0 : Nat → List Bool → Int → Int → Bool → Option (List Int × Bool)
 | 0, _, _, _, _ => none
 | k + 1, x0, x1, x6, x21 => if x21 = true then (some ((([] : List Int)), false)) else (if 0 ≤ (wrap64 (x6 + 1)) then (if (wrap64 (x6 + 1) : Int).toNat ≤ 35184372088832 then (impl_PageBreaks.l0 k x0 x1 x6 (List.replicate (wrap64 (x6 + 1) : Int).toNat 0) x6) else (none)) else (none))
def impl_PageBreaks.l0 : Nat → List Bool → Int → Int → List Int → Int → Option (List Int × Bool)
 | 0, _, _, _, _, _ => none
 | k + 1, x0, x1, x6, x7, x8 => if x8 ≥ 0 then (if (wrap64 (x6 - x8)) ≤ x1 then (if 0 ≤ x8 then (if x8 < (x7.length : Int) then (impl_PageBreaks.l0 k x0 x1 x6 (x7.set (x8 : Int).toNat 1) (wrap64 (x8 - 1))) else (none)) else (none)) else (impl_PageBreaks.l1 k x0 x1 x6 x7 x8 (wrap64 (x8 + 1)))) else ((some (([] : List Int) : List Int)).bind fun y147 => (if 0 < (x7.length : Int) then (if (rd x7 0) = 0 then (some (y147, false)) else (impl_PageBreaks.l2 k x0 x1 x7 y147 0)) else (none)))
def impl_PageBreaks.l1 : Nat → List Bool → Int → Int → List Int → Int → Int → Option (List Int × Bool)
 | 0, _, _, _, _, _, _ => none
 | k + 1, x0, x1, x6, x7, x8, x9 => if x9 ≤ (wrap64 (x8 + x1)) then (if 0 ≤ (wrap64 (x9 - 1)) then (if (wrap64 (x9 - 1)) < (x0.length : Int) then (if rdOf false x0 (wrap64 (x9 - 1)) = true then (if 0 ≤ x9 then (if x9 < (x7.length : Int) then (if (rd x7 x9) > 0 then (if 0 ≤ x8 then (if x8 < (x7.length : Int) then (if (rd x7 x8) = 0 then (impl_PageBreaks.l1 k x0 x1 x6 (x7.set (x8 : Int).toNat (wrap64 ((rd x7 x9) + 1))) x8 (wrap64 (x9 + 1))) else (if (wrap64 ((rd x7 x9) + 1)) < (rd x7 x8) then (impl_PageBreaks.l1 k x0 x1 x6 (x7.set (x8 : Int).toNat (wrap64 ((rd x7 x9) + 1))) x8 (wrap64 (x9 + 1))) else (impl_PageBreaks.l1 k x0 x1 x6 x7 x8 (wrap64 (x9 + 1))))) else (none)) else (none)) else (impl_PageBreaks.l1 k x0 x1 x6 x7 x8 (wrap64 (x9 + 1)))) else (none)) else (none)) else (impl_PageBreaks.l1 k x0 x1 x6 x7 x8 (wrap64 (x9 + 1)))) else (none)) else (none)) else (impl_PageBreaks.l0 k x0 x1 x6 x7 (wrap64 (x8 - 1)))
def impl_PageBreaks.l2 : Nat → List Bool → Int → List Int → List Int → Int → Option (List Int × Bool)
 | 0, _, _, _, _, _ => none
 | k + 1, x0, x1, x7, x10, x11 => if 0 ≤ x11 then (if x11 < (x7.length : Int) then (if (rd x7 x11) > 1 then (impl_PageBreaks.l3 k x0 x1 x7 x10 x11 (wrap64 (x11 + x1))) else (some (x10, true))) else (none)) else (none)
def impl_PageBreaks.l3 : Nat → List Bool → Int → List Int → List Int → Int → Int → Option (List Int × Bool)
 | 0, _, _, _, _, _, _ => none
 | k + 1, x0, x1, x7, x10, x11, x12 => if 0 ≤ (wrap64 (x12 - 1)) then (if (wrap64 (x12 - 1)) < (x0.length : Int) then (if rdOf false x0 (wrap64 (x12 - 1)) = true then (if 0 ≤ x12 then (if x12 < (x7.length : Int) then (if 0 ≤ x11 then (if x11 < (x7.length : Int) then (if (rd x7 x12) = (wrap64 ((rd x7 x11) - 1)) then (if x10.length < 17592186044416 then (impl_PageBreaks.l2 k x0 x1 x7 (x10 ++ [x12]) x12) else (none)) else (impl_PageBreaks.l3 k x0 x1 x7 x10 x11 (wrap64 (x12 - 1)))) else (none)) else (none)) else (none)) else (none)) else (impl_PageBreaks.l3 k x0 x1 x7 x10 x11 (wrap64 (x12 - 1)))) else (none)) else (none)
end
def impl_PageBreaks.f (k : Nat) (l0 : List Bool) (a1 : Int) : Option (List Int × Bool) := if (l0.length : Int) > 60 then (impl_PageBreaks.j0 k l0 a1 (l0.length : Int) true) else ((impl_InRange.f a1 1 60).bind fun t130 => (impl_PageBreaks.j0 k l0 a1 (l0.length : Int) (!t130)))
theorem impl_PageBreaks.mono_l : ∀ k, (∀ y0 y1 y2 y3, LeO (impl_PageBreaks.j0 k y0 y1 y2 y3) (impl_PageBreaks.j0 (k + 1) y0 y1 y2 y3)) ∧ (∀ y0 y1 y2 y3 y4, LeO (impl_PageBreaks.l0 k y0 y1 y2 y3 y4) (impl_PageBreaks.l0 (k + 1) y0 y1 y2 y3 y4)) ∧ (∀ y0 y1 y2 y3 y4 y5, LeO (impl_PageBreaks.l1 k y0 y1 y2 y3 y4 y5) (impl_PageBreaks.l1 (k + 1) y0 y1 y2 y3 y4 y5)) ∧ (∀ y0 y1 y2 y3 y4, LeO (impl_PageBreaks.l2 k y0 y1 y2 y3 y4) (impl_PageBreaks.l2 (k + 1) y0 y1 y2 y3 y4)) ∧ (∀ y0 y1 y2 y3 y4 y5, LeO (impl_PageBreaks.l3 k y0 y1 y2 y3 y4 y5) (impl_PageBreaks.l3 (k + 1) y0 y1 y2 y3 y4 y5))
 | 0 => ⟨fun _ _ _ _ r h => by simp [impl_PageBreaks.j0] at h, fun _ _ _ _ _ r h => by simp [impl_PageBreaks.l0] at h, fun _ _ _ _ _ _ r h => by simp [impl_PageBreaks.l1] at h, fun _ _ _ _ _ r h => by simp [impl_PageBreaks.l2] at h, fun _ _ _ _ _ _ r h => by simp [impl_PageBreaks.l3] at h⟩
 | k + 1 => by
  obtain ⟨ih0, ih1, ih2, ih3, ih4⟩ := impl_PageBreaks.mono_l k
  refine ⟨?_, ?_, ?_, ?_, ?_⟩
  ·intro y0 y1 y2 y3
   unfold impl_PageBreaks.j0
   repeat' first
   | (with_reducible exact ih0 _ _ _ _)
   | (with_reducible exact ih1 _ _ _ _ _)
   | (with_reducible exact ih2 _ _ _ _ _ _)
   | (with_reducible exact ih3 _ _ _ _ _)
   | (with_reducible exact ih4 _ _ _ _ _ _)
   | (with_reducible exact LeO.refl _)
   | (with_reducible exact LeO.none _)
   | (with_reducible refine LeO.ite ?_ ?_)
   | (with_reducible refine LeO.bind ?_ (fun _ => ?_))
   | exact ih0 _ _ _ _
   | exact ih1 _ _ _ _ _
   | exact ih2 _ _ _ _ _ _
   | exact ih3 _ _ _ _ _
   | exact ih4 _ _ _ _ _ _
   | exact LeO.none _
   | refine LeO.ite ?_ ?_
   | refine LeO.bind ?_ (fun _ => ?_)
  ·intro y0 y1 y2 y3 y4
   unfold impl_PageBreaks.l0
   repeat' first
   | (with_reducible exact ih0 _ _ _ _)
   | (with_reducible exact ih1 _ _ _ _ _)
   | (with_reducible exact ih2 _ _ _ _ _ _)
   | (with_reducible exact ih3 _ _ _ _ _)
   | (with_reducible exact ih4 _ _ _ _ _ _)
   | (with_reducible exact LeO.refl _)
   | (with_reducible exact LeO.none _)
   | (with_reducible refine LeO.ite ?_ ?_)
   | (with_reducible refine LeO.bind ?_ (fun _ => ?_))
   | exact ih0 _ _ _ _
   | exact ih1 _ _ _ _ _
   | exact ih2 _ _ _ _ _ _
   | exact ih3 _ _ _ _ _
   | exact ih4 _ _ _ _ _ _
   | exact LeO.none _
   | refine LeO.ite ?_ ?_
   | refine LeO.bind ?_ (fun _ => ?_)
  ·intro y0 y1 y2 y3 y4 y5
   unfold impl_PageBreaks.l1
   repeat' first
   | (with_reducible exact ih0 _ _ _ _)
   | (with_reducible exact ih1 _ _ _ _ _)
   | (with_reducible exact ih2 _ _ _ _ _ _)
   | (with_reducible exact ih3 _ _ _ _ _)
   | (with_reducible exact ih4 _ _ _ _ _ _)
   | (with_reducible exact LeO.refl _)
   | (with_reducible exact LeO.none _)
   | (with_reducible refine LeO.ite ?_ ?_)
   | (with_reducible refine LeO.bind ?_ (fun _ => ?_))
   | exact ih0 _ _ _ _
   | exact ih1 _ _ _ _ _
   | exact ih2 _ _ _ _ _ _
   | exact ih3 _ _ _ _ _
   | exact ih4 _ _ _ _ _ _
   | exact LeO.none _
   | refine LeO.ite ?_ ?_
   | refine LeO.bind ?_ (fun _ => ?_)
  ·intro y0 y1 y2 y3 y4
   unfold impl_PageBreaks.l2
   repeat' first
   | (with_reducible exact ih0 _ _ _ _)
   | (with_reducible exact ih1 _ _ _ _ _)
   | (with_reducible exact ih2 _ _ _ _ _ _)
   | (with_reducible exact ih3 _ _ _ _ _)
   | (with_reducible exact ih4 _ _ _ _ _ _)
   | (with_reducible exact LeO.refl _)
   | (with_reducible exact LeO.none _)
   | (with_reducible refine LeO.ite ?_ ?_)
   | (with_reducible refine LeO.bind ?_ (fun _ => ?_))
   | exact ih0 _ _ _ _
   | exact ih1 _ _ _ _ _
   | exact ih2 _ _ _ _ _ _
   | exact ih3 _ _ _ _ _
   | exact ih4 _ _ _ _ _ _
   | exact LeO.none _
   | refine LeO.ite ?_ ?_
   | refine LeO.bind ?_ (fun _ => ?_)
  ·intro y0 y1 y2 y3 y4 y5
   unfold impl_PageBreaks.l3
   repeat' first
   | (with_reducible exact ih0 _ _ _ _)
   | (with_reducible exact ih1 _ _ _ _ _)
   | (with_reducible exact ih2 _ _ _ _ _ _)
   | (with_reducible exact ih3 _ _ _ _ _)
   | (with_reducible exact ih4 _ _ _ _ _ _)
   | (with_reducible exact LeO.refl _)
   | (with_reducible exact LeO.none _)
   | (with_reducible refine LeO.ite ?_ ?_)
   | (with_reducible refine LeO.bind ?_ (fun _ => ?_))
   | exact ih0 _ _ _ _
   | exact ih1 _ _ _ _ _
   | exact ih2 _ _ _ _ _ _
   | exact ih3 _ _ _ _ _
   | exact ih4 _ _ _ _ _ _
   | exact LeO.none _
   | refine LeO.ite ?_ ?_
   | refine LeO.bind ?_ (fun _ => ?_)
theorem impl_PageBreaks.mono : ∀ a0 a1 k, LeO (impl_PageBreaks.f k a0 a1) (impl_PageBreaks.f (k + 1) a0 a1) := by
 intro a0 a1 k; obtain ⟨ih0, ih1, ih2, ih3, ih4⟩ := impl_PageBreaks.mono_l k; unfold impl_PageBreaks.f
 repeat' first
   | (with_reducible exact ih0 _ _ _ _)
   | (with_reducible exact ih1 _ _ _ _ _)
   | (with_reducible exact ih2 _ _ _ _ _ _)
   | (with_reducible exact ih3 _ _ _ _ _)
   | (with_reducible exact ih4 _ _ _ _ _ _)
   | (with_reducible exact LeO.refl _)
   | (with_reducible exact LeO.none _)
   | (with_reducible refine LeO.ite ?_ ?_)
   | (with_reducible refine LeO.bind ?_ (fun _ => ?_))
   | exact ih0 _ _ _ _
   | exact ih1 _ _ _ _ _
   | exact ih2 _ _ _ _ _ _
   | exact ih3 _ _ _ _ _
   | exact ih4 _ _ _ _ _ _
   | exact LeO.none _
   | refine LeO.ite ?_ ?_
   | refine LeO.bind ?_ (fun _ => ?_)
set_option maxHeartbeats 8000000 in
set_option maxRecDepth 100000 in
theorem impl_PageBreaks.calls (k : Nat) (A0 : Option Addr) (c0 : Nat) (l0 : List Bool) (a1 : Int) (r1 : List Int) (r2 : Bool) (w : World) (hr0 : Kd.C Kd.bool w A0 l0.length l0) (hc0 : l0.length ≤ c0) (h : impl_PageBreaks.f k l0 a1 = some (r1, r2)) :
  Calls Try.prog 17 #[.slice A0 l0.length c0, .int .i64 a1] w fun e w' => ∃ v0_ : Value, e = .returned (.tuple #[v0_, .bool r2]) ∧ Kd.R (Kd.int .i64) 3 w' w.heap.size (fun _ => True) v0_ r1 ∧ Below w.heap.size w w' := by
 have HR0 := Aside0.mk hr0; have HC0 := Aside0.mk hc0; clear hr0 hc0; have HB := Aside0.mk (Below.refl w.heap.size w); have H : (if (l0.length : Int) > 60 then (impl_PageBreaks.j0 k l0 a1 (l0.length : Int) true) else ((impl_InRange.f a1 1 60).bind fun t130 => (impl_PageBreaks.j0 k l0 a1 (l0.length : Int) (!t130)))) = some (r1, r2) := h; clear h; have HC3 := Aside0.mk H; clear H; go_enter Try.func17, Try.ntmps17; go_upto_region 2 with (fail)
 repeat (go_quiet (fail); go_upto_region 2 with (fail))
 go_cut [21] (fun v21 wc => ∃ (kq : Nat) (x21_2 : Bool), v21 = .bool x21_2 ∧ Aside0 (impl_PageBreaks.j0 kq l0 a1 (l0.length : Int) x21_2 = some (r1, r2)) ∧ Aside0 (kq ≤ k) ∧ Aside0 (Below w.heap.size w wc))
 case first =>
  have H := HC3.out; clear HC3; by_cases c4 : (l0.length : Int) > 60
  ·rw [if_pos c4] at H; have c4b0 : decide (60 < (l0.length : Int)) = true := decide_eq_true c4; have c4b1 : decide (60 < l0.length) = true := decide_eq_true (by omega); clear c4; (first | rw [c4b0] | (simp only [i64_w, i32_w]; rw [c4b0]) | skip); have H' := Aside0.mk H; clear H; go_wp2; repeat (go_quiet (fail); try go_wp2)
   go_meet
   case rel => exact ⟨_, (true), (by first | rfl | (simp; done) | (simp [*]; done)), H', ⟨by first | omega | exact Nat.le_refl _⟩, ⟨bl_⟩⟩
  ·rw [if_neg c4] at H; have c4b0 : decide (60 < (l0.length : Int)) = false := decide_eq_false c4; have c4b1 : decide (60 < l0.length) = false := decide_eq_false (by omega); clear c4; (first | rw [c4b0] | (simp only [i64_w, i32_w]; rw [c4b0]) | skip); replace H := Option.bind_eq_some_iff.mp H; obtain ⟨t130, A50, H⟩ := H; (try dsimp only at H); have A5 := Aside0.mk A50; clear A50; have H' := Aside0.mk H; clear H; go_wp2_with (first | (go_at_call 38; (with_reducible refine (impl_InRange.calls a1 1 60 t130 _ A5.out).mono ?_); rintro e w' ⟨rfl, ⟨nd, rfl⟩⟩; (try first | exact ⟨rfl, _, World.drewN_drewN _ _ _⟩ | exact ⟨rfl, _, Eq.trans (World.drewN_drewN _ _ _) (congrArg (World.drewN _) (Nat.add_assoc _ _ _))⟩))); repeat (go_quiet (first | (go_at_call 38; (with_reducible refine (impl_InRange.calls a1 1 60 t130 _ A5.out).mono ?_); rintro e w' ⟨rfl, ⟨nd, rfl⟩⟩; (try first | exact ⟨rfl, _, World.drewN_drewN _ _ _⟩ | exact ⟨rfl, _, Eq.trans (World.drewN_drewN _ _ _) (congrArg (World.drewN _) (Nat.add_assoc _ _ _))⟩))); try go_wp2_with (first | (go_at_call 38; (with_reducible refine (impl_InRange.calls a1 1 60 t130 _ A5.out).mono ?_); rintro e w' ⟨rfl, ⟨nd, rfl⟩⟩; (try first | exact ⟨rfl, _, World.drewN_drewN _ _ _⟩ | exact ⟨rfl, _, Eq.trans (World.drewN_drewN _ _ _) (congrArg (World.drewN _) (Nat.add_assoc _ _ _))⟩))))
   go_meet
   case rel => exact ⟨_, (!t130), (by first | rfl | (simp; done) | (simp [*]; done)), H', ⟨by first | omega | exact Nat.le_refl _⟩, ⟨bl_⟩⟩
 case rest =>
  clear HC3; try clear c1
  try clear p2
  try clear c4
  try clear c4b0
  try clear c4b1
  obtain ⟨kq, x21_2, rfl, HA, HJ2, HB⟩ := hcut
  cases kq with
  | zero => exact absurd HA.out (by simp [impl_PageBreaks.j0])
  | succ kj2 =>
   have H := HA.out; clear HA; simp only [impl_PageBreaks.j0] at H; by_cases c6 : x21_2 = true
   ·subst c6; rw [if_pos rfl] at H; obtain ⟨y131, hy131⟩ : ∃ y_ : List Int, y_ = (([] : List Int)) := ⟨_, rfl⟩; replace H : (some (y131, false)) = some (r1, r2) := by first | (rw [hy131]; with_reducible exact H) | (have H2_ := (Option.bind_some _ _).symm.trans H; rw [hy131]; with_reducible exact H2_) | (have H2_ := (Option.bind_some _ _).symm.trans H; with_reducible exact H2_) | with_reducible exact H | (rw [hy131]; exact H) | exact H
    have Ny131 := Aside0.mk hy131; clear hy131; simp only [Option.some.injEq, Prod.mk.injEq] at H; obtain ⟨rfl, rfl⟩ := H; go_wp2_with (first | ((with_reducible refine gate_dst (N := 22) rfl ?_); refine Kd.R_lit (Kd.int .i64) _ 3 ?hg (N := 22) ?hd (xs := ([] : List Int)) (inner := []) (ok := fun _ => True) (okp := fun _ => True) ?hr ?hp (fun _ hk => hk) trivial (Below.refl _ _) (Nat.le_refl _) (by simp) ?_; (case hd => rfl); (case hg => rfl); (case hr => first | (go_simp; done) | (go_simp; rfl) | (rw [← HQ_.out]; go_simp; done) | (rw [← HQ_.out]; go_simp; rfl)); (case hp => exact (Reps.none _ _)); intro v132 w7 ho8 hb hg_ hnew_; clear hg_ hnew_; (first | rw [← Ny131.out] at ho8 | (simp only [Int.reduceToNat] at ho8; rw [← Ny131.out] at ho8)); have n0_ := Aside0.mk (Kd.R_lower ho8 (below_size bl_)); have n1_ := Aside0.mk (below_step bl_ hb); clear HB; have HO133 := n0_; have HB := n1_; clear n0_ n1_; clear hb ho8)); repeat (go_quiet (first | ((with_reducible refine gate_dst (N := 22) rfl ?_); refine Kd.R_lit (Kd.int .i64) _ 3 ?hg (N := 22) ?hd (xs := ([] : List Int)) (inner := []) (ok := fun _ => True) (okp := fun _ => True) ?hr ?hp (fun _ hk => hk) trivial (Below.refl _ _) (Nat.le_refl _) (by simp) ?_; (case hd => rfl); (case hg => rfl); (case hr => first | (go_simp; done) | (go_simp; rfl) | (rw [← HQ_.out]; go_simp; done) | (rw [← HQ_.out]; go_simp; rfl)); (case hp => exact (Reps.none _ _)); intro v132 w7 ho8 hb hg_ hnew_; clear hg_ hnew_; (first | rw [← Ny131.out] at ho8 | (simp only [Int.reduceToNat] at ho8; rw [← Ny131.out] at ho8)); have n0_ := Aside0.mk (Kd.R_lower ho8 (below_size bl_)); have n1_ := Aside0.mk (below_step bl_ hb); clear HB; have HO133 := n0_; have HB := n1_; clear n0_ n1_; clear hb ho8)); try go_wp2_with (first | ((with_reducible refine gate_dst (N := 22) rfl ?_); refine Kd.R_lit (Kd.int .i64) _ 3 ?hg (N := 22) ?hd (xs := ([] : List Int)) (inner := []) (ok := fun _ => True) (okp := fun _ => True) ?hr ?hp (fun _ hk => hk) trivial (Below.refl _ _) (Nat.le_refl _) (by simp) ?_; (case hd => rfl); (case hg => rfl); (case hr => first | (go_simp; done) | (go_simp; rfl) | (rw [← HQ_.out]; go_simp; done) | (rw [← HQ_.out]; go_simp; rfl)); (case hp => exact (Reps.none _ _)); intro v132 w7 ho8 hb hg_ hnew_; clear hg_ hnew_; (first | rw [← Ny131.out] at ho8 | (simp only [Int.reduceToNat] at ho8; rw [← Ny131.out] at ho8)); have n0_ := Aside0.mk (Kd.R_lower ho8 (below_size bl_)); have n1_ := Aside0.mk (below_step bl_ hb); clear HB; have HO133 := n0_; have HB := n1_; clear n0_ n1_; clear hb ho8)))
    go_ret2; exact ⟨_, by first | rfl | (simp [errW_none, errW_some] <;> rfl) | (simp [*, errW_none, errW_some] <;> rfl), by exact rw_ HO133.out, bl_⟩
   ·replace c6 := Bool.eq_false_iff.mpr c6; subst c6; rw [if_neg (show ¬ (false = true) by decide)] at H; obtain ⟨ji9, hji9⟩ : ∃ j_ : Int, (wrap64 ((l0.length : Int) + 1)) = j_ := ⟨_, rfl⟩; replace H : (if 0 ≤ (ji9) then (if (ji9 : Int).toNat ≤ 35184372088832 then (impl_PageBreaks.l0 kj2 l0 a1 (l0.length : Int) (List.replicate (ji9 : Int).toNat 0) (l0.length : Int)) else (none)) else (none)) = some (r1, r2) := by first | (rw [hji9] at H; exact H) | (simp only [hji9] at H ⊢; exact H)
    have hji9w : (IntKind.i64.wrap ((l0.length : Int) + 1)) = ji9 := (i64_w _).trans hji9; by_cases c10 : 0 ≤ (ji9)
    ·rw [if_pos c10] at H; have c10b0 := eq_true c10; have c10b1 : decide (0 ≤ (ji9)) = true := decide_eq_true c10; clear c10; by_cases c11 : (ji9 : Int).toNat ≤ 35184372088832
     ·rw [if_pos c11] at H; have c11b0 := eq_true c11; have c11b1 : decide ((ji9 : Int).toNat ≤ 35184372088832) = true := decide_eq_true c11; clear c11; obtain ⟨y134, hy134⟩ : ∃ y_ : List Int, y_ = (List.replicate (ji9 : Int).toNat 0) := ⟨_, rfl⟩; replace H : (impl_PageBreaks.l0 kj2 l0 a1 (l0.length : Int) y134 (l0.length : Int)) = some (r1, r2) := by first | (rw [hy134]; with_reducible exact H) | (have H2_ := (Option.bind_some _ _).symm.trans H; rw [hy134]; with_reducible exact H2_) | (have H2_ := (Option.bind_some _ _).symm.trans H; with_reducible exact H2_) | with_reducible exact H | (rw [hy134]; exact H) | exact H
      have Ny134 := Aside0.mk hy134; clear hy134; have H' := Aside0.mk H; clear H; go_wp2_with (first | ((with_reducible refine gate_dst (N := 25) rfl ?_); refine Kd.R_make (Kd.int .i64) _ 3 rfl (N := 25) rfl 22 _ _ rfl ji9 rfl rfl Try.underlying22 (.int .i64 0) 8 info3 rfl (by decide) (by omega) 0 (ok := fun _ => True) (okp := fun _ => True) rfl (fun _ hk => hk) trivial (of_decide_eq_true (by first | (with_reducible assumption) | assumption)) (Nat.le_trans (Nat.mul_le_mul_right _ (of_decide_eq_true (by first | (with_reducible assumption) | assumption) : ji9.toNat ≤ 35184372088832)) (by omega)) (Below.refl _ _) (Nat.le_refl _) ?_; intro v135 w12 ho13 hb hg_ hnew_; clear hg_ hnew_; (first | rw [← Ny134.out] at ho13 | (simp only [Int.reduceToNat] at ho13; rw [← Ny134.out] at ho13)); have n0_ := Aside0.mk (Kd.R_lower ho13 (below_size bl_)); have n1_ := Aside0.mk (below_step bl_ hb); clear HB; have HO136 := n0_; have HB := n1_; clear n0_ n1_; clear hb ho13)); repeat (go_quiet (first | ((with_reducible refine gate_dst (N := 25) rfl ?_); refine Kd.R_make (Kd.int .i64) _ 3 rfl (N := 25) rfl 22 _ _ rfl ji9 rfl rfl Try.underlying22 (.int .i64 0) 8 info3 rfl (by decide) (by omega) 0 (ok := fun _ => True) (okp := fun _ => True) rfl (fun _ hk => hk) trivial (of_decide_eq_true (by first | (with_reducible assumption) | assumption)) (Nat.le_trans (Nat.mul_le_mul_right _ (of_decide_eq_true (by first | (with_reducible assumption) | assumption) : ji9.toNat ≤ 35184372088832)) (by omega)) (Below.refl _ _) (Nat.le_refl _) ?_; intro v135 w12 ho13 hb hg_ hnew_; clear hg_ hnew_; (first | rw [← Ny134.out] at ho13 | (simp only [Int.reduceToNat] at ho13; rw [← Ny134.out] at ho13)); have n0_ := Aside0.mk (Kd.R_lower ho13 (below_size bl_)); have n1_ := Aside0.mk (below_step bl_ hb); clear HB; have HO136 := n0_; have HB := n1_; clear n0_ n1_; clear hb ho13)); try go_wp2_with (first | ((with_reducible refine gate_dst (N := 25) rfl ?_); refine Kd.R_make (Kd.int .i64) _ 3 rfl (N := 25) rfl 22 _ _ rfl ji9 rfl rfl Try.underlying22 (.int .i64 0) 8 info3 rfl (by decide) (by omega) 0 (ok := fun _ => True) (okp := fun _ => True) rfl (fun _ hk => hk) trivial (of_decide_eq_true (by first | (with_reducible assumption) | assumption)) (Nat.le_trans (Nat.mul_le_mul_right _ (of_decide_eq_true (by first | (with_reducible assumption) | assumption) : ji9.toNat ≤ 35184372088832)) (by omega)) (Below.refl _ _) (Nat.le_refl _) ?_; intro v135 w12 ho13 hb hg_ hnew_; clear hg_ hnew_; (first | rw [← Ny134.out] at ho13 | (simp only [Int.reduceToNat] at ho13; rw [← Ny134.out] at ho13)); have n0_ := Aside0.mk (Kd.R_lower ho13 (below_size bl_)); have n1_ := Aside0.mk (below_step bl_ hb); clear HB; have HO136 := n0_; have HB := n1_; clear n0_ n1_; clear hb ho13)))
      go_loopg [8] kj2 (fun kq v8 w' => ∃ (x7_2 : List Int) (x8_2 : Int), v8 = .int .i64 x8_2 ∧ Aside0 (impl_PageBreaks.l0 kq l0 a1 (l0.length : Int) x7_2 x8_2 = some (r1, r2)) ∧ Aside0 (kq ≤ kj2) ∧ Aside0 (Kd.R (Kd.int .i64) 3 w' w.heap.size (fun _ => True) v135 x7_2) ∧ Aside0 (Below w.heap.size w w'))
      case atStart => exact ⟨(y134), ((l0.length : Int)), (by first | rfl | (simp; done) | (simp [*]; done)), H', ⟨Nat.le_refl _⟩, ⟨by exact rw_ HO136.out⟩, ⟨bl_⟩⟩
      case round =>
       clear H'; try clear c1
       try clear p2
       try clear c4
       try clear c4b0
       try clear c4b1
       try clear c6
       try clear p6
       try clear c10
       try clear c10b0
       try clear c10b1
       try clear c11
       try clear c11b0
       try clear c11b1
       try clear p2
       obtain ⟨x7_2, x8_2, rfl, HA, HK2, HO_7, HB⟩ := hrel
       cases gk with
       | zero => exact absurd HA.out (by simp [impl_PageBreaks.l0])
       | succ k2 =>
        have H := HA.out; clear HA; simp only [impl_PageBreaks.l0] at H; by_cases c14 : x8_2 ≥ 0
        ·rw [if_pos c14] at H; have c14b0 : decide (0 ≤ x8_2) = true := decide_eq_true c14; clear c14; by_cases c15 : (wrap64 ((l0.length : Int) - x8_2)) ≤ a1
         ·rw [if_pos c15] at H; have c15b0 : decide ((wrap64 ((l0.length : Int) - x8_2)) ≤ a1) = true := decide_eq_true c15; clear c15; by_cases c16 : 0 ≤ x8_2
          ·rw [if_pos c16] at H; have c16b0 : decide (0 ≤ x8_2) = true := decide_eq_true c16; clear c16; by_cases c17 : x8_2 < (x7_2.length : Int)
           ·rw [if_pos c17] at H; have c17b0 : decide (x8_2 < (x7_2.length : Int)) = true := decide_eq_true c17; clear c17; obtain ⟨y137, hy137⟩ : ∃ y_ : List Int, y_ = (x7_2.set (x8_2 : Int).toNat 1) := ⟨_, rfl⟩; replace H : (impl_PageBreaks.l0 k2 l0 a1 (l0.length : Int) y137 (wrap64 (x8_2 - 1))) = some (r1, r2) := by first | (rw [hy137]; with_reducible exact H) | (have H2_ := (Option.bind_some _ _).symm.trans H; rw [hy137]; with_reducible exact H2_) | (have H2_ := (Option.bind_some _ _).symm.trans H; with_reducible exact H2_) | with_reducible exact H | (rw [hy137]; exact H) | exact H
            have Ny137 := Aside0.mk hy137; clear hy137; have H' := Aside0.mk H; clear H; have p18 : 0 ≤ (x8_2 : Int) := of_decide_eq_true (by first | (with_reducible assumption) | assumption); have q18 : (x8_2 : Int) < ((x7_2.length : Int) : Int) := of_decide_eq_true (by first | (with_reducible assumption) | assumption); obtain ⟨go18, co18, eo18, gb18, gl18, cl18, HG18⟩ := Kd.R_form HO_7.out (by omega); (first | cases eo18 | (injection eo18 with ea_ en_ ec_; (first | subst ea_ | (injection ea_ with ea_; subst ea_)); subst ec_; clear en_))
            have GB18 := Aside0.mk gb18; have GG18 := Aside0.mk HG18; clear gb18 gl18 HG18; obtain ⟨hx18_0, hf18_0⟩ := Kd.R_celln 0 HO_7.out (x8_2 : Int) p18 q18; replace p18 := eq_true p18; replace q18 := eq_true q18; have HP19 := Kd.R_putg HO_7.out (x8_2 : Int) 1; go_wp2_with (first | ((with_reducible refine gate_store (t := 3) (p := 38) rfl ?_); (try (rw [drewN_self wr]; generalize hq_ : World.drewN wr _ = wr; have n0_ := Aside0.mk (Kd.R_at hq_ HO_7.out); have n1_ := Aside0.mk (below_at hq_ HB.out); have HQ_ := Aside0.mk hq_; clear hq_ HO_7 HB; have HO_7 := n0_; have HB := n1_; clear n0_ n1_; (try (have HP19 := Kd.R_putg HO_7.out (x8_2 : Int) 1)))); refine store_event (t := 3) (p := 38) (v := ?vo_w20) (w1 := (wr.setCell ⟨go18, (x8_2 : Int).toNat, none⟩ (.int .i64 1))) ?hg ?ho ?hn ?hr ?_; (case ho => rfl); (case hg => rfl); (case hn => rfl); (case hr => first | (go_simp; done) | (go_simp; rfl) | (rw [← HQ_.out]; go_simp; done) | (rw [← HQ_.out]; go_simp; rfl)); intro w20 hw; have hg : wr.grownBy w20 (some go18) := (by rw [hw]; exact HP19.2); have hp_ : Kd.R (Kd.int .i64) 3 w20 w.heap.size (fun _ => True) (.slice (some ⟨go18, 0, none⟩) x7_2.length co18) y137 := (by rw [hw, Ny137.out]; exact HP19.1); clear HP19; have n0_ := Aside0.mk (hp_); have n1_ := Aside0.mk ((by rw [hw]; exact below_set (HB.out) GB18.out : Below w.heap.size w w20)); clear HO_7; clear HB; have HO_7 := n0_; have HB := n1_; clear n0_ n1_; clear hg hw hp_)); repeat (go_quiet (first | ((with_reducible refine gate_store (t := 3) (p := 38) rfl ?_); (try (rw [drewN_self wr]; generalize hq_ : World.drewN wr _ = wr; have n0_ := Aside0.mk (Kd.R_at hq_ HO_7.out); have n1_ := Aside0.mk (below_at hq_ HB.out); have HQ_ := Aside0.mk hq_; clear hq_ HO_7 HB; have HO_7 := n0_; have HB := n1_; clear n0_ n1_; (try (have HP19 := Kd.R_putg HO_7.out (x8_2 : Int) 1)))); refine store_event (t := 3) (p := 38) (v := ?vo_w20) (w1 := (wr.setCell ⟨go18, (x8_2 : Int).toNat, none⟩ (.int .i64 1))) ?hg ?ho ?hn ?hr ?_; (case ho => rfl); (case hg => rfl); (case hn => rfl); (case hr => first | (go_simp; done) | (go_simp; rfl) | (rw [← HQ_.out]; go_simp; done) | (rw [← HQ_.out]; go_simp; rfl)); intro w20 hw; have hg : wr.grownBy w20 (some go18) := (by rw [hw]; exact HP19.2); have hp_ : Kd.R (Kd.int .i64) 3 w20 w.heap.size (fun _ => True) (.slice (some ⟨go18, 0, none⟩) x7_2.length co18) y137 := (by rw [hw, Ny137.out]; exact HP19.1); clear HP19; have n0_ := Aside0.mk (hp_); have n1_ := Aside0.mk ((by rw [hw]; exact below_set (HB.out) GB18.out : Below w.heap.size w w20)); clear HO_7; clear HB; have HO_7 := n0_; have HB := n1_; clear n0_ n1_; clear hg hw hp_)); try go_wp2_with (first | ((with_reducible refine gate_store (t := 3) (p := 38) rfl ?_); (try (rw [drewN_self wr]; generalize hq_ : World.drewN wr _ = wr; have n0_ := Aside0.mk (Kd.R_at hq_ HO_7.out); have n1_ := Aside0.mk (below_at hq_ HB.out); have HQ_ := Aside0.mk hq_; clear hq_ HO_7 HB; have HO_7 := n0_; have HB := n1_; clear n0_ n1_; (try (have HP19 := Kd.R_putg HO_7.out (x8_2 : Int) 1)))); refine store_event (t := 3) (p := 38) (v := ?vo_w20) (w1 := (wr.setCell ⟨go18, (x8_2 : Int).toNat, none⟩ (.int .i64 1))) ?hg ?ho ?hn ?hr ?_; (case ho => rfl); (case hg => rfl); (case hn => rfl); (case hr => first | (go_simp; done) | (go_simp; rfl) | (rw [← HQ_.out]; go_simp; done) | (rw [← HQ_.out]; go_simp; rfl)); intro w20 hw; have hg : wr.grownBy w20 (some go18) := (by rw [hw]; exact HP19.2); have hp_ : Kd.R (Kd.int .i64) 3 w20 w.heap.size (fun _ => True) (.slice (some ⟨go18, 0, none⟩) x7_2.length co18) y137 := (by rw [hw, Ny137.out]; exact HP19.1); clear HP19; have n0_ := Aside0.mk (hp_); have n1_ := Aside0.mk ((by rw [hw]; exact below_set (HB.out) GB18.out : Below w.heap.size w w20)); clear HO_7; clear HB; have HO_7 := n0_; have HB := n1_; clear n0_ n1_; clear hg hw hp_)))
            go_roundg k2
            case measure => have := HJ2.out; have := HK2.out; omega
            case rel => exact ⟨(y137), (wrap64 (x8_2 - 1)), (by first | rfl | (simp; done) | (simp [*]; done)), H', ⟨by have := HJ2.out; have := HK2.out; omega⟩, ⟨by exact rw_ HO_7.out⟩, ⟨bl_⟩⟩
           ·rw [if_neg c17] at H; exact absurd H (by simp)
          ·rw [if_neg c16] at H; exact absurd H (by simp)
         ·rw [if_neg c15] at H; have c15b0 : decide ((wrap64 ((l0.length : Int) - x8_2)) ≤ a1) = false := decide_eq_false c15; clear c15; have H' := Aside0.mk H; clear H; go_wp2; repeat (go_quiet (fail); try go_wp2)
          go_loopg [9] k2 (fun kq v9 w' => ∃ (x7_3 : List Int) (x9_3 : Int), v9 = .int .i64 x9_3 ∧ Aside0 (impl_PageBreaks.l1 kq l0 a1 (l0.length : Int) x7_3 x8_2 x9_3 = some (r1, r2)) ∧ Aside0 (kq ≤ k2) ∧ Aside0 (Kd.R (Kd.int .i64) 3 w' w.heap.size (fun _ => True) v135 x7_3) ∧ Aside0 (Below w.heap.size w w'))
          case atStart => exact ⟨(x7_2), (wrap64 (x8_2 + 1)), (by first | rfl | (simp; done) | (simp [*]; done)), H', ⟨Nat.le_refl _⟩, ⟨by exact rw_ HO_7.out⟩, ⟨bl_⟩⟩
          case round =>
           clear H'; try clear c1
           try clear p1
           try clear q1
           try clear hx1
           try clear p2
           try clear c4
           try clear c4b0
           try clear c4b1
           try clear c6
           try clear p6
           try clear c10
           try clear c10b0
           try clear c10b1
           try clear c11
           try clear c11b0
           try clear c11b1
           try clear c14
           try clear c14b0
           try clear c15
           try clear c15b0
           try clear c16
           try clear c16b0
           try clear c17
           try clear c17b0
           try clear p18
           try clear q18
           try clear hx18
           try clear hf18
           try clear hx18_0
           try clear p18
           try clear p2
           try clear p6
           try clear q18
           obtain ⟨x7_3, x9_3, rfl, HA, HK3, HO_7, HB⟩ := hrel
           cases gk with
           | zero => exact absurd HA.out (by simp [impl_PageBreaks.l1])
           | succ k3 =>
            have H := HA.out; clear HA; simp only [impl_PageBreaks.l1] at H; by_cases c21 : x9_3 ≤ (wrap64 (x8_2 + a1))
            ·rw [if_pos c21] at H; have c21b0 : decide (x9_3 ≤ (wrap64 (x8_2 + a1))) = true := decide_eq_true c21; clear c21; obtain ⟨ji22, hji22⟩ : ∃ j_ : Int, (wrap64 (x9_3 - 1)) = j_ := ⟨_, rfl⟩; replace H : (if 0 ≤ (ji22) then (if (ji22) < (l0.length : Int) then (if rdOf false l0 (ji22) = true then (if 0 ≤ x9_3 then (if x9_3 < (x7_3.length : Int) then (if (rd x7_3 x9_3) > 0 then (if 0 ≤ x8_2 then (if x8_2 < (x7_3.length : Int) then (if (rd x7_3 x8_2) = 0 then (impl_PageBreaks.l1 k3 l0 a1 (l0.length : Int) (x7_3.set (x8_2 : Int).toNat (wrap64 ((rd x7_3 x9_3) + 1))) x8_2 (wrap64 (x9_3 + 1))) else (if (wrap64 ((rd x7_3 x9_3) + 1)) < (rd x7_3 x8_2) then (impl_PageBreaks.l1 k3 l0 a1 (l0.length : Int) (x7_3.set (x8_2 : Int).toNat (wrap64 ((rd x7_3 x9_3) + 1))) x8_2 (wrap64 (x9_3 + 1))) else (impl_PageBreaks.l1 k3 l0 a1 (l0.length : Int) x7_3 x8_2 (wrap64 (x9_3 + 1))))) else (none)) else (none)) else (impl_PageBreaks.l1 k3 l0 a1 (l0.length : Int) x7_3 x8_2 (wrap64 (x9_3 + 1)))) else (none)) else (none)) else (impl_PageBreaks.l1 k3 l0 a1 (l0.length : Int) x7_3 x8_2 (wrap64 (x9_3 + 1)))) else (none)) else (none)) = some (r1, r2) := by first | (rw [hji22] at H; exact H) | (simp only [hji22] at H ⊢; exact H)
             have hji22w : (IntKind.i64.wrap (x9_3 - 1)) = ji22 := (i64_w _).trans hji22; by_cases c23 : 0 ≤ (ji22)
             ·rw [if_pos c23] at H; have c23b0 : decide (0 ≤ (ji22)) = true := decide_eq_true c23; clear c23; by_cases c24 : (ji22) < (l0.length : Int)
              ·rw [if_pos c24] at H; have c24b0 : decide ((ji22) < (l0.length : Int)) = true := decide_eq_true c24; clear c24; obtain ⟨bq25, hbq25⟩ : ∃ b_ : Bool, b_ = (rdOf false l0 (ji22)) := ⟨_, rfl⟩; replace H : (if bq25 = true then (if 0 ≤ x9_3 then (if x9_3 < (x7_3.length : Int) then (if (rd x7_3 x9_3) > 0 then (if 0 ≤ x8_2 then (if x8_2 < (x7_3.length : Int) then (if (rd x7_3 x8_2) = 0 then (impl_PageBreaks.l1 k3 l0 a1 (l0.length : Int) (x7_3.set (x8_2 : Int).toNat (wrap64 ((rd x7_3 x9_3) + 1))) x8_2 (wrap64 (x9_3 + 1))) else (if (wrap64 ((rd x7_3 x9_3) + 1)) < (rd x7_3 x8_2) then (impl_PageBreaks.l1 k3 l0 a1 (l0.length : Int) (x7_3.set (x8_2 : Int).toNat (wrap64 ((rd x7_3 x9_3) + 1))) x8_2 (wrap64 (x9_3 + 1))) else (impl_PageBreaks.l1 k3 l0 a1 (l0.length : Int) x7_3 x8_2 (wrap64 (x9_3 + 1))))) else (none)) else (none)) else (impl_PageBreaks.l1 k3 l0 a1 (l0.length : Int) x7_3 x8_2 (wrap64 (x9_3 + 1)))) else (none)) else (none)) else (impl_PageBreaks.l1 k3 l0 a1 (l0.length : Int) x7_3 x8_2 (wrap64 (x9_3 + 1)))) = some (r1, r2) := by rw [← hbq25] at H; exact H
               have Nbq25 := Aside0.mk hbq25; clear hbq25; by_cases c26 : bq25 = true
               ·subst c26; rw [if_pos rfl] at H; by_cases c27 : 0 ≤ x9_3
                ·rw [if_pos c27] at H; have c27b0 : decide (0 ≤ x9_3) = true := decide_eq_true c27; clear c27; by_cases c28 : x9_3 < (x7_3.length : Int)
                 ·rw [if_pos c28] at H; have c28b0 : decide (x9_3 < (x7_3.length : Int)) = true := decide_eq_true c28; clear c28; by_cases c29 : (rd x7_3 x9_3) > 0
                  ·rw [if_pos c29] at H; have c29b0 : decide (0 < (rd x7_3 x9_3)) = true := decide_eq_true c29; clear c29; by_cases c30 : 0 ≤ x8_2
                   ·rw [if_pos c30] at H; have c30b0 : decide (0 ≤ x8_2) = true := decide_eq_true c30; clear c30; by_cases c31 : x8_2 < (x7_3.length : Int)
                    ·rw [if_pos c31] at H; have c31b0 : decide (x8_2 < (x7_3.length : Int)) = true := decide_eq_true c31; clear c31; by_cases c32 : (rd x7_3 x8_2) = 0
                     ·rw [if_pos c32] at H; have c32b0 : ((rd x7_3 x8_2) == 0) = true := beq_iff_eq.mpr c32; have c32b1 : ((rd x7_3 x8_2) != 0) = false := bne_eq_false_iff_eq.mpr c32; clear c32; obtain ⟨y142, hy142⟩ : ∃ y_ : List Int, y_ = (x7_3.set (x8_2 : Int).toNat (wrap64 ((rd x7_3 x9_3) + 1))) := ⟨_, rfl⟩; replace H : (impl_PageBreaks.l1 k3 l0 a1 (l0.length : Int) y142 x8_2 (wrap64 (x9_3 + 1))) = some (r1, r2) := by first | (rw [hy142]; with_reducible exact H) | (have H2_ := (Option.bind_some _ _).symm.trans H; rw [hy142]; with_reducible exact H2_) | (have H2_ := (Option.bind_some _ _).symm.trans H; with_reducible exact H2_) | with_reducible exact H | (rw [hy142]; exact H) | exact H
                      have Ny142 := Aside0.mk hy142; clear hy142; have H' := Aside0.mk H; clear H; have p138 : 0 ≤ ((ji22) : Int) := of_decide_eq_true (by first | (with_reducible assumption) | assumption); have q138 : (ji22) < (l0.length : Int) := of_decide_eq_true (by first | (with_reducible assumption) | assumption); obtain ⟨ad138, e138, hx138_0⟩ := Kd.at_bool HR0.out (ji22) p138 q138; (try rw [← Nbq25.out] at hx138_0)
                      cases e138; replace hx138_0 := (HB.out.cell (World.block_lt_of_cell? w _ hx138_0)).trans hx138_0; replace p138 := eq_true p138; replace q138 := eq_true q138; obtain ⟨Ao34, co34, eo34⟩ := Kd.R_slice HO_7.out; subst eo34; have p139 : 0 ≤ (x9_3 : Int) := of_decide_eq_true (by first | (with_reducible assumption) | assumption); have q139 : x9_3 < (x7_3.length : Int) := of_decide_eq_true (by first | (with_reducible assumption) | assumption); obtain ⟨ad139, e139, hx139_0⟩ := Kd.at_int (Kd.R_reads' HO_7.out).2.2 x9_3 p139 q139
                      cases e139; replace p139 := eq_true p139; replace q139 := eq_true q139; have p140 : 0 ≤ (x8_2 : Int) := of_decide_eq_true (by first | (with_reducible assumption) | assumption); have q140 : x8_2 < (x7_3.length : Int) := of_decide_eq_true (by first | (with_reducible assumption) | assumption); obtain ⟨ad140, e140, hx140_0⟩ := Kd.at_int (Kd.R_reads' HO_7.out).2.2 x8_2 p140 q140; obtain rfl : ad139 = ad140 := (by injection e140)
                      replace p140 := eq_true p140; replace q140 := eq_true q140; have p141 : 0 ≤ (x9_3 : Int) := of_decide_eq_true (by first | (with_reducible assumption) | assumption); have q141 : x9_3 < (x7_3.length : Int) := of_decide_eq_true (by first | (with_reducible assumption) | assumption); obtain ⟨ad141, e141, hx141_0⟩ := Kd.at_int (Kd.R_reads' HO_7.out).2.2 x9_3 p141 q141; obtain rfl : ad139 = ad141 := (by injection e141)
                      replace p141 := eq_true p141; replace q141 := eq_true q141; have p33 : 0 ≤ (x8_2 : Int) := of_decide_eq_true (by first | (with_reducible assumption) | assumption); have q33 : (x8_2 : Int) < ((x7_3.length : Int) : Int) := of_decide_eq_true (by first | (with_reducible assumption) | assumption); obtain ⟨go33, co33, eo33, gb33, gl33, cl33, HG33⟩ := Kd.R_form HO_7.out (by omega); (first | cases eo33 | (injection eo33 with ea_ en_ ec_; (first | subst ea_ | (injection ea_ with ea_; subst ea_)); subst ec_; clear en_))
                      have GB33 := Aside0.mk gb33; have GG33 := Aside0.mk HG33; clear gb33 gl33 HG33; (first | simp only [add_plain] at hx139_0 | skip); (first | simp only [add_plain] at hx140_0 | skip); (first | simp only [add_plain] at hx141_0 | skip); obtain ⟨hx33_0, hf33_0⟩ := Kd.R_celln 0 HO_7.out (x8_2 : Int) p33 q33; replace p33 := eq_true p33; replace q33 := eq_true q33; have HP35 := Kd.R_putg HO_7.out (x8_2 : Int) (wrap64 ((rd x7_3 x9_3) + 1)); go_wp2_with (first | ((with_reducible refine gate_store (t := 3) (p := 86) rfl ?_); (try (rw [drewN_self wr]; generalize hq_ : World.drewN wr _ = wr; have n0_ := Aside0.mk (Kd.R_at hq_ HO_7.out); have n1_ := Aside0.mk (below_at hq_ HB.out); have HQ_ := Aside0.mk hq_; clear hq_ HO_7 HB; have HO_7 := n0_; have HB := n1_; clear n0_ n1_; (try (have HP35 := Kd.R_putg HO_7.out (x8_2 : Int) (wrap64 ((rd x7_3 x9_3) + 1)))))); refine store_event (t := 3) (p := 86) (v := ?vo_w36) (w1 := (wr.setCell ⟨go33, (x8_2 : Int).toNat, none⟩ (.int .i64 (wrap64 ((rd x7_3 x9_3) + 1))))) ?hg ?ho ?hn ?hr ?_; (case ho => rfl); (case hg => rfl); (case hn => rfl); (case hr => first | (go_simp; done) | (go_simp; rfl) | (rw [← HQ_.out]; go_simp; done) | (rw [← HQ_.out]; go_simp; rfl)); intro w36 hw; have hg : wr.grownBy w36 (some go33) := (by rw [hw]; exact HP35.2); have hp_ : Kd.R (Kd.int .i64) 3 w36 w.heap.size (fun _ => True) (.slice (some ⟨go33, 0, none⟩) x7_3.length co34) y142 := (by rw [hw, Ny142.out]; exact HP35.1); clear HP35; have n0_ := Aside0.mk (hp_); have n1_ := Aside0.mk ((by rw [hw]; exact below_set (HB.out) GB33.out : Below w.heap.size w w36)); clear HO_7; clear HB; have HO_7 := n0_; have HB := n1_; clear n0_ n1_; clear hg hw hp_)); repeat (go_quiet (first | ((with_reducible refine gate_store (t := 3) (p := 86) rfl ?_); (try (rw [drewN_self wr]; generalize hq_ : World.drewN wr _ = wr; have n0_ := Aside0.mk (Kd.R_at hq_ HO_7.out); have n1_ := Aside0.mk (below_at hq_ HB.out); have HQ_ := Aside0.mk hq_; clear hq_ HO_7 HB; have HO_7 := n0_; have HB := n1_; clear n0_ n1_; (try (have HP35 := Kd.R_putg HO_7.out (x8_2 : Int) (wrap64 ((rd x7_3 x9_3) + 1)))))); refine store_event (t := 3) (p := 86) (v := ?vo_w36) (w1 := (wr.setCell ⟨go33, (x8_2 : Int).toNat, none⟩ (.int .i64 (wrap64 ((rd x7_3 x9_3) + 1))))) ?hg ?ho ?hn ?hr ?_; (case ho => rfl); (case hg => rfl); (case hn => rfl); (case hr => first | (go_simp; done) | (go_simp; rfl) | (rw [← HQ_.out]; go_simp; done) | (rw [← HQ_.out]; go_simp; rfl)); intro w36 hw; have hg : wr.grownBy w36 (some go33) := (by rw [hw]; exact HP35.2); have hp_ : Kd.R (Kd.int .i64) 3 w36 w.heap.size (fun _ => True) (.slice (some ⟨go33, 0, none⟩) x7_3.length co34) y142 := (by rw [hw, Ny142.out]; exact HP35.1); clear HP35; have n0_ := Aside0.mk (hp_); have n1_ := Aside0.mk ((by rw [hw]; exact below_set (HB.out) GB33.out : Below w.heap.size w w36)); clear HO_7; clear HB; have HO_7 := n0_; have HB := n1_; clear n0_ n1_; clear hg hw hp_)); try go_wp2_with (first | ((with_reducible refine gate_store (t := 3) (p := 86) rfl ?_); (try (rw [drewN_self wr]; generalize hq_ : World.drewN wr _ = wr; have n0_ := Aside0.mk (Kd.R_at hq_ HO_7.out); have n1_ := Aside0.mk (below_at hq_ HB.out); have HQ_ := Aside0.mk hq_; clear hq_ HO_7 HB; have HO_7 := n0_; have HB := n1_; clear n0_ n1_; (try (have HP35 := Kd.R_putg HO_7.out (x8_2 : Int) (wrap64 ((rd x7_3 x9_3) + 1)))))); refine store_event (t := 3) (p := 86) (v := ?vo_w36) (w1 := (wr.setCell ⟨go33, (x8_2 : Int).toNat, none⟩ (.int .i64 (wrap64 ((rd x7_3 x9_3) + 1))))) ?hg ?ho ?hn ?hr ?_; (case ho => rfl); (case hg => rfl); (case hn => rfl); (case hr => first | (go_simp; done) | (go_simp; rfl) | (rw [← HQ_.out]; go_simp; done) | (rw [← HQ_.out]; go_simp; rfl)); intro w36 hw; have hg : wr.grownBy w36 (some go33) := (by rw [hw]; exact HP35.2); have hp_ : Kd.R (Kd.int .i64) 3 w36 w.heap.size (fun _ => True) (.slice (some ⟨go33, 0, none⟩) x7_3.length co34) y142 := (by rw [hw, Ny142.out]; exact HP35.1); clear HP35; have n0_ := Aside0.mk (hp_); have n1_ := Aside0.mk ((by rw [hw]; exact below_set (HB.out) GB33.out : Below w.heap.size w w36)); clear HO_7; clear HB; have HO_7 := n0_; have HB := n1_; clear n0_ n1_; clear hg hw hp_)))
                      go_roundg k3
                      case measure => have := HJ2.out; have := HK2.out; have := HK3.out; omega
                      case rel => exact ⟨(y142), (wrap64 (x9_3 + 1)), (by first | rfl | (simp; done) | (simp [*]; done)), H', ⟨by have := HJ2.out; have := HK2.out; have := HK3.out; omega⟩, ⟨by exact rw_ HO_7.out⟩, ⟨bl_⟩⟩
                     ·rw [if_neg c32] at H; have c32b0 : ((rd x7_3 x8_2) == 0) = false := beq_eq_false_iff_ne.mpr c32; have c32b1 : ((rd x7_3 x8_2) != 0) = true := bne_iff_ne.mpr c32; by_cases c37 : (wrap64 ((rd x7_3 x9_3) + 1)) < (rd x7_3 x8_2)
                      ·rw [if_pos c37] at H; have c37b0 : decide ((wrap64 ((rd x7_3 x9_3) + 1)) < (rd x7_3 x8_2)) = true := decide_eq_true c37; clear c37; obtain ⟨y146, hy146⟩ : ∃ y_ : List Int, y_ = (x7_3.set (x8_2 : Int).toNat (wrap64 ((rd x7_3 x9_3) + 1))) := ⟨_, rfl⟩; replace H : (impl_PageBreaks.l1 k3 l0 a1 (l0.length : Int) y146 x8_2 (wrap64 (x9_3 + 1))) = some (r1, r2) := by first | (rw [hy146]; with_reducible exact H) | (have H2_ := (Option.bind_some _ _).symm.trans H; rw [hy146]; with_reducible exact H2_) | (have H2_ := (Option.bind_some _ _).symm.trans H; with_reducible exact H2_) | with_reducible exact H | (rw [hy146]; exact H) | exact H
                       have Ny146 := Aside0.mk hy146; clear hy146; have H' := Aside0.mk H; clear H; have p138 : 0 ≤ ((ji22) : Int) := of_decide_eq_true (by first | (with_reducible assumption) | assumption); have q138 : (ji22) < (l0.length : Int) := of_decide_eq_true (by first | (with_reducible assumption) | assumption); obtain ⟨ad138, e138, hx138_0⟩ := Kd.at_bool HR0.out (ji22) p138 q138; (try rw [← Nbq25.out] at hx138_0)
                       cases e138; replace hx138_0 := (HB.out.cell (World.block_lt_of_cell? w _ hx138_0)).trans hx138_0; replace p138 := eq_true p138; replace q138 := eq_true q138; obtain ⟨Ao39, co39, eo39⟩ := Kd.R_slice HO_7.out; subst eo39; have p139 : 0 ≤ (x9_3 : Int) := of_decide_eq_true (by first | (with_reducible assumption) | assumption); have q139 : x9_3 < (x7_3.length : Int) := of_decide_eq_true (by first | (with_reducible assumption) | assumption); obtain ⟨ad139, e139, hx139_0⟩ := Kd.at_int (Kd.R_reads' HO_7.out).2.2 x9_3 p139 q139
                       cases e139; replace p139 := eq_true p139; replace q139 := eq_true q139; have p140 : 0 ≤ (x8_2 : Int) := of_decide_eq_true (by first | (with_reducible assumption) | assumption); have q140 : x8_2 < (x7_3.length : Int) := of_decide_eq_true (by first | (with_reducible assumption) | assumption); obtain ⟨ad140, e140, hx140_0⟩ := Kd.at_int (Kd.R_reads' HO_7.out).2.2 x8_2 p140 q140; obtain rfl : ad139 = ad140 := (by injection e140)
                       replace p140 := eq_true p140; replace q140 := eq_true q140; have p143 : 0 ≤ (x9_3 : Int) := of_decide_eq_true (by first | (with_reducible assumption) | assumption); have q143 : x9_3 < (x7_3.length : Int) := of_decide_eq_true (by first | (with_reducible assumption) | assumption); obtain ⟨ad143, e143, hx143_0⟩ := Kd.at_int (Kd.R_reads' HO_7.out).2.2 x9_3 p143 q143; obtain rfl : ad139 = ad143 := (by injection e143)
                       replace p143 := eq_true p143; replace q143 := eq_true q143; have p144 : 0 ≤ (x8_2 : Int) := of_decide_eq_true (by first | (with_reducible assumption) | assumption); have q144 : x8_2 < (x7_3.length : Int) := of_decide_eq_true (by first | (with_reducible assumption) | assumption); obtain ⟨ad144, e144, hx144_0⟩ := Kd.at_int (Kd.R_reads' HO_7.out).2.2 x8_2 p144 q144; obtain rfl : ad139 = ad144 := (by injection e144)
                       replace p144 := eq_true p144; replace q144 := eq_true q144; have p145 : 0 ≤ (x9_3 : Int) := of_decide_eq_true (by first | (with_reducible assumption) | assumption); have q145 : x9_3 < (x7_3.length : Int) := of_decide_eq_true (by first | (with_reducible assumption) | assumption); obtain ⟨ad145, e145, hx145_0⟩ := Kd.at_int (Kd.R_reads' HO_7.out).2.2 x9_3 p145 q145; obtain rfl : ad139 = ad145 := (by injection e145)
                       replace p145 := eq_true p145; replace q145 := eq_true q145; have p38 : 0 ≤ (x8_2 : Int) := of_decide_eq_true (by first | (with_reducible assumption) | assumption); have q38 : (x8_2 : Int) < ((x7_3.length : Int) : Int) := of_decide_eq_true (by first | (with_reducible assumption) | assumption); obtain ⟨go38, co38, eo38, gb38, gl38, cl38, HG38⟩ := Kd.R_form HO_7.out (by omega); (first | cases eo38 | (injection eo38 with ea_ en_ ec_; (first | subst ea_ | (injection ea_ with ea_; subst ea_)); subst ec_; clear en_))
                       have GB38 := Aside0.mk gb38; have GG38 := Aside0.mk HG38; clear gb38 gl38 HG38; (first | simp only [add_plain] at hx139_0 | skip); (first | simp only [add_plain] at hx140_0 | skip); (first | simp only [add_plain] at hx143_0 | skip); (first | simp only [add_plain] at hx144_0 | skip); (first | simp only [add_plain] at hx145_0 | skip); obtain ⟨hx38_0, hf38_0⟩ := Kd.R_celln 0 HO_7.out (x8_2 : Int) p38 q38; replace p38 := eq_true p38; replace q38 := eq_true q38; have HP40 := Kd.R_putg HO_7.out (x8_2 : Int) (wrap64 ((rd x7_3 x9_3) + 1)); go_wp2_with (first | ((with_reducible refine gate_store (t := 3) (p := 86) rfl ?_); (try (rw [drewN_self wr]; generalize hq_ : World.drewN wr _ = wr; have n0_ := Aside0.mk (Kd.R_at hq_ HO_7.out); have n1_ := Aside0.mk (below_at hq_ HB.out); have HQ_ := Aside0.mk hq_; clear hq_ HO_7 HB; have HO_7 := n0_; have HB := n1_; clear n0_ n1_; (try (have HP40 := Kd.R_putg HO_7.out (x8_2 : Int) (wrap64 ((rd x7_3 x9_3) + 1)))))); refine store_event (t := 3) (p := 86) (v := ?vo_w41) (w1 := (wr.setCell ⟨go38, (x8_2 : Int).toNat, none⟩ (.int .i64 (wrap64 ((rd x7_3 x9_3) + 1))))) ?hg ?ho ?hn ?hr ?_; (case ho => rfl); (case hg => rfl); (case hn => rfl); (case hr => first | (go_simp; done) | (go_simp; rfl) | (rw [← HQ_.out]; go_simp; done) | (rw [← HQ_.out]; go_simp; rfl)); intro w41 hw; have hg : wr.grownBy w41 (some go38) := (by rw [hw]; exact HP40.2); have hp_ : Kd.R (Kd.int .i64) 3 w41 w.heap.size (fun _ => True) (.slice (some ⟨go38, 0, none⟩) x7_3.length co39) y146 := (by rw [hw, Ny146.out]; exact HP40.1); clear HP40; have n0_ := Aside0.mk (hp_); have n1_ := Aside0.mk ((by rw [hw]; exact below_set (HB.out) GB38.out : Below w.heap.size w w41)); clear HO_7; clear HB; have HO_7 := n0_; have HB := n1_; clear n0_ n1_; clear hg hw hp_)); repeat (go_quiet (first | ((with_reducible refine gate_store (t := 3) (p := 86) rfl ?_); (try (rw [drewN_self wr]; generalize hq_ : World.drewN wr _ = wr; have n0_ := Aside0.mk (Kd.R_at hq_ HO_7.out); have n1_ := Aside0.mk (below_at hq_ HB.out); have HQ_ := Aside0.mk hq_; clear hq_ HO_7 HB; have HO_7 := n0_; have HB := n1_; clear n0_ n1_; (try (have HP40 := Kd.R_putg HO_7.out (x8_2 : Int) (wrap64 ((rd x7_3 x9_3) + 1)))))); refine store_event (t := 3) (p := 86) (v := ?vo_w41) (w1 := (wr.setCell ⟨go38, (x8_2 : Int).toNat, none⟩ (.int .i64 (wrap64 ((rd x7_3 x9_3) + 1))))) ?hg ?ho ?hn ?hr ?_; (case ho => rfl); (case hg => rfl); (case hn => rfl); (case hr => first | (go_simp; done) | (go_simp; rfl) | (rw [← HQ_.out]; go_simp; done) | (rw [← HQ_.out]; go_simp; rfl)); intro w41 hw; have hg : wr.grownBy w41 (some go38) := (by rw [hw]; exact HP40.2); have hp_ : Kd.R (Kd.int .i64) 3 w41 w.heap.size (fun _ => True) (.slice (some ⟨go38, 0, none⟩) x7_3.length co39) y146 := (by rw [hw, Ny146.out]; exact HP40.1); clear HP40; have n0_ := Aside0.mk (hp_); have n1_ := Aside0.mk ((by rw [hw]; exact below_set (HB.out) GB38.out : Below w.heap.size w w41)); clear HO_7; clear HB; have HO_7 := n0_; have HB := n1_; clear n0_ n1_; clear hg hw hp_)); try go_wp2_with (first | ((with_reducible refine gate_store (t := 3) (p := 86) rfl ?_); (try (rw [drewN_self wr]; generalize hq_ : World.drewN wr _ = wr; have n0_ := Aside0.mk (Kd.R_at hq_ HO_7.out); have n1_ := Aside0.mk (below_at hq_ HB.out); have HQ_ := Aside0.mk hq_; clear hq_ HO_7 HB; have HO_7 := n0_; have HB := n1_; clear n0_ n1_; (try (have HP40 := Kd.R_putg HO_7.out (x8_2 : Int) (wrap64 ((rd x7_3 x9_3) + 1)))))); refine store_event (t := 3) (p := 86) (v := ?vo_w41) (w1 := (wr.setCell ⟨go38, (x8_2 : Int).toNat, none⟩ (.int .i64 (wrap64 ((rd x7_3 x9_3) + 1))))) ?hg ?ho ?hn ?hr ?_; (case ho => rfl); (case hg => rfl); (case hn => rfl); (case hr => first | (go_simp; done) | (go_simp; rfl) | (rw [← HQ_.out]; go_simp; done) | (rw [← HQ_.out]; go_simp; rfl)); intro w41 hw; have hg : wr.grownBy w41 (some go38) := (by rw [hw]; exact HP40.2); have hp_ : Kd.R (Kd.int .i64) 3 w41 w.heap.size (fun _ => True) (.slice (some ⟨go38, 0, none⟩) x7_3.length co39) y146 := (by rw [hw, Ny146.out]; exact HP40.1); clear HP40; have n0_ := Aside0.mk (hp_); have n1_ := Aside0.mk ((by rw [hw]; exact below_set (HB.out) GB38.out : Below w.heap.size w w41)); clear HO_7; clear HB; have HO_7 := n0_; have HB := n1_; clear n0_ n1_; clear hg hw hp_)))
                       go_roundg k3
                       case measure => have := HJ2.out; have := HK2.out; have := HK3.out; omega
                       case rel => exact ⟨(y146), (wrap64 (x9_3 + 1)), (by first | rfl | (simp; done) | (simp [*]; done)), H', ⟨by have := HJ2.out; have := HK2.out; have := HK3.out; omega⟩, ⟨by exact rw_ HO_7.out⟩, ⟨bl_⟩⟩
                      ·rw [if_neg c37] at H; have c37b0 : decide ((wrap64 ((rd x7_3 x9_3) + 1)) < (rd x7_3 x8_2)) = false := decide_eq_false c37; clear c37; have H' := Aside0.mk H; clear H; have p138 : 0 ≤ ((ji22) : Int) := of_decide_eq_true (by first | (with_reducible assumption) | assumption); have q138 : (ji22) < (l0.length : Int) := of_decide_eq_true (by first | (with_reducible assumption) | assumption); obtain ⟨ad138, e138, hx138_0⟩ := Kd.at_bool HR0.out (ji22) p138 q138; (try rw [← Nbq25.out] at hx138_0)
                       cases e138; replace hx138_0 := (HB.out.cell (World.block_lt_of_cell? w _ hx138_0)).trans hx138_0; replace p138 := eq_true p138; replace q138 := eq_true q138; obtain ⟨Ao42, co42, eo42⟩ := Kd.R_slice HO_7.out; subst eo42; have p139 : 0 ≤ (x9_3 : Int) := of_decide_eq_true (by first | (with_reducible assumption) | assumption); have q139 : x9_3 < (x7_3.length : Int) := of_decide_eq_true (by first | (with_reducible assumption) | assumption); obtain ⟨ad139, e139, hx139_0⟩ := Kd.at_int (Kd.R_reads' HO_7.out).2.2 x9_3 p139 q139
                       cases e139; replace p139 := eq_true p139; replace q139 := eq_true q139; have p140 : 0 ≤ (x8_2 : Int) := of_decide_eq_true (by first | (with_reducible assumption) | assumption); have q140 : x8_2 < (x7_3.length : Int) := of_decide_eq_true (by first | (with_reducible assumption) | assumption); obtain ⟨ad140, e140, hx140_0⟩ := Kd.at_int (Kd.R_reads' HO_7.out).2.2 x8_2 p140 q140; obtain rfl : ad139 = ad140 := (by injection e140)
                       replace p140 := eq_true p140; replace q140 := eq_true q140; have p143 : 0 ≤ (x9_3 : Int) := of_decide_eq_true (by first | (with_reducible assumption) | assumption); have q143 : x9_3 < (x7_3.length : Int) := of_decide_eq_true (by first | (with_reducible assumption) | assumption); obtain ⟨ad143, e143, hx143_0⟩ := Kd.at_int (Kd.R_reads' HO_7.out).2.2 x9_3 p143 q143; obtain rfl : ad139 = ad143 := (by injection e143)
                       replace p143 := eq_true p143; replace q143 := eq_true q143; have p144 : 0 ≤ (x8_2 : Int) := of_decide_eq_true (by first | (with_reducible assumption) | assumption); have q144 : x8_2 < (x7_3.length : Int) := of_decide_eq_true (by first | (with_reducible assumption) | assumption); obtain ⟨ad144, e144, hx144_0⟩ := Kd.at_int (Kd.R_reads' HO_7.out).2.2 x8_2 p144 q144; obtain rfl : ad139 = ad144 := (by injection e144)
                       replace p144 := eq_true p144; replace q144 := eq_true q144; go_wp2; repeat (go_quiet (fail); try go_wp2)
                       go_roundg k3
                       case measure => have := HJ2.out; have := HK2.out; have := HK3.out; omega
                       case rel => exact ⟨(x7_3), (wrap64 (x9_3 + 1)), (by first | rfl | (simp; done) | (simp [*]; done)), H', ⟨by have := HJ2.out; have := HK2.out; have := HK3.out; omega⟩, ⟨by exact rw_ HO_7.out⟩, ⟨bl_⟩⟩
                    ·rw [if_neg c31] at H; exact absurd H (by simp)
                   ·rw [if_neg c30] at H; exact absurd H (by simp)
                  ·rw [if_neg c29] at H; have c29b0 : decide (0 < (rd x7_3 x9_3)) = false := decide_eq_false c29; clear c29; have H' := Aside0.mk H; clear H; have p138 : 0 ≤ ((ji22) : Int) := of_decide_eq_true (by first | (with_reducible assumption) | assumption); have q138 : (ji22) < (l0.length : Int) := of_decide_eq_true (by first | (with_reducible assumption) | assumption); obtain ⟨ad138, e138, hx138_0⟩ := Kd.at_bool HR0.out (ji22) p138 q138; (try rw [← Nbq25.out] at hx138_0)
                   cases e138; replace hx138_0 := (HB.out.cell (World.block_lt_of_cell? w _ hx138_0)).trans hx138_0; replace p138 := eq_true p138; replace q138 := eq_true q138; obtain ⟨Ao43, co43, eo43⟩ := Kd.R_slice HO_7.out; subst eo43; have p139 : 0 ≤ (x9_3 : Int) := of_decide_eq_true (by first | (with_reducible assumption) | assumption); have q139 : x9_3 < (x7_3.length : Int) := of_decide_eq_true (by first | (with_reducible assumption) | assumption); obtain ⟨ad139, e139, hx139_0⟩ := Kd.at_int (Kd.R_reads' HO_7.out).2.2 x9_3 p139 q139
                   cases e139; replace p139 := eq_true p139; replace q139 := eq_true q139; go_wp2; repeat (go_quiet (fail); try go_wp2)
                   go_roundg k3
                   case measure => have := HJ2.out; have := HK2.out; have := HK3.out; omega
                   case rel => exact ⟨(x7_3), (wrap64 (x9_3 + 1)), (by first | rfl | (simp; done) | (simp [*]; done)), H', ⟨by have := HJ2.out; have := HK2.out; have := HK3.out; omega⟩, ⟨by exact rw_ HO_7.out⟩, ⟨bl_⟩⟩
                 ·rw [if_neg c28] at H; exact absurd H (by simp)
                ·rw [if_neg c27] at H; exact absurd H (by simp)
               ·replace c26 := Bool.eq_false_iff.mpr c26; subst c26; rw [if_neg (show ¬ (false = true) by decide)] at H; have H' := Aside0.mk H; clear H; have p138 : 0 ≤ ((ji22) : Int) := of_decide_eq_true (by first | (with_reducible assumption) | assumption); have q138 : (ji22) < (l0.length : Int) := of_decide_eq_true (by first | (with_reducible assumption) | assumption); obtain ⟨ad138, e138, hx138_0⟩ := Kd.at_bool HR0.out (ji22) p138 q138; (try rw [← Nbq25.out] at hx138_0)
                cases e138; replace hx138_0 := (HB.out.cell (World.block_lt_of_cell? w _ hx138_0)).trans hx138_0; replace p138 := eq_true p138; replace q138 := eq_true q138; go_wp2; repeat (go_quiet (fail); try go_wp2)
                go_roundg k3
                case measure => have := HJ2.out; have := HK2.out; have := HK3.out; omega
                case rel => exact ⟨(x7_3), (wrap64 (x9_3 + 1)), (by first | rfl | (simp; done) | (simp [*]; done)), H', ⟨by have := HJ2.out; have := HK2.out; have := HK3.out; omega⟩, ⟨by exact rw_ HO_7.out⟩, ⟨bl_⟩⟩
              ·rw [if_neg c24] at H; exact absurd H (by simp)
             ·rw [if_neg c23] at H; exact absurd H (by simp)
            ·rw [if_neg c21] at H; have c21b0 : decide (x9_3 ≤ (wrap64 (x8_2 + a1))) = false := decide_eq_false c21; clear c21; have H' := Aside0.mk H; clear H; go_wp2; repeat (go_quiet (fail); try go_wp2)
             go_roundg k3
             case measure => have := HJ2.out; have := HK2.out; have := HK3.out; omega
             case rel => exact ⟨(x7_3), (wrap64 (x8_2 - 1)), (by first | rfl | (simp; done) | (simp [*]; done)), H', ⟨by have := HJ2.out; have := HK2.out; have := HK3.out; omega⟩, ⟨by exact rw_ HO_7.out⟩, ⟨bl_⟩⟩
        ·rw [if_neg c14] at H; have c14b0 : decide (0 ≤ x8_2) = false := decide_eq_false c14; clear c14; obtain ⟨y147, hy147⟩ : ∃ y_ : List Int, y_ = (([] : List Int)) := ⟨_, rfl⟩; replace H : (if 0 < (x7_2.length : Int) then (if (rd x7_2 0) = 0 then (some (y147, false)) else (impl_PageBreaks.l2 k2 l0 a1 x7_2 y147 0)) else (none)) = some (r1, r2) := by first | (rw [hy147]; with_reducible exact H) | (have H2_ := (Option.bind_some _ _).symm.trans H; rw [hy147]; with_reducible exact H2_) | (have H2_ := (Option.bind_some _ _).symm.trans H; with_reducible exact H2_) | with_reducible exact H | (rw [hy147]; exact H) | exact H
         have Ny147 := Aside0.mk hy147; clear hy147; by_cases c44 : 0 < (x7_2.length : Int)
         ·rw [if_pos c44] at H; have c44b0 : decide (0 < (x7_2.length : Int)) = true := decide_eq_true c44; have c44b1 : decide (0 < x7_2.length) = true := decide_eq_true (by omega); clear c44; by_cases c45 : (rd x7_2 0) = 0
          ·rw [if_pos c45] at H; have c45b0 : ((rd x7_2 0) == 0) = true := beq_iff_eq.mpr c45; have c45b1 : ((rd x7_2 0) != 0) = false := bne_eq_false_iff_eq.mpr c45; clear c45; simp only [Option.some.injEq, Prod.mk.injEq] at H; obtain ⟨rfl, rfl⟩ := H; go_wp2_with (first | ((with_reducible refine gate_dst (N := 87) rfl ?_); refine Kd.R_lit (Kd.int .i64) _ 3 ?hg (N := 87) ?hd (xs := ([] : List Int)) (inner := []) (ok := fun _ => True) (okp := fun _ => True) ?hr ?hp (fun _ hk => hk) trivial (Below.refl _ _) (Nat.le_refl _) (by simp) ?_; (case hd => rfl); (case hg => rfl); (case hr => first | (go_simp; done) | (go_simp; rfl) | (rw [← HQ_.out]; go_simp; done) | (rw [← HQ_.out]; go_simp; rfl)); (case hp => exact (Reps.none _ _)); intro v148 w46 ho47 hb hg_ hnew_; clear hg_ hnew_; (first | rw [← Ny147.out] at ho47 | (simp only [Int.reduceToNat] at ho47; rw [← Ny147.out] at ho47)); have n0_ := Aside0.mk (Kd.R_elder' (by exact rw_ HO_7.out) (Kd.R_base ho47) hb); have n1_ := Aside0.mk (Kd.R_lower (Kd.R_new' ho47 (Kd.R_lt (by exact rw_ HO_7.out))) (below_size bl_)); have n2_ := Aside0.mk (below_step bl_ hb); clear HO_7; clear HB; have HO_7 := n0_; have HO149 := n1_; have HB := n2_; clear n0_ n1_ n2_; clear hb ho47; obtain ⟨Ao48, co48, eo48⟩ := Kd.R_slice HO_7.out; subst eo48; have p150 : 0 ≤ (0 : Int) := (by omega); have q150 : 0 < (x7_2.length : Int) := of_decide_eq_true (by first | (with_reducible assumption) | assumption); obtain ⟨ad150, e150, hx150_0⟩ := Kd.at_int (Kd.R_reads' HO_7.out).2.2 0 p150 q150; cases e150; have qi150 : (0 < x7_2.length) = True := eq_true (by omega); (try rw [show ((0 : Int)).toNat = 0 from rfl] at hx150_0); (try rw [Addr.add_zero'] at hx150_0); replace p150 := eq_true p150; replace q150 := eq_true q150)); repeat (go_quiet (first | ((with_reducible refine gate_dst (N := 87) rfl ?_); refine Kd.R_lit (Kd.int .i64) _ 3 ?hg (N := 87) ?hd (xs := ([] : List Int)) (inner := []) (ok := fun _ => True) (okp := fun _ => True) ?hr ?hp (fun _ hk => hk) trivial (Below.refl _ _) (Nat.le_refl _) (by simp) ?_; (case hd => rfl); (case hg => rfl); (case hr => first | (go_simp; done) | (go_simp; rfl) | (rw [← HQ_.out]; go_simp; done) | (rw [← HQ_.out]; go_simp; rfl)); (case hp => exact (Reps.none _ _)); intro v148 w46 ho47 hb hg_ hnew_; clear hg_ hnew_; (first | rw [← Ny147.out] at ho47 | (simp only [Int.reduceToNat] at ho47; rw [← Ny147.out] at ho47)); have n0_ := Aside0.mk (Kd.R_elder' (by exact rw_ HO_7.out) (Kd.R_base ho47) hb); have n1_ := Aside0.mk (Kd.R_lower (Kd.R_new' ho47 (Kd.R_lt (by exact rw_ HO_7.out))) (below_size bl_)); have n2_ := Aside0.mk (below_step bl_ hb); clear HO_7; clear HB; have HO_7 := n0_; have HO149 := n1_; have HB := n2_; clear n0_ n1_ n2_; clear hb ho47; obtain ⟨Ao48, co48, eo48⟩ := Kd.R_slice HO_7.out; subst eo48; have p150 : 0 ≤ (0 : Int) := (by omega); have q150 : 0 < (x7_2.length : Int) := of_decide_eq_true (by first | (with_reducible assumption) | assumption); obtain ⟨ad150, e150, hx150_0⟩ := Kd.at_int (Kd.R_reads' HO_7.out).2.2 0 p150 q150; cases e150; have qi150 : (0 < x7_2.length) = True := eq_true (by omega); (try rw [show ((0 : Int)).toNat = 0 from rfl] at hx150_0); (try rw [Addr.add_zero'] at hx150_0); replace p150 := eq_true p150; replace q150 := eq_true q150)); try go_wp2_with (first | ((with_reducible refine gate_dst (N := 87) rfl ?_); refine Kd.R_lit (Kd.int .i64) _ 3 ?hg (N := 87) ?hd (xs := ([] : List Int)) (inner := []) (ok := fun _ => True) (okp := fun _ => True) ?hr ?hp (fun _ hk => hk) trivial (Below.refl _ _) (Nat.le_refl _) (by simp) ?_; (case hd => rfl); (case hg => rfl); (case hr => first | (go_simp; done) | (go_simp; rfl) | (rw [← HQ_.out]; go_simp; done) | (rw [← HQ_.out]; go_simp; rfl)); (case hp => exact (Reps.none _ _)); intro v148 w46 ho47 hb hg_ hnew_; clear hg_ hnew_; (first | rw [← Ny147.out] at ho47 | (simp only [Int.reduceToNat] at ho47; rw [← Ny147.out] at ho47)); have n0_ := Aside0.mk (Kd.R_elder' (by exact rw_ HO_7.out) (Kd.R_base ho47) hb); have n1_ := Aside0.mk (Kd.R_lower (Kd.R_new' ho47 (Kd.R_lt (by exact rw_ HO_7.out))) (below_size bl_)); have n2_ := Aside0.mk (below_step bl_ hb); clear HO_7; clear HB; have HO_7 := n0_; have HO149 := n1_; have HB := n2_; clear n0_ n1_ n2_; clear hb ho47; obtain ⟨Ao48, co48, eo48⟩ := Kd.R_slice HO_7.out; subst eo48; have p150 : 0 ≤ (0 : Int) := (by omega); have q150 : 0 < (x7_2.length : Int) := of_decide_eq_true (by first | (with_reducible assumption) | assumption); obtain ⟨ad150, e150, hx150_0⟩ := Kd.at_int (Kd.R_reads' HO_7.out).2.2 0 p150 q150; cases e150; have qi150 : (0 < x7_2.length) = True := eq_true (by omega); (try rw [show ((0 : Int)).toNat = 0 from rfl] at hx150_0); (try rw [Addr.add_zero'] at hx150_0); replace p150 := eq_true p150; replace q150 := eq_true q150)))
           go_ret2; exact ⟨_, by first | rfl | (simp [errW_none, errW_some] <;> rfl) | (simp only [← hji9]; first | rfl | (simp [errW_none, errW_some] <;> rfl)) | (simp [*, errW_none, errW_some] <;> rfl), by (with_reducible repeat (first | apply Kd.R_alloc | apply Kd.R_drewN | apply Kd.R_drew)); exact Kd.R_mono HO149.out (fun _ hk => trivial), bl_⟩
          ·rw [if_neg c45] at H; have c45b0 : ((rd x7_2 0) == 0) = false := beq_eq_false_iff_ne.mpr c45; have c45b1 : ((rd x7_2 0) != 0) = true := bne_iff_ne.mpr c45; have H' := Aside0.mk H; clear H; go_wp2_with (first | ((with_reducible refine gate_dst (N := 87) rfl ?_); refine Kd.R_lit (Kd.int .i64) _ 3 ?hg (N := 87) ?hd (xs := ([] : List Int)) (inner := []) (ok := fun _ => True) (okp := fun _ => True) ?hr ?hp (fun _ hk => hk) trivial (Below.refl _ _) (Nat.le_refl _) (by simp) ?_; (case hd => rfl); (case hg => rfl); (case hr => first | (go_simp; done) | (go_simp; rfl) | (rw [← HQ_.out]; go_simp; done) | (rw [← HQ_.out]; go_simp; rfl)); (case hp => exact (Reps.none _ _)); intro v148 w49 ho50 hb hg_ hnew_; clear hg_ hnew_; (first | rw [← Ny147.out] at ho50 | (simp only [Int.reduceToNat] at ho50; rw [← Ny147.out] at ho50)); have n0_ := Aside0.mk (Kd.R_elder' (by exact rw_ HO_7.out) (Kd.R_base ho50) hb); have n1_ := Aside0.mk (Kd.R_lower (Kd.R_new' ho50 (Kd.R_lt (by exact rw_ HO_7.out))) (below_size bl_)); have n2_ := Aside0.mk (below_step bl_ hb); clear HO_7; clear HB; have HO_7 := n0_; have HO149 := n1_; have HB := n2_; clear n0_ n1_ n2_; clear hb ho50; obtain ⟨Ao51, co51, eo51⟩ := Kd.R_slice HO_7.out; subst eo51; have p150 : 0 ≤ (0 : Int) := (by omega); have q150 : 0 < (x7_2.length : Int) := of_decide_eq_true (by first | (with_reducible assumption) | assumption); obtain ⟨ad150, e150, hx150_0⟩ := Kd.at_int (Kd.R_reads' HO_7.out).2.2 0 p150 q150; cases e150; have qi150 : (0 < x7_2.length) = True := eq_true (by omega); (try rw [show ((0 : Int)).toNat = 0 from rfl] at hx150_0); (try rw [Addr.add_zero'] at hx150_0); replace p150 := eq_true p150; replace q150 := eq_true q150)); repeat (go_quiet (first | ((with_reducible refine gate_dst (N := 87) rfl ?_); refine Kd.R_lit (Kd.int .i64) _ 3 ?hg (N := 87) ?hd (xs := ([] : List Int)) (inner := []) (ok := fun _ => True) (okp := fun _ => True) ?hr ?hp (fun _ hk => hk) trivial (Below.refl _ _) (Nat.le_refl _) (by simp) ?_; (case hd => rfl); (case hg => rfl); (case hr => first | (go_simp; done) | (go_simp; rfl) | (rw [← HQ_.out]; go_simp; done) | (rw [← HQ_.out]; go_simp; rfl)); (case hp => exact (Reps.none _ _)); intro v148 w49 ho50 hb hg_ hnew_; clear hg_ hnew_; (first | rw [← Ny147.out] at ho50 | (simp only [Int.reduceToNat] at ho50; rw [← Ny147.out] at ho50)); have n0_ := Aside0.mk (Kd.R_elder' (by exact rw_ HO_7.out) (Kd.R_base ho50) hb); have n1_ := Aside0.mk (Kd.R_lower (Kd.R_new' ho50 (Kd.R_lt (by exact rw_ HO_7.out))) (below_size bl_)); have n2_ := Aside0.mk (below_step bl_ hb); clear HO_7; clear HB; have HO_7 := n0_; have HO149 := n1_; have HB := n2_; clear n0_ n1_ n2_; clear hb ho50; obtain ⟨Ao51, co51, eo51⟩ := Kd.R_slice HO_7.out; subst eo51; have p150 : 0 ≤ (0 : Int) := (by omega); have q150 : 0 < (x7_2.length : Int) := of_decide_eq_true (by first | (with_reducible assumption) | assumption); obtain ⟨ad150, e150, hx150_0⟩ := Kd.at_int (Kd.R_reads' HO_7.out).2.2 0 p150 q150; cases e150; have qi150 : (0 < x7_2.length) = True := eq_true (by omega); (try rw [show ((0 : Int)).toNat = 0 from rfl] at hx150_0); (try rw [Addr.add_zero'] at hx150_0); replace p150 := eq_true p150; replace q150 := eq_true q150)); try go_wp2_with (first | ((with_reducible refine gate_dst (N := 87) rfl ?_); refine Kd.R_lit (Kd.int .i64) _ 3 ?hg (N := 87) ?hd (xs := ([] : List Int)) (inner := []) (ok := fun _ => True) (okp := fun _ => True) ?hr ?hp (fun _ hk => hk) trivial (Below.refl _ _) (Nat.le_refl _) (by simp) ?_; (case hd => rfl); (case hg => rfl); (case hr => first | (go_simp; done) | (go_simp; rfl) | (rw [← HQ_.out]; go_simp; done) | (rw [← HQ_.out]; go_simp; rfl)); (case hp => exact (Reps.none _ _)); intro v148 w49 ho50 hb hg_ hnew_; clear hg_ hnew_; (first | rw [← Ny147.out] at ho50 | (simp only [Int.reduceToNat] at ho50; rw [← Ny147.out] at ho50)); have n0_ := Aside0.mk (Kd.R_elder' (by exact rw_ HO_7.out) (Kd.R_base ho50) hb); have n1_ := Aside0.mk (Kd.R_lower (Kd.R_new' ho50 (Kd.R_lt (by exact rw_ HO_7.out))) (below_size bl_)); have n2_ := Aside0.mk (below_step bl_ hb); clear HO_7; clear HB; have HO_7 := n0_; have HO149 := n1_; have HB := n2_; clear n0_ n1_ n2_; clear hb ho50; obtain ⟨Ao51, co51, eo51⟩ := Kd.R_slice HO_7.out; subst eo51; have p150 : 0 ≤ (0 : Int) := (by omega); have q150 : 0 < (x7_2.length : Int) := of_decide_eq_true (by first | (with_reducible assumption) | assumption); obtain ⟨ad150, e150, hx150_0⟩ := Kd.at_int (Kd.R_reads' HO_7.out).2.2 0 p150 q150; cases e150; have qi150 : (0 < x7_2.length) = True := eq_true (by omega); (try rw [show ((0 : Int)).toNat = 0 from rfl] at hx150_0); (try rw [Addr.add_zero'] at hx150_0); replace p150 := eq_true p150; replace q150 := eq_true q150)))
           go_loopg [10, 11] k2 (fun kq v10 v11 w' => ∃ (x10_3 : List Int) (x11_3 : Int), v11 = .int .i64 x11_3 ∧ Aside0 (impl_PageBreaks.l2 kq l0 a1 x7_2 x10_3 x11_3 = some (r1, r2)) ∧ Aside0 (kq ≤ k2) ∧ Aside0 (Kd.R (Kd.int .i64) 3 w' w.heap.size (fun k_ => some k_ ≠ (v10 : Value).ownBlock) (.slice (some ad150) x7_2.length co51) x7_2) ∧ Aside0 (Kd.R (Kd.int .i64) 3 w' w.heap.size (fun k_ => some k_ ≠ ((.slice (some ad150) x7_2.length co51) : Value).ownBlock) v10 x10_3) ∧ Aside0 (Below w.heap.size w w'))
           case atStart => exact ⟨(y147), (0), (by first | rfl | (simp; done) | (simp [*]; done)), H', ⟨Nat.le_refl _⟩, ⟨by (with_reducible repeat (first | apply Kd.R_alloc | apply Kd.R_drewN | apply Kd.R_drew)); exact Kd.R_mono HO_7.out (fun _ hk => hk.2)⟩, ⟨by (with_reducible repeat (first | apply Kd.R_alloc | apply Kd.R_drewN | apply Kd.R_drew)); exact Kd.R_mono HO149.out (fun _ hk => hk.2)⟩, ⟨bl_⟩⟩
           case round =>
            clear H'; try clear c1
            try clear p1
            try clear q1
            try clear hx1
            try clear qi1
            try clear c2
            try clear p2
            try clear q2
            try clear c3
            try clear p3
            try clear q3
            try clear hx3
            try clear hf3
            try clear c4
            try clear c4b0
            try clear c4b1
            try clear c6
            try clear p6
            try clear c10
            try clear c10b0
            try clear c10b1
            try clear c11
            try clear c11b0
            try clear c11b1
            try clear p13
            try clear q13
            try clear hx13
            try clear c14
            try clear c14b0
            try clear p14
            try clear q14
            try clear hx14
            try clear c15
            try clear c15b0
            try clear p15
            try clear q15
            try clear hx15
            try clear qi15
            try clear c16
            try clear c16b0
            try clear c17
            try clear c17b0
            try clear p18
            try clear q18
            try clear hx18
            try clear hf18
            try clear c21
            try clear c21b0
            try clear c23
            try clear c23b0
            try clear c24
            try clear c24b0
            try clear q25
            try clear c26
            try clear c27
            try clear c27b0
            try clear c28
            try clear c28b0
            try clear c29
            try clear c29b0
            try clear c30
            try clear c30b0
            try clear c31
            try clear c31b0
            try clear c32
            try clear c32b0
            try clear c32b1
            try clear p33
            try clear q33
            try clear hx33
            try clear hf33
            try clear c37
            try clear c37b0
            try clear p38
            try clear q38
            try clear hx38
            try clear hf38
            try clear c44
            try clear c44b0
            try clear c44b1
            try clear c45
            try clear c45b0
            try clear c45b1
            try clear hx138_0
            try clear hx139_0
            try clear hx140_0
            try clear hx141_0
            try clear hx143_0
            try clear hx144_0
            try clear hx145_0
            try clear hx150_0
            try clear hx18_0
            try clear hx33_0
            try clear hx38_0
            try clear p1
            try clear p138
            try clear p139
            try clear p140
            try clear p141
            try clear p143
            try clear p144
            try clear p145
            try clear p150
            try clear p18
            try clear p2
            try clear p33
            try clear p38
            try clear p6
            try clear q1
            try clear q138
            try clear q139
            try clear q140
            try clear q141
            try clear q143
            try clear q144
            try clear q145
            try clear q150
            try clear q18
            try clear q33
            try clear q38
            obtain ⟨x10_3, x11_3, rfl, HA, HK3, HO_7, HO_10, HB⟩ := hrel
            cases gk with
            | zero => exact absurd HA.out (by simp [impl_PageBreaks.l2])
            | succ k3 =>
             have H := HA.out; clear HA; simp only [impl_PageBreaks.l2] at H; by_cases c52 : 0 ≤ x11_3
             ·rw [if_pos c52] at H; have c52b0 : decide (0 ≤ x11_3) = true := decide_eq_true c52; clear c52; by_cases c53 : x11_3 < (x7_2.length : Int)
              ·rw [if_pos c53] at H; have c53b0 : decide (x11_3 < (x7_2.length : Int)) = true := decide_eq_true c53; clear c53; by_cases c54 : (rd x7_2 x11_3) > 1
               ·rw [if_pos c54] at H; have c54b0 : decide (1 < (rd x7_2 x11_3)) = true := decide_eq_true c54; clear c54; have H' := Aside0.mk H; clear H; have p151 : 0 ≤ (x11_3 : Int) := of_decide_eq_true (by first | (with_reducible assumption) | assumption); have q151 : x11_3 < (x7_2.length : Int) := of_decide_eq_true (by first | (with_reducible assumption) | assumption); obtain ⟨ad151, e151, hx151_0⟩ := Kd.at_int (Kd.R_reads' HO_7.out).2.2 x11_3 p151 q151; obtain rfl : ad150 = ad151 := (by injection e151)
                replace p151 := eq_true p151; replace q151 := eq_true q151; go_wp2; repeat (go_quiet (fail); try go_wp2)
                go_loopg [12] k3 (fun kq v12 w' => ∃ (x12_4 : Int), v12 = .int .i64 x12_4 ∧ Aside0 (impl_PageBreaks.l3 kq l0 a1 x7_2 x10_3 x11_3 x12_4 = some (r1, r2)) ∧ Aside0 (kq ≤ k3) ∧ Aside0 (Kd.R (Kd.int .i64) 3 w' w.heap.size (fun k_ => some k_ ≠ (u10 : Value).ownBlock) (.slice (some ad150) x7_2.length co51) x7_2) ∧ Aside0 (Kd.R (Kd.int .i64) 3 w' w.heap.size (fun k_ => some k_ ≠ ((.slice (some ad150) x7_2.length co51) : Value).ownBlock) u10 x10_3) ∧ Aside0 (Below w.heap.size w w'))
                case atStart => exact ⟨(wrap64 (x11_3 + a1)), (by first | rfl | (simp; done) | (simp [*]; done)), H', ⟨Nat.le_refl _⟩, ⟨by exact rw_ HO_7.out⟩, ⟨by exact rw_ HO_10.out⟩, ⟨bl_⟩⟩
                case round =>
                 clear H'; try clear c1
                 try clear p1
                 try clear q1
                 try clear hx1
                 try clear qi1
                 try clear c2
                 try clear p2
                 try clear q2
                 try clear c3
                 try clear p3
                 try clear q3
                 try clear hx3
                 try clear hf3
                 try clear c4
                 try clear c4b0
                 try clear c4b1
                 try clear c5
                 try clear c6
                 try clear p6
                 try clear c10
                 try clear c10b0
                 try clear c10b1
                 try clear c11
                 try clear c11b0
                 try clear c11b1
                 try clear p13
                 try clear q13
                 try clear hx13
                 try clear c14
                 try clear c14b0
                 try clear p14
                 try clear q14
                 try clear hx14
                 try clear c15
                 try clear c15b0
                 try clear p15
                 try clear q15
                 try clear hx15
                 try clear qi15
                 try clear c16
                 try clear c16b0
                 try clear c17
                 try clear c17b0
                 try clear p18
                 try clear q18
                 try clear hx18
                 try clear hf18
                 try clear c21
                 try clear c21b0
                 try clear c23
                 try clear c23b0
                 try clear c24
                 try clear c24b0
                 try clear q25
                 try clear c26
                 try clear c27
                 try clear c27b0
                 try clear c28
                 try clear c28b0
                 try clear c29
                 try clear c29b0
                 try clear c30
                 try clear c30b0
                 try clear c31
                 try clear c31b0
                 try clear c32
                 try clear c32b0
                 try clear c32b1
                 try clear p33
                 try clear q33
                 try clear hx33
                 try clear hf33
                 try clear c37
                 try clear c37b0
                 try clear p38
                 try clear q38
                 try clear hx38
                 try clear hf38
                 try clear c44
                 try clear c44b0
                 try clear c44b1
                 try clear c45
                 try clear c45b0
                 try clear c45b1
                 try clear c52
                 try clear c52b0
                 try clear c53
                 try clear c53b0
                 try clear c54
                 try clear c54b0
                 try clear hx138_0
                 try clear hx139_0
                 try clear hx140_0
                 try clear hx141_0
                 try clear hx143_0
                 try clear hx144_0
                 try clear hx145_0
                 try clear hx150_0
                 try clear hx151_0
                 try clear hx18_0
                 try clear hx33_0
                 try clear hx38_0
                 try clear p1
                 try clear p13
                 try clear p138
                 try clear p139
                 try clear p14
                 try clear p140
                 try clear p141
                 try clear p143
                 try clear p144
                 try clear p145
                 try clear p15
                 try clear p150
                 try clear p151
                 try clear p18
                 try clear p2
                 try clear p3
                 try clear p33
                 try clear p38
                 try clear p6
                 try clear q1
                 try clear q13
                 try clear q138
                 try clear q139
                 try clear q14
                 try clear q140
                 try clear q141
                 try clear q143
                 try clear q144
                 try clear q145
                 try clear q15
                 try clear q150
                 try clear q151
                 try clear q18
                 try clear q2
                 try clear q25
                 try clear q3
                 try clear q33
                 try clear q38
                 obtain ⟨x12_4, rfl, HA, HK4, HO_7, HO_10, HB⟩ := hrel
                 cases gk with
                 | zero => exact absurd HA.out (by simp [impl_PageBreaks.l3])
                 | succ k4 =>
                  have H := HA.out; clear HA; simp only [impl_PageBreaks.l3] at H; obtain ⟨ji55, hji55⟩ : ∃ j_ : Int, (wrap64 (x12_4 - 1)) = j_ := ⟨_, rfl⟩; replace H : (if 0 ≤ (ji55) then (if (ji55) < (l0.length : Int) then (if rdOf false l0 (ji55) = true then (if 0 ≤ x12_4 then (if x12_4 < (x7_2.length : Int) then (if 0 ≤ x11_3 then (if x11_3 < (x7_2.length : Int) then (if (rd x7_2 x12_4) = (wrap64 ((rd x7_2 x11_3) - 1)) then (if x10_3.length < 17592186044416 then (impl_PageBreaks.l2 k4 l0 a1 x7_2 (x10_3 ++ [x12_4]) x12_4) else (none)) else (impl_PageBreaks.l3 k4 l0 a1 x7_2 x10_3 x11_3 ji55)) else (none)) else (none)) else (none)) else (none)) else (impl_PageBreaks.l3 k4 l0 a1 x7_2 x10_3 x11_3 ji55)) else (none)) else (none)) = some (r1, r2) := by first | (rw [hji55] at H; exact H) | (simp only [hji55] at H ⊢; exact H)
                  have hji55w : (IntKind.i64.wrap (x12_4 - 1)) = ji55 := (i64_w _).trans hji55; by_cases c56 : 0 ≤ (ji55)
                  ·rw [if_pos c56] at H; have c56b0 : decide (0 ≤ (ji55)) = true := decide_eq_true c56; clear c56; by_cases c57 : (ji55) < (l0.length : Int)
                   ·rw [if_pos c57] at H; have c57b0 : decide ((ji55) < (l0.length : Int)) = true := decide_eq_true c57; clear c57; obtain ⟨bq58, hbq58⟩ : ∃ b_ : Bool, b_ = (rdOf false l0 (ji55)) := ⟨_, rfl⟩; replace H : (if bq58 = true then (if 0 ≤ x12_4 then (if x12_4 < (x7_2.length : Int) then (if 0 ≤ x11_3 then (if x11_3 < (x7_2.length : Int) then (if (rd x7_2 x12_4) = (wrap64 ((rd x7_2 x11_3) - 1)) then (if x10_3.length < 17592186044416 then (impl_PageBreaks.l2 k4 l0 a1 x7_2 (x10_3 ++ [x12_4]) x12_4) else (none)) else (impl_PageBreaks.l3 k4 l0 a1 x7_2 x10_3 x11_3 ji55)) else (none)) else (none)) else (none)) else (none)) else (impl_PageBreaks.l3 k4 l0 a1 x7_2 x10_3 x11_3 ji55)) = some (r1, r2) := by rw [← hbq58] at H; exact H
                    have Nbq58 := Aside0.mk hbq58; clear hbq58; by_cases c59 : bq58 = true
                    ·subst c59; rw [if_pos rfl] at H; by_cases c60 : 0 ≤ x12_4
                     ·rw [if_pos c60] at H; have c60b0 : decide (0 ≤ x12_4) = true := decide_eq_true c60; clear c60; by_cases c61 : x12_4 < (x7_2.length : Int)
                      ·rw [if_pos c61] at H; have c61b0 : decide (x12_4 < (x7_2.length : Int)) = true := decide_eq_true c61; clear c61; by_cases c62 : 0 ≤ x11_3
                       ·rw [if_pos c62] at H; have c62b0 : decide (0 ≤ x11_3) = true := decide_eq_true c62; clear c62; by_cases c63 : x11_3 < (x7_2.length : Int)
                        ·rw [if_pos c63] at H; have c63b0 : decide (x11_3 < (x7_2.length : Int)) = true := decide_eq_true c63; clear c63; by_cases c64 : (rd x7_2 x12_4) = (wrap64 ((rd x7_2 x11_3) - 1))
                         ·rw [if_pos c64] at H; have c64b0 : ((rd x7_2 x12_4) == (wrap64 ((rd x7_2 x11_3) - 1))) = true := beq_iff_eq.mpr c64; have c64b1 : ((rd x7_2 x12_4) != (wrap64 ((rd x7_2 x11_3) - 1))) = false := bne_eq_false_iff_eq.mpr c64; clear c64; by_cases c65 : x10_3.length < 17592186044416
                          ·rw [if_pos c65] at H; have LMc65 := Aside0.mk c65; clear c65; obtain ⟨y155, hy155⟩ : ∃ y_ : List Int, y_ = (x10_3 ++ [x12_4]) := ⟨_, rfl⟩; replace H : (impl_PageBreaks.l2 k4 l0 a1 x7_2 y155 x12_4) = some (r1, r2) := by first | (rw [hy155]; with_reducible exact H) | (have H2_ := (Option.bind_some _ _).symm.trans H; rw [hy155]; with_reducible exact H2_) | (have H2_ := (Option.bind_some _ _).symm.trans H; with_reducible exact H2_) | with_reducible exact H | (rw [hy155]; exact H) | exact H
                           have Ny155 := Aside0.mk hy155; clear hy155; have H' := Aside0.mk H; clear H; have p152 : 0 ≤ ((ji55) : Int) := of_decide_eq_true (by first | (with_reducible assumption) | assumption); have q152 : (ji55) < (l0.length : Int) := of_decide_eq_true (by first | (with_reducible assumption) | assumption); obtain ⟨ad152, e152, hx152_0⟩ := Kd.at_bool HR0.out (ji55) p152 q152; (try rw [← Nbq58.out] at hx152_0)
                           cases e152; replace hx152_0 := (HB.out.cell (World.block_lt_of_cell? w _ hx152_0)).trans hx152_0; replace p152 := eq_true p152; replace q152 := eq_true q152; have p153 : 0 ≤ (x12_4 : Int) := of_decide_eq_true (by first | (with_reducible assumption) | assumption); have q153 : x12_4 < (x7_2.length : Int) := of_decide_eq_true (by first | (with_reducible assumption) | assumption); obtain ⟨ad153, e153, hx153_0⟩ := Kd.at_int (Kd.R_reads' HO_7.out).2.2 x12_4 p153 q153; obtain rfl : ad150 = ad153 := (by injection e153)
                           replace p153 := eq_true p153; replace q153 := eq_true q153; have p154 : 0 ≤ (x11_3 : Int) := of_decide_eq_true (by first | (with_reducible assumption) | assumption); have q154 : x11_3 < (x7_2.length : Int) := of_decide_eq_true (by first | (with_reducible assumption) | assumption); obtain ⟨ad154, e154, hx154_0⟩ := Kd.at_int (Kd.R_reads' HO_7.out).2.2 x11_3 p154 q154; obtain rfl : ad150 = ad154 := (by injection e154)
                           replace p154 := eq_true p154; replace q154 := eq_true q154; go_wp2_with (first | ((with_reducible refine gate_builtin (b := .append) (xs := #[.tmp 121, .tmp 123]) rfl ?_); at_builtin; refine Kd.R_append (Kd.int .i64) (w0 := w) w.heap.size rfl (.tmp 121) (.tmp 123) 22 3 (.int .i64 0) 8 rfl Try.underlying22 info3 rfl (by decide) (by omega) u10 x10_3 x12_4 [.int .i64 x12_4] (fun k_ => some k_ ≠ (.slice (some ad150) x7_2.length co51 : Value).ownBlock) (fun _ => False) rfl rfl ?aP (fun _ hk => hk.elim) ?aF ?aO ?aB ?aS ?aL ?_; (case aP => exact rfl); (case aB => exact bl_); (case aF => exact (fun k_ hk => Kd.fresh' (Kd.R_lt (by exact rw_ HO_7.out)) k_ hk)); (case aO => exact (by exact rw_ HO_10.out)); (case aS => exact (below_size bl_)); (case aL => have := LMc65.out; omega); intro v156 w66 ho hb hg hat; rw [← Ny155.out] at ho; have n0_ := Aside0.mk (Kd.R_after (ok := (fun _ => True)) (by (with_reducible repeat (first | apply Kd.R_alloc | apply Kd.R_drewN | apply Kd.R_drew)); exact Kd.R_mono HO_7.out (fun _ hk => ⟨trivial, hk⟩)) hg hat); have n1_ := Aside0.mk (hb); have n2_ := Aside0.mk (ho); clear HO_7; clear HB; clear HO_10; have HO_7 := n0_; have HB := n1_; have HO157 := n2_; clear n0_ n1_ n2_; clear ho hb hg hat)); repeat (go_quiet (first | ((with_reducible refine gate_builtin (b := .append) (xs := #[.tmp 121, .tmp 123]) rfl ?_); at_builtin; refine Kd.R_append (Kd.int .i64) (w0 := w) w.heap.size rfl (.tmp 121) (.tmp 123) 22 3 (.int .i64 0) 8 rfl Try.underlying22 info3 rfl (by decide) (by omega) u10 x10_3 x12_4 [.int .i64 x12_4] (fun k_ => some k_ ≠ (.slice (some ad150) x7_2.length co51 : Value).ownBlock) (fun _ => False) rfl rfl ?aP (fun _ hk => hk.elim) ?aF ?aO ?aB ?aS ?aL ?_; (case aP => exact rfl); (case aB => exact bl_); (case aF => exact (fun k_ hk => Kd.fresh' (Kd.R_lt (by exact rw_ HO_7.out)) k_ hk)); (case aO => exact (by exact rw_ HO_10.out)); (case aS => exact (below_size bl_)); (case aL => have := LMc65.out; omega); intro v156 w66 ho hb hg hat; rw [← Ny155.out] at ho; have n0_ := Aside0.mk (Kd.R_after (ok := (fun _ => True)) (by (with_reducible repeat (first | apply Kd.R_alloc | apply Kd.R_drewN | apply Kd.R_drew)); exact Kd.R_mono HO_7.out (fun _ hk => ⟨trivial, hk⟩)) hg hat); have n1_ := Aside0.mk (hb); have n2_ := Aside0.mk (ho); clear HO_7; clear HB; clear HO_10; have HO_7 := n0_; have HB := n1_; have HO157 := n2_; clear n0_ n1_ n2_; clear ho hb hg hat)); try go_wp2_with (first | ((with_reducible refine gate_builtin (b := .append) (xs := #[.tmp 121, .tmp 123]) rfl ?_); at_builtin; refine Kd.R_append (Kd.int .i64) (w0 := w) w.heap.size rfl (.tmp 121) (.tmp 123) 22 3 (.int .i64 0) 8 rfl Try.underlying22 info3 rfl (by decide) (by omega) u10 x10_3 x12_4 [.int .i64 x12_4] (fun k_ => some k_ ≠ (.slice (some ad150) x7_2.length co51 : Value).ownBlock) (fun _ => False) rfl rfl ?aP (fun _ hk => hk.elim) ?aF ?aO ?aB ?aS ?aL ?_; (case aP => exact rfl); (case aB => exact bl_); (case aF => exact (fun k_ hk => Kd.fresh' (Kd.R_lt (by exact rw_ HO_7.out)) k_ hk)); (case aO => exact (by exact rw_ HO_10.out)); (case aS => exact (below_size bl_)); (case aL => have := LMc65.out; omega); intro v156 w66 ho hb hg hat; rw [← Ny155.out] at ho; have n0_ := Aside0.mk (Kd.R_after (ok := (fun _ => True)) (by (with_reducible repeat (first | apply Kd.R_alloc | apply Kd.R_drewN | apply Kd.R_drew)); exact Kd.R_mono HO_7.out (fun _ hk => ⟨trivial, hk⟩)) hg hat); have n1_ := Aside0.mk (hb); have n2_ := Aside0.mk (ho); clear HO_7; clear HB; clear HO_10; have HO_7 := n0_; have HB := n1_; have HO157 := n2_; clear n0_ n1_ n2_; clear ho hb hg hat)))
                           go_roundg k4
                           case measure => have := HJ2.out; have := HK2.out; have := HK3.out; have := HK4.out; omega
                           case rel => exact ⟨(y155), (x12_4), (by first | rfl | (simp; done) | (simp [*]; done)), H', ⟨by have := HJ2.out; have := HK2.out; have := HK3.out; have := HK4.out; omega⟩, ⟨by (with_reducible repeat (first | apply Kd.R_alloc | apply Kd.R_drewN | apply Kd.R_drew)); exact Kd.R_mono HO_7.out (fun _ hk => hk.2)⟩, ⟨by exact rw_ HO157.out⟩, ⟨bl_⟩⟩
                          ·rw [if_neg c65] at H; exact absurd H (by simp)
                         ·rw [if_neg c64] at H; have c64b0 : ((rd x7_2 x12_4) == (wrap64 ((rd x7_2 x11_3) - 1))) = false := beq_eq_false_iff_ne.mpr c64; have c64b1 : ((rd x7_2 x12_4) != (wrap64 ((rd x7_2 x11_3) - 1))) = true := bne_iff_ne.mpr c64; have H' := Aside0.mk H; clear H; have p152 : 0 ≤ ((ji55) : Int) := of_decide_eq_true (by first | (with_reducible assumption) | assumption); have q152 : (ji55) < (l0.length : Int) := of_decide_eq_true (by first | (with_reducible assumption) | assumption); obtain ⟨ad152, e152, hx152_0⟩ := Kd.at_bool HR0.out (ji55) p152 q152; (try rw [← Nbq58.out] at hx152_0)
                          cases e152; replace hx152_0 := (HB.out.cell (World.block_lt_of_cell? w _ hx152_0)).trans hx152_0; replace p152 := eq_true p152; replace q152 := eq_true q152; have p153 : 0 ≤ (x12_4 : Int) := of_decide_eq_true (by first | (with_reducible assumption) | assumption); have q153 : x12_4 < (x7_2.length : Int) := of_decide_eq_true (by first | (with_reducible assumption) | assumption); obtain ⟨ad153, e153, hx153_0⟩ := Kd.at_int (Kd.R_reads' HO_7.out).2.2 x12_4 p153 q153; obtain rfl : ad150 = ad153 := (by injection e153)
                          replace p153 := eq_true p153; replace q153 := eq_true q153; have p154 : 0 ≤ (x11_3 : Int) := of_decide_eq_true (by first | (with_reducible assumption) | assumption); have q154 : x11_3 < (x7_2.length : Int) := of_decide_eq_true (by first | (with_reducible assumption) | assumption); obtain ⟨ad154, e154, hx154_0⟩ := Kd.at_int (Kd.R_reads' HO_7.out).2.2 x11_3 p154 q154; obtain rfl : ad150 = ad154 := (by injection e154)
                          replace p154 := eq_true p154; replace q154 := eq_true q154; go_wp2; repeat (go_quiet (fail); try go_wp2)
                          go_roundg k4
                          case measure => have := HJ2.out; have := HK2.out; have := HK3.out; have := HK4.out; omega
                          case rel => exact ⟨(ji55), (by first | rfl | (simp; done) | (simp only [← hji55] <;> (first | rfl | simp)) | (simp [*]; done)), H', ⟨by have := HJ2.out; have := HK2.out; have := HK3.out; have := HK4.out; omega⟩, ⟨by exact rw_ HO_7.out⟩, ⟨by exact rw_ HO_10.out⟩, ⟨bl_⟩⟩
                        ·rw [if_neg c63] at H; exact absurd H (by simp)
                       ·rw [if_neg c62] at H; exact absurd H (by simp)
                      ·rw [if_neg c61] at H; exact absurd H (by simp)
                     ·rw [if_neg c60] at H; exact absurd H (by simp)
                    ·replace c59 := Bool.eq_false_iff.mpr c59; subst c59; rw [if_neg (show ¬ (false = true) by decide)] at H; have H' := Aside0.mk H; clear H; have p152 : 0 ≤ ((ji55) : Int) := of_decide_eq_true (by first | (with_reducible assumption) | assumption); have q152 : (ji55) < (l0.length : Int) := of_decide_eq_true (by first | (with_reducible assumption) | assumption); obtain ⟨ad152, e152, hx152_0⟩ := Kd.at_bool HR0.out (ji55) p152 q152; (try rw [← Nbq58.out] at hx152_0)
                     cases e152; replace hx152_0 := (HB.out.cell (World.block_lt_of_cell? w _ hx152_0)).trans hx152_0; replace p152 := eq_true p152; replace q152 := eq_true q152; go_wp2; repeat (go_quiet (fail); try go_wp2)
                     go_roundg k4
                     case measure => have := HJ2.out; have := HK2.out; have := HK3.out; have := HK4.out; omega
                     case rel => exact ⟨(ji55), (by first | rfl | (simp; done) | (simp only [← hji55] <;> (first | rfl | simp)) | (simp [*]; done)), H', ⟨by have := HJ2.out; have := HK2.out; have := HK3.out; have := HK4.out; omega⟩, ⟨by exact rw_ HO_7.out⟩, ⟨by exact rw_ HO_10.out⟩, ⟨bl_⟩⟩
                   ·rw [if_neg c57] at H; exact absurd H (by simp)
                  ·rw [if_neg c56] at H; exact absurd H (by simp)
               ·rw [if_neg c54] at H; have c54b0 : decide (1 < (rd x7_2 x11_3)) = false := decide_eq_false c54; clear c54; simp only [Option.some.injEq, Prod.mk.injEq] at H; obtain ⟨rfl, rfl⟩ := H; have p151 : 0 ≤ (x11_3 : Int) := of_decide_eq_true (by first | (with_reducible assumption) | assumption); have q151 : x11_3 < (x7_2.length : Int) := of_decide_eq_true (by first | (with_reducible assumption) | assumption); obtain ⟨ad151, e151, hx151_0⟩ := Kd.at_int (Kd.R_reads' HO_7.out).2.2 x11_3 p151 q151; obtain rfl : ad150 = ad151 := (by injection e151)
                replace p151 := eq_true p151; replace q151 := eq_true q151; go_wp2; repeat (go_quiet (fail); try go_wp2)
                go_ret2; exact ⟨_, by first | rfl | (simp [errW_none, errW_some] <;> rfl) | (simp only [← hji9]; first | rfl | (simp [errW_none, errW_some] <;> rfl)) | (simp [*, errW_none, errW_some] <;> rfl), by (with_reducible repeat (first | apply Kd.R_alloc | apply Kd.R_drewN | apply Kd.R_drew)); exact Kd.R_mono HO_10.out (fun _ hk => trivial), bl_⟩
              ·rw [if_neg c53] at H; exact absurd H (by simp)
             ·rw [if_neg c52] at H; exact absurd H (by simp)
         ·rw [if_neg c44] at H; exact absurd H (by simp)
     ·rw [if_neg c11] at H; exact absurd H (by simp)
    ·rw [if_neg c10] at H; exact absurd H (by simp)

end Go.Proofs.Ythlipgfmfgangaa.QFnPages
