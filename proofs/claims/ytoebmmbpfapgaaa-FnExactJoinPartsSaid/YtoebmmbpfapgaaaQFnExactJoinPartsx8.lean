/- Plain functions for the Go functions that the law FnExactJoinParts reaches, and for each the proof that the call answers as the plain function says; printed by a program of this session. -/
import Derived.Test.YtoebmmbpfapgaaaQFnExactJoinPartsx0
import Derived.Test.YtoebmmbpfapgaaaQFnExactJoinPartsx7
namespace Go.Proofs.Ytoebmmbpfapgaaa.QFnExactJoinParts
open Go.RowKit Go.Proofs.YtoebmmbpfapgaaaW.PrintWords Go.Proofs.YtoebmmbpfapgaaaW.PrintLast Go.Proofs.YtoebmmbpfapgaaaW.PrintMore
attribute [local go_sem] max2_int min2_int max_two min_two max_three min_three max_four min_four   -- for this text's walks alone
set_option linter.unusedVariables false
set_option linter.unusedSimpArgs false

/-! ### impl_eventOrder: function 50 -/
def impl_eventOrder.f (k : Nat) (a0_0 : Int) (a0_1 : Int) (a0_2 : Int) (a0_3 : Int) (a1_0 : Int) (a1_1 : Int) (a1_2 : Int) (a1_3 : Int) : Option (Int) := (cmp_Compare_int.f a0_0 a1_0).bind fun t244 => ((cmp_Compare_int.f a0_3 a1_3).bind fun t245 => ((cmp_Compare_int.f a0_2 a1_2).bind fun t246 => ((cmp_Or_int.f k (([t244, t245, t246] : List Int))).bind fun t250 => (some t250))))
theorem impl_eventOrder.mono : ∀ a0 a1 a2 a3 a4 a5 a6 a7 k, LeO (impl_eventOrder.f k a0 a1 a2 a3 a4 a5 a6 a7) (impl_eventOrder.f (k + 1) a0 a1 a2 a3 a4 a5 a6 a7) := by
 intro a0 a1 a2 a3 a4 a5 a6 a7 k; unfold impl_eventOrder.f
 repeat' first
   | (with_reducible exact cmp_Or_int.mono _ _)
   | (with_reducible exact LeO.refl _)
   | (with_reducible exact LeO.none _)
   | (with_reducible refine LeO.ite ?_ ?_)
   | (with_reducible refine LeO.bind ?_ (fun _ => ?_))
   | exact cmp_Or_int.mono _ _
   | exact LeO.none _
   | refine LeO.ite ?_ ?_
   | refine LeO.bind ?_ (fun _ => ?_)
def impl_eventOrder.T1 : Bool × List (List Nat × List Nat) := (true, [([], []), ([0], [0]), ([], []), ([2], [2]), ([1, 3], [1, 3]), ([], []), ([5], [5]), ([], []), ([7], [7]), ([6, 8, 4], [6, 8]), ([], []), ([10], [10]), ([], []), ([12], [12]), ([11, 13, 9], [11, 13]), ([4, 9, 14], [4, 9, 14]), ([15, 14], [15]), ([16, 16, 0, 1, 2, 3, 4, 5, 6, 7, 8, 9, 10, 11, 12, 13, 14, 15, 16], [16])])
def impl_eventOrder.B1 : List Nat := [0, 1, 0, 4, 15, 0, 32, 0, 128, 511, 0, 1024, 0, 4096, 16383, 32767, 65535, 131071]
theorem impl_eventOrder.tab1 : rtab .any (opsOf Try.f50 1) = impl_eventOrder.T1 := by kernel_rfl
theorem impl_eventOrder.bits1 : waitsOk impl_eventOrder.T1.2 impl_eventOrder.B1 = true := by kernel_rfl
set_option maxHeartbeats 8000000 in
set_option maxRecDepth 100000 in
theorem impl_eventOrder.calls (k : Nat) (a0_0 : Int) (a0_1 : Int) (a0_2 : Int) (a0_3 : Int) (a1_0 : Int) (a1_1 : Int) (a1_2 : Int) (a1_3 : Int) (r : Int) (w : World) (h : impl_eventOrder.f k a0_0 a0_1 a0_2 a0_3 a1_0 a1_1 a1_2 a1_3 = some r) :
  Calls Try.prog 50 #[.agg #[.int .i64 a0_0, .int .i64 a0_1, .int .i64 a0_2, .int .i64 a0_3], .agg #[.int .i64 a1_0, .int .i64 a1_1, .int .i64 a1_2, .int .i64 a1_3]] w fun e w' => e = .returned (.int .i64 r) ∧ Below w.heap.size w w' := by
 have hu56 := Try.underlying56; have HB := Aside0.mk (Below.refl w.heap.size w); have H : ((cmp_Compare_int.f a0_0 a1_0).bind fun t244 => ((cmp_Compare_int.f a0_3 a1_3).bind fun t245 => ((cmp_Compare_int.f a0_2 a1_2).bind fun t246 => ((cmp_Or_int.f k (([t244, t245, t246] : List Int))).bind fun t250 => (some t250))))) = some r := h; clear h; replace H := Option.bind_eq_some_iff.mp H; obtain ⟨t244, A30, H⟩ := H; (try dsimp only at H); have A3 := Aside0.mk A30; clear A30; replace H := Option.bind_eq_some_iff.mp H; obtain ⟨t245, A40, H⟩ := H; (try dsimp only at H); have A4 := Aside0.mk A40; clear A40; replace H := Option.bind_eq_some_iff.mp H; obtain ⟨t246, A50, H⟩ := H; (try dsimp only at H); have A5 := Aside0.mk A50; clear A50; obtain ⟨y247, hy247⟩ : ∃ y_ : List Int, y_ = (([t244, t245, t246] : List Int)) := ⟨_, rfl⟩; replace H : ((cmp_Or_int.f k y247).bind fun t250 => (some t250)) = some r := by first | (rw [hy247]; with_reducible exact H) | (have H2_ := (Option.bind_some _ _).symm.trans H; rw [hy247]; with_reducible exact H2_) | (have H2_ := (Option.bind_some _ _).symm.trans H; with_reducible exact H2_) | with_reducible exact H | (rw [hy247]; exact H) | exact H
 have Ny247 := Aside0.mk hy247; clear hy247; replace H := Option.bind_eq_some_iff.mp H; obtain ⟨t250, A60, H⟩ := H; (try dsimp only at H); have A6 := Aside0.mk A60; clear A60; obtain rfl := Option.some.inj H
 go_enter Try.func50, Try.ntmps50; try go_wp2_with (first | ((with_reducible refine gate_dst (N := 2) rfl ?_); refine box_event ?hg (N := 2) ?hd (cs := #[.int .i64 a0_0, .int .i64 a0_1, .int .i64 a0_2, .int .i64 a0_3]) (t := 56) ?hr ?_; (case hd => rfl); (case hg => rfl); (case hr => first | (go_simp; done) | (go_simp; rfl)); intro gb242 hg w7 hbox hb; have n0_ := Aside0.mk (below_step bl_ hb); have n1_ := Aside0.mk (hbox); have n2_ := Aside0.mk ((by rw [hg]; exact (below_size bl_) : w.heap.size ≤ gb242)); have n3_ := Aside0.mk ((by rw [hg]; exact (below_size bl_) : w.heap.size ≤ gb242)); clear HB; have HB := n0_; have BK242 := n1_; have GW242 := n2_; have GE242 := n3_; clear n0_ n1_ n2_ n3_; clear hb hbox hg) | ((with_reducible refine gate_dst (N := 3) rfl ?_); refine box_event ?hg (N := 3) ?hd (cs := #[.int .i64 a1_0, .int .i64 a1_1, .int .i64 a1_2, .int .i64 a1_3]) (t := 56) ?hr ?_; (case hd => rfl); (case hg => rfl); (case hr => first | (go_simp; done) | (go_simp; rfl)); intro gb243 hg w8 hbox hb; have n0_ := Aside0.mk (blk_below (g := gb242) (o := .cells #[.int .i64 a0_0, .int .i64 a0_1, .int .i64 a0_2, .int .i64 a0_3] 56 (0, 0)) (by (with_reducible repeat (first | refine blk_drewN ?_ _ | refine blk_drew ?_ | refine blk_alloc ?_ _)); exact BK242.out) hb); have n1_ := Aside0.mk (below_step bl_ hb); have n2_ := Aside0.mk (hbox); have n3_ := Aside0.mk ((by rw [hg]; exact (below_size bl_) : w.heap.size ≤ gb243)); have n4_ := Aside0.mk ((by rw [hg]; exact (below_size bl_) : w.heap.size ≤ gb243)); have n5_ := Aside0.mk ((by rw [hg]; exact Nat.ne_of_lt (blk_lt (g := gb242) (o := .cells #[.int .i64 a0_0, .int .i64 a0_1, .int .i64 a0_2, .int .i64 a0_3] 56 (0, 0)) (by (with_reducible repeat (first | refine blk_drewN ?_ _ | refine blk_drew ?_ | refine blk_alloc ?_ _)); exact BK242.out)) : gb242 ≠ gb243)); have n6_ := Aside0.mk ((by rw [hg]; exact Nat.ne_of_gt (blk_lt (g := gb242) (o := .cells #[.int .i64 a0_0, .int .i64 a0_1, .int .i64 a0_2, .int .i64 a0_3] 56 (0, 0)) (by (with_reducible repeat (first | refine blk_drewN ?_ _ | refine blk_drew ?_ | refine blk_alloc ?_ _)); exact BK242.out)) : gb243 ≠ gb242)); clear BK242; clear HB; have BK242 := n0_; have HB := n1_; have BK243 := n2_; have GW243 := n3_; have GE243 := n4_; have NB242_243 := n5_; have NB243_242 := n6_; clear n0_ n1_ n2_ n3_ n4_ n5_ n6_; clear hb hbox hg))
 have n0_ := Aside0.mk (blk_drew BK242.out); have n1_ := Aside0.mk (blk_drew BK243.out); have n2_ := Aside0.mk (below_drew1 HB.out); clear BK242; clear BK243; clear HB; have BK242 := n0_; have BK243 := n1_; have HB := n2_; clear n0_ n1_ n2_; refine start_ (n := 18) (S := fun w' => w'.cell? ⟨gb242, 0, none⟩ = some (.int .i64 a0_0) ∧ w'.cell? ⟨gb242, 1, none⟩ = some (.int .i64 a0_1) ∧ w'.cell? ⟨gb242, 2, none⟩ = some (.int .i64 a0_2) ∧ w'.cell? ⟨gb242, 3, none⟩ = some (.int .i64 a0_3) ∧ w'.cell? ⟨gb243, 0, none⟩ = some (.int .i64 a1_0) ∧ w'.cell? ⟨gb243, 1, none⟩ = some (.int .i64 a1_1) ∧ w'.cell? ⟨gb243, 2, none⟩ = some (.int .i64 a1_2) ∧ w'.cell? ⟨gb243, 3, none⟩ = some (.int .i64 a1_3)) (ds := []) #[ff,ff,ff,ff,ff,ff,ff,ff,ff,ff,ff,ff,ff,ff,ff,ff,ff,ff] (by kernel_rfl) rfl rfl ⟨(blk_cell BK242.out 0).trans rfl, (blk_cell BK242.out 1).trans rfl, (blk_cell BK242.out 2).trans rfl, (blk_cell BK242.out 3).trans rfl, (blk_cell BK243.out 0).trans rfl, (blk_cell BK243.out 1).trans rfl, (blk_cell BK243.out 2).trans rfl, (blk_cell BK243.out 3).trans rfl⟩ (fun hHeld => ?_); refine with_tabW impl_eventOrder.tab1 impl_eventOrder.bits1 (fun HT_ HW_ => ?_); generalize w8.drew = w9 at BK242 BK243 HB hHeld ⊢
 refine pureM_ (i := 0) (N := some 5) #[tt,ff,ff,ff,ff,ff,ff,ff,ff,ff,ff,ff,ff,ff,ff,ff,ff,ff] rfl rfl ?_
 refine pureM_ (i := 2) (N := some 7) #[tt,ff,tt,ff,ff,ff,ff,ff,ff,ff,ff,ff,ff,ff,ff,ff,ff,ff] rfl rfl ?_
 refine pureM_ (i := 5) (N := some 10) #[tt,ff,tt,ff,ff,tt,ff,ff,ff,ff,ff,ff,ff,ff,ff,ff,ff,ff] rfl rfl ?_
 refine pureM_ (i := 7) (N := some 12) #[tt,ff,tt,ff,ff,tt,ff,tt,ff,ff,ff,ff,ff,ff,ff,ff,ff,ff] rfl rfl ?_
 refine pureM_ (i := 10) (N := some 15) #[tt,ff,tt,ff,ff,tt,ff,tt,ff,ff,tt,ff,ff,ff,ff,ff,ff,ff] rfl rfl ?_
 refine pureM_ (i := 12) (N := some 17) #[tt,ff,tt,ff,ff,tt,ff,tt,ff,ff,tt,ff,tt,ff,ff,ff,ff,ff] rfl rfl ?_
 refine take_ (i := 1) (N := some 6) (v := ?_) (a' := ?_) #[tt,tt,tt,ff,ff,tt,ff,tt,ff,ff,tt,ff,tt,ff,ff,ff,ff,ff] rfl rfl (take_ofW HT_.out HW_.out (by kernel_rfl)) (fun _ _ _ h => h) (Or.inl ⟨by rfl, ?_⟩) hHeld ?_ ?_; rotate_left
 ·rintro w' ⟨s0, s1, s2, s3, s4, s5, s6, s7⟩; go_simp; (with_reducible rfl)
 rotate_left
 ·simp only [Act.put, List.setIfInBounds_toArray, List.set_cons_zero, List.set_cons_succ, i64_w, i32_w]; rfl
 refine take_ (i := 3) (N := some 8) (v := ?_) (a' := ?_) #[tt,tt,tt,tt,ff,tt,ff,tt,ff,ff,tt,ff,tt,ff,ff,ff,ff,ff] rfl rfl (take_ofW HT_.out HW_.out (by kernel_rfl)) (fun _ _ _ h => h) (Or.inl ⟨by rfl, ?_⟩) hHeld ?_ ?_; rotate_left
 ·rintro w' ⟨s0, s1, s2, s3, s4, s5, s6, s7⟩; go_simp; (with_reducible rfl)
 rotate_left
 ·simp only [Act.put, List.setIfInBounds_toArray, List.set_cons_zero, List.set_cons_succ, i64_w, i32_w]; rfl
 refine take_ (i := 6) (N := some 11) (v := ?_) (a' := ?_) #[tt,tt,tt,tt,ff,tt,tt,tt,ff,ff,tt,ff,tt,ff,ff,ff,ff,ff] rfl rfl (take_ofW HT_.out HW_.out (by kernel_rfl)) (fun _ _ _ h => h) (Or.inl ⟨by rfl, ?_⟩) hHeld ?_ ?_; rotate_left
 ·rintro w' ⟨s0, s1, s2, s3, s4, s5, s6, s7⟩; go_simp; (with_reducible rfl)
 rotate_left
 ·simp only [Act.put, List.setIfInBounds_toArray, List.set_cons_zero, List.set_cons_succ, i64_w, i32_w]; rfl
 refine take_ (i := 8) (N := some 13) (v := ?_) (a' := ?_) #[tt,tt,tt,tt,ff,tt,tt,tt,tt,ff,tt,ff,tt,ff,ff,ff,ff,ff] rfl rfl (take_ofW HT_.out HW_.out (by kernel_rfl)) (fun _ _ _ h => h) (Or.inl ⟨by rfl, ?_⟩) hHeld ?_ ?_; rotate_left
 ·rintro w' ⟨s0, s1, s2, s3, s4, s5, s6, s7⟩; go_simp; (with_reducible rfl)
 rotate_left
 ·simp only [Act.put, List.setIfInBounds_toArray, List.set_cons_zero, List.set_cons_succ, i64_w, i32_w]; rfl
 refine take_ (i := 11) (N := some 16) (v := ?_) (a' := ?_) #[tt,tt,tt,tt,ff,tt,tt,tt,tt,ff,tt,tt,tt,ff,ff,ff,ff,ff] rfl rfl (take_ofW HT_.out HW_.out (by kernel_rfl)) (fun _ _ _ h => h) (Or.inl ⟨by rfl, ?_⟩) hHeld ?_ ?_; rotate_left
 ·rintro w' ⟨s0, s1, s2, s3, s4, s5, s6, s7⟩; go_simp; (with_reducible rfl)
 rotate_left
 ·simp only [Act.put, List.setIfInBounds_toArray, List.set_cons_zero, List.set_cons_succ, i64_w, i32_w]; rfl
 refine take_ (i := 13) (N := some 18) (v := ?_) (a' := ?_) #[tt,tt,tt,tt,ff,tt,tt,tt,tt,ff,tt,tt,tt,tt,ff,ff,ff,ff] rfl rfl (take_ofW HT_.out HW_.out (by kernel_rfl)) (fun _ _ _ h => h) (Or.inl ⟨by rfl, ?_⟩) hHeld ?_ ?_; rotate_left
 ·rintro w' ⟨s0, s1, s2, s3, s4, s5, s6, s7⟩; go_simp; (with_reducible rfl)
 rotate_left
 ·simp only [Act.put, List.setIfInBounds_toArray, List.set_cons_zero, List.set_cons_succ, i64_w, i32_w]; rfl
 refine one_ (i := 4) (N := some 9) #[tt,tt,tt,tt,tt,tt,tt,tt,tt,ff,tt,tt,tt,tt,ff,ff,ff,ff] rfl rfl (one_of HT_.out (by kernel_rfl)) (by decide) (fun K hK => ?_); refine goes_ Try.func73 (by kernel_rfl) rfl #[.int .i64 a0_0, .int .i64 a1_0] (by rfl) rfl rfl (by (try simp only [List.map_toArray, List.map_cons, List.map_nil]); first | done | rfl | (simp only [List.length_drop, List.length_take]; rfl)) ?_; (with_reducible refine (cmp_Compare_int.calls a0_0 a1_0 t244 _ A3.out).mono ?_); rintro e w' ⟨rfl, ⟨nd, rfl⟩⟩; refine ⟨_, rfl, ?_⟩; refine hK.out _ _ ⟨(blk_cell BK242.out 0).trans rfl, (blk_cell BK242.out 1).trans rfl, (blk_cell BK242.out 2).trans rfl, (blk_cell BK242.out 3).trans rfl, (blk_cell BK243.out 0).trans rfl, (blk_cell BK243.out 1).trans rfl, (blk_cell BK243.out 2).trans rfl, (blk_cell BK243.out 3).trans rfl⟩ (fun hHeld => ?_); clear hK K; refine norm_ (a' := ?_) ?_ ?_; rotate_left
 ·show Act.put _ (some 9) _ = _; simp only [Act.put, List.setIfInBounds_toArray, List.set_cons_zero, List.set_cons_succ, i64_w, i32_w]; rfl
 refine one_ (i := 9) (N := some 14) #[tt,tt,tt,tt,tt,tt,tt,tt,tt,tt,tt,tt,tt,tt,ff,ff,ff,ff] rfl rfl (one_of HT_.out (by kernel_rfl)) (by decide) (fun K hK => ?_); refine goes_ Try.func73 (by kernel_rfl) rfl #[.int .i64 a0_3, .int .i64 a1_3] (by rfl) rfl rfl (by (try simp only [List.map_toArray, List.map_cons, List.map_nil]); first | done | rfl | (simp only [List.length_drop, List.length_take]; rfl)) ?_; (with_reducible refine (cmp_Compare_int.calls a0_3 a1_3 t245 _ A4.out).mono ?_); rintro e w' ⟨rfl, ⟨nd, rfl⟩⟩; refine ⟨_, rfl, ?_⟩; refine hK.out _ _ ⟨(blk_cell BK242.out 0).trans rfl, (blk_cell BK242.out 1).trans rfl, (blk_cell BK242.out 2).trans rfl, (blk_cell BK242.out 3).trans rfl, (blk_cell BK243.out 0).trans rfl, (blk_cell BK243.out 1).trans rfl, (blk_cell BK243.out 2).trans rfl, (blk_cell BK243.out 3).trans rfl⟩ (fun hHeld => ?_); clear hK K; refine norm_ (a' := ?_) ?_ ?_; rotate_left
 ·show Act.put _ (some 14) _ = _; simp only [Act.put, List.setIfInBounds_toArray, List.set_cons_zero, List.set_cons_succ, i64_w, i32_w]; rfl
 refine one_ (i := 14) (N := some 19) #[tt,tt,tt,tt,tt,tt,tt,tt,tt,tt,tt,tt,tt,tt,tt,ff,ff,ff] rfl rfl (one_of HT_.out (by kernel_rfl)) (by decide) (fun K hK => ?_); refine goes_ Try.func73 (by kernel_rfl) rfl #[.int .i64 a0_2, .int .i64 a1_2] (by rfl) rfl rfl (by (try simp only [List.map_toArray, List.map_cons, List.map_nil]); first | done | rfl | (simp only [List.length_drop, List.length_take]; rfl)) ?_; (with_reducible refine (cmp_Compare_int.calls a0_2 a1_2 t246 _ A5.out).mono ?_); rintro e w' ⟨rfl, ⟨nd, rfl⟩⟩; refine ⟨_, rfl, ?_⟩; refine hK.out _ _ ⟨(blk_cell BK242.out 0).trans rfl, (blk_cell BK242.out 1).trans rfl, (blk_cell BK242.out 2).trans rfl, (blk_cell BK242.out 3).trans rfl, (blk_cell BK243.out 0).trans rfl, (blk_cell BK243.out 1).trans rfl, (blk_cell BK243.out 2).trans rfl, (blk_cell BK243.out 3).trans rfl⟩ (fun hHeld => ?_); clear hK K; refine norm_ (a' := ?_) ?_ ?_; rotate_left
 ·show Act.put _ (some 19) _ = _; simp only [Act.put, List.setIfInBounds_toArray, List.set_cons_zero, List.set_cons_succ, i64_w, i32_w]; rfl
 refine one_ (i := 15) (N := some 20) #[tt,tt,tt,tt,tt,tt,tt,tt,tt,tt,tt,tt,tt,tt,tt,tt,ff,ff] rfl rfl (one_of HT_.out (by kernel_rfl)) (by decide) (fun K hK => ?_); refine Kd.R_lit_step (Kd.int .i64) _ 3 ?hg (N := 20) ?hd (xs := ([t244, t245, t246] : List Int)) (inner := [.int .i64 t244, .int .i64 t245, .int .i64 t246]) (ok := fun _ => True) (okp := fun _ => True) ?hr ?hp (fun _ hk => hk) trivial (Below.refl _ _) (Nat.le_refl _) (by simp) ?_; (case hd => rfl); (case hg => rfl); (case hr => first | (go_simp; done) | (go_simp; rfl)); (case hp => exact (Reps.one (show Kd.M (Kd.int .i64) _ _ _ t244 [.int .i64 t244] from rfl) (Reps.one (show Kd.M (Kd.int .i64) _ _ _ t245 [.int .i64 t245] from rfl) (Reps.one (show Kd.M (Kd.int .i64) _ _ _ t246 [.int .i64 t246] from rfl) (Reps.none _ _))))); intro v248 w10 ho11 hb hg_ hnew_; clear hg_ hnew_; (first | rw [← Ny247.out] at ho11 | (simp only [Int.reduceToNat] at ho11; rw [← Ny247.out] at ho11)); have n0_ := Aside0.mk (Kd.R_lower ho11 (below_size bl_)); have n1_ := Aside0.mk (blk_below (g := gb242) (o := .cells #[.int .i64 a0_0, .int .i64 a0_1, .int .i64 a0_2, .int .i64 a0_3] 56 (0, 0)) (by (with_reducible repeat (first | refine blk_drewN ?_ _ | refine blk_drew ?_ | refine blk_alloc ?_ _)); exact BK242.out) hb); have n2_ := Aside0.mk (blk_below (g := gb243) (o := .cells #[.int .i64 a1_0, .int .i64 a1_1, .int .i64 a1_2, .int .i64 a1_3] 56 (0, 0)) (by (with_reducible repeat (first | refine blk_drewN ?_ _ | refine blk_drew ?_ | refine blk_alloc ?_ _)); exact BK243.out) hb); have n3_ := Aside0.mk (below_step bl_ hb); clear BK242; clear BK243; clear HB; have HO249 := n0_; have BK242 := n1_; have BK243 := n2_; have HB := n3_; clear n0_ n1_ n2_ n3_; clear hb ho11; obtain ⟨Ao12, co12, eo12⟩ := Kd.R_slice HO249.out; (first | subst eo12 | (injection eo12 with f1_ f2_ f3_; have f4_ := f1_.symm; have f5_ := f3_.symm; clear f1_ f2_ f3_; subst f4_; subst f5_))
 refine hK.out _ _ ⟨(blk_cell BK242.out 0).trans rfl, (blk_cell BK242.out 1).trans rfl, (blk_cell BK242.out 2).trans rfl, (blk_cell BK242.out 3).trans rfl, (blk_cell BK243.out 0).trans rfl, (blk_cell BK243.out 1).trans rfl, (blk_cell BK243.out 2).trans rfl, (blk_cell BK243.out 3).trans rfl⟩ (fun hHeld => ?_); clear hK K; refine norm_ (a' := ?_) ?_ ?_; rotate_left
 ·show Act.put _ (some 20) _ = _; simp only [Act.put, List.setIfInBounds_toArray, List.set_cons_zero, List.set_cons_succ, i64_w, i32_w]; rfl
 refine one_ (i := 16) (N := some 21) #[tt,tt,tt,tt,tt,tt,tt,tt,tt,tt,tt,tt,tt,tt,tt,tt,tt,ff] rfl rfl (one_of HT_.out (by kernel_rfl)) (by decide) (fun K hK => ?_); refine goes_ Try.func72 (by kernel_rfl) rfl #[.slice Ao12 y247.length co12] (by rfl) rfl rfl (by (try simp only [List.map_toArray, List.map_cons, List.map_nil]); first | done | rfl | (simp only [List.length_drop, List.length_take]; rfl)) ?_; (with_reducible refine (cmp_Or_int.calls k _ _ y247 t250 _ ?side1 ?side2 A6.out).mono ?_); (case side1 => exact cw_ ((Kd.R_reads' HO249.out).2.2)); (case side2 => exact (Kd.R_reads' HO249.out).2.1); rintro e w' ⟨rfl, ⟨nd, rfl⟩⟩; refine ⟨_, rfl, ?_⟩; refine hK.out _ _ ⟨(blk_cell BK242.out 0).trans rfl, (blk_cell BK242.out 1).trans rfl, (blk_cell BK242.out 2).trans rfl, (blk_cell BK242.out 3).trans rfl, (blk_cell BK243.out 0).trans rfl, (blk_cell BK243.out 1).trans rfl, (blk_cell BK243.out 2).trans rfl, (blk_cell BK243.out 3).trans rfl⟩ (fun hHeld => ?_); clear hK K; refine norm_ (a' := ?_) ?_ ?_; rotate_left
 ·show Act.put _ (some 21) _ = _; simp only [Act.put, List.setIfInBounds_toArray, List.set_cons_zero, List.set_cons_succ, i64_w, i32_w]; rfl
 refine pureM_ (i := 17) (N := some 4) #[tt,tt,tt,tt,tt,tt,tt,tt,tt,tt,tt,tt,tt,tt,tt,tt,tt,tt] rfl rfl ?_
 refine done_ (done_of HT_.out (by kernel_rfl)) ?_; try go_wp2
 go_ret; exact ⟨by first | rfl | (simp [errW_none, errW_some] <;> rfl) | (simp [*, errW_none, errW_some] <;> rfl), bl_⟩

/-! ### slices_SortFunc_at50: function 49 -/
open Go.Shelf Go.Sort in
def lays6_ren : Shelf.Ren :=
{
 f := fun x =>
  match x with
  | 6 => 49
  | 15 => 71
  | 14 => 70
  | 28 => 92
  | 29 => 93
  | 20 => 84
  | 21 => 85
  | 22 => 86
  | 23 => 87
  | 24 => 88
  | 25 => 89
  | 26 => 90
  | 27 => 91
  | 46 => 97
  | 47 => 98
  | 48 => 99
  | 49 => 100
  | 50 => 101
  | 57 => 102
  | n => n,
 t := fun x =>
  match x with
  | 22 => 27
  | 24 => 56
  | 25 => 69
  | 3 => 3
  | 39 => 89
  | 0 => 0
  | 53 => 110
  | 55 => 112
  | 4 => 4
  | 46 => 103
  | 45 => 102
  | 50 => 107
  | 5 => 5
  | 9 => 9
  | 66 => 116
  | 70 => 120
  | 76 => 122
  | 77 => 123
  | n => n,
 g := fun x =>
  have n := x;
  n }
set_option maxRecDepth 100000 in
open Go.Shelf Go.Sort in
theorem lays6 : SlLaysF0.n6 Try.prog lays6_ren := { mixed := Eq.refl true, f6 := Exists.intro "slices.SortFunc[[]loop.example/g03004/impl.Event,loop.example/g03004/impl.Event]" ⟨of_decide_eq_true (id (Eq.refl true)), Eq.trans Try.func49 (congrArg some (Eq.refl ({ name := "slices.SortFunc[[]loop.example/g03004/impl.Event,loop.example/g03004/impl.Event]", origin := (SlBodyF.n6 lays6_ren).origin, targs := (SlBodyF.n6 lays6_ren).targs, params := (SlBodyF.n6 lays6_ren).params, resultTypes := (SlBodyF.n6 lays6_ren).resultTypes, nfree := (SlBodyF.n6 lays6_ren).nfree, ntmps := (SlBodyF.n6 lays6_ren).ntmps, results := (SlBodyF.n6 lays6_ren).results, body := (SlBodyF.n6 lays6_ren).body, norace := (SlBodyF.n6 lays6_ren).norace, ours := (SlBodyF.n6 lays6_ren).ours, file := (SlBodyF.n6 lays6_ren).file, endLine := (SlBodyF.n6 lays6_ren).endLine, litNo := (SlBodyF.n6 lays6_ren).litNo, met := (SlBodyF.n6 lays6_ren).met, tmpNames := (SlBodyF.n6 lays6_ren).tmpNames } : Go.Func)))⟩, f14 := Exists.intro "slices.pdqsortCmpFunc[loop.example/g03004/impl.Event]" ⟨of_decide_eq_true (id (Eq.refl true)), Eq.trans Try.func70 (congrArg some (Eq.refl ({ name := "slices.pdqsortCmpFunc[loop.example/g03004/impl.Event]", origin := (SlBodyF.n14 lays6_ren).origin, targs := (SlBodyF.n14 lays6_ren).targs, params := (SlBodyF.n14 lays6_ren).params, resultTypes := (SlBodyF.n14 lays6_ren).resultTypes, nfree := (SlBodyF.n14 lays6_ren).nfree, ntmps := (SlBodyF.n14 lays6_ren).ntmps, results := (SlBodyF.n14 lays6_ren).results, body := (SlBodyF.n14 lays6_ren).body, norace := (SlBodyF.n14 lays6_ren).norace, ours := (SlBodyF.n14 lays6_ren).ours, file := (SlBodyF.n14 lays6_ren).file, endLine := (SlBodyF.n14 lays6_ren).endLine, litNo := (SlBodyF.n14 lays6_ren).litNo, met := (SlBodyF.n14 lays6_ren).met, tmpNames := (SlBodyF.n14 lays6_ren).tmpNames } : Go.Func)))⟩, f15 := Eq.trans Try.func71 (congrArg some (Eq.refl (SlBodyF.n15 lays6_ren))), f20 := Exists.intro "slices.insertionSortCmpFunc[loop.example/g03004/impl.Event]" ⟨of_decide_eq_true (id (Eq.refl true)), Eq.trans Try.func84 (congrArg some (Eq.refl ({ name := "slices.insertionSortCmpFunc[loop.example/g03004/impl.Event]", origin := (SlBodyF.n20 lays6_ren).origin, targs := (SlBodyF.n20 lays6_ren).targs, params := (SlBodyF.n20 lays6_ren).params, resultTypes := (SlBodyF.n20 lays6_ren).resultTypes, nfree := (SlBodyF.n20 lays6_ren).nfree, ntmps := (SlBodyF.n20 lays6_ren).ntmps, results := (SlBodyF.n20 lays6_ren).results, body := (SlBodyF.n20 lays6_ren).body, norace := (SlBodyF.n20 lays6_ren).norace, ours := (SlBodyF.n20 lays6_ren).ours, file := (SlBodyF.n20 lays6_ren).file, endLine := (SlBodyF.n20 lays6_ren).endLine, litNo := (SlBodyF.n20 lays6_ren).litNo, met := (SlBodyF.n20 lays6_ren).met, tmpNames := (SlBodyF.n20 lays6_ren).tmpNames } : Go.Func)))⟩, f21 := Exists.intro "slices.heapSortCmpFunc[loop.example/g03004/impl.Event]" ⟨of_decide_eq_true (id (Eq.refl true)), Eq.trans Try.func85 (congrArg some (Eq.refl ({ name := "slices.heapSortCmpFunc[loop.example/g03004/impl.Event]", origin := (SlBodyF.n21 lays6_ren).origin, targs := (SlBodyF.n21 lays6_ren).targs, params := (SlBodyF.n21 lays6_ren).params, resultTypes := (SlBodyF.n21 lays6_ren).resultTypes, nfree := (SlBodyF.n21 lays6_ren).nfree, ntmps := (SlBodyF.n21 lays6_ren).ntmps, results := (SlBodyF.n21 lays6_ren).results, body := (SlBodyF.n21 lays6_ren).body, norace := (SlBodyF.n21 lays6_ren).norace, ours := (SlBodyF.n21 lays6_ren).ours, file := (SlBodyF.n21 lays6_ren).file, endLine := (SlBodyF.n21 lays6_ren).endLine, litNo := (SlBodyF.n21 lays6_ren).litNo, met := (SlBodyF.n21 lays6_ren).met, tmpNames := (SlBodyF.n21 lays6_ren).tmpNames } : Go.Func)))⟩, f22 := Exists.intro "slices.breakPatternsCmpFunc[loop.example/g03004/impl.Event]" ⟨of_decide_eq_true (id (Eq.refl true)), Eq.trans Try.func86 (congrArg some (Eq.refl ({ name := "slices.breakPatternsCmpFunc[loop.example/g03004/impl.Event]", origin := (SlBodyF.n22 lays6_ren).origin, targs := (SlBodyF.n22 lays6_ren).targs, params := (SlBodyF.n22 lays6_ren).params, resultTypes := (SlBodyF.n22 lays6_ren).resultTypes, nfree := (SlBodyF.n22 lays6_ren).nfree, ntmps := (SlBodyF.n22 lays6_ren).ntmps, results := (SlBodyF.n22 lays6_ren).results, body := (SlBodyF.n22 lays6_ren).body, norace := (SlBodyF.n22 lays6_ren).norace, ours := (SlBodyF.n22 lays6_ren).ours, file := (SlBodyF.n22 lays6_ren).file, endLine := (SlBodyF.n22 lays6_ren).endLine, litNo := (SlBodyF.n22 lays6_ren).litNo, met := (SlBodyF.n22 lays6_ren).met, tmpNames := (SlBodyF.n22 lays6_ren).tmpNames } : Go.Func)))⟩, f23 := Exists.intro "slices.choosePivotCmpFunc[loop.example/g03004/impl.Event]" ⟨of_decide_eq_true (id (Eq.refl true)), Eq.trans Try.func87 (congrArg some (Eq.refl ({ name := "slices.choosePivotCmpFunc[loop.example/g03004/impl.Event]", origin := (SlBodyF.n23 lays6_ren).origin, targs := (SlBodyF.n23 lays6_ren).targs, params := (SlBodyF.n23 lays6_ren).params, resultTypes := (SlBodyF.n23 lays6_ren).resultTypes, nfree := (SlBodyF.n23 lays6_ren).nfree, ntmps := (SlBodyF.n23 lays6_ren).ntmps, results := (SlBodyF.n23 lays6_ren).results, body := (SlBodyF.n23 lays6_ren).body, norace := (SlBodyF.n23 lays6_ren).norace, ours := (SlBodyF.n23 lays6_ren).ours, file := (SlBodyF.n23 lays6_ren).file, endLine := (SlBodyF.n23 lays6_ren).endLine, litNo := (SlBodyF.n23 lays6_ren).litNo, met := (SlBodyF.n23 lays6_ren).met, tmpNames := (SlBodyF.n23 lays6_ren).tmpNames } : Go.Func)))⟩, f24 := Exists.intro "slices.reverseRangeCmpFunc[loop.example/g03004/impl.Event]" ⟨of_decide_eq_true (id (Eq.refl true)), Eq.trans Try.func88 (congrArg some (Eq.refl ({ name := "slices.reverseRangeCmpFunc[loop.example/g03004/impl.Event]", origin := (SlBodyF.n24 lays6_ren).origin, targs := (SlBodyF.n24 lays6_ren).targs, params := (SlBodyF.n24 lays6_ren).params, resultTypes := (SlBodyF.n24 lays6_ren).resultTypes, nfree := (SlBodyF.n24 lays6_ren).nfree, ntmps := (SlBodyF.n24 lays6_ren).ntmps, results := (SlBodyF.n24 lays6_ren).results, body := (SlBodyF.n24 lays6_ren).body, norace := (SlBodyF.n24 lays6_ren).norace, ours := (SlBodyF.n24 lays6_ren).ours, file := (SlBodyF.n24 lays6_ren).file, endLine := (SlBodyF.n24 lays6_ren).endLine, litNo := (SlBodyF.n24 lays6_ren).litNo, met := (SlBodyF.n24 lays6_ren).met, tmpNames := (SlBodyF.n24 lays6_ren).tmpNames } : Go.Func)))⟩, f25 := Exists.intro "slices.partialInsertionSortCmpFunc[loop.example/g03004/impl.Event]" ⟨of_decide_eq_true (id (Eq.refl true)), Eq.trans Try.func89 (congrArg some (Eq.refl ({ name := "slices.partialInsertionSortCmpFunc[loop.example/g03004/impl.Event]", origin := (SlBodyF.n25 lays6_ren).origin, targs := (SlBodyF.n25 lays6_ren).targs, params := (SlBodyF.n25 lays6_ren).params, resultTypes := (SlBodyF.n25 lays6_ren).resultTypes, nfree := (SlBodyF.n25 lays6_ren).nfree, ntmps := (SlBodyF.n25 lays6_ren).ntmps, results := (SlBodyF.n25 lays6_ren).results, body := (SlBodyF.n25 lays6_ren).body, norace := (SlBodyF.n25 lays6_ren).norace, ours := (SlBodyF.n25 lays6_ren).ours, file := (SlBodyF.n25 lays6_ren).file, endLine := (SlBodyF.n25 lays6_ren).endLine, litNo := (SlBodyF.n25 lays6_ren).litNo, met := (SlBodyF.n25 lays6_ren).met, tmpNames := (SlBodyF.n25 lays6_ren).tmpNames } : Go.Func)))⟩, f26 := Exists.intro "slices.partitionEqualCmpFunc[loop.example/g03004/impl.Event]" ⟨of_decide_eq_true (id (Eq.refl true)), Eq.trans Try.func90 (congrArg some (Eq.refl ({ name := "slices.partitionEqualCmpFunc[loop.example/g03004/impl.Event]", origin := (SlBodyF.n26 lays6_ren).origin, targs := (SlBodyF.n26 lays6_ren).targs, params := (SlBodyF.n26 lays6_ren).params, resultTypes := (SlBodyF.n26 lays6_ren).resultTypes, nfree := (SlBodyF.n26 lays6_ren).nfree, ntmps := (SlBodyF.n26 lays6_ren).ntmps, results := (SlBodyF.n26 lays6_ren).results, body := (SlBodyF.n26 lays6_ren).body, norace := (SlBodyF.n26 lays6_ren).norace, ours := (SlBodyF.n26 lays6_ren).ours, file := (SlBodyF.n26 lays6_ren).file, endLine := (SlBodyF.n26 lays6_ren).endLine, litNo := (SlBodyF.n26 lays6_ren).litNo, met := (SlBodyF.n26 lays6_ren).met, tmpNames := (SlBodyF.n26 lays6_ren).tmpNames } : Go.Func)))⟩, f27 := Exists.intro "slices.partitionCmpFunc[loop.example/g03004/impl.Event]" ⟨of_decide_eq_true (id (Eq.refl true)), Eq.trans Try.func91 (congrArg some (Eq.refl ({ name := "slices.partitionCmpFunc[loop.example/g03004/impl.Event]", origin := (SlBodyF.n27 lays6_ren).origin, targs := (SlBodyF.n27 lays6_ren).targs, params := (SlBodyF.n27 lays6_ren).params, resultTypes := (SlBodyF.n27 lays6_ren).resultTypes, nfree := (SlBodyF.n27 lays6_ren).nfree, ntmps := (SlBodyF.n27 lays6_ren).ntmps, results := (SlBodyF.n27 lays6_ren).results, body := (SlBodyF.n27 lays6_ren).body, norace := (SlBodyF.n27 lays6_ren).norace, ours := (SlBodyF.n27 lays6_ren).ours, file := (SlBodyF.n27 lays6_ren).file, endLine := (SlBodyF.n27 lays6_ren).endLine, litNo := (SlBodyF.n27 lays6_ren).litNo, met := (SlBodyF.n27 lays6_ren).met, tmpNames := (SlBodyF.n27 lays6_ren).tmpNames } : Go.Func)))⟩, f28 := Eq.trans Try.func92 (congrArg some (Eq.refl (SlBodyF.n28 lays6_ren))), f29 := Eq.trans Try.func93 (congrArg some (Eq.refl (SlBodyF.n29 lays6_ren))), f46 := Exists.intro "slices.siftDownCmpFunc[loop.example/g03004/impl.Event]" ⟨of_decide_eq_true (id (Eq.refl true)), Eq.trans Try.func97 (congrArg some (Eq.refl ({ name := "slices.siftDownCmpFunc[loop.example/g03004/impl.Event]", origin := (SlBodyF.n46 lays6_ren).origin, targs := (SlBodyF.n46 lays6_ren).targs, params := (SlBodyF.n46 lays6_ren).params, resultTypes := (SlBodyF.n46 lays6_ren).resultTypes, nfree := (SlBodyF.n46 lays6_ren).nfree, ntmps := (SlBodyF.n46 lays6_ren).ntmps, results := (SlBodyF.n46 lays6_ren).results, body := (SlBodyF.n46 lays6_ren).body, norace := (SlBodyF.n46 lays6_ren).norace, ours := (SlBodyF.n46 lays6_ren).ours, file := (SlBodyF.n46 lays6_ren).file, endLine := (SlBodyF.n46 lays6_ren).endLine, litNo := (SlBodyF.n46 lays6_ren).litNo, met := (SlBodyF.n46 lays6_ren).met, tmpNames := (SlBodyF.n46 lays6_ren).tmpNames } : Go.Func)))⟩, f47 := Eq.trans Try.func98 (congrArg some (Eq.refl (SlBodyF.n47 lays6_ren))), f48 := Eq.trans Try.func99 (congrArg some (Eq.refl (SlBodyF.n48 lays6_ren))), f49 := Exists.intro "slices.medianAdjacentCmpFunc[loop.example/g03004/impl.Event]" ⟨of_decide_eq_true (id (Eq.refl true)), Eq.trans Try.func100 (congrArg some (Eq.refl ({ name := "slices.medianAdjacentCmpFunc[loop.example/g03004/impl.Event]", origin := (SlBodyF.n49 lays6_ren).origin, targs := (SlBodyF.n49 lays6_ren).targs, params := (SlBodyF.n49 lays6_ren).params, resultTypes := (SlBodyF.n49 lays6_ren).resultTypes, nfree := (SlBodyF.n49 lays6_ren).nfree, ntmps := (SlBodyF.n49 lays6_ren).ntmps, results := (SlBodyF.n49 lays6_ren).results, body := (SlBodyF.n49 lays6_ren).body, norace := (SlBodyF.n49 lays6_ren).norace, ours := (SlBodyF.n49 lays6_ren).ours, file := (SlBodyF.n49 lays6_ren).file, endLine := (SlBodyF.n49 lays6_ren).endLine, litNo := (SlBodyF.n49 lays6_ren).litNo, met := (SlBodyF.n49 lays6_ren).met, tmpNames := (SlBodyF.n49 lays6_ren).tmpNames } : Go.Func)))⟩, f50 := Exists.intro "slices.medianCmpFunc[loop.example/g03004/impl.Event]" ⟨of_decide_eq_true (id (Eq.refl true)), Eq.trans Try.func101 (congrArg some (Eq.refl ({ name := "slices.medianCmpFunc[loop.example/g03004/impl.Event]", origin := (SlBodyF.n50 lays6_ren).origin, targs := (SlBodyF.n50 lays6_ren).targs, params := (SlBodyF.n50 lays6_ren).params, resultTypes := (SlBodyF.n50 lays6_ren).resultTypes, nfree := (SlBodyF.n50 lays6_ren).nfree, ntmps := (SlBodyF.n50 lays6_ren).ntmps, results := (SlBodyF.n50 lays6_ren).results, body := (SlBodyF.n50 lays6_ren).body, norace := (SlBodyF.n50 lays6_ren).norace, ours := (SlBodyF.n50 lays6_ren).ours, file := (SlBodyF.n50 lays6_ren).file, endLine := (SlBodyF.n50 lays6_ren).endLine, litNo := (SlBodyF.n50 lays6_ren).litNo, met := (SlBodyF.n50 lays6_ren).met, tmpNames := (SlBodyF.n50 lays6_ren).tmpNames } : Go.Func)))⟩, f57 := Exists.intro "slices.order2CmpFunc[loop.example/g03004/impl.Event]" ⟨of_decide_eq_true (id (Eq.refl true)), Eq.trans Try.func102 (congrArg some (Eq.refl ({ name := "slices.order2CmpFunc[loop.example/g03004/impl.Event]", origin := (SlBodyF.n57 lays6_ren).origin, targs := (SlBodyF.n57 lays6_ren).targs, params := (SlBodyF.n57 lays6_ren).params, resultTypes := (SlBodyF.n57 lays6_ren).resultTypes, nfree := (SlBodyF.n57 lays6_ren).nfree, ntmps := (SlBodyF.n57 lays6_ren).ntmps, results := (SlBodyF.n57 lays6_ren).results, body := (SlBodyF.n57 lays6_ren).body, norace := (SlBodyF.n57 lays6_ren).norace, ours := (SlBodyF.n57 lays6_ren).ours, file := (SlBodyF.n57 lays6_ren).file, endLine := (SlBodyF.n57 lays6_ren).endLine, litNo := (SlBodyF.n57 lays6_ren).litNo, met := (SlBodyF.n57 lays6_ren).met, tmpNames := (SlBodyF.n57 lays6_ren).tmpNames } : Go.Func)))⟩, t0 := Try.underlying0, a0 := Try.isAgg0, z0 := Try.sizeOf0, v0 := Try.zeroValue0, t3 := Try.underlying3, a3 := Try.isAgg3, z3 := Try.sizeOf3, v3 := Try.zeroValue3, t4 := Try.underlying4, a4 := Try.isAgg4, z4 := Try.sizeOf4, v4 := Try.zeroValue4, t5 := Try.underlying5, a5 := Try.isAgg5, z5 := Try.sizeOf5, v5 := Try.zeroValue5, t9 := Try.underlying9, a9 := Try.isAgg9, z9 := Try.sizeOf9, v9 := Try.zeroValue9, t22 := Try.underlying27, a22 := Try.isAgg27, z22 := Try.sizeOf27, v22 := Try.zeroValue27, t25 := Try.underlying69, a25 := Try.isAgg69, z25 := Try.sizeOf69, v25 := Try.zeroValue69, t39 := Try.underlying89, a39 := Try.isAgg89, z39 := Try.sizeOf89, v39 := Try.zeroValue89, t45 := Try.underlying102, a45 := Try.isAgg102, z45 := Try.sizeOf102, v45 := Try.zeroValue102, t46 := Try.underlying103, a46 := Try.isAgg103, z46 := Try.sizeOf103, v46 := Try.zeroValue103, t50 := Try.underlying107, a50 := Try.isAgg107, z50 := Try.sizeOf107, v50 := Try.zeroValue107, t53 := Try.underlying110, a53 := Try.isAgg110, z53 := Try.sizeOf110, v53 := Try.zeroValue110, t55 := Try.underlying112, a55 := Try.isAgg112, z55 := Try.sizeOf112, v55 := Try.zeroValue112, t66 := Try.underlying116, a66 := Try.isAgg116, z66 := Try.sizeOf116, v66 := Try.zeroValue116, t70 := Try.underlying120, a70 := Try.isAgg120, z70 := Try.sizeOf120, v70 := Try.zeroValue120, t76 := Try.underlying122, a76 := Try.isAgg122, z76 := Try.sizeOf122, v76 := Try.zeroValue122, t77 := Try.underlying123, a77 := Try.isAgg123, z77 := Try.sizeOf123, v77 := Try.zeroValue123 }
theorem slices_SortFunc_at50.grew {w w' : World} (hb : Below w.heap.size w w') (hd : w.drawn ≤ w'.drawn) : ∃ q os', w' = Go.Sort.grow (w.drewN q) os' := by
 refine ⟨w'.drawn - w.drawn, w'.heap.extract w.heap.size w'.heap.size, ?_⟩
 have hh : w'.heap = w.heap ++ w'.heap.extract w.heap.size w'.heap.size := by
  apply Array.ext_getElem?
  intro k; rcases Nat.lt_or_ge k w.heap.size with hk | hk
  ·rw [hb.block k hk, Array.getElem?_append_left hk]
  ·rw [Array.getElem?_append_right hk, Array.getElem?_extract]; have := hb.size; split
   ·congr 1; omega
   ·rw [Array.getElem?_eq_none (by omega)]
 obtain ⟨h', tp, dr, os, ou⟩ := w'; obtain ⟨h0, tp0, dr0, os0, ou0⟩ := w; have e1 := hb.os; have e2 := hb.tape; have e3 := hb.output; simp only at e1 e2 e3 hd hh; subst e1 e2 e3; simp only [Go.Sort.grow, World.drewN, World.mk.injEq, true_and, and_true]; exact ⟨hh, by omega⟩
theorem slices_SortFunc_at50.box {P : Program} {ops : Array Oper} {rest : List Oper} {o : Oper} {a : Act} {Q : Exit → Act → World → Prop} {W : World} (hgd : o.guard = none) {N : Tmp} (_hd : o.dst = some N) {cs : Array Value} {t : TypeId}
  (hrun : (execOp a.eval o).run P W = .ok (.value (.pointer (some ⟨W.heap.size, 0, none⟩))) (W.alloc (.cells cs t (0, 0))))
  (h : ∀ g, g = W.heap.size → ∀ w1, w1.heap[g]? = some (.cells cs t (0, 0)) → Below W.heap.size W w1 → w1.drawn = W.drawn → wpList P ops Q rest (a.put o.dst (.pointer (some ⟨g, 0, none⟩))) w1) : wpList P ops Q (o :: rest) a W :=
 Kd.event_run hgd hrun (h _ rfl _ (blk_new W _) (below_alloc (Below.refl _ _) _) rfl)
theorem slices_SortFunc_at50.lit {P : Program} {ops : Array Oper} {o : Oper} {a : Act} {Q : Exit → Act → World → Prop} {Kc : Act → World → Prop} {W : World} {v : Value} {ob : Obj} (hw : Region.wanted o (yielded ops a.tmps) = true) (hrun : (execOp a.eval o).run P W = .ok (.value v) (W.alloc ob))
  (h : if Region.wanted o (yielded ops a.tmps) = true then Oper.wp P o a W (fun a' w' => w'.drawn = W.drawn → Kc a' w') Q else (fun (a' : Act) (w' : World) => w'.drawn = W.drawn → Kc a' w') (a.put o.dst undef) W) : if Region.wanted o (yielded ops a.tmps) = true then Oper.wp P o a W Kc Q else Kc (a.put o.dst undef) W := by
 rw [if_pos hw] at *; unfold Oper.wp at *
 rw [hrun] at *; exact h rfl
set_option maxHeartbeats 8000000 in
set_option maxRecDepth 100000 in
theorem slices_SortFunc_at50.cmp (k : Nat) (a0_0 : Int) (a0_1 : Int) (a0_2 : Int) (a0_3 : Int) (a1_0 : Int) (a1_1 : Int) (a1_2 : Int) (a1_3 : Int) (r : Int) (w : World) (h : impl_eventOrder.f k a0_0 a0_1 a0_2 a0_3 a1_0 a1_1 a1_2 a1_3 = some r) :
 Calls Try.prog 50 #[.agg #[.int .i64 a0_0, .int .i64 a0_1, .int .i64 a0_2, .int .i64 a0_3], .agg #[.int .i64 a1_0, .int .i64 a1_1, .int .i64 a1_2, .int .i64 a1_3]] w fun e w' => e = .returned (.int .i64 r) ∧ ∃ q os', w' = Go.Sort.grow (w.drewN q) os' := by
 have huE := Try.underlying56; have HB := Aside0.mk (Below.refl w.heap.size w); have HD := Aside0.mk (Nat.le_refl w.drawn); have H : ((cmp_Compare_int.f a0_0 a1_0).bind fun t162 => ((cmp_Compare_int.f a0_3 a1_3).bind fun t163 => ((cmp_Compare_int.f a0_2 a1_2).bind fun t164 => ((cmp_Or_int.f k (([t162, t163, t164] : List Int))).bind fun t168 => (some t168))))) = some r := h; clear h; replace H := Option.bind_eq_some_iff.mp H; obtain ⟨t162, A30, H⟩ := H; (try dsimp only at H); have A3 := Aside0.mk A30; clear A30; replace H := Option.bind_eq_some_iff.mp H; obtain ⟨t163, A40, H⟩ := H; (try dsimp only at H); have A4 := Aside0.mk A40; clear A40; replace H := Option.bind_eq_some_iff.mp H; obtain ⟨t164, A50, H⟩ := H; (try dsimp only at H); have A5 := Aside0.mk A50; clear A50; obtain ⟨y165, hy165⟩ : ∃ y_ : List Int, y_ = (([t162, t163, t164] : List Int)) := ⟨_, rfl⟩; replace H : ((cmp_Or_int.f k y165).bind fun t168 => (some t168)) = some r := by first | (rw [hy165]; with_reducible exact H) | (have H2_ := (Option.bind_some _ _).symm.trans H; rw [hy165]; with_reducible exact H2_) | (have H2_ := (Option.bind_some _ _).symm.trans H; with_reducible exact H2_) | with_reducible exact H | (rw [hy165]; exact H) | exact H
 have Ny165 := Aside0.mk hy165; clear hy165; replace H := Option.bind_eq_some_iff.mp H; obtain ⟨t168, A60, H⟩ := H; (try dsimp only at H); have A6 := Aside0.mk A60; clear A60; obtain rfl := Option.some.inj H
 go_enter Try.func50, Try.ntmps50; try go_wp2_with (first | ((with_reducible refine gate_dst (N := 2) rfl ?_); refine slices_SortFunc_at50.box ?hg (N := 2) ?hd (cs := #[.int .i64 a0_0, .int .i64 a0_1, .int .i64 a0_2, .int .i64 a0_3]) (t := 56) ?hr ?_; (case hd => rfl); (case hg => rfl); (case hr => first | (go_simp; done) | (go_simp; rfl)); intro gb160 hg w7 hbox hb hd_; have m0_ := Aside0.mk (Nat.le_trans HD.out (Nat.le_of_eq hd_.symm)); clear HD hd_; have HD := m0_; clear m0_; have n0_ := Aside0.mk (below_step bl_ hb); have n1_ := Aside0.mk (hbox); have n2_ := Aside0.mk ((by rw [hg]; exact (below_size bl_) : w.heap.size ≤ gb160)); have n3_ := Aside0.mk ((by rw [hg]; exact (below_size bl_) : w.heap.size ≤ gb160)); clear HB; have HB := n0_; have BK160 := n1_; have GW160 := n2_; have GE160 := n3_; clear n0_ n1_ n2_ n3_; clear hb hbox hg) | ((with_reducible refine gate_dst (N := 3) rfl ?_); refine slices_SortFunc_at50.box ?hg (N := 3) ?hd (cs := #[.int .i64 a1_0, .int .i64 a1_1, .int .i64 a1_2, .int .i64 a1_3]) (t := 56) ?hr ?_; (case hd => rfl); (case hg => rfl); (case hr => first | (go_simp; done) | (go_simp; rfl)); intro gb161 hg w8 hbox hb hd_; have m0_ := Aside0.mk (Nat.le_trans HD.out (Nat.le_of_eq hd_.symm)); clear HD hd_; have HD := m0_; clear m0_; have n0_ := Aside0.mk (blk_below (g := gb160) (o := .cells #[.int .i64 a0_0, .int .i64 a0_1, .int .i64 a0_2, .int .i64 a0_3] 56 (0, 0)) (by (with_reducible repeat (first | refine blk_drewN ?_ _ | refine blk_drew ?_ | refine blk_alloc ?_ _)); exact BK160.out) hb); have n1_ := Aside0.mk (below_step bl_ hb); have n2_ := Aside0.mk (hbox); have n3_ := Aside0.mk ((by rw [hg]; exact (below_size bl_) : w.heap.size ≤ gb161)); have n4_ := Aside0.mk ((by rw [hg]; exact (below_size bl_) : w.heap.size ≤ gb161)); have n5_ := Aside0.mk ((by rw [hg]; exact Nat.ne_of_lt (blk_lt (g := gb160) (o := .cells #[.int .i64 a0_0, .int .i64 a0_1, .int .i64 a0_2, .int .i64 a0_3] 56 (0, 0)) (by (with_reducible repeat (first | refine blk_drewN ?_ _ | refine blk_drew ?_ | refine blk_alloc ?_ _)); exact BK160.out)) : gb160 ≠ gb161)); have n6_ := Aside0.mk ((by rw [hg]; exact Nat.ne_of_gt (blk_lt (g := gb160) (o := .cells #[.int .i64 a0_0, .int .i64 a0_1, .int .i64 a0_2, .int .i64 a0_3] 56 (0, 0)) (by (with_reducible repeat (first | refine blk_drewN ?_ _ | refine blk_drew ?_ | refine blk_alloc ?_ _)); exact BK160.out)) : gb161 ≠ gb160)); clear BK160; clear HB; have BK160 := n0_; have HB := n1_; have BK161 := n2_; have GW161 := n3_; have GE161 := n4_; have NB160_161 := n5_; have NB161_160 := n6_; clear n0_ n1_ n2_ n3_ n4_ n5_ n6_; clear hb hbox hg))
 have n0_ := Aside0.mk (blk_drew BK160.out); have n1_ := Aside0.mk (blk_drew BK161.out); have n2_ := Aside0.mk (below_drew1 HB.out); clear BK160; clear BK161; clear HB; have BK160 := n0_; have BK161 := n1_; have HB := n2_; clear n0_ n1_ n2_; refine start_ (n := 18) (S := fun w' => w'.cell? ⟨gb160, 0, none⟩ = some (.int .i64 a0_0) ∧ w'.cell? ⟨gb160, 1, none⟩ = some (.int .i64 a0_1) ∧ w'.cell? ⟨gb160, 2, none⟩ = some (.int .i64 a0_2) ∧ w'.cell? ⟨gb160, 3, none⟩ = some (.int .i64 a0_3) ∧ w'.cell? ⟨gb161, 0, none⟩ = some (.int .i64 a1_0) ∧ w'.cell? ⟨gb161, 1, none⟩ = some (.int .i64 a1_1) ∧ w'.cell? ⟨gb161, 2, none⟩ = some (.int .i64 a1_2) ∧ w'.cell? ⟨gb161, 3, none⟩ = some (.int .i64 a1_3)) (ds := []) #[ff,ff,ff,ff,ff,ff,ff,ff,ff,ff,ff,ff,ff,ff,ff,ff,ff,ff] (by kernel_rfl) rfl rfl ⟨(blk_cell BK160.out 0).trans rfl, (blk_cell BK160.out 1).trans rfl, (blk_cell BK160.out 2).trans rfl, (blk_cell BK160.out 3).trans rfl, (blk_cell BK161.out 0).trans rfl, (blk_cell BK161.out 1).trans rfl, (blk_cell BK161.out 2).trans rfl, (blk_cell BK161.out 3).trans rfl⟩ (fun hHeld => ?_); refine with_tabW impl_eventOrder.tab1 impl_eventOrder.bits1 (fun HT_ HW_ => ?_); have m0_ := Aside0.mk (Nat.le_trans HD.out (Nat.le_succ _) : w.drawn ≤ w8.drew.drawn); clear HD; have HD := m0_; clear m0_; generalize w8.drew = w9 at BK160 BK161 HB HD hHeld ⊢
 refine pure_ (i := 0) (N := some 5) (v := ?_) (a' := ?_) #[tt,ff,ff,ff,ff,ff,ff,ff,ff,ff,ff,ff,ff,ff,ff,ff,ff,ff] rfl rfl (any_of HT_.out (by kernel_rfl)) (fun _ _ _ h => h) (Or.inl ⟨by rfl, ?_⟩) ?_ ?_; rotate_left
 ·(intro w'; go_simp; (with_reducible rfl))
 rotate_left
 ·(simp only [Act.put, List.setIfInBounds_toArray, List.set_cons_zero, List.set_cons_succ, i64_w, i32_w]; rfl)
 refine pure_ (i := 2) (N := some 7) (v := ?_) (a' := ?_) #[tt,ff,tt,ff,ff,ff,ff,ff,ff,ff,ff,ff,ff,ff,ff,ff,ff,ff] rfl rfl (any_of HT_.out (by kernel_rfl)) (fun _ _ _ h => h) (Or.inl ⟨by rfl, ?_⟩) ?_ ?_; rotate_left
 ·(intro w'; go_simp; (with_reducible rfl))
 rotate_left
 ·(simp only [Act.put, List.setIfInBounds_toArray, List.set_cons_zero, List.set_cons_succ, i64_w, i32_w]; rfl)
 refine pure_ (i := 5) (N := some 10) (v := ?_) (a' := ?_) #[tt,ff,tt,ff,ff,tt,ff,ff,ff,ff,ff,ff,ff,ff,ff,ff,ff,ff] rfl rfl (any_of HT_.out (by kernel_rfl)) (fun _ _ _ h => h) (Or.inl ⟨by rfl, ?_⟩) ?_ ?_; rotate_left
 ·(intro w'; go_simp; (with_reducible rfl))
 rotate_left
 ·(simp only [Act.put, List.setIfInBounds_toArray, List.set_cons_zero, List.set_cons_succ, i64_w, i32_w]; rfl)
 refine pure_ (i := 7) (N := some 12) (v := ?_) (a' := ?_) #[tt,ff,tt,ff,ff,tt,ff,tt,ff,ff,ff,ff,ff,ff,ff,ff,ff,ff] rfl rfl (any_of HT_.out (by kernel_rfl)) (fun _ _ _ h => h) (Or.inl ⟨by rfl, ?_⟩) ?_ ?_; rotate_left
 ·(intro w'; go_simp; (with_reducible rfl))
 rotate_left
 ·(simp only [Act.put, List.setIfInBounds_toArray, List.set_cons_zero, List.set_cons_succ, i64_w, i32_w]; rfl)
 refine pure_ (i := 10) (N := some 15) (v := ?_) (a' := ?_) #[tt,ff,tt,ff,ff,tt,ff,tt,ff,ff,tt,ff,ff,ff,ff,ff,ff,ff] rfl rfl (any_of HT_.out (by kernel_rfl)) (fun _ _ _ h => h) (Or.inl ⟨by rfl, ?_⟩) ?_ ?_; rotate_left
 ·(intro w'; go_simp; (with_reducible rfl))
 rotate_left
 ·(simp only [Act.put, List.setIfInBounds_toArray, List.set_cons_zero, List.set_cons_succ, i64_w, i32_w]; rfl)
 refine pure_ (i := 12) (N := some 17) (v := ?_) (a' := ?_) #[tt,ff,tt,ff,ff,tt,ff,tt,ff,ff,tt,ff,tt,ff,ff,ff,ff,ff] rfl rfl (any_of HT_.out (by kernel_rfl)) (fun _ _ _ h => h) (Or.inl ⟨by rfl, ?_⟩) ?_ ?_; rotate_left
 ·(intro w'; go_simp; (with_reducible rfl))
 rotate_left
 ·(simp only [Act.put, List.setIfInBounds_toArray, List.set_cons_zero, List.set_cons_succ, i64_w, i32_w]; rfl)
 refine take_ (i := 1) (N := some 6) (v := ?_) (a' := ?_) #[tt,tt,tt,ff,ff,tt,ff,tt,ff,ff,tt,ff,tt,ff,ff,ff,ff,ff] rfl rfl (take_ofW HT_.out HW_.out (by kernel_rfl)) (fun _ _ _ h => h) (Or.inl ⟨by rfl, ?_⟩) hHeld ?_ ?_; rotate_left
 ·(rintro w' ⟨s0, s1, s2, s3, s4, s5, s6, s7⟩; go_simp; (with_reducible rfl))
 rotate_left
 ·(simp only [Act.put, List.setIfInBounds_toArray, List.set_cons_zero, List.set_cons_succ, i64_w, i32_w]; rfl)
 refine take_ (i := 3) (N := some 8) (v := ?_) (a' := ?_) #[tt,tt,tt,tt,ff,tt,ff,tt,ff,ff,tt,ff,tt,ff,ff,ff,ff,ff] rfl rfl (take_ofW HT_.out HW_.out (by kernel_rfl)) (fun _ _ _ h => h) (Or.inl ⟨by rfl, ?_⟩) hHeld ?_ ?_; rotate_left
 ·(rintro w' ⟨s0, s1, s2, s3, s4, s5, s6, s7⟩; go_simp; (with_reducible rfl))
 rotate_left
 ·(simp only [Act.put, List.setIfInBounds_toArray, List.set_cons_zero, List.set_cons_succ, i64_w, i32_w]; rfl)
 refine take_ (i := 6) (N := some 11) (v := ?_) (a' := ?_) #[tt,tt,tt,tt,ff,tt,tt,tt,ff,ff,tt,ff,tt,ff,ff,ff,ff,ff] rfl rfl (take_ofW HT_.out HW_.out (by kernel_rfl)) (fun _ _ _ h => h) (Or.inl ⟨by rfl, ?_⟩) hHeld ?_ ?_; rotate_left
 ·(rintro w' ⟨s0, s1, s2, s3, s4, s5, s6, s7⟩; go_simp; (with_reducible rfl))
 rotate_left
 ·(simp only [Act.put, List.setIfInBounds_toArray, List.set_cons_zero, List.set_cons_succ, i64_w, i32_w]; rfl)
 refine take_ (i := 8) (N := some 13) (v := ?_) (a' := ?_) #[tt,tt,tt,tt,ff,tt,tt,tt,tt,ff,tt,ff,tt,ff,ff,ff,ff,ff] rfl rfl (take_ofW HT_.out HW_.out (by kernel_rfl)) (fun _ _ _ h => h) (Or.inl ⟨by rfl, ?_⟩) hHeld ?_ ?_; rotate_left
 ·(rintro w' ⟨s0, s1, s2, s3, s4, s5, s6, s7⟩; go_simp; (with_reducible rfl))
 rotate_left
 ·(simp only [Act.put, List.setIfInBounds_toArray, List.set_cons_zero, List.set_cons_succ, i64_w, i32_w]; rfl)
 refine take_ (i := 11) (N := some 16) (v := ?_) (a' := ?_) #[tt,tt,tt,tt,ff,tt,tt,tt,tt,ff,tt,tt,tt,ff,ff,ff,ff,ff] rfl rfl (take_ofW HT_.out HW_.out (by kernel_rfl)) (fun _ _ _ h => h) (Or.inl ⟨by rfl, ?_⟩) hHeld ?_ ?_; rotate_left
 ·(rintro w' ⟨s0, s1, s2, s3, s4, s5, s6, s7⟩; go_simp; (with_reducible rfl))
 rotate_left
 ·(simp only [Act.put, List.setIfInBounds_toArray, List.set_cons_zero, List.set_cons_succ, i64_w, i32_w]; rfl)
 refine take_ (i := 13) (N := some 18) (v := ?_) (a' := ?_) #[tt,tt,tt,tt,ff,tt,tt,tt,tt,ff,tt,tt,tt,tt,ff,ff,ff,ff] rfl rfl (take_ofW HT_.out HW_.out (by kernel_rfl)) (fun _ _ _ h => h) (Or.inl ⟨by rfl, ?_⟩) hHeld ?_ ?_; rotate_left
 ·(rintro w' ⟨s0, s1, s2, s3, s4, s5, s6, s7⟩; go_simp; (with_reducible rfl))
 rotate_left
 ·(simp only [Act.put, List.setIfInBounds_toArray, List.set_cons_zero, List.set_cons_succ, i64_w, i32_w]; rfl)
 refine one_ (i := 4) (N := some 9) #[tt,tt,tt,tt,tt,tt,tt,tt,tt,ff,tt,tt,tt,tt,ff,ff,ff,ff] rfl rfl (one_of HT_.out (by kernel_rfl)) (by decide) (fun K hK => ?_); refine goes_ Try.func73 (by kernel_rfl) rfl #[.int .i64 a0_0, .int .i64 a1_0] (by rfl) rfl rfl (by (try simp only [List.map_toArray, List.map_cons, List.map_nil]); first | done | rfl | (simp only [List.length_drop, List.length_take]; rfl)) ?_; (with_reducible refine (cmp_Compare_int.calls a0_0 a1_0 t162 _ A3.out).mono ?_); rintro e w' ⟨rfl, ⟨nd, rfl⟩⟩; have m0_ := Aside0.mk (Nat.le_trans HD.out (Nat.le_add_right _ nd)); clear HD; have HD := m0_; clear m0_; refine ⟨_, rfl, ?_⟩; refine hK.out _ _ ⟨(blk_cell BK160.out 0).trans rfl, (blk_cell BK160.out 1).trans rfl, (blk_cell BK160.out 2).trans rfl, (blk_cell BK160.out 3).trans rfl, (blk_cell BK161.out 0).trans rfl, (blk_cell BK161.out 1).trans rfl, (blk_cell BK161.out 2).trans rfl, (blk_cell BK161.out 3).trans rfl⟩ (fun hHeld => ?_); clear hK K; refine norm_ (a' := ?_) ?_ ?_; rotate_left
 ·(show Act.put _ (some 9) _ = _; simp only [Act.put, List.setIfInBounds_toArray, List.set_cons_zero, List.set_cons_succ, i64_w, i32_w]; rfl)
 refine one_ (i := 9) (N := some 14) #[tt,tt,tt,tt,tt,tt,tt,tt,tt,tt,tt,tt,tt,tt,ff,ff,ff,ff] rfl rfl (one_of HT_.out (by kernel_rfl)) (by decide) (fun K hK => ?_); refine goes_ Try.func73 (by kernel_rfl) rfl #[.int .i64 a0_3, .int .i64 a1_3] (by rfl) rfl rfl (by (try simp only [List.map_toArray, List.map_cons, List.map_nil]); first | done | rfl | (simp only [List.length_drop, List.length_take]; rfl)) ?_; (with_reducible refine (cmp_Compare_int.calls a0_3 a1_3 t163 _ A4.out).mono ?_); rintro e w' ⟨rfl, ⟨nd, rfl⟩⟩; have m0_ := Aside0.mk (Nat.le_trans HD.out (Nat.le_add_right _ nd)); clear HD; have HD := m0_; clear m0_; refine ⟨_, rfl, ?_⟩; refine hK.out _ _ ⟨(blk_cell BK160.out 0).trans rfl, (blk_cell BK160.out 1).trans rfl, (blk_cell BK160.out 2).trans rfl, (blk_cell BK160.out 3).trans rfl, (blk_cell BK161.out 0).trans rfl, (blk_cell BK161.out 1).trans rfl, (blk_cell BK161.out 2).trans rfl, (blk_cell BK161.out 3).trans rfl⟩ (fun hHeld => ?_); clear hK K; refine norm_ (a' := ?_) ?_ ?_; rotate_left
 ·(show Act.put _ (some 14) _ = _; simp only [Act.put, List.setIfInBounds_toArray, List.set_cons_zero, List.set_cons_succ, i64_w, i32_w]; rfl)
 refine one_ (i := 14) (N := some 19) #[tt,tt,tt,tt,tt,tt,tt,tt,tt,tt,tt,tt,tt,tt,tt,ff,ff,ff] rfl rfl (one_of HT_.out (by kernel_rfl)) (by decide) (fun K hK => ?_); refine goes_ Try.func73 (by kernel_rfl) rfl #[.int .i64 a0_2, .int .i64 a1_2] (by rfl) rfl rfl (by (try simp only [List.map_toArray, List.map_cons, List.map_nil]); first | done | rfl | (simp only [List.length_drop, List.length_take]; rfl)) ?_; (with_reducible refine (cmp_Compare_int.calls a0_2 a1_2 t164 _ A5.out).mono ?_); rintro e w' ⟨rfl, ⟨nd, rfl⟩⟩; have m0_ := Aside0.mk (Nat.le_trans HD.out (Nat.le_add_right _ nd)); clear HD; have HD := m0_; clear m0_; refine ⟨_, rfl, ?_⟩; refine hK.out _ _ ⟨(blk_cell BK160.out 0).trans rfl, (blk_cell BK160.out 1).trans rfl, (blk_cell BK160.out 2).trans rfl, (blk_cell BK160.out 3).trans rfl, (blk_cell BK161.out 0).trans rfl, (blk_cell BK161.out 1).trans rfl, (blk_cell BK161.out 2).trans rfl, (blk_cell BK161.out 3).trans rfl⟩ (fun hHeld => ?_); clear hK K; refine norm_ (a' := ?_) ?_ ?_; rotate_left
 ·(show Act.put _ (some 19) _ = _; simp only [Act.put, List.setIfInBounds_toArray, List.set_cons_zero, List.set_cons_succ, i64_w, i32_w]; rfl)
 refine one_ (i := 15) (N := some 20) #[tt,tt,tt,tt,tt,tt,tt,tt,tt,tt,tt,tt,tt,tt,tt,tt,ff,ff] rfl rfl (one_of HT_.out (by kernel_rfl)) (by decide) (fun K hK => ?_); refine slices_SortFunc_at50.lit (ob := .cells #[.int .i64 t162, .int .i64 t163, .int .i64 t164] 3) rfl (by first | (go_simp; done) | (go_simp; rfl)) ?_; refine Kd.R_lit_step (Kd.int .i64) _ 3 ?hg (N := 20) ?hd (xs := ([t162, t163, t164] : List Int)) (inner := [.int .i64 t162, .int .i64 t163, .int .i64 t164]) (ok := fun _ => True) (okp := fun _ => True) ?hr ?hp (fun _ hk => hk) trivial (Below.refl _ _) (Nat.le_refl _) (by simp) ?_; (case hd => rfl); (case hg => rfl); (case hr => first | (go_simp; done) | (go_simp; rfl)); (case hp => exact (Reps.one (show Kd.M (Kd.int .i64) _ _ _ t162 [.int .i64 t162] from rfl) (Reps.one (show Kd.M (Kd.int .i64) _ _ _ t163 [.int .i64 t163] from rfl) (Reps.one (show Kd.M (Kd.int .i64) _ _ _ t164 [.int .i64 t164] from rfl) (Reps.none _ _))))); intro v166 w10 ho11 hb hg_ hnew_ hd_; have m0_ := Aside0.mk (Nat.le_trans HD.out (Nat.le_of_eq hd_.symm)); clear HD hd_; have HD := m0_; clear m0_; clear hg_ hnew_; (first | rw [← Ny165.out] at ho11 | (simp only [Int.reduceToNat] at ho11; rw [← Ny165.out] at ho11)); have n0_ := Aside0.mk (Kd.R_lower ho11 (below_size bl_)); have n1_ := Aside0.mk (blk_below (g := gb160) (o := .cells #[.int .i64 a0_0, .int .i64 a0_1, .int .i64 a0_2, .int .i64 a0_3] 56 (0, 0)) (by (with_reducible repeat (first | refine blk_drewN ?_ _ | refine blk_drew ?_ | refine blk_alloc ?_ _)); exact BK160.out) hb); have n2_ := Aside0.mk (blk_below (g := gb161) (o := .cells #[.int .i64 a1_0, .int .i64 a1_1, .int .i64 a1_2, .int .i64 a1_3] 56 (0, 0)) (by (with_reducible repeat (first | refine blk_drewN ?_ _ | refine blk_drew ?_ | refine blk_alloc ?_ _)); exact BK161.out) hb); have n3_ := Aside0.mk (below_step bl_ hb); clear BK160; clear BK161; clear HB; have HO167 := n0_; have BK160 := n1_; have BK161 := n2_; have HB := n3_; clear n0_ n1_ n2_ n3_; clear hb ho11; obtain ⟨Ao12, co12, eo12⟩ := Kd.R_slice HO167.out; (first | subst eo12 | (injection eo12 with f1_ f2_ f3_; have f4_ := f1_.symm; have f5_ := f3_.symm; clear f1_ f2_ f3_; subst f4_; subst f5_))
 refine hK.out _ _ ⟨(blk_cell BK160.out 0).trans rfl, (blk_cell BK160.out 1).trans rfl, (blk_cell BK160.out 2).trans rfl, (blk_cell BK160.out 3).trans rfl, (blk_cell BK161.out 0).trans rfl, (blk_cell BK161.out 1).trans rfl, (blk_cell BK161.out 2).trans rfl, (blk_cell BK161.out 3).trans rfl⟩ (fun hHeld => ?_); clear hK K; refine norm_ (a' := ?_) ?_ ?_; rotate_left
 ·(show Act.put _ (some 20) _ = _; simp only [Act.put, List.setIfInBounds_toArray, List.set_cons_zero, List.set_cons_succ, i64_w, i32_w]; rfl)
 refine one_ (i := 16) (N := some 21) #[tt,tt,tt,tt,tt,tt,tt,tt,tt,tt,tt,tt,tt,tt,tt,tt,tt,ff] rfl rfl (one_of HT_.out (by kernel_rfl)) (by decide) (fun K hK => ?_); refine goes_ Try.func72 (by kernel_rfl) rfl #[.slice Ao12 y165.length co12] (by rfl) rfl rfl (by (try simp only [List.map_toArray, List.map_cons, List.map_nil]); first | done | rfl | (simp only [List.length_drop, List.length_take]; rfl)) ?_; (with_reducible refine (cmp_Or_int.calls k _ _ y165 t168 _ ?side1 ?side2 A6.out).mono ?_); (case side1 => exact cw_ ((Kd.R_reads' HO167.out).2.2)); (case side2 => exact (Kd.R_reads' HO167.out).2.1); rintro e w' ⟨rfl, ⟨nd, rfl⟩⟩; have m0_ := Aside0.mk (Nat.le_trans HD.out (Nat.le_add_right _ nd)); clear HD; have HD := m0_; clear m0_; refine ⟨_, rfl, ?_⟩; refine hK.out _ _ ⟨(blk_cell BK160.out 0).trans rfl, (blk_cell BK160.out 1).trans rfl, (blk_cell BK160.out 2).trans rfl, (blk_cell BK160.out 3).trans rfl, (blk_cell BK161.out 0).trans rfl, (blk_cell BK161.out 1).trans rfl, (blk_cell BK161.out 2).trans rfl, (blk_cell BK161.out 3).trans rfl⟩ (fun hHeld => ?_); clear hK K; refine norm_ (a' := ?_) ?_ ?_; rotate_left
 ·(show Act.put _ (some 21) _ = _; simp only [Act.put, List.setIfInBounds_toArray, List.set_cons_zero, List.set_cons_succ, i64_w, i32_w]; rfl)
 refine pure_ (i := 17) (N := some 4) (v := ?_) (a' := ?_) #[tt,tt,tt,tt,tt,tt,tt,tt,tt,tt,tt,tt,tt,tt,tt,tt,tt,tt] rfl rfl (any_of HT_.out (by kernel_rfl)) (fun _ _ _ h => h) (Or.inl ⟨by rfl, ?_⟩) ?_ ?_; rotate_left
 ·(intro w'; go_simp; (with_reducible rfl))
 rotate_left
 ·(simp only [Act.put, List.setIfInBounds_toArray, List.set_cons_zero, List.set_cons_succ, i64_w, i32_w]; rfl)
 refine done_ (done_of HT_.out (by kernel_rfl)) ?_; try go_wp2
 go_ret; exact ⟨by first | rfl | (simp [errW_none, errW_some] <;> rfl) | (simp [*, errW_none, errW_some] <;> rfl), slices_SortFunc_at50.grew bl_ (by first | exact HD.out | exact Nat.le_trans HD.out (Nat.le_add_right _ _) | (simp; exact HD.out))⟩
def slices_SortFunc_at50.one (a b : Int) : Int := if a < b then -1 else if a > b then 1 else 0
/-- As impl.eventOrder answers. -/
def slices_SortFunc_at50.cf (x y : S56) : Int := if slices_SortFunc_at50.one x.f0 y.f0 = 0 then (if slices_SortFunc_at50.one x.f3 y.f3 = 0 then slices_SortFunc_at50.one x.f2 y.f2 else slices_SortFunc_at50.one x.f3 y.f3) else slices_SortFunc_at50.one x.f0 y.f0
theorem slices_SortFunc_at50.one_eq (a b : Int) : cmp_Compare_int.f a b = some (slices_SortFunc_at50.one a b) := by
 simp only [cmp_Compare_int.f, cmp_isNaN_int.f, bne_self_eq_false, Option.bind_some, Bool.false_eq_true, if_false, slices_SortFunc_at50.one]; split
 ·rfl
 ·split <;> rfl
theorem slices_SortFunc_at50.or_eq (a b c : Int) : cmp_Or_int.f 5 [a, b, c] = some (if a = 0 then if b = 0 then c else b else a) := by
 have e1 : wrap64 (0 + 1) = 1 := by unfold wrap64; omega
 have e2 : wrap64 (1 + 1) = 2 := by unfold wrap64; omega
 have e3 : wrap64 (2 + 1) = 3 := by unfold wrap64; omega
 simp only [cmp_Or_int.f, cmp_Or_int.l0, rd, e1, e2, e3, List.length_cons, List.length_nil]; by_cases ha : a = 0
 ·by_cases hb : b = 0
  ·by_cases hc : c = 0
   ·simp [ha, hb, hc, e1, e2, e3]
   ·simp [ha, hb, hc, e1, e2, e3]
  ·simp [ha, hb, e1, e2, e3]
 ·simp [ha, e1, e2, e3]
theorem slices_SortFunc_at50.cf_eq (x y : S56) : impl_eventOrder.f 5 x.f0 x.f1 x.f2 x.f3 y.f0 y.f1 y.f2 y.f3 = some (slices_SortFunc_at50.cf x y) := by
 simp only [impl_eventOrder.f, slices_SortFunc_at50.one_eq, Option.bind_some, slices_SortFunc_at50.or_eq, slices_SortFunc_at50.cf]
def slices_SortFunc_at50.lt (x y : S56) : Bool := decide (x.f0 < y.f0 ∨ x.f0 = y.f0 ∧ (x.f3 < y.f3 ∨ x.f3 = y.f3 ∧ x.f2 < y.f2))
theorem slices_SortFunc_at50.lt_eq : Go.Proofs.ltOf slices_SortFunc_at50.cf = slices_SortFunc_at50.lt := by
 funext x y
 unfold Go.Proofs.ltOf slices_SortFunc_at50.cf slices_SortFunc_at50.lt slices_SortFunc_at50.one
 refine decide_eq_decide.2 ?_; repeat' split
 all_goals omega
theorem slices_SortFunc_at50.swo : Go.Sort.SWO (Go.Proofs.ltOf slices_SortFunc_at50.cf) where
 irrefl x := by rw [slices_SortFunc_at50.lt_eq]; simp [slices_SortFunc_at50.lt]
 trans x y z h1 h2 := by rw [slices_SortFunc_at50.lt_eq] at *; unfold slices_SortFunc_at50.lt at *; rw [decide_eq_true_eq] at *; omega
 ntrans x y z h1 h2 := by rw [slices_SortFunc_at50.lt_eq] at *; unfold slices_SortFunc_at50.lt at *; rw [decide_eq_false_iff_not] at *; omega
instance slices_SortFunc_at50.inh : Inhabited S56 := ⟨z56⟩
def slices_SortFunc_at50.enc (x : S56) : List Value := [.int .i64 x.f0, .int .i64 x.f1, .int .i64 x.f2, .int .i64 x.f3]
/-- Sorted as slices.SortFunc sorts them. -/
def slices_SortFunc_at50.srt (l : List S56) : List S56 := (Go.Sort.pdq (Go.Proofs.ltOf slices_SortFunc_at50.cf) l.toArray 0 l.toArray.size (Lib.bitLen l.toArray.size) true true).toList
theorem slices_SortFunc_at50.srt_all (l : List S56) : Go.Sort.PermIn 0 l.toArray.size l.toArray (slices_SortFunc_at50.srt l).toArray ∧ Go.Sort.SortedIn (Go.Proofs.ltOf slices_SortFunc_at50.cf) 0 l.toArray.size (slices_SortFunc_at50.srt l).toArray := by
 have h := Go.Sort.pdq_sorts (Go.Proofs.ltOf slices_SortFunc_at50.cf) slices_SortFunc_at50.swo l.toArray 0 l.toArray.size (Lib.bitLen l.toArray.size) true true (Nat.zero_le _) (Nat.le_refl _) (Or.inl rfl); unfold slices_SortFunc_at50.srt
 exact h
theorem slices_SortFunc_at50.srt_len (l : List S56) : (slices_SortFunc_at50.srt l).length = l.length := by
 have := (slices_SortFunc_at50.srt_all l).1.1; simpa using this
theorem slices_SortFunc_at50.srt_perm (l : List S56) : (slices_SortFunc_at50.srt l).Perm l := by
 have h := (slices_SortFunc_at50.srt_all l).1.2.2; have hl := slices_SortFunc_at50.srt_len l
 have e1 : ((slices_SortFunc_at50.srt l).toArray.extract 0 l.toArray.size).toList = slices_SortFunc_at50.srt l := by
  simp only [List.size_toArray, Array.toList_extract, List.extract_eq_take_drop, List.drop_zero, Nat.sub_zero]; rw [← hl, List.take_length]
 have e2 : (l.toArray.extract 0 l.toArray.size).toList = l := by
  simp
 rw [e1, e2] at h; exact h
theorem slices_SortFunc_at50.srt_sorted (l : List S56) : (slices_SortFunc_at50.srt l).Pairwise (fun x y => slices_SortFunc_at50.lt y x = false) := by
 have h := (slices_SortFunc_at50.srt_all l).2; have hl := slices_SortFunc_at50.srt_len l; rw [slices_SortFunc_at50.lt_eq] at h; refine List.pairwise_iff_getElem.2 fun i j hi hj hij => ?_
 have := h i j (Nat.zero_le _) hij (by simpa using hl ▸ hj); simpa [hi, hj] using this
theorem slices_SortFunc_at50.flat (l : List S56) : ∀ t, t < l.length * 4 → (Go.Sort.flatK slices_SortFunc_at50.enc 4 l.toArray).toList[t]? = ((l[t / 4]?).map slices_SortFunc_at50.enc).bind (fun c => c[t % 4]?) := by
 intro t ht; have hd : t / 4 < l.length := by omega
 have hm : t % 4 < 4 := Nat.mod_lt _ (by decide); have h := Go.Sort.get_flatK slices_SortFunc_at50.enc 4 l.toArray t (by simpa using ht); rw [getElem!_pos _ t (by simpa using ht)] at h; rw [Array.getElem?_toList, Array.getElem?_eq_getElem (by simpa using ht), h]; have e : l.toArray[t / 4]! = l[t / 4] := by simp [hd]
 rw [e, List.getElem?_eq_getElem hd]; have hl : t % 4 < (slices_SortFunc_at50.enc l[t / 4]).length := by simpa [slices_SortFunc_at50.enc] using hm
 simp only [Option.map_some, Option.bind_some]; rw [getElem!_pos (slices_SortFunc_at50.enc l[t / 4]) (t % 4) hl, List.getElem?_eq_getElem hl]
theorem slices_SortFunc_at50.flat_at (l : List S56) (j : Nat) (x : S56) (hx : l[j]? = some x) : ((Go.Sort.flatK slices_SortFunc_at50.enc 4 l.toArray).toList.drop (j * 4)).take 4 = slices_SortFunc_at50.enc x := by
 have hj := (List.getElem?_eq_some_iff.1 hx).1; apply List.ext_getElem?
 intro i; by_cases hi : i < 4
 ·rw [List.getElem?_take_of_lt hi, List.getElem?_drop, slices_SortFunc_at50.flat l _ (by omega), show (j * 4 + i) / 4 = j by omega, show (j * 4 + i) % 4 = i by omega, hx]; rfl
 ·rw [List.getElem?_take_eq_none (by omega), List.getElem?_eq_none (by simp [slices_SortFunc_at50.enc]; omega)]
theorem slices_SortFunc_at50.inner {b : Nat} {ok : Nat → Prop} {w : World} {l : List S56} {inner : List Value} (h : Reps (k56.M w b ok) 4 l inner) : inner = (Go.Sort.flatK slices_SortFunc_at50.enc 4 l.toArray).toList := by
 obtain ⟨hl, h⟩ := h; apply List.ext_getElem?
 intro t; rcases Nat.lt_or_ge t (l.length * 4) with ht | ht
 ·have hd : t / 4 < l.length := by omega
  have h1 := k56_openM (h (t / 4) l[t / 4] (List.getElem?_eq_getElem hd))
  have h2 : inner[t]? = ((inner.drop (t / 4 * 4)).take 4)[t % 4]? := by
   rw [List.getElem?_take_of_lt (Nat.mod_lt _ (by decide)), List.getElem?_drop]; congr 1
   omega
  rw [h2, h1, slices_SortFunc_at50.flat l t ht, List.getElem?_eq_getElem hd]; rfl
 ·rw [List.getElem?_eq_none (by omega), List.getElem?_eq_none (by simp; omega)]
theorem slices_SortFunc_at50.reps {b : Nat} {ok : Nat → Prop} {w : World} (l : List S56) : Reps (k56.M w b ok) 4 l (Go.Sort.flatK slices_SortFunc_at50.enc 4 l.toArray).toList := by
 refine ⟨by simp, fun j x hx => ?_⟩; rw [slices_SortFunc_at50.flat_at l j x hx]; exact k56_mkM w b ok x
open Go.Sort in
theorem slices_SortFunc_at50.holds {w : World} {g : Nat} {cur : Array Value} {e : TypeId} {F : Array Value} (hb : w.heap[g]? = some (.cells cur e (0, 0))) (ht : cur.toList.take F.size = F.toList) : Holds id w g 0 F := by
 intro j hj; refine ⟨?_, by simp [World.frozen?, hb]⟩; have h1 : (cur.toList.take F.size)[j]? = F.toList[j]? := by rw [ht]
 rw [List.getElem?_take_of_lt hj] at h1; simp only [World.cell?, hb, Nat.zero_add]; simp only [Option.isSome_none, Bool.false_eq_true, if_false]; rw [← Array.getElem?_toList, h1]; simp [hj]
open Go.Sort in
theorem slices_SortFunc_at50.heap {w : World} {g n : Nat} {os : Array Obj} {cur : Array Value} {e : TypeId} {fr : Nat × Nat} (d : Array Value) (hb : w.heap[g]? = some (.cells cur e fr)) :
  (grow (putRow id (Sort.ahead w n) g 0 d) os).heap[g]? = some (.cells (putCells id 0 d cur) e fr) := by
 have hg : g < w.heap.size := (Array.getElem?_eq_some_iff.1 hb).1; rw [heap_grow_old _ _ (by simpa using hg)]; simp [putRow, mapBlock, Sort.ahead, Array.getElem?_modify, hb, onCells]
open Go.Sort in
theorem slices_SortFunc_at50.grown {w : World} {g n : Nat} {os : Array Obj} (d : Array Value) : w.grownBy (grow (putRow id (Sort.ahead w n) g 0 d) os) (some g) := by
 refine ⟨rfl, rfl, rfl, by simp, fun k hk hne => ?_⟩; rw [heap_grow_old _ _ (by simpa using hk)]; have : g ≠ k := fun e => hne (by rw [e])
 simp [putRow, mapBlock, Sort.ahead, Array.getElem?_modify, this]
open Go.Sort in
theorem slices_SortFunc_at50.took (cur F : Array Value) (h : F.size ≤ cur.size) : (putCells id 0 F cur).toList.take F.size = F.toList := by
 apply List.ext_getElem?
 intro j; by_cases hj : j < F.size
 ·rw [List.getElem?_take_of_lt hj, Array.getElem?_toList]; simp [putCells, hj, show j < cur.size by omega]
 ·rw [List.getElem?_take_eq_none (by omega), List.getElem?_eq_none (by simp; omega)]
def slices_SortFunc_at50.f (l0 : List S56) : Option (List S56) := if l0.length < 4611686018427387904 then some (slices_SortFunc_at50.srt l0) else none
set_option maxHeartbeats 8000000 in
open Go.Shelf Go.Sort in
theorem slices_SortFunc_at50.calls (P0_ : Nat → Prop) (u0_ : Value) (l0 : List S56) (r : List S56) (w0 w : World) (hB : Below w0.heap.size w0 w) (ho0 : Kd.R k56 56 w w0.heap.size P0_ u0_ l0) (h : slices_SortFunc_at50.f l0 = some r) :
  Calls Try.prog 49 #[u0_, .func (.func 50) #[] #[]] w fun e w' => e = .returned (.tuple #[]) ∧ Kd.R k56 56 w' w0.heap.size (fun k_ => (P0_ k_ ∨ w.heap.size ≤ k_)) u0_ r ∧ Below w0.heap.size w0 w' ∧ Kept w w' (fun k_ => P0_ k_) := by
 have hsz : l0.length < 4611686018427387904 := by
  refine Classical.byContradiction fun hn => ?_
  rw [slices_SortFunc_at50.f, if_neg hn] at h
  cases h
 rw [slices_SortFunc_at50.f, if_pos hsz] at h; obtain rfl := Option.some.inj h
 obtain ⟨hP0, inner, ⟨hlen, ho⟩, hr⟩ := ho0; rcases ho with ⟨rfl, hn0⟩ | ⟨g, cap, cur, rfl, hbg, hg, hnc, hcm, hcs, htk⟩
 ·obtain rfl := List.length_eq_zero_iff.1 hn0
  have e0 : slices_SortFunc_at50.srt [] = [] := List.length_eq_zero_iff.1 (slices_SortFunc_at50.srt_len []); refine (AnyF.slices_SortFunc_none lays6 none 0 _ w).mono ?_; rintro e w' ⟨rfl, rfl⟩; refine ⟨rfl, ?_, hB, Kept.refl _ _⟩; rw [e0]; simpa using Kd.R_nil _ _ _ _ _
 ·have hin := slices_SortFunc_at50.inner hr; subst hin; have hmx : maxLen = 9223372036854775807 := rfl; have hcs' : cur.size = cap * 4 := hcs; have hfs : (flatK slices_SortFunc_at50.enc 4 l0.toArray).size = l0.length * 4 := by simp
  have hH : HoldsK slices_SortFunc_at50.enc 4 w g 0 l0.toArray := slices_SortFunc_at50.holds hg (by rw [hfs]; exact htk); have hgl : g < w.heap.size := (Array.getElem?_eq_some_iff.1 hg).1; have hl := slices_SortFunc_at50.srt_len l0; have eg : ∀ args w, (callFunc 50 args).run Try.prog w = .ok (.enter 50 args) w := enters_of Try.func50 (by kernel_rfl) rfl; have hcmp : CmpLays Try.prog 50 #[] slices_SortFunc_at50.enc 4 slices_SortFunc_at50.cf g 0 l0.toArray.size w := fun _ _ _ _ x y => slices_SortFunc_at50.cmp 5 x.f0 x.f1 x.f2 x.f3 y.f0 y.f1 y.f2 y.f3 _ _ (slices_SortFunc_at50.cf_eq x y)
  have hcon := AnyQ.slices_SortFunc_eq lays6 4 Try.isAgg56 Try.sizeOf56 slices_SortFunc_at50.enc (fun _ => rfl) (fun x v hv => by simp [slices_SortFunc_at50.enc] at hv; rcases hv with rfl | rfl | rfl | rfl <;> rfl) slices_SortFunc_at50.cf slices_SortFunc_at50.swo 50 #[] g 0 cap l0.toArray w eg hcmp hH hgl (by simpa using hsz)
  rw [List.size_toArray] at hcon; refine hcon.mono ?_; rintro e w' ⟨rfl, n, os, rfl⟩; have hD : (pdq (ltOf slices_SortFunc_at50.cf) l0.toArray 0 l0.length (Lib.bitLen l0.length) true true) = (slices_SortFunc_at50.srt l0).toArray := by simp [slices_SortFunc_at50.srt]
  rw [hD]; have hgb := slices_SortFunc_at50.grown (w := w) (g := g) (n := n) (os := os) (flatK slices_SortFunc_at50.enc 4 (slices_SortFunc_at50.srt l0).toArray); have hgb' := hgb; obtain ⟨_, _, _, hs2, hk2⟩ := hgb'; refine ⟨rfl, ⟨fun k hk => .inl (hP0 k hk), _, ?_, slices_SortFunc_at50.reps _⟩, pw_below_grown hB (some g) (below_size hB) hgb (fun k e => by injection e with e; subst e; exact hbg), ⟨hs2, fun k hk hn => hk2 k hk (fun e => hn (hP0 k (by injection e with e; rw [e]; rfl)))⟩⟩
  have hF : (flatK slices_SortFunc_at50.enc 4 (slices_SortFunc_at50.srt l0).toArray).size = l0.length * 4 := by simp [hl]
  refine ⟨by rw [Array.length_toList, hF, hl]; rfl, .inr ⟨g, cap, _, by rw [hl], hbg, slices_SortFunc_at50.heap _ hg, by rw [hl]; exact hnc, hcm, by simp [putCells, hcs], ?_⟩⟩; have hle : l0.length * 4 ≤ cap * 4 := Nat.mul_le_mul_right _ hnc; have hq := slices_SortFunc_at50.took cur (flatK slices_SortFunc_at50.enc 4 (slices_SortFunc_at50.srt l0).toArray) (by rw [hF, hcs']; exact hle); rw [hF] at hq; rw [hl]; exact hq

/-! ### impl_InRange: function 35 -/
def impl_InRange.f (a0 : Int) (a1 : Int) (a2 : Int) : Option (Bool) := if a1 ≤ a0 then (some (decide (a0 ≤ a2))) else (some false)
set_option maxHeartbeats 8000000 in
set_option maxRecDepth 100000 in
theorem impl_InRange.calls (a0 : Int) (a1 : Int) (a2 : Int) (r : Bool) (w : World) (h : impl_InRange.f a0 a1 a2 = some r) :
  Calls Try.prog 35 #[.int .i64 a0, .int .i64 a1, .int .i64 a2] w fun e w' => e = .returned (.bool r) ∧ Drawn0 w w' := by
 have H : (if a1 ≤ a0 then (some (decide (a0 ≤ a2))) else (some false)) = some r := h; clear h; by_cases c4 : a1 ≤ a0
 ·rw [if_pos c4] at H; have c4b0 : decide (a1 ≤ a0) = true := decide_eq_true c4; clear c4; obtain rfl := Option.some.inj H
  go_enter Try.func35, Try.ntmps35; go_wp2; go_ret; exact ⟨by first | rfl | (simp; done) | (simp [*]; done), by repeat (first | exact Drawn0.refl _ | apply Drawn0.step)⟩
 ·rw [if_neg c4] at H; have c4b0 : decide (a1 ≤ a0) = false := decide_eq_false c4; clear c4; obtain rfl := Option.some.inj H
  go_enter Try.func35, Try.ntmps35; go_wp2; go_ret; exact ⟨by first | rfl | (simp; done) | (simp [*]; done), by repeat (first | exact Drawn0.refl _ | apply Drawn0.step)⟩

end Go.Proofs.Ytoebmmbpfapgaaa.QFnExactJoinParts
