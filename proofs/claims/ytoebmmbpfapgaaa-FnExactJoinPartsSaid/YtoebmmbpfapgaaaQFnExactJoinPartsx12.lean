/- Plain functions for the Go functions that the law FnExactJoinParts reaches, and for each the proof that the call answers as the plain function says; printed by a program of this session. -/
import Derived.Test.YtoebmmbpfapgaaaQFnExactJoinPartsx0
import Derived.Test.YtoebmmbpfapgaaaQFnExactJoinPartsx1
import Derived.Test.YtoebmmbpfapgaaaQFnExactJoinPartsx2
import Derived.Test.YtoebmmbpfapgaaaQFnExactJoinPartsx3
import Derived.Test.YtoebmmbpfapgaaaQFnExactJoinPartsx7
import Derived.Test.YtoebmmbpfapgaaaQFnExactJoinPartsx11
namespace Go.Proofs.Ytoebmmbpfapgaaa.QFnExactJoinParts
open Go.RowKit Go.Proofs.YtoebmmbpfapgaaaW.PrintWords Go.Proofs.YtoebmmbpfapgaaaW.PrintLast Go.Proofs.YtoebmmbpfapgaaaW.PrintMore
attribute [local go_sem] max2_int min2_int max_two min_two max_three min_three max_four min_four   -- for this text's walks alone
set_option linter.unusedVariables false
set_option linter.unusedSimpArgs false

/-! ### laws_FnExactJoinParts: function 4 -/
mutual
def laws_FnExactJoinParts.j0 : Nat → List (List (S86)) → List (S56) → Bool → List (List (S82)) → List (S56) → Bool → Bool → Option (Bool)
 | 0, _, _, _, _, _, _, _ => none
 | k + 1, x0, x4, x5, x6, x7, x8, x40 => if x40 = true then (some false) else ((laws_toSignSS.f k x0).bind fun t312 => ((laws_eqSignSS.f k x6 t312).bind fun t315 => (if t315 = true then ((laws_markSignSS.f k x6 1).bind fun bt316 => (if bt316.1 < 0 then (laws_FnExactJoinParts.j1 k x0 x4 x5 x7 true) else ((laws_eqEventS.f k x7 x4).bind fun t318 => (if t318 = true then (laws_FnExactJoinParts.j1 k x0 x4 x5 x7 (x8 != x5)) else (laws_FnExactJoinParts.j1 k x0 x4 x5 x7 true))))) else (some false))))
def laws_FnExactJoinParts.j1 : Nat → List (List (S86)) → List (S56) → Bool → List (S56) → Bool → Option (Bool)
 | 0, _, _, _, _, _ => none
 | k + 1, x0, x4, x5, x7, x61 => if x61 = true then (some false) else ((laws_markEventS.f k x7 1).bind fun bt319 => ((laws_heldEventS.f k bt319.2 1).bind fun t321 => (if t321 < 0 then (some false) else (if t321 = bt319.1 then ((laws_toSignSS.f k x0).bind fun t322 => ((impl_JoinParts.f k t322).bind fun bt325 => ((laws_eqEventS.f k bt325.1 x4).bind fun t329 => (if t329 = true then (laws_FnExactJoinParts.j2 k bt319.2 bt319.1 (bt325.2 != x5)) else (laws_FnExactJoinParts.j2 k bt319.2 bt319.1 true))))) else (some false)))))
def laws_FnExactJoinParts.j2 : Nat → List (S56) → Int → Bool → Option (Bool)
 | 0, _, _, _ => none
 | k + 1, x7, x10, x87 => if x87 = true then (some false) else ((laws_heldEventS.f k x7 1).bind fun t330 => (if t330 < 0 then (some false) else (if t330 = x10 then (some true) else (some false))))
end
def laws_FnExactJoinParts.f (k : Nat) (l0 : List (List (S86))) : Option (Bool) := (laws_szSignSS.f k l0 1048576).bind fun t296 => (if t296 < 0 then (some true) else ((laws_toSignSS.f k l0).bind fun t297 => ((spec_JoinParts.f k t297).bind fun bt300 => ((laws_toSignSS.f k l0).bind fun t304 => ((impl_JoinParts.f k t304).bind fun bt307 => ((laws_eqEventS.f k bt307.1 bt300.1).bind fun t311 => (if t311 = true then (laws_FnExactJoinParts.j0 k l0 bt300.1 bt300.2 t304 bt307.1 bt307.2 (bt307.2 != bt300.2)) else (laws_FnExactJoinParts.j0 k l0 bt300.1 bt300.2 t304 bt307.1 bt307.2 true))))))))
theorem laws_FnExactJoinParts.mono_l : ∀ k, (∀ y0 y1 y2 y3 y4 y5 y6, LeO (laws_FnExactJoinParts.j0 k y0 y1 y2 y3 y4 y5 y6) (laws_FnExactJoinParts.j0 (k + 1) y0 y1 y2 y3 y4 y5 y6)) ∧ (∀ y0 y1 y2 y3 y4, LeO (laws_FnExactJoinParts.j1 k y0 y1 y2 y3 y4) (laws_FnExactJoinParts.j1 (k + 1) y0 y1 y2 y3 y4)) ∧ (∀ y0 y1 y2, LeO (laws_FnExactJoinParts.j2 k y0 y1 y2) (laws_FnExactJoinParts.j2 (k + 1) y0 y1 y2))
 | 0 => ⟨fun _ _ _ _ _ _ _ r h => by simp [laws_FnExactJoinParts.j0] at h, fun _ _ _ _ _ r h => by simp [laws_FnExactJoinParts.j1] at h, fun _ _ _ r h => by simp [laws_FnExactJoinParts.j2] at h⟩
 | k + 1 => by
  obtain ⟨ih0, ih1, ih2⟩ := laws_FnExactJoinParts.mono_l k
  refine ⟨?_, ?_, ?_⟩
  ·intro y0 y1 y2 y3 y4 y5 y6
   unfold laws_FnExactJoinParts.j0
   repeat' first
   | (with_reducible exact ih0 _ _ _ _ _ _ _)
   | (with_reducible exact ih1 _ _ _ _ _)
   | (with_reducible exact ih2 _ _ _)
   | (with_reducible exact impl_JoinParts.mono _ _)
   | (with_reducible exact laws_eqEventS.mono _ _ _)
   | (with_reducible exact laws_eqSignSS.mono _ _ _)
   | (with_reducible exact laws_heldEventS.mono _ _ _)
   | (with_reducible exact laws_markEventS.mono _ _ _)
   | (with_reducible exact laws_markSignSS.mono _ _ _)
   | (with_reducible exact laws_szSignSS.mono _ _ _)
   | (with_reducible exact laws_toSignSS.mono _ _)
   | (with_reducible exact spec_JoinParts.mono _ _)
   | (with_reducible exact LeO.refl _)
   | (with_reducible exact LeO.none _)
   | (with_reducible refine LeO.ite ?_ ?_)
   | (with_reducible refine LeO.bind ?_ (fun _ => ?_))
   | exact ih0 _ _ _ _ _ _ _
   | exact ih1 _ _ _ _ _
   | exact ih2 _ _ _
   | exact impl_JoinParts.mono _ _
   | exact laws_eqEventS.mono _ _ _
   | exact laws_eqSignSS.mono _ _ _
   | exact laws_heldEventS.mono _ _ _
   | exact laws_markEventS.mono _ _ _
   | exact laws_markSignSS.mono _ _ _
   | exact laws_szSignSS.mono _ _ _
   | exact laws_toSignSS.mono _ _
   | exact spec_JoinParts.mono _ _
   | exact LeO.none _
   | refine LeO.ite ?_ ?_
   | refine LeO.bind ?_ (fun _ => ?_)
  ·intro y0 y1 y2 y3 y4
   unfold laws_FnExactJoinParts.j1
   repeat' first
   | (with_reducible exact ih0 _ _ _ _ _ _ _)
   | (with_reducible exact ih1 _ _ _ _ _)
   | (with_reducible exact ih2 _ _ _)
   | (with_reducible exact impl_JoinParts.mono _ _)
   | (with_reducible exact laws_eqEventS.mono _ _ _)
   | (with_reducible exact laws_eqSignSS.mono _ _ _)
   | (with_reducible exact laws_heldEventS.mono _ _ _)
   | (with_reducible exact laws_markEventS.mono _ _ _)
   | (with_reducible exact laws_markSignSS.mono _ _ _)
   | (with_reducible exact laws_szSignSS.mono _ _ _)
   | (with_reducible exact laws_toSignSS.mono _ _)
   | (with_reducible exact spec_JoinParts.mono _ _)
   | (with_reducible exact LeO.refl _)
   | (with_reducible exact LeO.none _)
   | (with_reducible refine LeO.ite ?_ ?_)
   | (with_reducible refine LeO.bind ?_ (fun _ => ?_))
   | exact ih0 _ _ _ _ _ _ _
   | exact ih1 _ _ _ _ _
   | exact ih2 _ _ _
   | exact impl_JoinParts.mono _ _
   | exact laws_eqEventS.mono _ _ _
   | exact laws_eqSignSS.mono _ _ _
   | exact laws_heldEventS.mono _ _ _
   | exact laws_markEventS.mono _ _ _
   | exact laws_markSignSS.mono _ _ _
   | exact laws_szSignSS.mono _ _ _
   | exact laws_toSignSS.mono _ _
   | exact spec_JoinParts.mono _ _
   | exact LeO.none _
   | refine LeO.ite ?_ ?_
   | refine LeO.bind ?_ (fun _ => ?_)
  ·intro y0 y1 y2
   unfold laws_FnExactJoinParts.j2
   repeat' first
   | (with_reducible exact ih0 _ _ _ _ _ _ _)
   | (with_reducible exact ih1 _ _ _ _ _)
   | (with_reducible exact ih2 _ _ _)
   | (with_reducible exact impl_JoinParts.mono _ _)
   | (with_reducible exact laws_eqEventS.mono _ _ _)
   | (with_reducible exact laws_eqSignSS.mono _ _ _)
   | (with_reducible exact laws_heldEventS.mono _ _ _)
   | (with_reducible exact laws_markEventS.mono _ _ _)
   | (with_reducible exact laws_markSignSS.mono _ _ _)
   | (with_reducible exact laws_szSignSS.mono _ _ _)
   | (with_reducible exact laws_toSignSS.mono _ _)
   | (with_reducible exact spec_JoinParts.mono _ _)
   | (with_reducible exact LeO.refl _)
   | (with_reducible exact LeO.none _)
   | (with_reducible refine LeO.ite ?_ ?_)
   | (with_reducible refine LeO.bind ?_ (fun _ => ?_))
   | exact ih0 _ _ _ _ _ _ _
   | exact ih1 _ _ _ _ _
   | exact ih2 _ _ _
   | exact impl_JoinParts.mono _ _
   | exact laws_eqEventS.mono _ _ _
   | exact laws_eqSignSS.mono _ _ _
   | exact laws_heldEventS.mono _ _ _
   | exact laws_markEventS.mono _ _ _
   | exact laws_markSignSS.mono _ _ _
   | exact laws_szSignSS.mono _ _ _
   | exact laws_toSignSS.mono _ _
   | exact spec_JoinParts.mono _ _
   | exact LeO.none _
   | refine LeO.ite ?_ ?_
   | refine LeO.bind ?_ (fun _ => ?_)
theorem laws_FnExactJoinParts.mono : ∀ a0 k, LeO (laws_FnExactJoinParts.f k a0) (laws_FnExactJoinParts.f (k + 1) a0) := by
 intro a0 k; obtain ⟨ih0, ih1, ih2⟩ := laws_FnExactJoinParts.mono_l k; unfold laws_FnExactJoinParts.f
 repeat' first
   | (with_reducible exact ih0 _ _ _ _ _ _ _)
   | (with_reducible exact ih1 _ _ _ _ _)
   | (with_reducible exact ih2 _ _ _)
   | (with_reducible exact impl_JoinParts.mono _ _)
   | (with_reducible exact laws_eqEventS.mono _ _ _)
   | (with_reducible exact laws_eqSignSS.mono _ _ _)
   | (with_reducible exact laws_heldEventS.mono _ _ _)
   | (with_reducible exact laws_markEventS.mono _ _ _)
   | (with_reducible exact laws_markSignSS.mono _ _ _)
   | (with_reducible exact laws_szSignSS.mono _ _ _)
   | (with_reducible exact laws_toSignSS.mono _ _)
   | (with_reducible exact spec_JoinParts.mono _ _)
   | (with_reducible exact LeO.refl _)
   | (with_reducible exact LeO.none _)
   | (with_reducible refine LeO.ite ?_ ?_)
   | (with_reducible refine LeO.bind ?_ (fun _ => ?_))
   | exact ih0 _ _ _ _ _ _ _
   | exact ih1 _ _ _ _ _
   | exact ih2 _ _ _
   | exact impl_JoinParts.mono _ _
   | exact laws_eqEventS.mono _ _ _
   | exact laws_eqSignSS.mono _ _ _
   | exact laws_heldEventS.mono _ _ _
   | exact laws_markEventS.mono _ _ _
   | exact laws_markSignSS.mono _ _ _
   | exact laws_szSignSS.mono _ _ _
   | exact laws_toSignSS.mono _ _
   | exact spec_JoinParts.mono _ _
   | exact LeO.none _
   | refine LeO.ite ?_ ?_
   | refine LeO.bind ?_ (fun _ => ?_)
set_option maxHeartbeats 8000000 in
set_option maxRecDepth 100000 in
theorem laws_FnExactJoinParts.calls (k : Nat) (A0 : Option Addr) (c0 : Nat) (l0 : List (List (S86))) (r : Bool) (w : World) (hr0 : Kd.C (Kd.slice 86 k86) w A0 l0.length l0) (hc0 : l0.length ≤ c0) (h : laws_FnExactJoinParts.f k l0 = some r) :
  Calls Try.prog 4 #[.slice A0 l0.length c0] w fun e w' => e = .returned (.bool r) ∧ Below w.heap.size w w' := by
 have HR0 := Aside0.mk hr0; have HC0 := Aside0.mk hc0; clear hr0 hc0; have HB := Aside0.mk (Below.refl w.heap.size w); have H : ((laws_szSignSS.f k l0 1048576).bind fun t296 => (if t296 < 0 then (some true) else ((laws_toSignSS.f k l0).bind fun t297 => ((spec_JoinParts.f k t297).bind fun bt300 => ((laws_toSignSS.f k l0).bind fun t304 => ((impl_JoinParts.f k t304).bind fun bt307 => ((laws_eqEventS.f k bt307.1 bt300.1).bind fun t311 => (if t311 = true then (laws_FnExactJoinParts.j0 k l0 bt300.1 bt300.2 t304 bt307.1 bt307.2 (bt307.2 != bt300.2)) else (laws_FnExactJoinParts.j0 k l0 bt300.1 bt300.2 t304 bt307.1 bt307.2 true))))))))) = some r := h; clear h; replace H := Option.bind_eq_some_iff.mp H; obtain ⟨t296, A20, H⟩ := H; (try dsimp only at H); have A2 := Aside0.mk A20; clear A20; by_cases c3 : t296 < 0
 ·rw [if_pos c3] at H; have c3b0 : decide (t296 < 0) = true := decide_eq_true c3; clear c3; obtain rfl := Option.some.inj H
  go_enter Try.func4, Try.ntmps4; go_wp2_with (first | ((with_reducible refine gate_callee (f := 17) rfl ?_); refine goesM_ (some 16) rfl rfl Try.func17 (by kernel_rfl) rfl #[.slice A0 l0.length c0, .int .i64 1048576] rfl ?_; (with_reducible refine (laws_szSignSS.calls k _ _ l0 1048576 t296 _ ?side1 ?side2 A2.out).mono ?_); (case side1 => exact cw_ HR0.out); (case side2 => exact HC0.out); rintro e w' ⟨rfl, ⟨nd, rfl⟩⟩; refine ⟨_, rfl, ?_⟩)); go_ret; exact ⟨by first | rfl | (simp [errW_none, errW_some] <;> rfl) | (simp [*, errW_none, errW_some] <;> rfl), bl_⟩
 ·rw [if_neg c3] at H; have c3b0 : decide (t296 < 0) = false := decide_eq_false c3; clear c3; replace H := Option.bind_eq_some_iff.mp H; obtain ⟨t297, A40, H⟩ := H; (try dsimp only at H); have A4 := Aside0.mk A40; clear A40; replace H := Option.bind_eq_some_iff.mp H; obtain ⟨⟨t300, t301⟩, A50, H⟩ := H; (try dsimp only at H); have A5 := Aside0.mk A50; clear A50; replace H := Option.bind_eq_some_iff.mp H; obtain ⟨t304, A60, H⟩ := H; (try dsimp only at H); have A6 := Aside0.mk A60; clear A60; replace H := Option.bind_eq_some_iff.mp H; obtain ⟨⟨t307, t308⟩, A70, H⟩ := H; (try dsimp only at H); have A7 := Aside0.mk A70; clear A70; have HC8 := Aside0.mk H; clear H; go_enter Try.func4, Try.ntmps4; go_upto_region 8 with (first | ((with_reducible refine gate_callee (f := 17) rfl ?_); refine goesM_ (some 16) rfl rfl Try.func17 (by kernel_rfl) rfl #[.slice A0 l0.length c0, .int .i64 1048576] rfl ?_; (with_reducible refine (laws_szSignSS.calls k _ _ l0 1048576 t296 _ ?side1 ?side2 A2.out).mono ?_); (case side1 => exact cw_ HR0.out); (case side2 => exact HC0.out); rintro e w' ⟨rfl, ⟨nd, rfl⟩⟩; refine ⟨_, rfl, ?_⟩) | ((with_reducible refine gate_callee (f := 19) rfl ?_); refine goesM_ (some 21) rfl rfl Try.func19 (by kernel_rfl) rfl #[.slice A0 l0.length c0] rfl ?_; (with_reducible refine (laws_toSignSS.calls k _ _ l0 t297 _ ?side1 ?side2 A4.out).mono ?_); (case side1 => exact cw_ HR0.out); (case side2 => exact HC0.out); rintro e w9 ⟨v298, rfl, ho0, hb⟩; refine ⟨_, rfl, ?_⟩; have n0_ := Aside0.mk (Kd.S_lower ho0 (below_size bl_)); have n1_ := Aside0.mk (below_step bl_ hb); clear HB; have HO299 := n0_; have HB := n1_; clear n0_ n1_; (try clear hb); (try clear hb2); (try clear hk); (try clear hi); (try clear ho0); obtain ⟨Ao10, co10, eo10⟩ := Kd.S_slice HO299.out; subst eo10) | ((with_reducible refine gate_callee (f := 18) rfl ?_); refine goesM_ (some 22) rfl rfl Try.func18 (by kernel_rfl) rfl #[.slice Ao10 t297.length co10] rfl ?_; (with_reducible refine (spec_JoinParts.calls k _ _ t297 t300 t301 _ ?side1 ?side2 A5.out).mono ?_); (case side1 => exact cw_ ((Kd.S_reads' HO299.out).2.2)); (case side2 => exact (Kd.S_reads' HO299.out).2.1); rintro e w11 ⟨v302, rfl, ho0, hb⟩; refine ⟨_, rfl, ?_⟩; have n0_ := Aside0.mk (Kd.S_below (by (with_reducible repeat (first | apply Kd.S_alloc | apply Kd.S_drewN | apply Kd.S_drew)); exact HO299.out) hb); have n1_ := Aside0.mk (Kd.R_lower ho0 (below_size bl_)); have n2_ := Aside0.mk (below_step bl_ hb); clear HO299; clear HB; have HO299 := n0_; have HO303 := n1_; have HB := n2_; clear n0_ n1_ n2_; (try clear hb); (try clear hb2); (try clear hk); (try clear hi); (try clear ho0)) | ((with_reducible refine gate_callee (f := 19) rfl ?_); refine goesM_ (some 26) rfl rfl Try.func19 (by kernel_rfl) rfl #[.slice A0 l0.length c0] rfl ?_; (with_reducible refine (laws_toSignSS.calls k _ _ l0 t304 _ ?side1 ?side2 A6.out).mono ?_); (case side1 => exact cw_ (Kd.C_below HR0.out HB.out)); (case side2 => exact HC0.out); rintro e w12 ⟨v305, rfl, ho0, hb⟩; refine ⟨_, rfl, ?_⟩; have n0_ := Aside0.mk (Kd.S_elder' (by (with_reducible repeat (first | apply Kd.S_alloc | apply Kd.S_drewN | apply Kd.S_drew)); exact HO299.out) (Kd.S_base ho0) hb); have n1_ := Aside0.mk (Kd.R_below (by exact rw_ HO303.out) hb); have n2_ := Aside0.mk (Kd.S_lower (Kd.S_new' ho0 (Kd.S_lt (by (with_reducible repeat (first | apply Kd.S_alloc | apply Kd.S_drewN | apply Kd.S_drew)); exact HO299.out))) (below_size bl_)); have n3_ := Aside0.mk (below_step bl_ hb); clear HO299; clear HO303; clear HB; have HO299 := n0_; have HO303 := n1_; have HO306 := n2_; have HB := n3_; clear n0_ n1_ n2_ n3_; (try clear hb); (try clear hb2); (try clear hk); (try clear hi); (try clear ho0); obtain ⟨Ao13, co13, eo13⟩ := Kd.S_slice HO306.out; subst eo13) | ((with_reducible refine gate_callee (f := 20) rfl ?_); refine goesM_ (some 29) rfl rfl Try.func20 (by kernel_rfl) rfl #[.slice Ao13 t304.length co13] rfl ?_; (with_reducible refine (impl_JoinParts.calls k _ _ t304 t307 t308 _ ?side1 ?side2 A7.out).mono ?_); (case side1 => exact cw_ ((Kd.S_reads' HO306.out).2.2)); (case side2 => exact (Kd.S_reads' HO306.out).2.1); rintro e w14 ⟨v309, rfl, ho0, hb⟩; refine ⟨_, rfl, ?_⟩; have n0_ := Aside0.mk (Kd.S_below (by (with_reducible repeat (first | apply Kd.S_alloc | apply Kd.S_drewN | apply Kd.S_drew)); exact HO299.out) hb); have n1_ := Aside0.mk (Kd.R_elder' (by exact rw_ HO303.out) (Kd.R_base ho0) hb); have n2_ := Aside0.mk (Kd.S_below (by (with_reducible repeat (first | apply Kd.S_alloc | apply Kd.S_drewN | apply Kd.S_drew)); exact HO306.out) hb); have n3_ := Aside0.mk (Kd.R_lower (Kd.R_new' ho0 (Kd.R_lt (by exact rw_ HO303.out))) (below_size bl_)); have n4_ := Aside0.mk (below_step bl_ hb); clear HO299; clear HO303; clear HO306; clear HB; have HO299 := n0_; have HO303 := n1_; have HO306 := n2_; have HO310 := n3_; have HB := n4_; clear n0_ n1_ n2_ n3_ n4_; (try clear hb); (try clear hb2); (try clear hk); (try clear hi); (try clear ho0)))
  (try simp only [Act.put, List.setIfInBounds_toArray, List.set_cons_zero, List.set_cons_succ]); go_cut [40] (fun v40 wc => ∃ (kq : Nat) (x40_7 : Bool), v40 = .bool x40_7 ∧ Aside0 (laws_FnExactJoinParts.j0 kq l0 t300 t301 t304 t307 t308 x40_7 = some r) ∧ Aside0 (kq ≤ k) ∧ Aside0 (Kd.R k56 56 wc w.heap.size (fun k_ => some k_ ≠ (v309 : Value).ownBlock) v302 t300) ∧ Aside0 (Kd.S (Kd.slice 82 k82) 51 wc w.heap.size (fun _ => True) (.slice Ao13 t304.length co13) t304) ∧ Aside0 (Kd.R k56 56 wc w.heap.size (fun k_ => some k_ ≠ (v302 : Value).ownBlock) v309 t307) ∧ Aside0 (Below w.heap.size w wc))
  case first =>
   have H := HC8.out; clear HC8; replace H := Option.bind_eq_some_iff.mp H; obtain ⟨t311, A150, H⟩ := H; (try dsimp only at H); have A15 := Aside0.mk A150; clear A150; by_cases c16 : t311 = true
   ·subst c16; rw [if_pos rfl] at H; have H' := Aside0.mk H; clear H; obtain ⟨Ao17, co17, eo17⟩ := Kd.R_slice HO310.out; subst eo17; obtain ⟨Ao18, co18, eo18⟩ := Kd.R_slice HO303.out; subst eo18; go_wp2_with (first | ((with_reducible refine gate_callee (f := 13) rfl ?_); refine goesM_ (some 34) rfl rfl Try.func13 (by kernel_rfl) rfl #[.slice Ao17 t307.length co17, .slice Ao18 t300.length co18] rfl ?_; (with_reducible refine (laws_eqEventS.calls k _ _ t307 _ _ t300 true _ ?side1 ?side2 ?side3 ?side4 A15.out).mono ?_); (case side1 => exact cw_ ((Kd.R_reads' HO310.out).2.2)); (case side2 => exact (Kd.R_reads' HO310.out).2.1); (case side3 => exact cw_ ((Kd.R_reads' HO303.out).2.2)); (case side4 => exact (Kd.R_reads' HO303.out).2.1); rintro e w19 ⟨rfl, hb⟩; refine ⟨_, rfl, ?_⟩; have n0_ := Aside0.mk (Kd.S_below (by (with_reducible repeat (first | apply Kd.S_alloc | apply Kd.S_drewN | apply Kd.S_drew)); exact HO299.out) hb); have n1_ := Aside0.mk (Kd.R_below (by exact rw_ HO303.out) hb); have n2_ := Aside0.mk (Kd.S_below (by (with_reducible repeat (first | apply Kd.S_alloc | apply Kd.S_drewN | apply Kd.S_drew)); exact HO306.out) hb); have n3_ := Aside0.mk (Kd.R_below (by exact rw_ HO310.out) hb); have n4_ := Aside0.mk (below_step bl_ hb); clear HO299; clear HO303; clear HO306; clear HO310; clear HB; have HO299 := n0_; have HO303 := n1_; have HO306 := n2_; have HO310 := n3_; have HB := n4_; clear n0_ n1_ n2_ n3_ n4_; (try clear hb); (try clear hb2); (try clear hk); (try clear hi))); go_meet
    case rel => exact ⟨_, ((t308 != t301)), (by first | rfl | (simp; done) | (simp [*]; done)), H', ⟨by first | omega | exact Nat.le_refl _⟩, ⟨by (with_reducible repeat (first | apply Kd.R_alloc | apply Kd.R_drewN | apply Kd.R_drew)); exact Kd.R_mono HO303.out (fun _ hk => hk.2)⟩, ⟨by (with_reducible repeat (first | apply Kd.S_alloc | apply Kd.S_drewN | apply Kd.S_drew)); exact Kd.S_mono HO306.out (fun _ hk => trivial)⟩, ⟨by (with_reducible repeat (first | apply Kd.R_alloc | apply Kd.R_drewN | apply Kd.R_drew)); exact Kd.R_mono HO310.out (fun _ hk => hk.2)⟩, ⟨bl_⟩⟩
   ·replace c16 := Bool.eq_false_iff.mpr c16; subst c16; rw [if_neg (show ¬ (false = true) by decide)] at H; have H' := Aside0.mk H; clear H; obtain ⟨Ao20, co20, eo20⟩ := Kd.R_slice HO310.out; subst eo20; obtain ⟨Ao21, co21, eo21⟩ := Kd.R_slice HO303.out; subst eo21; go_wp2_with (first | ((with_reducible refine gate_callee (f := 13) rfl ?_); refine goesM_ (some 34) rfl rfl Try.func13 (by kernel_rfl) rfl #[.slice Ao20 t307.length co20, .slice Ao21 t300.length co21] rfl ?_; (with_reducible refine (laws_eqEventS.calls k _ _ t307 _ _ t300 false _ ?side1 ?side2 ?side3 ?side4 A15.out).mono ?_); (case side1 => exact cw_ ((Kd.R_reads' HO310.out).2.2)); (case side2 => exact (Kd.R_reads' HO310.out).2.1); (case side3 => exact cw_ ((Kd.R_reads' HO303.out).2.2)); (case side4 => exact (Kd.R_reads' HO303.out).2.1); rintro e w22 ⟨rfl, hb⟩; refine ⟨_, rfl, ?_⟩; have n0_ := Aside0.mk (Kd.S_below (by (with_reducible repeat (first | apply Kd.S_alloc | apply Kd.S_drewN | apply Kd.S_drew)); exact HO299.out) hb); have n1_ := Aside0.mk (Kd.R_below (by exact rw_ HO303.out) hb); have n2_ := Aside0.mk (Kd.S_below (by (with_reducible repeat (first | apply Kd.S_alloc | apply Kd.S_drewN | apply Kd.S_drew)); exact HO306.out) hb); have n3_ := Aside0.mk (Kd.R_below (by exact rw_ HO310.out) hb); have n4_ := Aside0.mk (below_step bl_ hb); clear HO299; clear HO303; clear HO306; clear HO310; clear HB; have HO299 := n0_; have HO303 := n1_; have HO306 := n2_; have HO310 := n3_; have HB := n4_; clear n0_ n1_ n2_ n3_ n4_; (try clear hb); (try clear hb2); (try clear hk); (try clear hi))); go_meet
    case rel => exact ⟨_, (true), (by first | rfl | (simp; done) | (simp [*]; done)), H', ⟨by first | omega | exact Nat.le_refl _⟩, ⟨by (with_reducible repeat (first | apply Kd.R_alloc | apply Kd.R_drewN | apply Kd.R_drew)); exact Kd.R_mono HO303.out (fun _ hk => hk.2)⟩, ⟨by (with_reducible repeat (first | apply Kd.S_alloc | apply Kd.S_drewN | apply Kd.S_drew)); exact Kd.S_mono HO306.out (fun _ hk => trivial)⟩, ⟨by (with_reducible repeat (first | apply Kd.R_alloc | apply Kd.R_drewN | apply Kd.R_drew)); exact Kd.R_mono HO310.out (fun _ hk => hk.2)⟩, ⟨bl_⟩⟩
  case rest =>
   clear HC8; try clear c1
   try clear c2
   try clear p2
   try clear c3
   try clear c3b0
   try clear c4
   try clear c13
   try clear c16
   try clear c17
   try clear c18
   try clear c19
   try clear c20
   obtain ⟨kq, x40_7, rfl, HA, HJ7, HO_4, HO_6, HO_7, HB⟩ := hcut
   cases kq with
   | zero => exact absurd HA.out (by simp [laws_FnExactJoinParts.j0])
   | succ kj7 =>
    have H := HA.out; clear HA; simp only [laws_FnExactJoinParts.j0] at H; by_cases c23 : x40_7 = true
    ·subst c23; rw [if_pos rfl] at H; obtain rfl := Option.some.inj H
     go_wp2; go_ret; exact ⟨by first | rfl | (simp [errW_none, errW_some] <;> rfl) | (simp [*, errW_none, errW_some] <;> rfl), bl_⟩
    ·replace c23 := Bool.eq_false_iff.mpr c23; subst c23; rw [if_neg (show ¬ (false = true) by decide)] at H; replace H := Option.bind_eq_some_iff.mp H; obtain ⟨t312, A240, H⟩ := H; (try dsimp only at H); have A24 := Aside0.mk A240; clear A240; replace H := Option.bind_eq_some_iff.mp H; obtain ⟨t315, A250, H⟩ := H; (try dsimp only at H); have A25 := Aside0.mk A250; clear A250; by_cases c26 : t315 = true
     ·subst c26; rw [if_pos rfl] at H; replace H := Option.bind_eq_some_iff.mp H; obtain ⟨⟨t316, t317⟩, A270, H⟩ := H; (try dsimp only at H); have A27 := Aside0.mk A270; clear A270; have HC28 := Aside0.mk H; clear H; go_upto_region 14 with (first | ((with_reducible refine gate_callee (f := 19) rfl ?_); refine goesM_ (some 43) rfl rfl Try.func19 (by kernel_rfl) rfl #[.slice A0 l0.length c0] rfl ?_; (with_reducible refine (laws_toSignSS.calls kj7 _ _ l0 t312 _ ?side1 ?side2 A24.out).mono ?_); (case side1 => exact cw_ (Kd.C_below HR0.out HB.out)); (case side2 => exact HC0.out); rintro e w29 ⟨v313, rfl, ho0, hb⟩; refine ⟨_, rfl, ?_⟩; have n0_ := Aside0.mk (Kd.R_below (by exact rw_ HO_4.out) hb); have n1_ := Aside0.mk (Kd.S_elder' (by (with_reducible repeat (first | apply Kd.S_alloc | apply Kd.S_drewN | apply Kd.S_drew)); exact HO_6.out) (Kd.S_base ho0) hb); have n2_ := Aside0.mk (Kd.R_below (by exact rw_ HO_7.out) hb); have n3_ := Aside0.mk (Kd.S_lower (Kd.S_new' ho0 (Kd.S_lt (by (with_reducible repeat (first | apply Kd.S_alloc | apply Kd.S_drewN | apply Kd.S_drew)); exact HO_6.out))) (below_size bl_)); have n4_ := Aside0.mk (below_step bl_ hb); clear HO_4; clear HO_6; clear HO_7; clear HB; have HO_4 := n0_; have HO_6 := n1_; have HO_7 := n2_; have HO314 := n3_; have HB := n4_; clear n0_ n1_ n2_ n3_ n4_; (try clear hb); (try clear hb2); (try clear hk); (try clear hi); (try clear ho0); obtain ⟨Ao30, co30, eo30⟩ := Kd.S_slice HO314.out; subst eo30) | ((with_reducible refine gate_callee (f := 12) rfl ?_); refine goesM_ (some 44) rfl rfl Try.func12 (by kernel_rfl) rfl #[.slice Ao13 t304.length co13, .slice Ao30 t312.length co30] rfl ?_; (with_reducible refine (laws_eqSignSS.calls kj7 _ _ t304 _ _ t312 true _ ?side1 ?side2 ?side3 ?side4 A25.out).mono ?_); (case side1 => exact cw_ ((Kd.S_reads' HO_6.out).2.2)); (case side2 => exact (Kd.S_reads' HO_6.out).2.1); (case side3 => exact cw_ ((Kd.S_reads' HO314.out).2.2)); (case side4 => exact (Kd.S_reads' HO314.out).2.1); rintro e w31 ⟨rfl, hb⟩; refine ⟨_, rfl, ?_⟩; have n0_ := Aside0.mk (Kd.R_below (by exact rw_ HO_4.out) hb); have n1_ := Aside0.mk (Kd.S_below (by (with_reducible repeat (first | apply Kd.S_alloc | apply Kd.S_drewN | apply Kd.S_drew)); exact HO_6.out) hb); have n2_ := Aside0.mk (Kd.R_below (by exact rw_ HO_7.out) hb); have n3_ := Aside0.mk (Kd.S_below (by (with_reducible repeat (first | apply Kd.S_alloc | apply Kd.S_drewN | apply Kd.S_drew)); exact HO314.out) hb); have n4_ := Aside0.mk (below_step bl_ hb); clear HO_4; clear HO_6; clear HO_7; clear HO314; clear HB; have HO_4 := n0_; have HO_6 := n1_; have HO_7 := n2_; have HO314 := n3_; have HB := n4_; clear n0_ n1_ n2_ n3_ n4_; (try clear hb); (try clear hb2); (try clear hk); (try clear hi)) | ((with_reducible refine gate_callee (f := 15) rfl ?_); refine goesM_ (some 48) rfl rfl Try.func15 (by kernel_rfl) rfl #[.slice Ao13 t304.length co13, .int .i64 1] rfl ?_; (with_reducible refine (laws_markSignSS.calls kj7 ?PS0_ (.slice Ao13 t304.length co13) t304 1 t316 t317 w _ ?side1 ?side2 A27.out).mono ?_); (case side1 => repeat (first | (with_reducible first | exact HB.out | apply below_alloc | apply pw_below_drewN | apply below_drew1) | exact HB.out)); (case side2 => exact Kd.S_bound (HO_6.out)); rintro e w32 ⟨rfl, hy0, hb, hkp⟩; refine ⟨_, rfl, ?_⟩; have n0_ := Aside0.mk (keptR_ (HO_4.out) hkp (by decide)); have n1_ := Aside0.mk (keptR_ (HO_7.out) hkp (by decide)); have n2_ := Aside0.mk (hb); clear HO_4; clear HO_7; clear HB; have HO_4 := n0_; have HO_7 := n1_; have HB := n2_; clear n0_ n1_ n2_; (try clear hb); (try clear hkp); (try clear hy0)))
      (try simp only [Act.put, List.setIfInBounds_toArray, List.set_cons_zero, List.set_cons_succ]); go_cut [61] (fun v61 wc => ∃ (kq : Nat) (x61_27 : Bool), v61 = .bool x61_27 ∧ Aside0 (laws_FnExactJoinParts.j1 kq l0 t300 t301 t307 x61_27 = some r) ∧ Aside0 (kq ≤ kj7) ∧ Aside0 (Kd.R k56 56 wc w.heap.size (fun k_ => some k_ ≠ (v309 : Value).ownBlock) v302 t300) ∧ Aside0 (Kd.R k56 56 wc w.heap.size (fun k_ => some k_ ≠ (v302 : Value).ownBlock) v309 t307) ∧ Aside0 (Below w.heap.size w wc))
      case first =>
       have H := HC28.out; clear HC28; by_cases c33 : t316 < 0
       ·rw [if_pos c33] at H; have c33b0 : decide (t316 < 0) = true := decide_eq_true c33; clear c33; (first | rw [c33b0] | (simp only [i64_w, i32_w]; rw [c33b0]) | skip); have H' := Aside0.mk H; clear H; go_wp2; go_meet
        case rel => exact ⟨_, (true), (by first | rfl | (simp; done) | (simp [*]; done)), H', ⟨by have := HJ7.out; first | omega | exact Nat.le_refl _⟩, ⟨by exact rw_ HO_4.out⟩, ⟨by exact rw_ HO_7.out⟩, ⟨bl_⟩⟩
       ·rw [if_neg c33] at H; have c33b0 : decide (t316 < 0) = false := decide_eq_false c33; clear c33; (first | rw [c33b0] | (simp only [i64_w, i32_w]; rw [c33b0]) | skip); replace H := Option.bind_eq_some_iff.mp H; obtain ⟨t318, A340, H⟩ := H; (try dsimp only at H); have A34 := Aside0.mk A340; clear A340; by_cases c35 : t318 = true
        ·subst c35; rw [if_pos rfl] at H; have H' := Aside0.mk H; clear H; obtain ⟨Ao36, co36, eo36⟩ := Kd.R_slice HO_7.out; subst eo36; obtain ⟨Ao37, co37, eo37⟩ := Kd.R_slice HO_4.out; subst eo37; go_wp2_with (first | (go_at_call 13; (with_reducible refine (laws_eqEventS.calls kj7 _ _ t307 _ _ t300 true _ ?side1 ?side2 ?side3 ?side4 A34.out).mono ?_); (case side1 => exact cw_ ((Kd.R_reads' HO_7.out).2.2)); (case side2 => exact (Kd.R_reads' HO_7.out).2.1); (case side3 => exact cw_ ((Kd.R_reads' HO_4.out).2.2)); (case side4 => exact (Kd.R_reads' HO_4.out).2.1); rintro e w38 ⟨rfl, hb⟩; have n0_ := Aside0.mk (Kd.R_below (by exact rw_ HO_4.out) hb); have n1_ := Aside0.mk (Kd.R_below (by exact rw_ HO_7.out) hb); have n2_ := Aside0.mk (below_step bl_ hb); clear HO_4; clear HO_7; clear HB; have HO_4 := n0_; have HO_7 := n1_; have HB := n2_; clear n0_ n1_ n2_; (try clear hb); (try clear hb2); (try clear hk); (try clear hi))); go_meet
         case rel => exact ⟨_, ((t308 != t301)), (by first | rfl | (simp; done) | (simp [*]; done)), H', ⟨by have := HJ7.out; first | omega | exact Nat.le_refl _⟩, ⟨by exact rw_ HO_4.out⟩, ⟨by exact rw_ HO_7.out⟩, ⟨bl_⟩⟩
        ·replace c35 := Bool.eq_false_iff.mpr c35; subst c35; rw [if_neg (show ¬ (false = true) by decide)] at H; have H' := Aside0.mk H; clear H; obtain ⟨Ao39, co39, eo39⟩ := Kd.R_slice HO_7.out; subst eo39; obtain ⟨Ao40, co40, eo40⟩ := Kd.R_slice HO_4.out; subst eo40; go_wp2_with (first | (go_at_call 13; (with_reducible refine (laws_eqEventS.calls kj7 _ _ t307 _ _ t300 false _ ?side1 ?side2 ?side3 ?side4 A34.out).mono ?_); (case side1 => exact cw_ ((Kd.R_reads' HO_7.out).2.2)); (case side2 => exact (Kd.R_reads' HO_7.out).2.1); (case side3 => exact cw_ ((Kd.R_reads' HO_4.out).2.2)); (case side4 => exact (Kd.R_reads' HO_4.out).2.1); rintro e w41 ⟨rfl, hb⟩; have n0_ := Aside0.mk (Kd.R_below (by exact rw_ HO_4.out) hb); have n1_ := Aside0.mk (Kd.R_below (by exact rw_ HO_7.out) hb); have n2_ := Aside0.mk (below_step bl_ hb); clear HO_4; clear HO_7; clear HB; have HO_4 := n0_; have HO_7 := n1_; have HB := n2_; clear n0_ n1_ n2_; (try clear hb); (try clear hb2); (try clear hk); (try clear hi))); go_meet
         case rel => exact ⟨_, (true), (by first | rfl | (simp; done) | (simp [*]; done)), H', ⟨by have := HJ7.out; first | omega | exact Nat.le_refl _⟩, ⟨by exact rw_ HO_4.out⟩, ⟨by exact rw_ HO_7.out⟩, ⟨bl_⟩⟩
      case rest =>
       clear HC28; try clear c1
       try clear c2
       try clear p2
       try clear c3
       try clear c3b0
       try clear c4
       try clear c12
       try clear c13
       try clear c15
       try clear c16
       try clear c17
       try clear c18
       try clear c19
       try clear c20
       try clear c23
       try clear c26
       try clear c33
       try clear c33b0
       try clear c35
       try clear p2
       obtain ⟨kq, x61_27, rfl, HA, HJ27, HO_4, HO_7, HB⟩ := hcut
       cases kq with
       | zero => exact absurd HA.out (by simp [laws_FnExactJoinParts.j1])
       | succ kj27 =>
        have H := HA.out; clear HA; simp only [laws_FnExactJoinParts.j1] at H; by_cases c42 : x61_27 = true
        ·subst c42; rw [if_pos rfl] at H; obtain rfl := Option.some.inj H
         go_wp2; go_ret; exact ⟨by first | rfl | (simp [errW_none, errW_some] <;> rfl) | (simp [*, errW_none, errW_some] <;> rfl), bl_⟩
        ·replace c42 := Bool.eq_false_iff.mpr c42; subst c42; rw [if_neg (show ¬ (false = true) by decide)] at H; replace H := Option.bind_eq_some_iff.mp H; obtain ⟨⟨t319, t320⟩, A430, H⟩ := H; (try dsimp only at H); have A43 := Aside0.mk A430; clear A430; replace H := Option.bind_eq_some_iff.mp H; obtain ⟨t321, A440, H⟩ := H; (try dsimp only at H); have A44 := Aside0.mk A440; clear A440; by_cases c45 : t321 < 0
         ·rw [if_pos c45] at H; have c45b0 : decide (t321 < 0) = true := decide_eq_true c45; clear c45; obtain rfl := Option.some.inj H
          obtain ⟨Ao46, co46, eo46⟩ := Kd.R_slice HO_7.out; subst eo46; go_wp2_with (first | ((with_reducible refine gate_callee (f := 14) rfl ?_); refine goesM_ (some 64) rfl rfl Try.func14 (by kernel_rfl) rfl #[.slice Ao46 t307.length co46, .int .i64 1] rfl ?_; (with_reducible refine (laws_markEventS.calls kj27 (fun k_ => some k_ = (.slice Ao46 t307.length co46 : Value).ownBlock) (.slice Ao46 t307.length co46) t307 1 t319 t320 w _ ?side1 ?side2 A43.out).mono ?_); (case side1 => repeat (first | (with_reducible first | exact HB.out | apply below_alloc | apply pw_below_drewN | apply below_drew1) | exact HB.out)); (case side2 => exact Kd.R_tight rfl HO_7.out); rintro e w47 ⟨rfl, hy0, hb, hkp⟩; refine ⟨_, rfl, ?_⟩; have n0_ := Aside0.mk (Kd.R_mono (ok' := fun k_ => some k_ ≠ (.slice Ao46 t307.length co46 : Value).ownBlock) (Kd.R_keptB (HO_4.out) hkp (fun k_ hk_ hs_ => (hk_) hs_)) (fun k_ hk_ => hk_.1)); have n1_ := Aside0.mk (Kd.R_reok rfl hy0 (fun k_ e_ => HO_7.out.1 k_ e_)); have n2_ := Aside0.mk (hb); clear HO_4; clear HO_7; clear HB; have HO_4 := n0_; have HO_7 := n1_; have HB := n2_; clear n0_ n1_ n2_; (try clear hb); (try clear hkp); (try clear hy0)) | ((with_reducible refine gate_callee (f := 21) rfl ?_); refine goesL_ (some 67) rfl rfl Try.func21 (by kernel_rfl) rfl #[.slice Ao46 t320.length co46, .int .i64 1] rfl (by (try simp only [List.map_toArray, List.map_cons, List.map_nil]); first | done | (rw [show t320.length = t307.length from (Kd.R_reads' HO_7.out).1.symm] <;> rfl) | rfl | (simp only [List.length_drop, List.length_take]; rfl)) ?_; (with_reducible refine (laws_heldEventS.calls kj27 _ _ t320 1 t321 _ ?side1 ?side2 A44.out).mono ?_); (case side1 => exact cw_ ((Kd.R_reads' HO_7.out).2.2)); (case side2 => rw [show t320.length = t307.length from (Kd.R_reads' HO_7.out).1.symm]; exact (Kd.R_reads' HO_7.out).2.1); rintro e w' ⟨rfl, ⟨nd, rfl⟩⟩; refine ⟨_, rfl, ?_⟩)); go_ret; exact ⟨by first | rfl | (simp [errW_none, errW_some] <;> rfl) | (simp [*, errW_none, errW_some] <;> rfl), bl_⟩
         ·rw [if_neg c45] at H; have c45b0 : decide (t321 < 0) = false := decide_eq_false c45; clear c45; by_cases c48 : t321 = t319
          ·rw [if_pos c48] at H; have c48b0 : (t321 == t319) = true := beq_iff_eq.mpr c48; have c48b1 : (t321 != t319) = false := bne_eq_false_iff_eq.mpr c48; clear c48; replace H := Option.bind_eq_some_iff.mp H; obtain ⟨t322, A490, H⟩ := H; (try dsimp only at H); have A49 := Aside0.mk A490; clear A490; replace H := Option.bind_eq_some_iff.mp H; obtain ⟨⟨t325, t326⟩, A500, H⟩ := H; (try dsimp only at H); have A50 := Aside0.mk A500; clear A500; have HC51 := Aside0.mk H; clear H; obtain ⟨Ao52, co52, eo52⟩ := Kd.R_slice HO_7.out; subst eo52; go_upto_region 25 with (first | ((with_reducible refine gate_callee (f := 14) rfl ?_); refine goesM_ (some 64) rfl rfl Try.func14 (by kernel_rfl) rfl #[.slice Ao52 t307.length co52, .int .i64 1] rfl ?_; (with_reducible refine (laws_markEventS.calls kj27 (fun k_ => some k_ = (.slice Ao52 t307.length co52 : Value).ownBlock) (.slice Ao52 t307.length co52) t307 1 t319 t320 w _ ?side1 ?side2 A43.out).mono ?_); (case side1 => repeat (first | (with_reducible first | exact HB.out | apply below_alloc | apply pw_below_drewN | apply below_drew1) | exact HB.out)); (case side2 => exact Kd.R_tight rfl HO_7.out); rintro e w53 ⟨rfl, hy0, hb, hkp⟩; refine ⟨_, rfl, ?_⟩; have n0_ := Aside0.mk (Kd.R_mono (ok' := fun k_ => some k_ ≠ (.slice Ao52 t307.length co52 : Value).ownBlock) (Kd.R_keptB (HO_4.out) hkp (fun k_ hk_ hs_ => (hk_) hs_)) (fun k_ hk_ => hk_.1)); have n1_ := Aside0.mk (Kd.R_reok rfl hy0 (fun k_ e_ => HO_7.out.1 k_ e_)); have n2_ := Aside0.mk (hb); clear HO_4; clear HO_7; clear HB; have HO_4 := n0_; have HO_7 := n1_; have HB := n2_; clear n0_ n1_ n2_; (try clear hb); (try clear hkp); (try clear hy0)) | ((with_reducible refine gate_callee (f := 21) rfl ?_); refine goesL_ (some 67) rfl rfl Try.func21 (by kernel_rfl) rfl #[.slice Ao52 t320.length co52, .int .i64 1] rfl (by (try simp only [List.map_toArray, List.map_cons, List.map_nil]); first | done | (rw [show t320.length = t307.length from (Kd.R_reads' HO_7.out).1.symm] <;> rfl) | rfl | (simp only [List.length_drop, List.length_take]; rfl)) ?_; (with_reducible refine (laws_heldEventS.calls kj27 _ _ t320 1 t321 _ ?side1 ?side2 A44.out).mono ?_); (case side1 => exact cw_ ((Kd.R_reads' HO_7.out).2.2)); (case side2 => rw [show t320.length = t307.length from (Kd.R_reads' HO_7.out).1.symm]; exact (Kd.R_reads' HO_7.out).2.1); rintro e w' ⟨rfl, ⟨nd, rfl⟩⟩; refine ⟨_, rfl, ?_⟩) | ((with_reducible refine gate_callee (f := 19) rfl ?_); refine goesM_ (some 75) rfl rfl Try.func19 (by kernel_rfl) rfl #[.slice A0 l0.length c0] rfl ?_; (with_reducible refine (laws_toSignSS.calls kj27 _ _ l0 t322 _ ?side1 ?side2 A49.out).mono ?_); (case side1 => exact cw_ (Kd.C_below HR0.out bl_)); (case side2 => exact HC0.out); rintro e w54 ⟨v323, rfl, ho0, hb⟩; refine ⟨_, rfl, ?_⟩; have n0_ := Aside0.mk (Kd.R_below (by exact rw_ HO_4.out) hb); have n1_ := Aside0.mk (Kd.R_below (by exact rw_ HO_7.out) hb); have n2_ := Aside0.mk (Kd.S_lower ho0 (below_size bl_)); have n3_ := Aside0.mk (below_step bl_ hb); clear HO_4; clear HO_7; clear HB; have HO_4 := n0_; have HO_7 := n1_; have HO324 := n2_; have HB := n3_; clear n0_ n1_ n2_ n3_; (try clear hb); (try clear hb2); (try clear hk); (try clear hi); (try clear ho0); obtain ⟨Ao55, co55, eo55⟩ := Kd.S_slice HO324.out; subst eo55) | ((with_reducible refine gate_callee (f := 20) rfl ?_); refine goesM_ (some 76) rfl rfl Try.func20 (by kernel_rfl) rfl #[.slice Ao55 t322.length co55] rfl ?_; (with_reducible refine (impl_JoinParts.calls kj27 _ _ t322 t325 t326 _ ?side1 ?side2 A50.out).mono ?_); (case side1 => exact cw_ ((Kd.S_reads' HO324.out).2.2)); (case side2 => exact (Kd.S_reads' HO324.out).2.1); rintro e w56 ⟨v327, rfl, ho0, hb⟩; refine ⟨_, rfl, ?_⟩; have n0_ := Aside0.mk (Kd.R_elder' (by exact rw_ HO_4.out) (Kd.R_base ho0) hb); have n1_ := Aside0.mk (Kd.R_elder' (by exact rw_ HO_7.out) (Kd.R_base ho0) hb); have n2_ := Aside0.mk (Kd.S_below (by (with_reducible repeat (first | apply Kd.S_alloc | apply Kd.S_drewN | apply Kd.S_drew)); exact HO324.out) hb); have n3_ := Aside0.mk (Kd.R_lower (Kd.R_new' (Kd.R_new' ho0 (Kd.R_lt (by exact rw_ HO_4.out))) (Kd.R_lt (by exact rw_ HO_7.out))) (below_size bl_)); have n4_ := Aside0.mk (below_step bl_ hb); clear HO_4; clear HO_7; clear HO324; clear HB; have HO_4 := n0_; have HO_7 := n1_; have HO324 := n2_; have HO328 := n3_; have HB := n4_; clear n0_ n1_ n2_ n3_ n4_; (try clear hb); (try clear hb2); (try clear hk); (try clear hi); (try clear ho0)))
           (try simp only [Act.put, List.setIfInBounds_toArray, List.set_cons_zero, List.set_cons_succ]); go_cut [87] (fun v87 wc => ∃ (kq : Nat) (x87_50 : Bool), v87 = .bool x87_50 ∧ Aside0 (laws_FnExactJoinParts.j2 kq t320 t319 x87_50 = some r) ∧ Aside0 (kq ≤ kj27) ∧ Aside0 (Kd.R k56 56 wc w.heap.size (fun _ => True) (.slice Ao52 t307.length co52) t320) ∧ Aside0 (Below w.heap.size w wc))
           case first =>
            have H := HC51.out; clear HC51; replace H := Option.bind_eq_some_iff.mp H; obtain ⟨t329, A570, H⟩ := H; (try dsimp only at H); have A57 := Aside0.mk A570; clear A570; by_cases c58 : t329 = true
            ·subst c58; rw [if_pos rfl] at H; have H' := Aside0.mk H; clear H; obtain ⟨Ao59, co59, eo59⟩ := Kd.R_slice HO328.out; subst eo59; obtain ⟨Ao60, co60, eo60⟩ := Kd.R_slice HO_4.out; subst eo60; go_wp2_with (first | ((with_reducible refine gate_callee (f := 13) rfl ?_); refine goesM_ (some 81) rfl rfl Try.func13 (by kernel_rfl) rfl #[.slice Ao59 t325.length co59, .slice Ao60 t300.length co60] rfl ?_; (with_reducible refine (laws_eqEventS.calls kj27 _ _ t325 _ _ t300 true _ ?side1 ?side2 ?side3 ?side4 A57.out).mono ?_); (case side1 => exact cw_ ((Kd.R_reads' HO328.out).2.2)); (case side2 => exact (Kd.R_reads' HO328.out).2.1); (case side3 => exact cw_ ((Kd.R_reads' HO_4.out).2.2)); (case side4 => exact (Kd.R_reads' HO_4.out).2.1); rintro e w61 ⟨rfl, hb⟩; refine ⟨_, rfl, ?_⟩; have n0_ := Aside0.mk (Kd.R_below (by exact rw_ HO_4.out) hb); have n1_ := Aside0.mk (Kd.R_below (by exact rw_ HO_7.out) hb); have n2_ := Aside0.mk (Kd.S_below (by (with_reducible repeat (first | apply Kd.S_alloc | apply Kd.S_drewN | apply Kd.S_drew)); exact HO324.out) hb); have n3_ := Aside0.mk (Kd.R_below (by exact rw_ HO328.out) hb); have n4_ := Aside0.mk (below_step bl_ hb); clear HO_4; clear HO_7; clear HO324; clear HO328; clear HB; have HO_4 := n0_; have HO_7 := n1_; have HO324 := n2_; have HO328 := n3_; have HB := n4_; clear n0_ n1_ n2_ n3_ n4_; (try clear hb); (try clear hb2); (try clear hk); (try clear hi))); go_meet
             case rel => exact ⟨_, ((t326 != t301)), (by first | rfl | (simp; done) | (simp [*]; done)), H', ⟨by have := HJ7.out; have := HJ27.out; first | omega | exact Nat.le_refl _⟩, ⟨by (with_reducible repeat (first | apply Kd.R_alloc | apply Kd.R_drewN | apply Kd.R_drew)); exact Kd.R_mono HO_7.out (fun _ hk => trivial)⟩, ⟨bl_⟩⟩
            ·replace c58 := Bool.eq_false_iff.mpr c58; subst c58; rw [if_neg (show ¬ (false = true) by decide)] at H; have H' := Aside0.mk H; clear H; obtain ⟨Ao62, co62, eo62⟩ := Kd.R_slice HO328.out; subst eo62; obtain ⟨Ao63, co63, eo63⟩ := Kd.R_slice HO_4.out; subst eo63; go_wp2_with (first | ((with_reducible refine gate_callee (f := 13) rfl ?_); refine goesM_ (some 81) rfl rfl Try.func13 (by kernel_rfl) rfl #[.slice Ao62 t325.length co62, .slice Ao63 t300.length co63] rfl ?_; (with_reducible refine (laws_eqEventS.calls kj27 _ _ t325 _ _ t300 false _ ?side1 ?side2 ?side3 ?side4 A57.out).mono ?_); (case side1 => exact cw_ ((Kd.R_reads' HO328.out).2.2)); (case side2 => exact (Kd.R_reads' HO328.out).2.1); (case side3 => exact cw_ ((Kd.R_reads' HO_4.out).2.2)); (case side4 => exact (Kd.R_reads' HO_4.out).2.1); rintro e w64 ⟨rfl, hb⟩; refine ⟨_, rfl, ?_⟩; have n0_ := Aside0.mk (Kd.R_below (by exact rw_ HO_4.out) hb); have n1_ := Aside0.mk (Kd.R_below (by exact rw_ HO_7.out) hb); have n2_ := Aside0.mk (Kd.S_below (by (with_reducible repeat (first | apply Kd.S_alloc | apply Kd.S_drewN | apply Kd.S_drew)); exact HO324.out) hb); have n3_ := Aside0.mk (Kd.R_below (by exact rw_ HO328.out) hb); have n4_ := Aside0.mk (below_step bl_ hb); clear HO_4; clear HO_7; clear HO324; clear HO328; clear HB; have HO_4 := n0_; have HO_7 := n1_; have HO324 := n2_; have HO328 := n3_; have HB := n4_; clear n0_ n1_ n2_ n3_ n4_; (try clear hb); (try clear hb2); (try clear hk); (try clear hi))); go_meet
             case rel => exact ⟨_, (true), (by first | rfl | (simp; done) | (simp [*]; done)), H', ⟨by have := HJ7.out; have := HJ27.out; first | omega | exact Nat.le_refl _⟩, ⟨by (with_reducible repeat (first | apply Kd.R_alloc | apply Kd.R_drewN | apply Kd.R_drew)); exact Kd.R_mono HO_7.out (fun _ hk => trivial)⟩, ⟨bl_⟩⟩
           case rest =>
            clear HC51; try clear c1
            try clear c2
            try clear p2
            try clear c3
            try clear c3b0
            try clear c4
            try clear c5
            try clear c12
            try clear c13
            try clear c14
            try clear c15
            try clear c16
            try clear c17
            try clear c18
            try clear c19
            try clear c20
            try clear c21
            try clear c23
            try clear c26
            try clear c33
            try clear c33b0
            try clear c35
            try clear c42
            try clear c45
            try clear c45b0
            try clear c48
            try clear c48b0
            try clear c48b1
            try clear c58
            try clear p2
            obtain ⟨kq, x87_50, rfl, HA, HJ50, HO_7, HB⟩ := hcut; have hl7_50 := (Kd.R_reads' HO_7.out).1; rw [hl7_50] at HO_7; (try simp only [hl7_50])
            cases kq with
            | zero => exact absurd HA.out (by simp [laws_FnExactJoinParts.j2])
            | succ kj50 =>
             have H := HA.out; clear HA; simp only [laws_FnExactJoinParts.j2] at H; by_cases c65 : x87_50 = true
             ·subst c65; rw [if_pos rfl] at H; obtain rfl := Option.some.inj H
              go_wp2; go_ret; exact ⟨by first | rfl | (simp [errW_none, errW_some] <;> rfl) | (simp [*, errW_none, errW_some] <;> rfl), bl_⟩
             ·replace c65 := Bool.eq_false_iff.mpr c65; subst c65; rw [if_neg (show ¬ (false = true) by decide)] at H; replace H := Option.bind_eq_some_iff.mp H; obtain ⟨t330, A660, H⟩ := H; (try dsimp only at H); have A66 := Aside0.mk A660; clear A660; by_cases c67 : t330 < 0
              ·rw [if_pos c67] at H; have c67b0 : decide (t330 < 0) = true := decide_eq_true c67; clear c67; obtain rfl := Option.some.inj H
               go_wp2_with (first | ((with_reducible refine gate_callee (f := 21) rfl ?_); refine goesM_ (some 90) rfl rfl Try.func21 (by kernel_rfl) rfl #[.slice Ao52 t320.length co52, .int .i64 1] rfl ?_; (with_reducible refine (laws_heldEventS.calls kj50 _ _ t320 1 t330 _ ?side1 ?side2 A66.out).mono ?_); (case side1 => exact cw_ ((Kd.R_reads' HO_7.out).2.2)); (case side2 => exact (Kd.R_reads' HO_7.out).2.1); rintro e w' ⟨rfl, ⟨nd, rfl⟩⟩; refine ⟨_, rfl, ?_⟩)); go_ret; exact ⟨by first | rfl | (simp [errW_none, errW_some] <;> rfl) | (simp [*, errW_none, errW_some] <;> rfl), bl_⟩
              ·rw [if_neg c67] at H; have c67b0 : decide (t330 < 0) = false := decide_eq_false c67; clear c67; by_cases c68 : t330 = t319
               ·rw [if_pos c68] at H; have c68b0 : (t330 == t319) = true := beq_iff_eq.mpr c68; have c68b1 : (t330 != t319) = false := bne_eq_false_iff_eq.mpr c68; clear c68; obtain rfl := Option.some.inj H
                go_wp2_with (first | ((with_reducible refine gate_callee (f := 21) rfl ?_); refine goesM_ (some 90) rfl rfl Try.func21 (by kernel_rfl) rfl #[.slice Ao52 t320.length co52, .int .i64 1] rfl ?_; (with_reducible refine (laws_heldEventS.calls kj50 _ _ t320 1 t330 _ ?side1 ?side2 A66.out).mono ?_); (case side1 => exact cw_ ((Kd.R_reads' HO_7.out).2.2)); (case side2 => exact (Kd.R_reads' HO_7.out).2.1); rintro e w' ⟨rfl, ⟨nd, rfl⟩⟩; refine ⟨_, rfl, ?_⟩)); go_ret; exact ⟨by first | rfl | (simp [errW_none, errW_some] <;> rfl) | (simp [*, errW_none, errW_some] <;> rfl), bl_⟩
               ·rw [if_neg c68] at H; have c68b0 : (t330 == t319) = false := beq_eq_false_iff_ne.mpr c68; have c68b1 : (t330 != t319) = true := bne_iff_ne.mpr c68; obtain rfl := Option.some.inj H
                go_wp2_with (first | ((with_reducible refine gate_callee (f := 21) rfl ?_); refine goesM_ (some 90) rfl rfl Try.func21 (by kernel_rfl) rfl #[.slice Ao52 t320.length co52, .int .i64 1] rfl ?_; (with_reducible refine (laws_heldEventS.calls kj50 _ _ t320 1 t330 _ ?side1 ?side2 A66.out).mono ?_); (case side1 => exact cw_ ((Kd.R_reads' HO_7.out).2.2)); (case side2 => exact (Kd.R_reads' HO_7.out).2.1); rintro e w' ⟨rfl, ⟨nd, rfl⟩⟩; refine ⟨_, rfl, ?_⟩)); go_ret; exact ⟨by first | rfl | (simp [errW_none, errW_some] <;> rfl) | (simp [*, errW_none, errW_some] <;> rfl), bl_⟩
          ·rw [if_neg c48] at H; have c48b0 : (t321 == t319) = false := beq_eq_false_iff_ne.mpr c48; have c48b1 : (t321 != t319) = true := bne_iff_ne.mpr c48; obtain rfl := Option.some.inj H
           obtain ⟨Ao69, co69, eo69⟩ := Kd.R_slice HO_7.out; subst eo69; go_wp2_with (first | ((with_reducible refine gate_callee (f := 14) rfl ?_); refine goesM_ (some 64) rfl rfl Try.func14 (by kernel_rfl) rfl #[.slice Ao69 t307.length co69, .int .i64 1] rfl ?_; (with_reducible refine (laws_markEventS.calls kj27 (fun k_ => some k_ = (.slice Ao69 t307.length co69 : Value).ownBlock) (.slice Ao69 t307.length co69) t307 1 t319 t320 w _ ?side1 ?side2 A43.out).mono ?_); (case side1 => repeat (first | (with_reducible first | exact HB.out | apply below_alloc | apply pw_below_drewN | apply below_drew1) | exact HB.out)); (case side2 => exact Kd.R_tight rfl HO_7.out); rintro e w70 ⟨rfl, hy0, hb, hkp⟩; refine ⟨_, rfl, ?_⟩; have n0_ := Aside0.mk (Kd.R_mono (ok' := fun k_ => some k_ ≠ (.slice Ao69 t307.length co69 : Value).ownBlock) (Kd.R_keptB (HO_4.out) hkp (fun k_ hk_ hs_ => (hk_) hs_)) (fun k_ hk_ => hk_.1)); have n1_ := Aside0.mk (Kd.R_reok rfl hy0 (fun k_ e_ => HO_7.out.1 k_ e_)); have n2_ := Aside0.mk (hb); clear HO_4; clear HO_7; clear HB; have HO_4 := n0_; have HO_7 := n1_; have HB := n2_; clear n0_ n1_ n2_; (try clear hb); (try clear hkp); (try clear hy0)) | ((with_reducible refine gate_callee (f := 21) rfl ?_); refine goesL_ (some 67) rfl rfl Try.func21 (by kernel_rfl) rfl #[.slice Ao69 t320.length co69, .int .i64 1] rfl (by (try simp only [List.map_toArray, List.map_cons, List.map_nil]); first | done | (rw [show t320.length = t307.length from (Kd.R_reads' HO_7.out).1.symm] <;> rfl) | rfl | (simp only [List.length_drop, List.length_take]; rfl)) ?_; (with_reducible refine (laws_heldEventS.calls kj27 _ _ t320 1 t321 _ ?side1 ?side2 A44.out).mono ?_); (case side1 => exact cw_ ((Kd.R_reads' HO_7.out).2.2)); (case side2 => rw [show t320.length = t307.length from (Kd.R_reads' HO_7.out).1.symm]; exact (Kd.R_reads' HO_7.out).2.1); rintro e w' ⟨rfl, ⟨nd, rfl⟩⟩; refine ⟨_, rfl, ?_⟩)); go_ret; exact ⟨by first | rfl | (simp [errW_none, errW_some] <;> rfl) | (simp [*, errW_none, errW_some] <;> rfl), bl_⟩
     ·replace c26 := Bool.eq_false_iff.mpr c26; subst c26; rw [if_neg (show ¬ (false = true) by decide)] at H; obtain rfl := Option.some.inj H
      go_wp2_with (first | ((with_reducible refine gate_callee (f := 19) rfl ?_); refine goesM_ (some 43) rfl rfl Try.func19 (by kernel_rfl) rfl #[.slice A0 l0.length c0] rfl ?_; (with_reducible refine (laws_toSignSS.calls kj7 _ _ l0 t312 _ ?side1 ?side2 A24.out).mono ?_); (case side1 => exact cw_ (Kd.C_below HR0.out HB.out)); (case side2 => exact HC0.out); rintro e w71 ⟨v313, rfl, ho0, hb⟩; refine ⟨_, rfl, ?_⟩; have n0_ := Aside0.mk (Kd.R_below (by exact rw_ HO_4.out) hb); have n1_ := Aside0.mk (Kd.S_elder' (by (with_reducible repeat (first | apply Kd.S_alloc | apply Kd.S_drewN | apply Kd.S_drew)); exact HO_6.out) (Kd.S_base ho0) hb); have n2_ := Aside0.mk (Kd.R_below (by exact rw_ HO_7.out) hb); have n3_ := Aside0.mk (Kd.S_lower (Kd.S_new' ho0 (Kd.S_lt (by (with_reducible repeat (first | apply Kd.S_alloc | apply Kd.S_drewN | apply Kd.S_drew)); exact HO_6.out))) (below_size bl_)); have n4_ := Aside0.mk (below_step bl_ hb); clear HO_4; clear HO_6; clear HO_7; clear HB; have HO_4 := n0_; have HO_6 := n1_; have HO_7 := n2_; have HO314 := n3_; have HB := n4_; clear n0_ n1_ n2_ n3_ n4_; (try clear hb); (try clear hb2); (try clear hk); (try clear hi); (try clear ho0); obtain ⟨Ao72, co72, eo72⟩ := Kd.S_slice HO314.out; subst eo72) | ((with_reducible refine gate_callee (f := 12) rfl ?_); refine goesM_ (some 44) rfl rfl Try.func12 (by kernel_rfl) rfl #[.slice Ao13 t304.length co13, .slice Ao72 t312.length co72] rfl ?_; (with_reducible refine (laws_eqSignSS.calls kj7 _ _ t304 _ _ t312 false _ ?side1 ?side2 ?side3 ?side4 A25.out).mono ?_); (case side1 => exact cw_ ((Kd.S_reads' HO_6.out).2.2)); (case side2 => exact (Kd.S_reads' HO_6.out).2.1); (case side3 => exact cw_ ((Kd.S_reads' HO314.out).2.2)); (case side4 => exact (Kd.S_reads' HO314.out).2.1); rintro e w73 ⟨rfl, hb⟩; refine ⟨_, rfl, ?_⟩; have n0_ := Aside0.mk (Kd.R_below (by exact rw_ HO_4.out) hb); have n1_ := Aside0.mk (Kd.S_below (by (with_reducible repeat (first | apply Kd.S_alloc | apply Kd.S_drewN | apply Kd.S_drew)); exact HO_6.out) hb); have n2_ := Aside0.mk (Kd.R_below (by exact rw_ HO_7.out) hb); have n3_ := Aside0.mk (Kd.S_below (by (with_reducible repeat (first | apply Kd.S_alloc | apply Kd.S_drewN | apply Kd.S_drew)); exact HO314.out) hb); have n4_ := Aside0.mk (below_step bl_ hb); clear HO_4; clear HO_6; clear HO_7; clear HO314; clear HB; have HO_4 := n0_; have HO_6 := n1_; have HO_7 := n2_; have HO314 := n3_; have HB := n4_; clear n0_ n1_ n2_ n3_ n4_; (try clear hb); (try clear hb2); (try clear hk); (try clear hi))); go_ret; exact ⟨by first | rfl | (simp [errW_none, errW_some] <;> rfl) | (simp [*, errW_none, errW_some] <;> rfl), bl_⟩

end Go.Proofs.Ytoebmmbpfapgaaa.QFnExactJoinParts
