/- Plain functions for the Go functions that the law FnExactCopyParts reaches, and for each the proof that the call answers as the plain function says; printed by a program of this session. -/
import Derived.Test.YtoebmmbpfapgaaaQFnExactCopyPartsx0
import Derived.Test.YtoebmmbpfapgaaaQFnExactCopyPartsx1
import Derived.Test.YtoebmmbpfapgaaaQFnExactCopyPartsx5
import Derived.Test.YtoebmmbpfapgaaaQFnExactCopyPartsx10
import Derived.Test.YtoebmmbpfapgaaaQFnExactCopyPartsx11
import Derived.Test.YtoebmmbpfapgaaaQFnExactCopyPartsx12
namespace Go.Proofs.Ytoebmmbpfapgaaa.QFnExactCopyParts
open Go.RowKit Go.Proofs.YtoebmmbpfapgaaaW.PrintWords Go.Proofs.YtoebmmbpfapgaaaW.PrintLast Go.Proofs.YtoebmmbpfapgaaaW.PrintMore
attribute [local go_sem] max2_int min2_int max_two min_two max_three min_three max_four min_four   -- for this text's walks alone
set_option linter.unusedVariables false
set_option linter.unusedSimpArgs false

/-! ### laws_FnExactCopyParts: function 3 -/
mutual
def laws_FnExactCopyParts.j0 : Nat → List (S58) → Int → List (List (S82)) → Bool → List (S56) → List (List (S82)) → Bool → Bool → Option (Bool)
 | 0, _, _, _, _, _, _, _, _ => none
 | k + 1, x0, x1, x6, x7, x8, x9, x10, x44 => if x44 = true then (some false) else ((laws_toEventS.f k x0).bind fun t321 => ((laws_eqEventS.f k x8 t321).bind fun t324 => (if t324 = true then ((laws_markEventS.f k x8 1).bind fun bt325 => (if bt325.1 < 0 then (laws_FnExactCopyParts.j1 k x0 x1 x6 x7 x9 true) else ((laws_eqSignSS.f k x9 x6).bind fun t327 => (if t327 = true then (laws_FnExactCopyParts.j1 k x0 x1 x6 x7 x9 (x10 != x7)) else (laws_FnExactCopyParts.j1 k x0 x1 x6 x7 x9 true))))) else (some false))))
def laws_FnExactCopyParts.j1 : Nat → List (S58) → Int → List (List (S82)) → Bool → List (List (S82)) → Bool → Option (Bool)
 | 0, _, _, _, _, _, _ => none
 | k + 1, x0, x1, x6, x7, x9, x65 => if x65 = true then (some false) else ((laws_markSignSS.f k x9 1).bind fun bt328 => ((laws_heldSignSS.f k bt328.2 1).bind fun t330 => (if t330 < 0 then (some false) else (if t330 = bt328.1 then ((laws_toEventS.f k x0).bind fun t331 => ((impl_CopyParts.f k t331 x1).bind fun bt334 => ((laws_eqSignSS.f k bt334.1 x6).bind fun t338 => (if t338 = true then (laws_FnExactCopyParts.j2 k bt328.2 bt328.1 (bt334.2 != x7)) else (laws_FnExactCopyParts.j2 k bt328.2 bt328.1 true))))) else (some false)))))
def laws_FnExactCopyParts.j2 : Nat → List (List (S82)) → Int → Bool → Option (Bool)
 | 0, _, _, _ => none
 | k + 1, x9, x12, x92 => if x92 = true then (some false) else ((laws_heldSignSS.f k x9 1).bind fun t339 => (if t339 < 0 then (some false) else (if t339 = x12 then (some true) else (some false))))
end
def laws_FnExactCopyParts.f (k : Nat) (l0 : List (S58)) (a1 : Int) : Option (Bool) := (laws_szEventS.f l0 1048576).bind fun t305 => (if t305 < 0 then (some true) else ((laws_toEventS.f k l0).bind fun t306 => ((spec_CopyParts.f k t306 a1).bind fun bt309 => ((laws_toEventS.f k l0).bind fun t313 => ((impl_CopyParts.f k t313 a1).bind fun bt316 => ((laws_eqSignSS.f k bt316.1 bt309.1).bind fun t320 => (if t320 = true then (laws_FnExactCopyParts.j0 k l0 a1 bt309.1 bt309.2 t313 bt316.1 bt316.2 (bt316.2 != bt309.2)) else (laws_FnExactCopyParts.j0 k l0 a1 bt309.1 bt309.2 t313 bt316.1 bt316.2 true))))))))
theorem laws_FnExactCopyParts.mono_l : ∀ k, (∀ y0 y1 y2 y3 y4 y5 y6 y7, LeO (laws_FnExactCopyParts.j0 k y0 y1 y2 y3 y4 y5 y6 y7) (laws_FnExactCopyParts.j0 (k + 1) y0 y1 y2 y3 y4 y5 y6 y7)) ∧ (∀ y0 y1 y2 y3 y4 y5, LeO (laws_FnExactCopyParts.j1 k y0 y1 y2 y3 y4 y5) (laws_FnExactCopyParts.j1 (k + 1) y0 y1 y2 y3 y4 y5)) ∧ (∀ y0 y1 y2, LeO (laws_FnExactCopyParts.j2 k y0 y1 y2) (laws_FnExactCopyParts.j2 (k + 1) y0 y1 y2))
 | 0 => ⟨fun _ _ _ _ _ _ _ _ r h => by simp [laws_FnExactCopyParts.j0] at h, fun _ _ _ _ _ _ r h => by simp [laws_FnExactCopyParts.j1] at h, fun _ _ _ r h => by simp [laws_FnExactCopyParts.j2] at h⟩
 | k + 1 => by
  obtain ⟨ih0, ih1, ih2⟩ := laws_FnExactCopyParts.mono_l k
  refine ⟨?_, ?_, ?_⟩
  ·intro y0 y1 y2 y3 y4 y5 y6 y7
   unfold laws_FnExactCopyParts.j0
   repeat' first
   | (with_reducible exact ih0 _ _ _ _ _ _ _ _)
   | (with_reducible exact ih1 _ _ _ _ _ _)
   | (with_reducible exact ih2 _ _ _)
   | (with_reducible exact impl_CopyParts.mono _ _ _)
   | (with_reducible exact laws_eqEventS.mono _ _ _)
   | (with_reducible exact laws_eqSignSS.mono _ _ _)
   | (with_reducible exact laws_heldSignSS.mono _ _ _)
   | (with_reducible exact laws_markEventS.mono _ _ _)
   | (with_reducible exact laws_markSignSS.mono _ _ _)
   | (with_reducible exact laws_toEventS.mono _ _)
   | (with_reducible exact spec_CopyParts.mono _ _ _)
   | (with_reducible exact LeO.refl _)
   | (with_reducible exact LeO.none _)
   | (with_reducible refine LeO.ite ?_ ?_)
   | (with_reducible refine LeO.bind ?_ (fun _ => ?_))
   | exact ih0 _ _ _ _ _ _ _ _
   | exact ih1 _ _ _ _ _ _
   | exact ih2 _ _ _
   | exact impl_CopyParts.mono _ _ _
   | exact laws_eqEventS.mono _ _ _
   | exact laws_eqSignSS.mono _ _ _
   | exact laws_heldSignSS.mono _ _ _
   | exact laws_markEventS.mono _ _ _
   | exact laws_markSignSS.mono _ _ _
   | exact laws_toEventS.mono _ _
   | exact spec_CopyParts.mono _ _ _
   | exact LeO.none _
   | refine LeO.ite ?_ ?_
   | refine LeO.bind ?_ (fun _ => ?_)
  ·intro y0 y1 y2 y3 y4 y5
   unfold laws_FnExactCopyParts.j1
   repeat' first
   | (with_reducible exact ih0 _ _ _ _ _ _ _ _)
   | (with_reducible exact ih1 _ _ _ _ _ _)
   | (with_reducible exact ih2 _ _ _)
   | (with_reducible exact impl_CopyParts.mono _ _ _)
   | (with_reducible exact laws_eqEventS.mono _ _ _)
   | (with_reducible exact laws_eqSignSS.mono _ _ _)
   | (with_reducible exact laws_heldSignSS.mono _ _ _)
   | (with_reducible exact laws_markEventS.mono _ _ _)
   | (with_reducible exact laws_markSignSS.mono _ _ _)
   | (with_reducible exact laws_toEventS.mono _ _)
   | (with_reducible exact spec_CopyParts.mono _ _ _)
   | (with_reducible exact LeO.refl _)
   | (with_reducible exact LeO.none _)
   | (with_reducible refine LeO.ite ?_ ?_)
   | (with_reducible refine LeO.bind ?_ (fun _ => ?_))
   | exact ih0 _ _ _ _ _ _ _ _
   | exact ih1 _ _ _ _ _ _
   | exact ih2 _ _ _
   | exact impl_CopyParts.mono _ _ _
   | exact laws_eqEventS.mono _ _ _
   | exact laws_eqSignSS.mono _ _ _
   | exact laws_heldSignSS.mono _ _ _
   | exact laws_markEventS.mono _ _ _
   | exact laws_markSignSS.mono _ _ _
   | exact laws_toEventS.mono _ _
   | exact spec_CopyParts.mono _ _ _
   | exact LeO.none _
   | refine LeO.ite ?_ ?_
   | refine LeO.bind ?_ (fun _ => ?_)
  ·intro y0 y1 y2
   unfold laws_FnExactCopyParts.j2
   repeat' first
   | (with_reducible exact ih0 _ _ _ _ _ _ _ _)
   | (with_reducible exact ih1 _ _ _ _ _ _)
   | (with_reducible exact ih2 _ _ _)
   | (with_reducible exact impl_CopyParts.mono _ _ _)
   | (with_reducible exact laws_eqEventS.mono _ _ _)
   | (with_reducible exact laws_eqSignSS.mono _ _ _)
   | (with_reducible exact laws_heldSignSS.mono _ _ _)
   | (with_reducible exact laws_markEventS.mono _ _ _)
   | (with_reducible exact laws_markSignSS.mono _ _ _)
   | (with_reducible exact laws_toEventS.mono _ _)
   | (with_reducible exact spec_CopyParts.mono _ _ _)
   | (with_reducible exact LeO.refl _)
   | (with_reducible exact LeO.none _)
   | (with_reducible refine LeO.ite ?_ ?_)
   | (with_reducible refine LeO.bind ?_ (fun _ => ?_))
   | exact ih0 _ _ _ _ _ _ _ _
   | exact ih1 _ _ _ _ _ _
   | exact ih2 _ _ _
   | exact impl_CopyParts.mono _ _ _
   | exact laws_eqEventS.mono _ _ _
   | exact laws_eqSignSS.mono _ _ _
   | exact laws_heldSignSS.mono _ _ _
   | exact laws_markEventS.mono _ _ _
   | exact laws_markSignSS.mono _ _ _
   | exact laws_toEventS.mono _ _
   | exact spec_CopyParts.mono _ _ _
   | exact LeO.none _
   | refine LeO.ite ?_ ?_
   | refine LeO.bind ?_ (fun _ => ?_)
theorem laws_FnExactCopyParts.mono : ∀ a0 a1 k, LeO (laws_FnExactCopyParts.f k a0 a1) (laws_FnExactCopyParts.f (k + 1) a0 a1) := by
 intro a0 a1 k; obtain ⟨ih0, ih1, ih2⟩ := laws_FnExactCopyParts.mono_l k; unfold laws_FnExactCopyParts.f
 repeat' first
   | (with_reducible exact ih0 _ _ _ _ _ _ _ _)
   | (with_reducible exact ih1 _ _ _ _ _ _)
   | (with_reducible exact ih2 _ _ _)
   | (with_reducible exact impl_CopyParts.mono _ _ _)
   | (with_reducible exact laws_eqEventS.mono _ _ _)
   | (with_reducible exact laws_eqSignSS.mono _ _ _)
   | (with_reducible exact laws_heldSignSS.mono _ _ _)
   | (with_reducible exact laws_markEventS.mono _ _ _)
   | (with_reducible exact laws_markSignSS.mono _ _ _)
   | (with_reducible exact laws_toEventS.mono _ _)
   | (with_reducible exact spec_CopyParts.mono _ _ _)
   | (with_reducible exact LeO.refl _)
   | (with_reducible exact LeO.none _)
   | (with_reducible refine LeO.ite ?_ ?_)
   | (with_reducible refine LeO.bind ?_ (fun _ => ?_))
   | exact ih0 _ _ _ _ _ _ _ _
   | exact ih1 _ _ _ _ _ _
   | exact ih2 _ _ _
   | exact impl_CopyParts.mono _ _ _
   | exact laws_eqEventS.mono _ _ _
   | exact laws_eqSignSS.mono _ _ _
   | exact laws_heldSignSS.mono _ _ _
   | exact laws_markEventS.mono _ _ _
   | exact laws_markSignSS.mono _ _ _
   | exact laws_toEventS.mono _ _
   | exact spec_CopyParts.mono _ _ _
   | exact LeO.none _
   | refine LeO.ite ?_ ?_
   | refine LeO.bind ?_ (fun _ => ?_)
set_option maxHeartbeats 8000000 in
set_option maxRecDepth 100000 in
theorem laws_FnExactCopyParts.calls (k : Nat) (A0 : Option Addr) (c0 : Nat) (l0 : List (S58)) (a1 : Int) (r : Bool) (w : World) (hr0 : Kd.C k58 w A0 l0.length l0) (hc0 : l0.length ≤ c0) (h : laws_FnExactCopyParts.f k l0 a1 = some r) :
  Calls Try.prog 3 #[.slice A0 l0.length c0, .int .i64 a1] w fun e w' => e = .returned (.bool r) ∧ Below w.heap.size w w' := by
 have HR0 := Aside0.mk hr0; have HC0 := Aside0.mk hc0; clear hr0 hc0; have HB := Aside0.mk (Below.refl w.heap.size w); have H : ((laws_szEventS.f l0 1048576).bind fun t305 => (if t305 < 0 then (some true) else ((laws_toEventS.f k l0).bind fun t306 => ((spec_CopyParts.f k t306 a1).bind fun bt309 => ((laws_toEventS.f k l0).bind fun t313 => ((impl_CopyParts.f k t313 a1).bind fun bt316 => ((laws_eqSignSS.f k bt316.1 bt309.1).bind fun t320 => (if t320 = true then (laws_FnExactCopyParts.j0 k l0 a1 bt309.1 bt309.2 t313 bt316.1 bt316.2 (bt316.2 != bt309.2)) else (laws_FnExactCopyParts.j0 k l0 a1 bt309.1 bt309.2 t313 bt316.1 bt316.2 true))))))))) = some r := h; clear h; replace H := Option.bind_eq_some_iff.mp H; obtain ⟨t305, A30, H⟩ := H; (try dsimp only at H); have A3 := Aside0.mk A30; clear A30; by_cases c4 : t305 < 0
 ·rw [if_pos c4] at H; have c4b0 : decide (t305 < 0) = true := decide_eq_true c4; clear c4; obtain rfl := Option.some.inj H
  go_enter Try.func3, Try.ntmps3; go_wp2_with (first | ((with_reducible refine gate_callee (f := 8) rfl ?_); refine goesM_ (some 18) rfl rfl Try.func8 (by kernel_rfl) rfl #[.slice A0 l0.length c0, .int .i64 1048576] rfl ?_; (with_reducible refine (laws_szEventS.calls _ _ l0 1048576 t305 _ ?side1 ?side2 A3.out).mono ?_); (case side1 => exact cw_ HR0.out); (case side2 => exact HC0.out); rintro e w' ⟨rfl, ⟨nd, rfl⟩⟩; refine ⟨_, rfl, ?_⟩)); go_ret; exact ⟨by first | rfl | (simp [errW_none, errW_some] <;> rfl) | (simp [*, errW_none, errW_some] <;> rfl), bl_⟩
 ·rw [if_neg c4] at H; have c4b0 : decide (t305 < 0) = false := decide_eq_false c4; clear c4; replace H := Option.bind_eq_some_iff.mp H; obtain ⟨t306, A50, H⟩ := H; (try dsimp only at H); have A5 := Aside0.mk A50; clear A50; replace H := Option.bind_eq_some_iff.mp H; obtain ⟨⟨t309, t310⟩, A60, H⟩ := H; (try dsimp only at H); have A6 := Aside0.mk A60; clear A60; replace H := Option.bind_eq_some_iff.mp H; obtain ⟨t313, A70, H⟩ := H; (try dsimp only at H); have A7 := Aside0.mk A70; clear A70; replace H := Option.bind_eq_some_iff.mp H; obtain ⟨⟨t316, t317⟩, A80, H⟩ := H; (try dsimp only at H); have A8 := Aside0.mk A80; clear A80; have HC9 := Aside0.mk H; clear H; go_enter Try.func3, Try.ntmps3; go_upto_region 8 with (first | ((with_reducible refine gate_callee (f := 8) rfl ?_); refine goesM_ (some 18) rfl rfl Try.func8 (by kernel_rfl) rfl #[.slice A0 l0.length c0, .int .i64 1048576] rfl ?_; (with_reducible refine (laws_szEventS.calls _ _ l0 1048576 t305 _ ?side1 ?side2 A3.out).mono ?_); (case side1 => exact cw_ HR0.out); (case side2 => exact HC0.out); rintro e w' ⟨rfl, ⟨nd, rfl⟩⟩; refine ⟨_, rfl, ?_⟩) | ((with_reducible refine gate_callee (f := 10) rfl ?_); refine goesM_ (some 23) rfl rfl Try.func10 (by kernel_rfl) rfl #[.slice A0 l0.length c0] rfl ?_; (with_reducible refine (laws_toEventS.calls k _ _ l0 t306 _ ?side1 ?side2 A5.out).mono ?_); (case side1 => exact cw_ HR0.out); (case side2 => exact HC0.out); rintro e w10 ⟨v307, rfl, ho0, hb⟩; refine ⟨_, rfl, ?_⟩; have n0_ := Aside0.mk (Kd.R_lower ho0 (below_size bl_)); have n1_ := Aside0.mk (below_step bl_ hb); clear HB; have HO308 := n0_; have HB := n1_; clear n0_ n1_; (try clear hb); (try clear hb2); (try clear hk); (try clear hi); (try clear ho0); obtain ⟨Ao11, co11, eo11⟩ := Kd.R_slice HO308.out; subst eo11) | ((with_reducible refine gate_callee (f := 9) rfl ?_); refine goesM_ (some 25) rfl rfl Try.func9 (by kernel_rfl) rfl #[.slice Ao11 t306.length co11, .int .i64 a1] rfl ?_; (with_reducible refine (spec_CopyParts.calls k _ _ t306 a1 t309 t310 _ ?side1 ?side2 A6.out).mono ?_); (case side1 => exact cw_ ((Kd.R_reads' HO308.out).2.2)); (case side2 => exact (Kd.R_reads' HO308.out).2.1); rintro e w12 ⟨v311, rfl, ho0, hb⟩; refine ⟨_, rfl, ?_⟩; obtain ⟨N312, eN312⟩ := sized_ hb; have n0_ := Aside0.mk (Kd.R_below (by exact rw_ HO308.out) hb); have n1_ := Aside0.mk (Kd.S_lower (geS_ ho0 eN312) (below_size bl_)); have n2_ := Aside0.mk (below_step bl_ hb); clear HO308; clear HB; have HO308 := n0_; have HO312 := n1_; have HB := n2_; clear n0_ n1_ n2_; (try clear hb); (try clear hb2); (try clear hk); (try clear hi); (try clear ho0)) | ((with_reducible refine gate_callee (f := 10) rfl ?_); refine goesM_ (some 29) rfl rfl Try.func10 (by kernel_rfl) rfl #[.slice A0 l0.length c0] rfl ?_; (with_reducible refine (laws_toEventS.calls k _ _ l0 t313 _ ?side1 ?side2 A7.out).mono ?_); (case side1 => exact cw_ (Kd.C_below HR0.out HB.out)); (case side2 => exact HC0.out); rintro e w13 ⟨v314, rfl, ho0, hb⟩; refine ⟨_, rfl, ?_⟩; have n0_ := Aside0.mk (Kd.R_elder' (by exact rw_ HO308.out) (Kd.R_base ho0) hb); have n1_ := Aside0.mk (Kd.S_below (by (with_reducible repeat (first | apply Kd.S_alloc | apply Kd.S_drewN | apply Kd.S_drew)); exact HO312.out) hb); have n2_ := Aside0.mk (Kd.R_lower (Kd.R_new' ho0 (Kd.R_lt (by exact rw_ HO308.out))) (below_size bl_)); have n3_ := Aside0.mk (below_step bl_ hb); clear HO308; clear HO312; clear HB; have HO308 := n0_; have HO312 := n1_; have HO315 := n2_; have HB := n3_; clear n0_ n1_ n2_ n3_; (try clear hb); (try clear hb2); (try clear hk); (try clear hi); (try clear ho0); obtain ⟨Ao14, co14, eo14⟩ := Kd.R_slice HO315.out; subst eo14) | ((with_reducible refine gate_callee (f := 11) rfl ?_); refine goesM_ (some 33) rfl rfl Try.func11 (by kernel_rfl) rfl #[.slice Ao14 t313.length co14, .int .i64 a1] rfl ?_; (with_reducible refine (impl_CopyParts.calls k _ _ t313 a1 t316 t317 _ ?side1 ?side2 A8.out).mono ?_); (case side1 => exact cw_ ((Kd.R_reads' HO315.out).2.2)); (case side2 => exact (Kd.R_reads' HO315.out).2.1); rintro e w15 ⟨v318, rfl, ho0, hb⟩; refine ⟨_, rfl, ?_⟩; obtain ⟨N319, eN319⟩ := sized_ hb; have n0_ := Aside0.mk (Kd.R_below (by exact rw_ HO308.out) hb); have n1_ := Aside0.mk (Kd.S_elder' (numS_ (by (with_reducible repeat (first | apply Kd.S_alloc | apply Kd.S_drewN | apply Kd.S_drew)); exact HO312.out) eN319) (Kd.S_base ho0) hb); have n2_ := Aside0.mk (Kd.R_below (by exact rw_ HO315.out) hb); have n3_ := Aside0.mk (Kd.S_lower (Kd.S_new' (geS_ ho0 eN319) (Kd.S_lt (by (with_reducible repeat (first | apply Kd.S_alloc | apply Kd.S_drewN | apply Kd.S_drew)); exact HO312.out))) (below_size bl_)); have n4_ := Aside0.mk (below_step bl_ hb); clear HO308; clear HO312; clear HO315; clear HB; have HO308 := n0_; have HO312 := n1_; have HO315 := n2_; have HO319 := n3_; have HB := n4_; clear n0_ n1_ n2_ n3_ n4_; (try clear hb); (try clear hb2); (try clear hk); (try clear hi); (try clear ho0)))
  (try simp only [Act.put, List.setIfInBounds_toArray, List.set_cons_zero, List.set_cons_succ]); go_cut [44] (fun v44 wc => ∃ (kq : Nat) (x44_8 : Bool), v44 = .bool x44_8 ∧ Aside0 (laws_FnExactCopyParts.j0 kq l0 a1 t309 t310 t313 t316 t317 x44_8 = some r) ∧ Aside0 (kq ≤ k) ∧ Aside0 (Kd.S (Kd.slice 82 k82) 51 wc w.heap.size (fun k_ => some k_ ≠ (v318 : Value).ownBlock ∧ N312 ≤ k_ ∧ k_ < N319) v311 t309) ∧ Aside0 (Kd.R k56 56 wc w.heap.size (fun _ => True) (.slice Ao14 t313.length co14) t313) ∧ Aside0 (Kd.S (Kd.slice 82 k82) 51 wc w.heap.size (fun k_ => some k_ ≠ (v311 : Value).ownBlock ∧ N319 ≤ k_) v318 t316) ∧ Aside0 (Below w.heap.size w wc))
  case first =>
   have H := HC9.out; clear HC9; replace H := Option.bind_eq_some_iff.mp H; obtain ⟨t320, A160, H⟩ := H; (try dsimp only at H); have A16 := Aside0.mk A160; clear A160; by_cases c17 : t320 = true
   ·subst c17; rw [if_pos rfl] at H; have H' := Aside0.mk H; clear H; obtain ⟨Ao18, co18, eo18⟩ := Kd.S_slice HO319.out; subst eo18; obtain ⟨Ao19, co19, eo19⟩ := Kd.S_slice HO312.out; subst eo19; go_wp2_with (first | ((with_reducible refine gate_callee (f := 12) rfl ?_); refine goesM_ (some 38) rfl rfl Try.func12 (by kernel_rfl) rfl #[.slice Ao18 t316.length co18, .slice Ao19 t309.length co19] rfl ?_; (with_reducible refine (laws_eqSignSS.calls k _ _ t316 _ _ t309 true _ ?side1 ?side2 ?side3 ?side4 A16.out).mono ?_); (case side1 => exact cw_ ((Kd.S_reads' HO319.out).2.2)); (case side2 => exact (Kd.S_reads' HO319.out).2.1); (case side3 => exact cw_ ((Kd.S_reads' HO312.out).2.2)); (case side4 => exact (Kd.S_reads' HO312.out).2.1); rintro e w20 ⟨rfl, hb⟩; refine ⟨_, rfl, ?_⟩; have n0_ := Aside0.mk (Kd.R_below (by exact rw_ HO308.out) hb); have n1_ := Aside0.mk (Kd.S_below (by (with_reducible repeat (first | apply Kd.S_alloc | apply Kd.S_drewN | apply Kd.S_drew)); exact HO312.out) hb); have n2_ := Aside0.mk (Kd.R_below (by exact rw_ HO315.out) hb); have n3_ := Aside0.mk (Kd.S_below (by (with_reducible repeat (first | apply Kd.S_alloc | apply Kd.S_drewN | apply Kd.S_drew)); exact HO319.out) hb); have n4_ := Aside0.mk (below_step bl_ hb); clear HO308; clear HO312; clear HO315; clear HO319; clear HB; have HO308 := n0_; have HO312 := n1_; have HO315 := n2_; have HO319 := n3_; have HB := n4_; clear n0_ n1_ n2_ n3_ n4_; (try clear hb); (try clear hb2); (try clear hk); (try clear hi))); go_meet
    case rel => exact ⟨_, ((t317 != t310)), (by first | rfl | (simp; done) | (simp [*]; done)), H', ⟨by first | omega | exact Nat.le_refl _⟩, ⟨by (with_reducible repeat (first | apply Kd.S_alloc | apply Kd.S_drewN | apply Kd.S_drew)); exact Kd.S_mono HO312.out (fun _ hk => ⟨hk.2, ⟨hk.1.1, hk.1.2⟩⟩)⟩, ⟨by (with_reducible repeat (first | apply Kd.R_alloc | apply Kd.R_drewN | apply Kd.R_drew)); exact Kd.R_mono HO315.out (fun _ hk => trivial)⟩, ⟨by (with_reducible repeat (first | apply Kd.S_alloc | apply Kd.S_drewN | apply Kd.S_drew)); exact Kd.S_mono HO319.out (fun _ hk => ⟨hk.2, hk.1⟩)⟩, ⟨bl_⟩⟩
   ·replace c17 := Bool.eq_false_iff.mpr c17; subst c17; rw [if_neg (show ¬ (false = true) by decide)] at H; have H' := Aside0.mk H; clear H; obtain ⟨Ao21, co21, eo21⟩ := Kd.S_slice HO319.out; subst eo21; obtain ⟨Ao22, co22, eo22⟩ := Kd.S_slice HO312.out; subst eo22; go_wp2_with (first | ((with_reducible refine gate_callee (f := 12) rfl ?_); refine goesM_ (some 38) rfl rfl Try.func12 (by kernel_rfl) rfl #[.slice Ao21 t316.length co21, .slice Ao22 t309.length co22] rfl ?_; (with_reducible refine (laws_eqSignSS.calls k _ _ t316 _ _ t309 false _ ?side1 ?side2 ?side3 ?side4 A16.out).mono ?_); (case side1 => exact cw_ ((Kd.S_reads' HO319.out).2.2)); (case side2 => exact (Kd.S_reads' HO319.out).2.1); (case side3 => exact cw_ ((Kd.S_reads' HO312.out).2.2)); (case side4 => exact (Kd.S_reads' HO312.out).2.1); rintro e w23 ⟨rfl, hb⟩; refine ⟨_, rfl, ?_⟩; have n0_ := Aside0.mk (Kd.R_below (by exact rw_ HO308.out) hb); have n1_ := Aside0.mk (Kd.S_below (by (with_reducible repeat (first | apply Kd.S_alloc | apply Kd.S_drewN | apply Kd.S_drew)); exact HO312.out) hb); have n2_ := Aside0.mk (Kd.R_below (by exact rw_ HO315.out) hb); have n3_ := Aside0.mk (Kd.S_below (by (with_reducible repeat (first | apply Kd.S_alloc | apply Kd.S_drewN | apply Kd.S_drew)); exact HO319.out) hb); have n4_ := Aside0.mk (below_step bl_ hb); clear HO308; clear HO312; clear HO315; clear HO319; clear HB; have HO308 := n0_; have HO312 := n1_; have HO315 := n2_; have HO319 := n3_; have HB := n4_; clear n0_ n1_ n2_ n3_ n4_; (try clear hb); (try clear hb2); (try clear hk); (try clear hi))); go_meet
    case rel => exact ⟨_, (true), (by first | rfl | (simp; done) | (simp [*]; done)), H', ⟨by first | omega | exact Nat.le_refl _⟩, ⟨by (with_reducible repeat (first | apply Kd.S_alloc | apply Kd.S_drewN | apply Kd.S_drew)); exact Kd.S_mono HO312.out (fun _ hk => ⟨hk.2, ⟨hk.1.1, hk.1.2⟩⟩)⟩, ⟨by (with_reducible repeat (first | apply Kd.R_alloc | apply Kd.R_drewN | apply Kd.R_drew)); exact Kd.R_mono HO315.out (fun _ hk => trivial)⟩, ⟨by (with_reducible repeat (first | apply Kd.S_alloc | apply Kd.S_drewN | apply Kd.S_drew)); exact Kd.S_mono HO319.out (fun _ hk => ⟨hk.2, hk.1⟩)⟩, ⟨bl_⟩⟩
  case rest =>
   clear HC9; try clear c1
   try clear p2
   try clear c3
   try clear c4
   try clear c4b0
   try clear c8
   try clear c9
   try clear c10
   try clear c11
   try clear c12
   try clear c17
   try clear HO_6
   try clear HO_8
   try clear HO_9
   obtain ⟨kq, x44_8, rfl, HA, HJ8, HO_6, HO_8, HO_9, HB⟩ := hcut
   cases kq with
   | zero => exact absurd HA.out (by simp [laws_FnExactCopyParts.j0])
   | succ kj8 =>
    have H := HA.out; clear HA; simp only [laws_FnExactCopyParts.j0] at H; by_cases c24 : x44_8 = true
    ·subst c24; rw [if_pos rfl] at H; obtain rfl := Option.some.inj H
     go_wp2; go_ret; exact ⟨by first | rfl | (simp [errW_none, errW_some] <;> rfl) | (simp [*, errW_none, errW_some] <;> rfl), bl_⟩
    ·replace c24 := Bool.eq_false_iff.mpr c24; subst c24; rw [if_neg (show ¬ (false = true) by decide)] at H; replace H := Option.bind_eq_some_iff.mp H; obtain ⟨t321, A250, H⟩ := H; (try dsimp only at H); have A25 := Aside0.mk A250; clear A250; replace H := Option.bind_eq_some_iff.mp H; obtain ⟨t324, A260, H⟩ := H; (try dsimp only at H); have A26 := Aside0.mk A260; clear A260; by_cases c27 : t324 = true
     ·subst c27; rw [if_pos rfl] at H; replace H := Option.bind_eq_some_iff.mp H; obtain ⟨⟨t325, t326⟩, A280, H⟩ := H; (try dsimp only at H); have A28 := Aside0.mk A280; clear A280; have HC29 := Aside0.mk H; clear H; go_upto_region 14 with (first | ((with_reducible refine gate_callee (f := 10) rfl ?_); refine goesM_ (some 47) rfl rfl Try.func10 (by kernel_rfl) rfl #[.slice A0 l0.length c0] rfl ?_; (with_reducible refine (laws_toEventS.calls kj8 _ _ l0 t321 _ ?side1 ?side2 A25.out).mono ?_); (case side1 => exact cw_ (Kd.C_below HR0.out HB.out)); (case side2 => exact HC0.out); rintro e w30 ⟨v322, rfl, ho0, hb⟩; refine ⟨_, rfl, ?_⟩; have n0_ := Aside0.mk (Kd.S_below (by (with_reducible repeat (first | apply Kd.S_alloc | apply Kd.S_drewN | apply Kd.S_drew)); exact HO_6.out) hb); have n1_ := Aside0.mk (Kd.R_elder' (by exact rw_ HO_8.out) (Kd.R_base ho0) hb); have n2_ := Aside0.mk (Kd.S_below (by (with_reducible repeat (first | apply Kd.S_alloc | apply Kd.S_drewN | apply Kd.S_drew)); exact HO_9.out) hb); have n3_ := Aside0.mk (Kd.R_lower (Kd.R_new' ho0 (Kd.R_lt (by exact rw_ HO_8.out))) (below_size bl_)); have n4_ := Aside0.mk (below_step bl_ hb); clear HO_6; clear HO_8; clear HO_9; clear HB; have HO_6 := n0_; have HO_8 := n1_; have HO_9 := n2_; have HO323 := n3_; have HB := n4_; clear n0_ n1_ n2_ n3_ n4_; (try clear hb); (try clear hb2); (try clear hk); (try clear hi); (try clear ho0); obtain ⟨Ao31, co31, eo31⟩ := Kd.R_slice HO323.out; subst eo31) | ((with_reducible refine gate_callee (f := 13) rfl ?_); refine goesM_ (some 48) rfl rfl Try.func13 (by kernel_rfl) rfl #[.slice Ao14 t313.length co14, .slice Ao31 t321.length co31] rfl ?_; (with_reducible refine (laws_eqEventS.calls kj8 _ _ t313 _ _ t321 true _ ?side1 ?side2 ?side3 ?side4 A26.out).mono ?_); (case side1 => exact cw_ ((Kd.R_reads' HO_8.out).2.2)); (case side2 => exact (Kd.R_reads' HO_8.out).2.1); (case side3 => exact cw_ ((Kd.R_reads' HO323.out).2.2)); (case side4 => exact (Kd.R_reads' HO323.out).2.1); rintro e w32 ⟨rfl, hb⟩; refine ⟨_, rfl, ?_⟩; have n0_ := Aside0.mk (Kd.S_below (by (with_reducible repeat (first | apply Kd.S_alloc | apply Kd.S_drewN | apply Kd.S_drew)); exact HO_6.out) hb); have n1_ := Aside0.mk (Kd.R_below (by exact rw_ HO_8.out) hb); have n2_ := Aside0.mk (Kd.S_below (by (with_reducible repeat (first | apply Kd.S_alloc | apply Kd.S_drewN | apply Kd.S_drew)); exact HO_9.out) hb); have n3_ := Aside0.mk (Kd.R_below (by exact rw_ HO323.out) hb); have n4_ := Aside0.mk (below_step bl_ hb); clear HO_6; clear HO_8; clear HO_9; clear HO323; clear HB; have HO_6 := n0_; have HO_8 := n1_; have HO_9 := n2_; have HO323 := n3_; have HB := n4_; clear n0_ n1_ n2_ n3_ n4_; (try clear hb); (try clear hb2); (try clear hk); (try clear hi)) | ((with_reducible refine gate_callee (f := 14) rfl ?_); refine goesM_ (some 52) rfl rfl Try.func14 (by kernel_rfl) rfl #[.slice Ao14 t313.length co14, .int .i64 1] rfl ?_; (with_reducible refine (laws_markEventS.calls kj8 (fun k_ => some k_ = (.slice Ao14 t313.length co14 : Value).ownBlock) (.slice Ao14 t313.length co14) t313 1 t325 t326 w _ ?side1 ?side2 A28.out).mono ?_); (case side1 => repeat (first | (with_reducible first | exact HB.out | apply below_alloc | apply pw_below_drewN | apply below_drew1) | exact HB.out)); (case side2 => exact Kd.R_tight rfl HO_8.out); rintro e w33 ⟨rfl, hy0, hb, hkp⟩; refine ⟨_, rfl, ?_⟩; have n0_ := Aside0.mk (Kd.S_mono (ok' := fun k_ => some k_ ≠ (v318 : Value).ownBlock ∧ N312 ≤ k_ ∧ k_ < N319) (Kd.S_keptB ((Kd.S_apart' HO_6.out (Kd.R_typed HO_8.out) (by decide))) hkp (fun k_ hk_ hs_ => (hk_.2) hs_)) (fun k_ hk_ => ⟨hk_.1.1.1, hk_.1.1.2.1, hk_.1.1.2.2⟩)); have n1_ := Aside0.mk (Kd.R_reok rfl hy0 (fun k_ e_ => HO_8.out.1 k_ e_)); have n2_ := Aside0.mk (Kd.S_mono (ok' := fun k_ => some k_ ≠ (v311 : Value).ownBlock ∧ N319 ≤ k_) (Kd.S_keptB ((Kd.S_apart' HO_9.out (Kd.R_typed HO_8.out) (by decide))) hkp (fun k_ hk_ hs_ => (hk_.2) hs_)) (fun k_ hk_ => ⟨hk_.1.1.1, hk_.1.1.2⟩)); have n3_ := Aside0.mk (Kd.R_mono (ok' := fun k_ => some k_ ≠ (.slice Ao14 t313.length co14 : Value).ownBlock) (Kd.R_keptB (HO323.out) hkp (fun k_ hk_ hs_ => (hk_.2) hs_)) (fun k_ hk_ => hk_.1.2)); have n4_ := Aside0.mk (hb); clear HO_6; clear HO_8; clear HO_9; clear HO323; clear HB; have HO_6 := n0_; have HO_8 := n1_; have HO_9 := n2_; have HO323 := n3_; have HB := n4_; clear n0_ n1_ n2_ n3_ n4_; (try clear hb); (try clear hkp); (try clear hy0)))
      (try simp only [Act.put, List.setIfInBounds_toArray, List.set_cons_zero, List.set_cons_succ]); go_cut [65] (fun v65 wc => ∃ (kq : Nat) (x65_28 : Bool), v65 = .bool x65_28 ∧ Aside0 (laws_FnExactCopyParts.j1 kq l0 a1 t309 t310 t316 x65_28 = some r) ∧ Aside0 (kq ≤ kj8) ∧ Aside0 (Kd.S (Kd.slice 82 k82) 51 wc w.heap.size (fun k_ => some k_ ≠ (v318 : Value).ownBlock ∧ N312 ≤ k_ ∧ k_ < N319) v311 t309) ∧ Aside0 (Kd.S (Kd.slice 82 k82) 51 wc w.heap.size (fun k_ => some k_ ≠ (v311 : Value).ownBlock ∧ N319 ≤ k_) v318 t316) ∧ Aside0 (Below w.heap.size w wc))
      case first =>
       have H := HC29.out; clear HC29; by_cases c34 : t325 < 0
       ·rw [if_pos c34] at H; have c34b0 : decide (t325 < 0) = true := decide_eq_true c34; clear c34; (first | rw [c34b0] | (simp only [i64_w, i32_w]; rw [c34b0]) | skip); have H' := Aside0.mk H; clear H; go_wp2; go_meet
        case rel => exact ⟨_, (true), (by first | rfl | (simp; done) | (simp [*]; done)), H', ⟨by have := HJ8.out; first | omega | exact Nat.le_refl _⟩, ⟨by (with_reducible repeat (first | apply Kd.S_alloc | apply Kd.S_drewN | apply Kd.S_drew)); exact HO_6.out⟩, ⟨by (with_reducible repeat (first | apply Kd.S_alloc | apply Kd.S_drewN | apply Kd.S_drew)); exact HO_9.out⟩, ⟨bl_⟩⟩
       ·rw [if_neg c34] at H; have c34b0 : decide (t325 < 0) = false := decide_eq_false c34; clear c34; (first | rw [c34b0] | (simp only [i64_w, i32_w]; rw [c34b0]) | skip); replace H := Option.bind_eq_some_iff.mp H; obtain ⟨t327, A350, H⟩ := H; (try dsimp only at H); have A35 := Aside0.mk A350; clear A350; by_cases c36 : t327 = true
        ·subst c36; rw [if_pos rfl] at H; have H' := Aside0.mk H; clear H; obtain ⟨Ao37, co37, eo37⟩ := Kd.S_slice HO_9.out; subst eo37; obtain ⟨Ao38, co38, eo38⟩ := Kd.S_slice HO_6.out; subst eo38; go_wp2_with (first | (go_at_call 12; (with_reducible refine (laws_eqSignSS.calls kj8 _ _ t316 _ _ t309 true _ ?side1 ?side2 ?side3 ?side4 A35.out).mono ?_); (case side1 => exact cw_ ((Kd.S_reads' HO_9.out).2.2)); (case side2 => exact (Kd.S_reads' HO_9.out).2.1); (case side3 => exact cw_ ((Kd.S_reads' HO_6.out).2.2)); (case side4 => exact (Kd.S_reads' HO_6.out).2.1); rintro e w39 ⟨rfl, hb⟩; have n0_ := Aside0.mk (Kd.S_below (by (with_reducible repeat (first | apply Kd.S_alloc | apply Kd.S_drewN | apply Kd.S_drew)); exact HO_6.out) hb); have n1_ := Aside0.mk (Kd.R_below (by exact rw_ HO_8.out) hb); have n2_ := Aside0.mk (Kd.S_below (by (with_reducible repeat (first | apply Kd.S_alloc | apply Kd.S_drewN | apply Kd.S_drew)); exact HO_9.out) hb); have n3_ := Aside0.mk (Kd.R_below (by exact rw_ HO323.out) hb); have n4_ := Aside0.mk (below_step bl_ hb); clear HO_6; clear HO_8; clear HO_9; clear HO323; clear HB; have HO_6 := n0_; have HO_8 := n1_; have HO_9 := n2_; have HO323 := n3_; have HB := n4_; clear n0_ n1_ n2_ n3_ n4_; (try clear hb); (try clear hb2); (try clear hk); (try clear hi))); go_meet
         case rel => exact ⟨_, ((t317 != t310)), (by first | rfl | (simp; done) | (simp [*]; done)), H', ⟨by have := HJ8.out; first | omega | exact Nat.le_refl _⟩, ⟨by (with_reducible repeat (first | apply Kd.S_alloc | apply Kd.S_drewN | apply Kd.S_drew)); exact HO_6.out⟩, ⟨by (with_reducible repeat (first | apply Kd.S_alloc | apply Kd.S_drewN | apply Kd.S_drew)); exact HO_9.out⟩, ⟨bl_⟩⟩
        ·replace c36 := Bool.eq_false_iff.mpr c36; subst c36; rw [if_neg (show ¬ (false = true) by decide)] at H; have H' := Aside0.mk H; clear H; obtain ⟨Ao40, co40, eo40⟩ := Kd.S_slice HO_9.out; subst eo40; obtain ⟨Ao41, co41, eo41⟩ := Kd.S_slice HO_6.out; subst eo41; go_wp2_with (first | (go_at_call 12; (with_reducible refine (laws_eqSignSS.calls kj8 _ _ t316 _ _ t309 false _ ?side1 ?side2 ?side3 ?side4 A35.out).mono ?_); (case side1 => exact cw_ ((Kd.S_reads' HO_9.out).2.2)); (case side2 => exact (Kd.S_reads' HO_9.out).2.1); (case side3 => exact cw_ ((Kd.S_reads' HO_6.out).2.2)); (case side4 => exact (Kd.S_reads' HO_6.out).2.1); rintro e w42 ⟨rfl, hb⟩; have n0_ := Aside0.mk (Kd.S_below (by (with_reducible repeat (first | apply Kd.S_alloc | apply Kd.S_drewN | apply Kd.S_drew)); exact HO_6.out) hb); have n1_ := Aside0.mk (Kd.R_below (by exact rw_ HO_8.out) hb); have n2_ := Aside0.mk (Kd.S_below (by (with_reducible repeat (first | apply Kd.S_alloc | apply Kd.S_drewN | apply Kd.S_drew)); exact HO_9.out) hb); have n3_ := Aside0.mk (Kd.R_below (by exact rw_ HO323.out) hb); have n4_ := Aside0.mk (below_step bl_ hb); clear HO_6; clear HO_8; clear HO_9; clear HO323; clear HB; have HO_6 := n0_; have HO_8 := n1_; have HO_9 := n2_; have HO323 := n3_; have HB := n4_; clear n0_ n1_ n2_ n3_ n4_; (try clear hb); (try clear hb2); (try clear hk); (try clear hi))); go_meet
         case rel => exact ⟨_, (true), (by first | rfl | (simp; done) | (simp [*]; done)), H', ⟨by have := HJ8.out; first | omega | exact Nat.le_refl _⟩, ⟨by (with_reducible repeat (first | apply Kd.S_alloc | apply Kd.S_drewN | apply Kd.S_drew)); exact HO_6.out⟩, ⟨by (with_reducible repeat (first | apply Kd.S_alloc | apply Kd.S_drewN | apply Kd.S_drew)); exact HO_9.out⟩, ⟨bl_⟩⟩
      case rest =>
       clear HC29; try clear c1
       try clear c2
       try clear p2
       try clear c3
       try clear c4
       try clear c4b0
       try clear c8
       try clear c9
       try clear c10
       try clear c11
       try clear c12
       try clear c13
       try clear c14
       try clear c17
       try clear c24
       try clear c27
       try clear c34
       try clear c34b0
       try clear c36
       try clear p2
       try clear HO_6
       try clear HO_9
       obtain ⟨kq, x65_28, rfl, HA, HJ28, HO_6, HO_9, HB⟩ := hcut
       cases kq with
       | zero => exact absurd HA.out (by simp [laws_FnExactCopyParts.j1])
       | succ kj28 =>
        have H := HA.out; clear HA; simp only [laws_FnExactCopyParts.j1] at H; by_cases c43 : x65_28 = true
        ·subst c43; rw [if_pos rfl] at H; obtain rfl := Option.some.inj H
         go_wp2; go_ret; exact ⟨by first | rfl | (simp [errW_none, errW_some] <;> rfl) | (simp [*, errW_none, errW_some] <;> rfl), bl_⟩
        ·replace c43 := Bool.eq_false_iff.mpr c43; subst c43; rw [if_neg (show ¬ (false = true) by decide)] at H; replace H := Option.bind_eq_some_iff.mp H; obtain ⟨⟨t328, t329⟩, A440, H⟩ := H; (try dsimp only at H); have A44 := Aside0.mk A440; clear A440; replace H := Option.bind_eq_some_iff.mp H; obtain ⟨t330, A450, H⟩ := H; (try dsimp only at H); have A45 := Aside0.mk A450; clear A450; by_cases c46 : t330 < 0
         ·rw [if_pos c46] at H; have c46b0 : decide (t330 < 0) = true := decide_eq_true c46; clear c46; obtain rfl := Option.some.inj H
          obtain ⟨Ao47, co47, eo47⟩ := Kd.S_slice HO_9.out; subst eo47; go_wp2_with (first | ((with_reducible refine gate_callee (f := 15) rfl ?_); refine goesM_ (some 68) rfl rfl Try.func15 (by kernel_rfl) rfl #[.slice Ao47 t316.length co47, .int .i64 1] rfl ?_; (with_reducible refine (laws_markSignSS.calls kj28 ?PS0_ (.slice Ao47 t316.length co47) t316 1 t328 t329 w _ ?side1 ?side2 A44.out).mono ?_); (case side1 => repeat (first | (with_reducible first | exact HB.out | apply below_alloc | apply pw_below_drewN | apply below_drew1) | exact HB.out)); (case side2 => exact Kd.S_bound (HO_9.out)); rintro e w48 ⟨rfl, hy0, hb, hkp⟩; refine ⟨_, rfl, ?_⟩; have n0_ := Aside0.mk (keptN_ (HO_6.out) hkp (fun k_ h1_ h2_ => absurd h1_.2.2 (Nat.not_lt.2 h2_.2))); have n1_ := Aside0.mk (Kd.S_mono hy0 (fun _ _ => trivial)); have n2_ := Aside0.mk (hb); clear HO_6; clear HO_9; clear HB; have HO_6 := n0_; have HO_9 := n1_; have HB := n2_; clear n0_ n1_ n2_; (try clear hb); (try clear hkp); (try clear hy0)) | ((with_reducible refine gate_callee (f := 16) rfl ?_); refine goesL_ (some 71) rfl rfl Try.func16 (by kernel_rfl) rfl #[.slice Ao47 t329.length co47, .int .i64 1] rfl (by (try simp only [List.map_toArray, List.map_cons, List.map_nil]); first | done | (rw [show t329.length = t316.length from (Kd.S_reads' HO_9.out).1.symm] <;> rfl) | rfl | (simp only [List.length_drop, List.length_take]; rfl)) ?_; (with_reducible refine (laws_heldSignSS.calls kj28 _ _ t329 1 t330 _ ?side1 ?side2 A45.out).mono ?_); (case side1 => exact cw_ ((Kd.S_reads' HO_9.out).2.2)); (case side2 => rw [show t329.length = t316.length from (Kd.S_reads' HO_9.out).1.symm]; exact (Kd.S_reads' HO_9.out).2.1); rintro e w' ⟨rfl, ⟨nd, rfl⟩⟩; refine ⟨_, rfl, ?_⟩)); go_ret; exact ⟨by first | rfl | (simp [errW_none, errW_some] <;> rfl) | (simp [*, errW_none, errW_some] <;> rfl), bl_⟩
         ·rw [if_neg c46] at H; have c46b0 : decide (t330 < 0) = false := decide_eq_false c46; clear c46; by_cases c49 : t330 = t328
          ·rw [if_pos c49] at H; have c49b0 : (t330 == t328) = true := beq_iff_eq.mpr c49; have c49b1 : (t330 != t328) = false := bne_eq_false_iff_eq.mpr c49; clear c49; replace H := Option.bind_eq_some_iff.mp H; obtain ⟨t331, A500, H⟩ := H; (try dsimp only at H); have A50 := Aside0.mk A500; clear A500; replace H := Option.bind_eq_some_iff.mp H; obtain ⟨⟨t334, t335⟩, A510, H⟩ := H; (try dsimp only at H); have A51 := Aside0.mk A510; clear A510; have HC52 := Aside0.mk H; clear H; obtain ⟨Ao53, co53, eo53⟩ := Kd.S_slice HO_9.out; subst eo53; go_upto_region 25 with (first | ((with_reducible refine gate_callee (f := 15) rfl ?_); refine goesM_ (some 68) rfl rfl Try.func15 (by kernel_rfl) rfl #[.slice Ao53 t316.length co53, .int .i64 1] rfl ?_; (with_reducible refine (laws_markSignSS.calls kj28 ?PS0_ (.slice Ao53 t316.length co53) t316 1 t328 t329 w _ ?side1 ?side2 A44.out).mono ?_); (case side1 => repeat (first | (with_reducible first | exact HB.out | apply below_alloc | apply pw_below_drewN | apply below_drew1) | exact HB.out)); (case side2 => exact Kd.S_bound (HO_9.out)); rintro e w54 ⟨rfl, hy0, hb, hkp⟩; refine ⟨_, rfl, ?_⟩; have n0_ := Aside0.mk (keptN_ (HO_6.out) hkp (fun k_ h1_ h2_ => absurd h1_.2.2 (Nat.not_lt.2 h2_.2))); have n1_ := Aside0.mk (Kd.S_mono hy0 (fun _ _ => trivial)); have n2_ := Aside0.mk (hb); clear HO_6; clear HO_9; clear HB; have HO_6 := n0_; have HO_9 := n1_; have HB := n2_; clear n0_ n1_ n2_; (try clear hb); (try clear hkp); (try clear hy0)) | ((with_reducible refine gate_callee (f := 16) rfl ?_); refine goesL_ (some 71) rfl rfl Try.func16 (by kernel_rfl) rfl #[.slice Ao53 t329.length co53, .int .i64 1] rfl (by (try simp only [List.map_toArray, List.map_cons, List.map_nil]); first | done | (rw [show t329.length = t316.length from (Kd.S_reads' HO_9.out).1.symm] <;> rfl) | rfl | (simp only [List.length_drop, List.length_take]; rfl)) ?_; (with_reducible refine (laws_heldSignSS.calls kj28 _ _ t329 1 t330 _ ?side1 ?side2 A45.out).mono ?_); (case side1 => exact cw_ ((Kd.S_reads' HO_9.out).2.2)); (case side2 => rw [show t329.length = t316.length from (Kd.S_reads' HO_9.out).1.symm]; exact (Kd.S_reads' HO_9.out).2.1); rintro e w' ⟨rfl, ⟨nd, rfl⟩⟩; refine ⟨_, rfl, ?_⟩) | ((with_reducible refine gate_callee (f := 10) rfl ?_); refine goesM_ (some 79) rfl rfl Try.func10 (by kernel_rfl) rfl #[.slice A0 l0.length c0] rfl ?_; (with_reducible refine (laws_toEventS.calls kj28 _ _ l0 t331 _ ?side1 ?side2 A50.out).mono ?_); (case side1 => exact cw_ (Kd.C_below HR0.out bl_)); (case side2 => exact HC0.out); rintro e w55 ⟨v332, rfl, ho0, hb⟩; refine ⟨_, rfl, ?_⟩; have n0_ := Aside0.mk (Kd.S_below (by (with_reducible repeat (first | apply Kd.S_alloc | apply Kd.S_drewN | apply Kd.S_drew)); exact HO_6.out) hb); have n1_ := Aside0.mk (Kd.S_below (by (with_reducible repeat (first | apply Kd.S_alloc | apply Kd.S_drewN | apply Kd.S_drew)); exact HO_9.out) hb); have n2_ := Aside0.mk (Kd.R_lower ho0 (below_size bl_)); have n3_ := Aside0.mk (below_step bl_ hb); clear HO_6; clear HO_9; clear HB; have HO_6 := n0_; have HO_9 := n1_; have HO333 := n2_; have HB := n3_; clear n0_ n1_ n2_ n3_; (try clear hb); (try clear hb2); (try clear hk); (try clear hi); (try clear ho0); obtain ⟨Ao56, co56, eo56⟩ := Kd.R_slice HO333.out; subst eo56) | ((with_reducible refine gate_callee (f := 11) rfl ?_); refine goesM_ (some 81) rfl rfl Try.func11 (by kernel_rfl) rfl #[.slice Ao56 t331.length co56, .int .i64 a1] rfl ?_; (with_reducible refine (impl_CopyParts.calls kj28 _ _ t331 a1 t334 t335 _ ?side1 ?side2 A51.out).mono ?_); (case side1 => exact cw_ ((Kd.R_reads' HO333.out).2.2)); (case side2 => exact (Kd.R_reads' HO333.out).2.1); rintro e w57 ⟨v336, rfl, ho0, hb⟩; refine ⟨_, rfl, ?_⟩; obtain ⟨N337, eN337⟩ := sized_ hb; have n0_ := Aside0.mk (Kd.S_elder' (numS_ (by (with_reducible repeat (first | apply Kd.S_alloc | apply Kd.S_drewN | apply Kd.S_drew)); exact HO_6.out) eN337) (Kd.S_base ho0) hb); have n1_ := Aside0.mk (Kd.S_elder' (numS_ (by (with_reducible repeat (first | apply Kd.S_alloc | apply Kd.S_drewN | apply Kd.S_drew)); exact HO_9.out) eN337) (Kd.S_base ho0) hb); have n2_ := Aside0.mk (Kd.R_below (by exact rw_ HO333.out) hb); have n3_ := Aside0.mk (Kd.S_lower (Kd.S_new' (Kd.S_new' (geS_ ho0 eN337) (Kd.S_lt (by (with_reducible repeat (first | apply Kd.S_alloc | apply Kd.S_drewN | apply Kd.S_drew)); exact HO_6.out))) (Kd.S_lt (by (with_reducible repeat (first | apply Kd.S_alloc | apply Kd.S_drewN | apply Kd.S_drew)); exact HO_9.out))) (below_size bl_)); have n4_ := Aside0.mk (below_step bl_ hb); clear HO_6; clear HO_9; clear HO333; clear HB; have HO_6 := n0_; have HO_9 := n1_; have HO333 := n2_; have HO337 := n3_; have HB := n4_; clear n0_ n1_ n2_ n3_ n4_; (try clear hb); (try clear hb2); (try clear hk); (try clear hi); (try clear ho0)))
           (try simp only [Act.put, List.setIfInBounds_toArray, List.set_cons_zero, List.set_cons_succ]); go_cut [92] (fun v92 wc => ∃ (kq : Nat) (x92_51 : Bool), v92 = .bool x92_51 ∧ Aside0 (laws_FnExactCopyParts.j2 kq t329 t328 x92_51 = some r) ∧ Aside0 (kq ≤ kj28) ∧ Aside0 (Kd.S (Kd.slice 82 k82) 51 wc w.heap.size (fun k_ => k_ < N337) (.slice Ao53 t316.length co53) t329) ∧ Aside0 (Below w.heap.size w wc))
           case first =>
            have H := HC52.out; clear HC52; replace H := Option.bind_eq_some_iff.mp H; obtain ⟨t338, A580, H⟩ := H; (try dsimp only at H); have A58 := Aside0.mk A580; clear A580; by_cases c59 : t338 = true
            ·subst c59; rw [if_pos rfl] at H; have H' := Aside0.mk H; clear H; obtain ⟨Ao60, co60, eo60⟩ := Kd.S_slice HO337.out; subst eo60; obtain ⟨Ao61, co61, eo61⟩ := Kd.S_slice HO_6.out; subst eo61; go_wp2_with (first | ((with_reducible refine gate_callee (f := 12) rfl ?_); refine goesM_ (some 86) rfl rfl Try.func12 (by kernel_rfl) rfl #[.slice Ao60 t334.length co60, .slice Ao61 t309.length co61] rfl ?_; (with_reducible refine (laws_eqSignSS.calls kj28 _ _ t334 _ _ t309 true _ ?side1 ?side2 ?side3 ?side4 A58.out).mono ?_); (case side1 => exact cw_ ((Kd.S_reads' HO337.out).2.2)); (case side2 => exact (Kd.S_reads' HO337.out).2.1); (case side3 => exact cw_ ((Kd.S_reads' HO_6.out).2.2)); (case side4 => exact (Kd.S_reads' HO_6.out).2.1); rintro e w62 ⟨rfl, hb⟩; refine ⟨_, rfl, ?_⟩; have n0_ := Aside0.mk (Kd.S_below (by (with_reducible repeat (first | apply Kd.S_alloc | apply Kd.S_drewN | apply Kd.S_drew)); exact HO_6.out) hb); have n1_ := Aside0.mk (Kd.S_below (by (with_reducible repeat (first | apply Kd.S_alloc | apply Kd.S_drewN | apply Kd.S_drew)); exact HO_9.out) hb); have n2_ := Aside0.mk (Kd.R_below (by exact rw_ HO333.out) hb); have n3_ := Aside0.mk (Kd.S_below (by (with_reducible repeat (first | apply Kd.S_alloc | apply Kd.S_drewN | apply Kd.S_drew)); exact HO337.out) hb); have n4_ := Aside0.mk (below_step bl_ hb); clear HO_6; clear HO_9; clear HO333; clear HO337; clear HB; have HO_6 := n0_; have HO_9 := n1_; have HO333 := n2_; have HO337 := n3_; have HB := n4_; clear n0_ n1_ n2_ n3_ n4_; (try clear hb); (try clear hb2); (try clear hk); (try clear hi))); go_meet
             case rel => exact ⟨_, ((t335 != t310)), (by first | rfl | (simp; done) | (simp [*]; done)), H', ⟨by have := HJ8.out; have := HJ28.out; first | omega | exact Nat.le_refl _⟩, ⟨by (with_reducible repeat (first | apply Kd.S_alloc | apply Kd.S_drewN | apply Kd.S_drew)); exact Kd.S_mono HO_9.out (fun _ hk => hk.1.2)⟩, ⟨bl_⟩⟩
            ·replace c59 := Bool.eq_false_iff.mpr c59; subst c59; rw [if_neg (show ¬ (false = true) by decide)] at H; have H' := Aside0.mk H; clear H; obtain ⟨Ao63, co63, eo63⟩ := Kd.S_slice HO337.out; subst eo63; obtain ⟨Ao64, co64, eo64⟩ := Kd.S_slice HO_6.out; subst eo64; go_wp2_with (first | ((with_reducible refine gate_callee (f := 12) rfl ?_); refine goesM_ (some 86) rfl rfl Try.func12 (by kernel_rfl) rfl #[.slice Ao63 t334.length co63, .slice Ao64 t309.length co64] rfl ?_; (with_reducible refine (laws_eqSignSS.calls kj28 _ _ t334 _ _ t309 false _ ?side1 ?side2 ?side3 ?side4 A58.out).mono ?_); (case side1 => exact cw_ ((Kd.S_reads' HO337.out).2.2)); (case side2 => exact (Kd.S_reads' HO337.out).2.1); (case side3 => exact cw_ ((Kd.S_reads' HO_6.out).2.2)); (case side4 => exact (Kd.S_reads' HO_6.out).2.1); rintro e w65 ⟨rfl, hb⟩; refine ⟨_, rfl, ?_⟩; have n0_ := Aside0.mk (Kd.S_below (by (with_reducible repeat (first | apply Kd.S_alloc | apply Kd.S_drewN | apply Kd.S_drew)); exact HO_6.out) hb); have n1_ := Aside0.mk (Kd.S_below (by (with_reducible repeat (first | apply Kd.S_alloc | apply Kd.S_drewN | apply Kd.S_drew)); exact HO_9.out) hb); have n2_ := Aside0.mk (Kd.R_below (by exact rw_ HO333.out) hb); have n3_ := Aside0.mk (Kd.S_below (by (with_reducible repeat (first | apply Kd.S_alloc | apply Kd.S_drewN | apply Kd.S_drew)); exact HO337.out) hb); have n4_ := Aside0.mk (below_step bl_ hb); clear HO_6; clear HO_9; clear HO333; clear HO337; clear HB; have HO_6 := n0_; have HO_9 := n1_; have HO333 := n2_; have HO337 := n3_; have HB := n4_; clear n0_ n1_ n2_ n3_ n4_; (try clear hb); (try clear hb2); (try clear hk); (try clear hi))); go_meet
             case rel => exact ⟨_, (true), (by first | rfl | (simp; done) | (simp [*]; done)), H', ⟨by have := HJ8.out; have := HJ28.out; first | omega | exact Nat.le_refl _⟩, ⟨by (with_reducible repeat (first | apply Kd.S_alloc | apply Kd.S_drewN | apply Kd.S_drew)); exact Kd.S_mono HO_9.out (fun _ hk => hk.1.2)⟩, ⟨bl_⟩⟩
           case rest =>
            clear HC52; try clear c1
            try clear c2
            try clear p2
            try clear c3
            try clear c4
            try clear c4b0
            try clear c5
            try clear c8
            try clear c9
            try clear c10
            try clear c11
            try clear c12
            try clear c13
            try clear c14
            try clear c15
            try clear c16
            try clear c17
            try clear c24
            try clear c27
            try clear c34
            try clear c34b0
            try clear c36
            try clear c43
            try clear c46
            try clear c46b0
            try clear c49
            try clear c49b0
            try clear c49b1
            try clear c59
            try clear p2
            try clear HO_9
            obtain ⟨kq, x92_51, rfl, HA, HJ51, HO_9, HB⟩ := hcut; have hl9_51 := (Kd.S_reads' HO_9.out).1; rw [hl9_51] at HO_9; (try simp only [hl9_51])
            cases kq with
            | zero => exact absurd HA.out (by simp [laws_FnExactCopyParts.j2])
            | succ kj51 =>
             have H := HA.out; clear HA; simp only [laws_FnExactCopyParts.j2] at H; by_cases c66 : x92_51 = true
             ·subst c66; rw [if_pos rfl] at H; obtain rfl := Option.some.inj H
              go_wp2; go_ret; exact ⟨by first | rfl | (simp [errW_none, errW_some] <;> rfl) | (simp [*, errW_none, errW_some] <;> rfl), bl_⟩
             ·replace c66 := Bool.eq_false_iff.mpr c66; subst c66; rw [if_neg (show ¬ (false = true) by decide)] at H; replace H := Option.bind_eq_some_iff.mp H; obtain ⟨t339, A670, H⟩ := H; (try dsimp only at H); have A67 := Aside0.mk A670; clear A670; by_cases c68 : t339 < 0
              ·rw [if_pos c68] at H; have c68b0 : decide (t339 < 0) = true := decide_eq_true c68; clear c68; obtain rfl := Option.some.inj H
               go_wp2_with (first | ((with_reducible refine gate_callee (f := 16) rfl ?_); refine goesM_ (some 95) rfl rfl Try.func16 (by kernel_rfl) rfl #[.slice Ao53 t329.length co53, .int .i64 1] rfl ?_; (with_reducible refine (laws_heldSignSS.calls kj51 _ _ t329 1 t339 _ ?side1 ?side2 A67.out).mono ?_); (case side1 => exact cw_ ((Kd.S_reads' HO_9.out).2.2)); (case side2 => exact (Kd.S_reads' HO_9.out).2.1); rintro e w' ⟨rfl, ⟨nd, rfl⟩⟩; refine ⟨_, rfl, ?_⟩)); go_ret; exact ⟨by first | rfl | (simp [errW_none, errW_some] <;> rfl) | (simp [*, errW_none, errW_some] <;> rfl), bl_⟩
              ·rw [if_neg c68] at H; have c68b0 : decide (t339 < 0) = false := decide_eq_false c68; clear c68; by_cases c69 : t339 = t328
               ·rw [if_pos c69] at H; have c69b0 : (t339 == t328) = true := beq_iff_eq.mpr c69; have c69b1 : (t339 != t328) = false := bne_eq_false_iff_eq.mpr c69; clear c69; obtain rfl := Option.some.inj H
                go_wp2_with (first | ((with_reducible refine gate_callee (f := 16) rfl ?_); refine goesM_ (some 95) rfl rfl Try.func16 (by kernel_rfl) rfl #[.slice Ao53 t329.length co53, .int .i64 1] rfl ?_; (with_reducible refine (laws_heldSignSS.calls kj51 _ _ t329 1 t339 _ ?side1 ?side2 A67.out).mono ?_); (case side1 => exact cw_ ((Kd.S_reads' HO_9.out).2.2)); (case side2 => exact (Kd.S_reads' HO_9.out).2.1); rintro e w' ⟨rfl, ⟨nd, rfl⟩⟩; refine ⟨_, rfl, ?_⟩)); go_ret; exact ⟨by first | rfl | (simp [errW_none, errW_some] <;> rfl) | (simp [*, errW_none, errW_some] <;> rfl), bl_⟩
               ·rw [if_neg c69] at H; have c69b0 : (t339 == t328) = false := beq_eq_false_iff_ne.mpr c69; have c69b1 : (t339 != t328) = true := bne_iff_ne.mpr c69; obtain rfl := Option.some.inj H
                go_wp2_with (first | ((with_reducible refine gate_callee (f := 16) rfl ?_); refine goesM_ (some 95) rfl rfl Try.func16 (by kernel_rfl) rfl #[.slice Ao53 t329.length co53, .int .i64 1] rfl ?_; (with_reducible refine (laws_heldSignSS.calls kj51 _ _ t329 1 t339 _ ?side1 ?side2 A67.out).mono ?_); (case side1 => exact cw_ ((Kd.S_reads' HO_9.out).2.2)); (case side2 => exact (Kd.S_reads' HO_9.out).2.1); rintro e w' ⟨rfl, ⟨nd, rfl⟩⟩; refine ⟨_, rfl, ?_⟩)); go_ret; exact ⟨by first | rfl | (simp [errW_none, errW_some] <;> rfl) | (simp [*, errW_none, errW_some] <;> rfl), bl_⟩
          ·rw [if_neg c49] at H; have c49b0 : (t330 == t328) = false := beq_eq_false_iff_ne.mpr c49; have c49b1 : (t330 != t328) = true := bne_iff_ne.mpr c49; obtain rfl := Option.some.inj H
           obtain ⟨Ao70, co70, eo70⟩ := Kd.S_slice HO_9.out; subst eo70; go_wp2_with (first | ((with_reducible refine gate_callee (f := 15) rfl ?_); refine goesM_ (some 68) rfl rfl Try.func15 (by kernel_rfl) rfl #[.slice Ao70 t316.length co70, .int .i64 1] rfl ?_; (with_reducible refine (laws_markSignSS.calls kj28 ?PS0_ (.slice Ao70 t316.length co70) t316 1 t328 t329 w _ ?side1 ?side2 A44.out).mono ?_); (case side1 => repeat (first | (with_reducible first | exact HB.out | apply below_alloc | apply pw_below_drewN | apply below_drew1) | exact HB.out)); (case side2 => exact Kd.S_bound (HO_9.out)); rintro e w71 ⟨rfl, hy0, hb, hkp⟩; refine ⟨_, rfl, ?_⟩; have n0_ := Aside0.mk (keptN_ (HO_6.out) hkp (fun k_ h1_ h2_ => absurd h1_.2.2 (Nat.not_lt.2 h2_.2))); have n1_ := Aside0.mk (Kd.S_mono hy0 (fun _ _ => trivial)); have n2_ := Aside0.mk (hb); clear HO_6; clear HO_9; clear HB; have HO_6 := n0_; have HO_9 := n1_; have HB := n2_; clear n0_ n1_ n2_; (try clear hb); (try clear hkp); (try clear hy0)) | ((with_reducible refine gate_callee (f := 16) rfl ?_); refine goesL_ (some 71) rfl rfl Try.func16 (by kernel_rfl) rfl #[.slice Ao70 t329.length co70, .int .i64 1] rfl (by (try simp only [List.map_toArray, List.map_cons, List.map_nil]); first | done | (rw [show t329.length = t316.length from (Kd.S_reads' HO_9.out).1.symm] <;> rfl) | rfl | (simp only [List.length_drop, List.length_take]; rfl)) ?_; (with_reducible refine (laws_heldSignSS.calls kj28 _ _ t329 1 t330 _ ?side1 ?side2 A45.out).mono ?_); (case side1 => exact cw_ ((Kd.S_reads' HO_9.out).2.2)); (case side2 => rw [show t329.length = t316.length from (Kd.S_reads' HO_9.out).1.symm]; exact (Kd.S_reads' HO_9.out).2.1); rintro e w' ⟨rfl, ⟨nd, rfl⟩⟩; refine ⟨_, rfl, ?_⟩)); go_ret; exact ⟨by first | rfl | (simp [errW_none, errW_some] <;> rfl) | (simp [*, errW_none, errW_some] <;> rfl), bl_⟩
     ·replace c27 := Bool.eq_false_iff.mpr c27; subst c27; rw [if_neg (show ¬ (false = true) by decide)] at H; obtain rfl := Option.some.inj H
      go_wp2_with (first | ((with_reducible refine gate_callee (f := 10) rfl ?_); refine goesM_ (some 47) rfl rfl Try.func10 (by kernel_rfl) rfl #[.slice A0 l0.length c0] rfl ?_; (with_reducible refine (laws_toEventS.calls kj8 _ _ l0 t321 _ ?side1 ?side2 A25.out).mono ?_); (case side1 => exact cw_ (Kd.C_below HR0.out HB.out)); (case side2 => exact HC0.out); rintro e w72 ⟨v322, rfl, ho0, hb⟩; refine ⟨_, rfl, ?_⟩; have n0_ := Aside0.mk (Kd.S_below (by (with_reducible repeat (first | apply Kd.S_alloc | apply Kd.S_drewN | apply Kd.S_drew)); exact HO_6.out) hb); have n1_ := Aside0.mk (Kd.R_elder' (by exact rw_ HO_8.out) (Kd.R_base ho0) hb); have n2_ := Aside0.mk (Kd.S_below (by (with_reducible repeat (first | apply Kd.S_alloc | apply Kd.S_drewN | apply Kd.S_drew)); exact HO_9.out) hb); have n3_ := Aside0.mk (Kd.R_lower (Kd.R_new' ho0 (Kd.R_lt (by exact rw_ HO_8.out))) (below_size bl_)); have n4_ := Aside0.mk (below_step bl_ hb); clear HO_6; clear HO_8; clear HO_9; clear HB; have HO_6 := n0_; have HO_8 := n1_; have HO_9 := n2_; have HO323 := n3_; have HB := n4_; clear n0_ n1_ n2_ n3_ n4_; (try clear hb); (try clear hb2); (try clear hk); (try clear hi); (try clear ho0); obtain ⟨Ao73, co73, eo73⟩ := Kd.R_slice HO323.out; subst eo73) | ((with_reducible refine gate_callee (f := 13) rfl ?_); refine goesM_ (some 48) rfl rfl Try.func13 (by kernel_rfl) rfl #[.slice Ao14 t313.length co14, .slice Ao73 t321.length co73] rfl ?_; (with_reducible refine (laws_eqEventS.calls kj8 _ _ t313 _ _ t321 false _ ?side1 ?side2 ?side3 ?side4 A26.out).mono ?_); (case side1 => exact cw_ ((Kd.R_reads' HO_8.out).2.2)); (case side2 => exact (Kd.R_reads' HO_8.out).2.1); (case side3 => exact cw_ ((Kd.R_reads' HO323.out).2.2)); (case side4 => exact (Kd.R_reads' HO323.out).2.1); rintro e w74 ⟨rfl, hb⟩; refine ⟨_, rfl, ?_⟩; have n0_ := Aside0.mk (Kd.S_below (by (with_reducible repeat (first | apply Kd.S_alloc | apply Kd.S_drewN | apply Kd.S_drew)); exact HO_6.out) hb); have n1_ := Aside0.mk (Kd.R_below (by exact rw_ HO_8.out) hb); have n2_ := Aside0.mk (Kd.S_below (by (with_reducible repeat (first | apply Kd.S_alloc | apply Kd.S_drewN | apply Kd.S_drew)); exact HO_9.out) hb); have n3_ := Aside0.mk (Kd.R_below (by exact rw_ HO323.out) hb); have n4_ := Aside0.mk (below_step bl_ hb); clear HO_6; clear HO_8; clear HO_9; clear HO323; clear HB; have HO_6 := n0_; have HO_8 := n1_; have HO_9 := n2_; have HO323 := n3_; have HB := n4_; clear n0_ n1_ n2_ n3_ n4_; (try clear hb); (try clear hb2); (try clear hk); (try clear hi))); go_ret; exact ⟨by first | rfl | (simp [errW_none, errW_some] <;> rfl) | (simp [*, errW_none, errW_some] <;> rfl), bl_⟩

end Go.Proofs.Ytoebmmbpfapgaaa.QFnExactCopyParts
