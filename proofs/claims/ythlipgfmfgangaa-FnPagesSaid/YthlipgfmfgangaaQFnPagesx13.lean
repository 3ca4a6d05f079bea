/- Plain functions for the Go functions that the law FnPages reaches, and for each the proof that the call answers as the plain function says; printed by a program of this session. -/
import Derived.Test.YthlipgfmfgangaaQFnPagesx0
import Derived.Test.YthlipgfmfgangaaQFnPagesx1
import Derived.Test.YthlipgfmfgangaaQFnPagesx3
import Derived.Test.YthlipgfmfgangaaQFnPagesx4
import Derived.Test.YthlipgfmfgangaaQFnPagesx5
import Derived.Test.YthlipgfmfgangaaQFnPagesx6
import Derived.Test.YthlipgfmfgangaaQFnPagesx7
import Derived.Test.YthlipgfmfgangaaQFnPagesx12
namespace Go.Proofs.Ythlipgfmfgangaa.QFnPages
open Go.RowKit Go.Proofs.YthlipgfmfgangaaW.PrintWords Go.Proofs.YthlipgfmfgangaaW.PrintLast Go.Proofs.YthlipgfmfgangaaW.PrintMore
attribute [local go_sem] max2_int min2_int max_two min_two max_three min_three max_four min_four   -- for this text's walks alone
set_option linter.unusedVariables false
set_option linter.unusedSimpArgs false

/-! ### laws_FnPages: function 7 -/
mutual
def laws_FnPages.j0 : Nat → List Int → List Bool → Int → List Int → Bool → Bool → Option (Bool)
 | 0, _, _, _, _, _, _ => none
 | k + 1, x0, x3, x4, x5, x6, x60 => if x60 = true then (some false) else (if x6 = true then ((impl_PageBreaks.f k x3 (wrap64 (x4 + 1))).bind fun bt532 => (if bt532.2 = true then ((impl_CountPages.f bt532.1).bind fun t536 => ((impl_CountPages.f x5).bind fun t537 => (if t536 > t537 then (laws_FnPages.j1 k x0 true) else ((impl_PageOf.f k x5 (x3.length : Int)).bind fun t538 => ((impl_CountPages.f x5).bind fun t539 => (if t538 = t539 then (laws_FnPages.j1 k x0 false) else (laws_FnPages.j1 k x0 (decide ((x3.length : Int) > 0))))))))) else ((impl_PageOf.f k x5 (x3.length : Int)).bind fun t540 => ((impl_CountPages.f x5).bind fun t541 => (if t540 = t541 then (laws_FnPages.j1 k x0 false) else (laws_FnPages.j1 k x0 (decide ((x3.length : Int) > 0)))))))) else (laws_FnPages.j2 k x0))
def laws_FnPages.j2 : Nat → List Int → Option (Bool)
 | 0, _ => none
 | k + 1, x0 => (spec_DrawAreBreaks.f k x0).bind fun bt542 => ((impl_AreBreaks.f k bt542.1 bt542.2.1 bt542.2.2).bind fun t549 => (if t549 = true then (if (bt542.1.length : Int) ≤ 60 then (if bt542.2.1 ≥ 1 then (laws_FnPages.j3 k x0 bt542.1 bt542.2.1 bt542.2.2 (decide (bt542.2.1 ≤ 60))) else (laws_FnPages.j3 k x0 bt542.1 bt542.2.1 bt542.2.2 false)) else (laws_FnPages.j3 k x0 bt542.1 bt542.2.1 bt542.2.2 false)) else (laws_FnPages.j3 k x0 bt542.1 bt542.2.1 bt542.2.2 false)))
def laws_FnPages.j3 : Nat → List Int → List Bool → Int → List Int → Bool → Option (Bool)
 | 0, _, _, _, _, _ => none
 | k + 1, x0, x11, x12, x13, x113 => if x113 = true then ((impl_PageBreaks.f k x11 x12).bind fun bt550 => (if bt550.2 = true then ((impl_CountPages.f bt550.1).bind fun t554 => ((impl_CountPages.f x13).bind fun t555 => (laws_FnPages.j4 k x0 (decide (t554 > t555))))) else (laws_FnPages.j4 k x0 true))) else (laws_FnPages.j5 k x0)
def laws_FnPages.j5 : Nat → List Int → Option (Bool)
 | 0, _ => none
 | k + 1, x0 => (spec_DrawFreeBars.f k x0).bind fun bt556 => ((impl_FreeBars.f k bt556.1 bt556.2.1 bt556.2.2.1 bt556.2.2.2).bind fun t563 => ((impl_EventsOf.f k bt556.1 1).bind fun t566 => (laws_FnPages.l0 k bt556.2.2.2 t563 t566 0 bt556.2.1 bt556.2.2.1)))
def laws_FnPages.l0 : Nat → Int → List Bool → List (S60) → Int → Int → Int → Option (Bool)
 | 0, _, _, _, _, _, _ => none
 | k + 1, x18, x19, x20, x21, x563000, x563001 => if x21 < (x20.length : Int) then ((impl_BarLong.f x563000 x563001).bind fun t569 => (if t569 > 0 then (if 0 ≤ x21 then ((impl_BarLong.f x563000 x563001).bind fun t571 => (if t571 = 0 then (none) else (if (x19.length : Int) > (wrap64 (Int.tdiv ((rd_T60 x20 x21).f0) t571)) then ((impl_BarLong.f x563000 x563001).bind fun t573 => (if t573 = 0 then (none) else (if 0 ≤ (wrap64 (Int.tdiv ((rd_T60 x20 x21).f0) t573)) then (if (wrap64 (Int.tdiv ((rd_T60 x20 x21).f0) t573)) < (x19.length : Int) then (laws_FnPages.j7 k x18 x19 x20 x21 (rdOf false x19 (wrap64 (Int.tdiv ((rd_T60 x20 x21).f0) t573))) x563000 x563001) else (none)) else (none)))) else (laws_FnPages.j7 k x18 x19 x20 x21 false x563000 x563001)))) else (none)) else (laws_FnPages.j7 k x18 x19 x20 x21 false x563000 x563001))) else (if (x19.length : Int) = 0 then (some true) else (some ((x19.length : Int) == x18)))
def laws_FnPages.j7 : Nat → Int → List Bool → List (S60) → Int → Bool → Int → Int → Option (Bool)
 | 0, _, _, _, _, _, _, _ => none
 | k + 1, x18, x19, x20, x21, x175, x563000, x563001 => if x175 = true then (some false) else (laws_FnPages.l0 k x18 x19 x20 (wrap64 (x21 + 1)) x563000 x563001)
def laws_FnPages.j4 : Nat → List Int → Bool → Option (Bool)
 | 0, _, _ => none
 | k + 1, x0, x128 => if x128 = true then (some false) else (laws_FnPages.j5 k x0)
def laws_FnPages.j1 : Nat → List Int → Bool → Option (Bool)
 | 0, _, _ => none
 | k + 1, x0, x90 => if x90 = true then (some false) else (laws_FnPages.j2 k x0)
end
def laws_FnPages.f (k : Nat) (l0 : List Int) : Option (Bool) := (laws_big.f l0).bind fun t518 => (if t518 = true then (some true) else ((spec_DrawPageBreaks.f k l0).bind fun bt519 => ((impl_PageBreaks.f k bt519.1 bt519.2).bind fun bt523 => ((spec_PageBreaks.f k bt519.1 bt519.2).bind fun bt527 => (if (bt523.2 != bt527.2) = true then (some false) else (if bt523.2 = true then ((impl_AreBreaks.f k bt519.1 bt519.2 bt523.1).bind fun t531 => (if t531 = true then (laws_FnPages.j0 k l0 bt519.1 bt519.2 bt523.1 bt523.2 false) else (laws_FnPages.j0 k l0 bt519.1 bt519.2 bt523.1 bt523.2 true))) else (laws_FnPages.j0 k l0 bt519.1 bt519.2 bt523.1 bt523.2 (decide ((bt523.1.length : Int) > 0)))))))))
theorem laws_FnPages.mono_l : ∀ k, (∀ y0 y1 y2 y3 y4 y5, LeO (laws_FnPages.j0 k y0 y1 y2 y3 y4 y5) (laws_FnPages.j0 (k + 1) y0 y1 y2 y3 y4 y5)) ∧ (∀ y0, LeO (laws_FnPages.j2 k y0) (laws_FnPages.j2 (k + 1) y0)) ∧ (∀ y0 y1 y2 y3 y4, LeO (laws_FnPages.j3 k y0 y1 y2 y3 y4) (laws_FnPages.j3 (k + 1) y0 y1 y2 y3 y4)) ∧ (∀ y0, LeO (laws_FnPages.j5 k y0) (laws_FnPages.j5 (k + 1) y0)) ∧ (∀ y0 y1 y2 y3 y4 y5, LeO (laws_FnPages.l0 k y0 y1 y2 y3 y4 y5) (laws_FnPages.l0 (k + 1) y0 y1 y2 y3 y4 y5)) ∧ (∀ y0 y1 y2 y3 y4 y5 y6, LeO (laws_FnPages.j7 k y0 y1 y2 y3 y4 y5 y6) (laws_FnPages.j7 (k + 1) y0 y1 y2 y3 y4 y5 y6)) ∧ (∀ y0 y1, LeO (laws_FnPages.j4 k y0 y1) (laws_FnPages.j4 (k + 1) y0 y1)) ∧ (∀ y0 y1, LeO (laws_FnPages.j1 k y0 y1) (laws_FnPages.j1 (k + 1) y0 y1))
 | 0 => ⟨fun _ _ _ _ _ _ r h => by simp [laws_FnPages.j0] at h, fun _ r h => by simp [laws_FnPages.j2] at h, fun _ _ _ _ _ r h => by simp [laws_FnPages.j3] at h, fun _ r h => by simp [laws_FnPages.j5] at h, fun _ _ _ _ _ _ r h => by simp [laws_FnPages.l0] at h, fun _ _ _ _ _ _ _ r h => by simp [laws_FnPages.j7] at h, fun _ _ r h => by simp [laws_FnPages.j4] at h, fun _ _ r h => by simp [laws_FnPages.j1] at h⟩
 | k + 1 => by
  obtain ⟨ih0, ih1, ih2, ih3, ih4, ih5, ih6, ih7⟩ := laws_FnPages.mono_l k
  refine ⟨?_, ?_, ?_, ?_, ?_, ?_, ?_, ?_⟩
  ·intro y0 y1 y2 y3 y4 y5
   unfold laws_FnPages.j0
   repeat' first
   | (with_reducible exact ih0 _ _ _ _ _ _)
   | (with_reducible exact ih1 _)
   | (with_reducible exact ih2 _ _ _ _ _)
   | (with_reducible exact ih3 _)
   | (with_reducible exact ih4 _ _ _ _ _ _)
   | (with_reducible exact ih5 _ _ _ _ _ _ _)
   | (with_reducible exact ih6 _ _)
   | (with_reducible exact ih7 _ _)
   | (with_reducible exact impl_AreBreaks.mono _ _ _ _)
   | (with_reducible exact impl_EventsOf.mono _ _ _)
   | (with_reducible exact impl_FreeBars.mono _ _ _ _ _)
   | (with_reducible exact impl_PageBreaks.mono _ _ _)
   | (with_reducible exact impl_PageOf.mono _ _ _)
   | (with_reducible exact spec_DrawAreBreaks.mono _ _)
   | (with_reducible exact spec_DrawFreeBars.mono _ _)
   | (with_reducible exact spec_DrawPageBreaks.mono _ _)
   | (with_reducible exact spec_PageBreaks.mono _ _ _)
   | (with_reducible exact LeO.refl _)
   | (with_reducible exact LeO.none _)
   | (with_reducible refine LeO.ite ?_ ?_)
   | (with_reducible refine LeO.bind ?_ (fun _ => ?_))
   | exact ih0 _ _ _ _ _ _
   | exact ih1 _
   | exact ih2 _ _ _ _ _
   | exact ih3 _
   | exact ih4 _ _ _ _ _ _
   | exact ih5 _ _ _ _ _ _ _
   | exact ih6 _ _
   | exact ih7 _ _
   | exact impl_AreBreaks.mono _ _ _ _
   | exact impl_EventsOf.mono _ _ _
   | exact impl_FreeBars.mono _ _ _ _ _
   | exact impl_PageBreaks.mono _ _ _
   | exact impl_PageOf.mono _ _ _
   | exact spec_DrawAreBreaks.mono _ _
   | exact spec_DrawFreeBars.mono _ _
   | exact spec_DrawPageBreaks.mono _ _
   | exact spec_PageBreaks.mono _ _ _
   | exact LeO.none _
   | refine LeO.ite ?_ ?_
   | refine LeO.bind ?_ (fun _ => ?_)
  ·intro y0
   unfold laws_FnPages.j2
   repeat' first
   | (with_reducible exact ih0 _ _ _ _ _ _)
   | (with_reducible exact ih1 _)
   | (with_reducible exact ih2 _ _ _ _ _)
   | (with_reducible exact ih3 _)
   | (with_reducible exact ih4 _ _ _ _ _ _)
   | (with_reducible exact ih5 _ _ _ _ _ _ _)
   | (with_reducible exact ih6 _ _)
   | (with_reducible exact ih7 _ _)
   | (with_reducible exact impl_AreBreaks.mono _ _ _ _)
   | (with_reducible exact impl_EventsOf.mono _ _ _)
   | (with_reducible exact impl_FreeBars.mono _ _ _ _ _)
   | (with_reducible exact impl_PageBreaks.mono _ _ _)
   | (with_reducible exact impl_PageOf.mono _ _ _)
   | (with_reducible exact spec_DrawAreBreaks.mono _ _)
   | (with_reducible exact spec_DrawFreeBars.mono _ _)
   | (with_reducible exact spec_DrawPageBreaks.mono _ _)
   | (with_reducible exact spec_PageBreaks.mono _ _ _)
   | (with_reducible exact LeO.refl _)
   | (with_reducible exact LeO.none _)
   | (with_reducible refine LeO.ite ?_ ?_)
   | (with_reducible refine LeO.bind ?_ (fun _ => ?_))
   | exact ih0 _ _ _ _ _ _
   | exact ih1 _
   | exact ih2 _ _ _ _ _
   | exact ih3 _
   | exact ih4 _ _ _ _ _ _
   | exact ih5 _ _ _ _ _ _ _
   | exact ih6 _ _
   | exact ih7 _ _
   | exact impl_AreBreaks.mono _ _ _ _
   | exact impl_EventsOf.mono _ _ _
   | exact impl_FreeBars.mono _ _ _ _ _
   | exact impl_PageBreaks.mono _ _ _
   | exact impl_PageOf.mono _ _ _
   | exact spec_DrawAreBreaks.mono _ _
   | exact spec_DrawFreeBars.mono _ _
   | exact spec_DrawPageBreaks.mono _ _
   | exact spec_PageBreaks.mono _ _ _
   | exact LeO.none _
   | refine LeO.ite ?_ ?_
   | refine LeO.bind ?_ (fun _ => ?_)
  ·intro y0 y1 y2 y3 y4
   unfold laws_FnPages.j3
   repeat' first
   | (with_reducible exact ih0 _ _ _ _ _ _)
   | (with_reducible exact ih1 _)
   | (with_reducible exact ih2 _ _ _ _ _)
   | (with_reducible exact ih3 _)
   | (with_reducible exact ih4 _ _ _ _ _ _)
   | (with_reducible exact ih5 _ _ _ _ _ _ _)
   | (with_reducible exact ih6 _ _)
   | (with_reducible exact ih7 _ _)
   | (with_reducible exact impl_AreBreaks.mono _ _ _ _)
   | (with_reducible exact impl_EventsOf.mono _ _ _)
   | (with_reducible exact impl_FreeBars.mono _ _ _ _ _)
   | (with_reducible exact impl_PageBreaks.mono _ _ _)
   | (with_reducible exact impl_PageOf.mono _ _ _)
   | (with_reducible exact spec_DrawAreBreaks.mono _ _)
   | (with_reducible exact spec_DrawFreeBars.mono _ _)
   | (with_reducible exact spec_DrawPageBreaks.mono _ _)
   | (with_reducible exact spec_PageBreaks.mono _ _ _)
   | (with_reducible exact LeO.refl _)
   | (with_reducible exact LeO.none _)
   | (with_reducible refine LeO.ite ?_ ?_)
   | (with_reducible refine LeO.bind ?_ (fun _ => ?_))
   | exact ih0 _ _ _ _ _ _
   | exact ih1 _
   | exact ih2 _ _ _ _ _
   | exact ih3 _
   | exact ih4 _ _ _ _ _ _
   | exact ih5 _ _ _ _ _ _ _
   | exact ih6 _ _
   | exact ih7 _ _
   | exact impl_AreBreaks.mono _ _ _ _
   | exact impl_EventsOf.mono _ _ _
   | exact impl_FreeBars.mono _ _ _ _ _
   | exact impl_PageBreaks.mono _ _ _
   | exact impl_PageOf.mono _ _ _
   | exact spec_DrawAreBreaks.mono _ _
   | exact spec_DrawFreeBars.mono _ _
   | exact spec_DrawPageBreaks.mono _ _
   | exact spec_PageBreaks.mono _ _ _
   | exact LeO.none _
   | refine LeO.ite ?_ ?_
   | refine LeO.bind ?_ (fun _ => ?_)
  ·intro y0
   unfold laws_FnPages.j5
   repeat' first
   | (with_reducible exact ih0 _ _ _ _ _ _)
   | (with_reducible exact ih1 _)
   | (with_reducible exact ih2 _ _ _ _ _)
   | (with_reducible exact ih3 _)
   | (with_reducible exact ih4 _ _ _ _ _ _)
   | (with_reducible exact ih5 _ _ _ _ _ _ _)
   | (with_reducible exact ih6 _ _)
   | (with_reducible exact ih7 _ _)
   | (with_reducible exact impl_AreBreaks.mono _ _ _ _)
   | (with_reducible exact impl_EventsOf.mono _ _ _)
   | (with_reducible exact impl_FreeBars.mono _ _ _ _ _)
   | (with_reducible exact impl_PageBreaks.mono _ _ _)
   | (with_reducible exact impl_PageOf.mono _ _ _)
   | (with_reducible exact spec_DrawAreBreaks.mono _ _)
   | (with_reducible exact spec_DrawFreeBars.mono _ _)
   | (with_reducible exact spec_DrawPageBreaks.mono _ _)
   | (with_reducible exact spec_PageBreaks.mono _ _ _)
   | (with_reducible exact LeO.refl _)
   | (with_reducible exact LeO.none _)
   | (with_reducible refine LeO.ite ?_ ?_)
   | (with_reducible refine LeO.bind ?_ (fun _ => ?_))
   | exact ih0 _ _ _ _ _ _
   | exact ih1 _
   | exact ih2 _ _ _ _ _
   | exact ih3 _
   | exact ih4 _ _ _ _ _ _
   | exact ih5 _ _ _ _ _ _ _
   | exact ih6 _ _
   | exact ih7 _ _
   | exact impl_AreBreaks.mono _ _ _ _
   | exact impl_EventsOf.mono _ _ _
   | exact impl_FreeBars.mono _ _ _ _ _
   | exact impl_PageBreaks.mono _ _ _
   | exact impl_PageOf.mono _ _ _
   | exact spec_DrawAreBreaks.mono _ _
   | exact spec_DrawFreeBars.mono _ _
   | exact spec_DrawPageBreaks.mono _ _
   | exact spec_PageBreaks.mono _ _ _
   | exact LeO.none _
   | refine LeO.ite ?_ ?_
   | refine LeO.bind ?_ (fun _ => ?_)
  ·intro y0 y1 y2 y3 y4 y5
   unfold laws_FnPages.l0
   repeat' first
   | (with_reducible exact ih0 _ _ _ _ _ _)
   | (with_reducible exact ih1 _)
   | (with_reducible exact ih2 _ _ _ _ _)
   | (with_reducible exact ih3 _)
   | (with_reducible exact ih4 _ _ _ _ _ _)
   | (with_reducible exact ih5 _ _ _ _ _ _ _)
   | (with_reducible exact ih6 _ _)
   | (with_reducible exact ih7 _ _)
   | (with_reducible exact impl_AreBreaks.mono _ _ _ _)
   | (with_reducible exact impl_EventsOf.mono _ _ _)
   | (with_reducible exact impl_FreeBars.mono _ _ _ _ _)
   | (with_reducible exact impl_PageBreaks.mono _ _ _)
   | (with_reducible exact impl_PageOf.mono _ _ _)
   | (with_reducible exact spec_DrawAreBreaks.mono _ _)
   | (with_reducible exact spec_DrawFreeBars.mono _ _)
   | (with_reducible exact spec_DrawPageBreaks.mono _ _)
   | (with_reducible exact spec_PageBreaks.mono _ _ _)
   | (with_reducible exact LeO.refl _)
   | (with_reducible exact LeO.none _)
   | (with_reducible refine LeO.ite ?_ ?_)
   | (with_reducible refine LeO.bind ?_ (fun _ => ?_))
   | exact ih0 _ _ _ _ _ _
   | exact ih1 _
   | exact ih2 _ _ _ _ _
   | exact ih3 _
   | exact ih4 _ _ _ _ _ _
   | exact ih5 _ _ _ _ _ _ _
   | exact ih6 _ _
   | exact ih7 _ _
   | exact impl_AreBreaks.mono _ _ _ _
   | exact impl_EventsOf.mono _ _ _
   | exact impl_FreeBars.mono _ _ _ _ _
   | exact impl_PageBreaks.mono _ _ _
   | exact impl_PageOf.mono _ _ _
   | exact spec_DrawAreBreaks.mono _ _
   | exact spec_DrawFreeBars.mono _ _
   | exact spec_DrawPageBreaks.mono _ _
   | exact spec_PageBreaks.mono _ _ _
   | exact LeO.none _
   | refine LeO.ite ?_ ?_
   | refine LeO.bind ?_ (fun _ => ?_)
  ·intro y0 y1 y2 y3 y4 y5 y6
   unfold laws_FnPages.j7
   repeat' first
   | (with_reducible exact ih0 _ _ _ _ _ _)
   | (with_reducible exact ih1 _)
   | (with_reducible exact ih2 _ _ _ _ _)
   | (with_reducible exact ih3 _)
   | (with_reducible exact ih4 _ _ _ _ _ _)
   | (with_reducible exact ih5 _ _ _ _ _ _ _)
   | (with_reducible exact ih6 _ _)
   | (with_reducible exact ih7 _ _)
   | (with_reducible exact impl_AreBreaks.mono _ _ _ _)
   | (with_reducible exact impl_EventsOf.mono _ _ _)
   | (with_reducible exact impl_FreeBars.mono _ _ _ _ _)
   | (with_reducible exact impl_PageBreaks.mono _ _ _)
   | (with_reducible exact impl_PageOf.mono _ _ _)
   | (with_reducible exact spec_DrawAreBreaks.mono _ _)
   | (with_reducible exact spec_DrawFreeBars.mono _ _)
   | (with_reducible exact spec_DrawPageBreaks.mono _ _)
   | (with_reducible exact spec_PageBreaks.mono _ _ _)
   | (with_reducible exact LeO.refl _)
   | (with_reducible exact LeO.none _)
   | (with_reducible refine LeO.ite ?_ ?_)
   | (with_reducible refine LeO.bind ?_ (fun _ => ?_))
   | exact ih0 _ _ _ _ _ _
   | exact ih1 _
   | exact ih2 _ _ _ _ _
   | exact ih3 _
   | exact ih4 _ _ _ _ _ _
   | exact ih5 _ _ _ _ _ _ _
   | exact ih6 _ _
   | exact ih7 _ _
   | exact impl_AreBreaks.mono _ _ _ _
   | exact impl_EventsOf.mono _ _ _
   | exact impl_FreeBars.mono _ _ _ _ _
   | exact impl_PageBreaks.mono _ _ _
   | exact impl_PageOf.mono _ _ _
   | exact spec_DrawAreBreaks.mono _ _
   | exact spec_DrawFreeBars.mono _ _
   | exact spec_DrawPageBreaks.mono _ _
   | exact spec_PageBreaks.mono _ _ _
   | exact LeO.none _
   | refine LeO.ite ?_ ?_
   | refine LeO.bind ?_ (fun _ => ?_)
  ·intro y0 y1
   unfold laws_FnPages.j4
   repeat' first
   | (with_reducible exact ih0 _ _ _ _ _ _)
   | (with_reducible exact ih1 _)
   | (with_reducible exact ih2 _ _ _ _ _)
   | (with_reducible exact ih3 _)
   | (with_reducible exact ih4 _ _ _ _ _ _)
   | (with_reducible exact ih5 _ _ _ _ _ _ _)
   | (with_reducible exact ih6 _ _)
   | (with_reducible exact ih7 _ _)
   | (with_reducible exact impl_AreBreaks.mono _ _ _ _)
   | (with_reducible exact impl_EventsOf.mono _ _ _)
   | (with_reducible exact impl_FreeBars.mono _ _ _ _ _)
   | (with_reducible exact impl_PageBreaks.mono _ _ _)
   | (with_reducible exact impl_PageOf.mono _ _ _)
   | (with_reducible exact spec_DrawAreBreaks.mono _ _)
   | (with_reducible exact spec_DrawFreeBars.mono _ _)
   | (with_reducible exact spec_DrawPageBreaks.mono _ _)
   | (with_reducible exact spec_PageBreaks.mono _ _ _)
   | (with_reducible exact LeO.refl _)
   | (with_reducible exact LeO.none _)
   | (with_reducible refine LeO.ite ?_ ?_)
   | (with_reducible refine LeO.bind ?_ (fun _ => ?_))
   | exact ih0 _ _ _ _ _ _
   | exact ih1 _
   | exact ih2 _ _ _ _ _
   | exact ih3 _
   | exact ih4 _ _ _ _ _ _
   | exact ih5 _ _ _ _ _ _ _
   | exact ih6 _ _
   | exact ih7 _ _
   | exact impl_AreBreaks.mono _ _ _ _
   | exact impl_EventsOf.mono _ _ _
   | exact impl_FreeBars.mono _ _ _ _ _
   | exact impl_PageBreaks.mono _ _ _
   | exact impl_PageOf.mono _ _ _
   | exact spec_DrawAreBreaks.mono _ _
   | exact spec_DrawFreeBars.mono _ _
   | exact spec_DrawPageBreaks.mono _ _
   | exact spec_PageBreaks.mono _ _ _
   | exact LeO.none _
   | refine LeO.ite ?_ ?_
   | refine LeO.bind ?_ (fun _ => ?_)
  ·intro y0 y1
   unfold laws_FnPages.j1
   repeat' first
   | (with_reducible exact ih0 _ _ _ _ _ _)
   | (with_reducible exact ih1 _)
   | (with_reducible exact ih2 _ _ _ _ _)
   | (with_reducible exact ih3 _)
   | (with_reducible exact ih4 _ _ _ _ _ _)
   | (with_reducible exact ih5 _ _ _ _ _ _ _)
   | (with_reducible exact ih6 _ _)
   | (with_reducible exact ih7 _ _)
   | (with_reducible exact impl_AreBreaks.mono _ _ _ _)
   | (with_reducible exact impl_EventsOf.mono _ _ _)
   | (with_reducible exact impl_FreeBars.mono _ _ _ _ _)
   | (with_reducible exact impl_PageBreaks.mono _ _ _)
   | (with_reducible exact impl_PageOf.mono _ _ _)
   | (with_reducible exact spec_DrawAreBreaks.mono _ _)
   | (with_reducible exact spec_DrawFreeBars.mono _ _)
   | (with_reducible exact spec_DrawPageBreaks.mono _ _)
   | (with_reducible exact spec_PageBreaks.mono _ _ _)
   | (with_reducible exact LeO.refl _)
   | (with_reducible exact LeO.none _)
   | (with_reducible refine LeO.ite ?_ ?_)
   | (with_reducible refine LeO.bind ?_ (fun _ => ?_))
   | exact ih0 _ _ _ _ _ _
   | exact ih1 _
   | exact ih2 _ _ _ _ _
   | exact ih3 _
   | exact ih4 _ _ _ _ _ _
   | exact ih5 _ _ _ _ _ _ _
   | exact ih6 _ _
   | exact ih7 _ _
   | exact impl_AreBreaks.mono _ _ _ _
   | exact impl_EventsOf.mono _ _ _
   | exact impl_FreeBars.mono _ _ _ _ _
   | exact impl_PageBreaks.mono _ _ _
   | exact impl_PageOf.mono _ _ _
   | exact spec_DrawAreBreaks.mono _ _
   | exact spec_DrawFreeBars.mono _ _
   | exact spec_DrawPageBreaks.mono _ _
   | exact spec_PageBreaks.mono _ _ _
   | exact LeO.none _
   | refine LeO.ite ?_ ?_
   | refine LeO.bind ?_ (fun _ => ?_)
theorem laws_FnPages.mono : ∀ a0 k, LeO (laws_FnPages.f k a0) (laws_FnPages.f (k + 1) a0) := by
 intro a0 k; obtain ⟨ih0, ih1, ih2, ih3, ih4, ih5, ih6, ih7⟩ := laws_FnPages.mono_l k; unfold laws_FnPages.f
 repeat' first
   | (with_reducible exact ih0 _ _ _ _ _ _)
   | (with_reducible exact ih1 _)
   | (with_reducible exact ih2 _ _ _ _ _)
   | (with_reducible exact ih3 _)
   | (with_reducible exact ih4 _ _ _ _ _ _)
   | (with_reducible exact ih5 _ _ _ _ _ _ _)
   | (with_reducible exact ih6 _ _)
   | (with_reducible exact ih7 _ _)
   | (with_reducible exact impl_AreBreaks.mono _ _ _ _)
   | (with_reducible exact impl_EventsOf.mono _ _ _)
   | (with_reducible exact impl_FreeBars.mono _ _ _ _ _)
   | (with_reducible exact impl_PageBreaks.mono _ _ _)
   | (with_reducible exact impl_PageOf.mono _ _ _)
   | (with_reducible exact spec_DrawAreBreaks.mono _ _)
   | (with_reducible exact spec_DrawFreeBars.mono _ _)
   | (with_reducible exact spec_DrawPageBreaks.mono _ _)
   | (with_reducible exact spec_PageBreaks.mono _ _ _)
   | (with_reducible exact LeO.refl _)
   | (with_reducible exact LeO.none _)
   | (with_reducible refine LeO.ite ?_ ?_)
   | (with_reducible refine LeO.bind ?_ (fun _ => ?_))
   | exact ih0 _ _ _ _ _ _
   | exact ih1 _
   | exact ih2 _ _ _ _ _
   | exact ih3 _
   | exact ih4 _ _ _ _ _ _
   | exact ih5 _ _ _ _ _ _ _
   | exact ih6 _ _
   | exact ih7 _ _
   | exact impl_AreBreaks.mono _ _ _ _
   | exact impl_EventsOf.mono _ _ _
   | exact impl_FreeBars.mono _ _ _ _ _
   | exact impl_PageBreaks.mono _ _ _
   | exact impl_PageOf.mono _ _ _
   | exact spec_DrawAreBreaks.mono _ _
   | exact spec_DrawFreeBars.mono _ _
   | exact spec_DrawPageBreaks.mono _ _
   | exact spec_PageBreaks.mono _ _ _
   | exact LeO.none _
   | refine LeO.ite ?_ ?_
   | refine LeO.bind ?_ (fun _ => ?_)
def laws_FnPages.T25 : Bool × List (List Nat × List Nat) := (true, [([], []), ([0], [0]), ([1], [1]), ([2, 1], [2]), ([3], [3]), ([4, 3], [3, 4]), ([3], [3]), ([3], [3]), ([6, 7, 3], [3, 6, 7]), ([8, 3], [3, 8]), ([9, 3], [3, 9]), ([3], [3]), ([11, 3, 3], [3, 11]), ([10, 12, 3], [3, 10, 12]), ([5, 13, 3], [3, 5, 13]), ([3, 14], [3, 14]), ([15, 12], [15]), ([16], [16]), ([16], [16]), ([16], [16]), ([18, 19, 16], [16, 18, 19]), ([20, 16], [16, 20]), ([21, 16], [16, 21]), ([16], [16]), ([23, 16, 16], [16, 23]), ([22, 24, 16], [16, 22, 24]), ([17, 25, 16], [16, 17, 25]), ([26, 16], [16, 26]), ([16, 27], [16, 27])])
def laws_FnPages.B25 : List Nat := [0, 1, 3, 7, 15, 31, 15, 15, 207, 463, 975, 15, 2063, 8143, 16383, 32767, 65535, 131071, 131071, 131071, 917503, 1966079, 4063231, 131071, 8519679, 33423359, 67108863, 134217727, 268435455]
theorem laws_FnPages.tab25 : rtab .any (opsOf Try.f7 25) = laws_FnPages.T25 := by kernel_rfl
theorem laws_FnPages.bits25 : waitsOk laws_FnPages.T25.2 laws_FnPages.B25 = true := by kernel_rfl
set_option maxHeartbeats 8000000 in
set_option maxRecDepth 100000 in
theorem laws_FnPages.calls (k : Nat) (A0 : Option Addr) (c0 : Nat) (l0 : List Int) (r : Bool) (w : World) (hr0 : Kd.C (Kd.int .u8) w A0 l0.length l0) (hc0 : l0.length ≤ c0) (h : laws_FnPages.f k l0 = some r) :
  Calls Try.prog 7 #[.slice A0 l0.length c0] w fun e w' => e = .returned (.bool r) ∧ Below w.heap.size w w' := by
 have hu42 := Try.underlying42; have HR0 := Aside0.mk hr0; have HC0 := Aside0.mk hc0; clear hr0 hc0; have HB := Aside0.mk (Below.refl w.heap.size w); have H : ((laws_big.f l0).bind fun t518 => (if t518 = true then (some true) else ((spec_DrawPageBreaks.f k l0).bind fun bt519 => ((impl_PageBreaks.f k bt519.1 bt519.2).bind fun bt523 => ((spec_PageBreaks.f k bt519.1 bt519.2).bind fun bt527 => (if (bt523.2 != bt527.2) = true then (some false) else (if bt523.2 = true then ((impl_AreBreaks.f k bt519.1 bt519.2 bt523.1).bind fun t531 => (if t531 = true then (laws_FnPages.j0 k l0 bt519.1 bt519.2 bt523.1 bt523.2 false) else (laws_FnPages.j0 k l0 bt519.1 bt519.2 bt523.1 bt523.2 true))) else (laws_FnPages.j0 k l0 bt519.1 bt519.2 bt523.1 bt523.2 (decide ((bt523.1.length : Int) > 0)))))))))) = some r := h; clear h; replace H := Option.bind_eq_some_iff.mp H; obtain ⟨t518, A20, H⟩ := H; (try dsimp only at H); have A2 := Aside0.mk A20; clear A20; by_cases c3 : t518 = true
 ·subst c3; rw [if_pos rfl] at H; obtain rfl := Option.some.inj H
  go_enter Try.func7, Try.ntmps7; go_wp2_with (first | ((with_reducible refine gate_callee (f := 29) rfl ?_); refine goesM_ (some 23) rfl rfl Try.func29 (by kernel_rfl) rfl #[.slice A0 l0.length c0] rfl ?_; (with_reducible refine (laws_big.calls _ _ l0 true _ ?side1 ?side2 A2.out).mono ?_); (case side1 => exact cw_ HR0.out); (case side2 => exact HC0.out); rintro e w' ⟨rfl, ⟨nd, rfl⟩⟩; refine ⟨_, rfl, ?_⟩)); go_ret; exact ⟨by first | rfl | (simp [errW_none, errW_some] <;> rfl) | (simp [*, errW_none, errW_some] <;> rfl), bl_⟩
 ·replace c3 := Bool.eq_false_iff.mpr c3; subst c3; rw [if_neg (show ¬ (false = true) by decide)] at H; replace H := Option.bind_eq_some_iff.mp H; obtain ⟨⟨t519, t520⟩, A40, H⟩ := H; (try dsimp only at H); have A4 := Aside0.mk A40; clear A40; replace H := Option.bind_eq_some_iff.mp H; obtain ⟨⟨t523, t524⟩, A50, H⟩ := H; (try dsimp only at H); have A5 := Aside0.mk A50; clear A50; replace H := Option.bind_eq_some_iff.mp H; obtain ⟨⟨t527, t528⟩, A60, H⟩ := H; (try dsimp only at H); have A6 := Aside0.mk A60; clear A60; by_cases c7 : (t524 != t528) = true
  ·rw [if_pos c7] at H; have c7b0 : (t524 != t528) = true := c7; (try (have c7b1 : decide (t524 = t528) = false := by simpa using c7)); (try (have c7b2 : (t524 == t528) = false := by simpa using c7)); (try (have c7b3 : ¬ (t524 = t528) := by simpa using c7)); clear c7; obtain rfl := Option.some.inj H
   go_enter Try.func7, Try.ntmps7; go_wp2_with (first | ((with_reducible refine gate_callee (f := 29) rfl ?_); refine goesM_ (some 23) rfl rfl Try.func29 (by kernel_rfl) rfl #[.slice A0 l0.length c0] rfl ?_; (with_reducible refine (laws_big.calls _ _ l0 false _ ?side1 ?side2 A2.out).mono ?_); (case side1 => exact cw_ HR0.out); (case side2 => exact HC0.out); rintro e w' ⟨rfl, ⟨nd, rfl⟩⟩; refine ⟨_, rfl, ?_⟩) | ((with_reducible refine gate_callee (f := 30) rfl ?_); refine goesM_ (some 26) rfl rfl Try.func30 (by kernel_rfl) rfl #[.slice A0 l0.length c0] rfl ?_; (with_reducible refine (spec_DrawPageBreaks.calls k _ _ l0 t519 t520 _ ?side1 ?side2 A4.out).mono ?_); (case side1 => exact cw_ HR0.out); (case side2 => exact HC0.out); rintro e w8 ⟨v521, rfl, ho0, hb⟩; refine ⟨_, rfl, ?_⟩; have n0_ := Aside0.mk (Kd.R_lower ho0 (below_size bl_)); have n1_ := Aside0.mk (below_step bl_ hb); clear HB; have HO522 := n0_; have HB := n1_; clear n0_ n1_; (try clear hb); (try clear hb2); (try clear hk); (try clear hi); (try clear ho0); obtain ⟨Ao9, co9, eo9⟩ := Kd.R_slice HO522.out; subst eo9) | ((with_reducible refine gate_callee (f := 17) rfl ?_); refine goesM_ (some 32) rfl rfl Try.func17 (by kernel_rfl) rfl #[.slice Ao9 t519.length co9, .int .i64 t520] rfl ?_; (with_reducible refine (impl_PageBreaks.calls k _ _ t519 t520 t523 t524 _ ?side1 ?side2 A5.out).mono ?_); (case side1 => exact cw_ ((Kd.R_reads' HO522.out).2.2)); (case side2 => exact (Kd.R_reads' HO522.out).2.1); rintro e w10 ⟨v525, rfl, ho0, hb⟩; refine ⟨_, rfl, ?_⟩; have n0_ := Aside0.mk (Kd.R_below (by exact rw_ HO522.out) hb); have n1_ := Aside0.mk (Kd.R_lower ho0 (below_size bl_)); have n2_ := Aside0.mk (below_step bl_ hb); clear HO522; clear HB; have HO522 := n0_; have HO526 := n1_; have HB := n2_; clear n0_ n1_ n2_; (try clear hb); (try clear hb2); (try clear hk); (try clear hi); (try clear ho0)) | ((with_reducible refine gate_callee (f := 16) rfl ?_); refine goesM_ (some 38) rfl rfl Try.func16 (by kernel_rfl) rfl #[.slice Ao9 t519.length co9, .int .i64 t520] rfl ?_; (with_reducible refine (spec_PageBreaks.calls k _ _ t519 t520 t527 t528 _ ?side1 ?side2 A6.out).mono ?_); (case side1 => exact cw_ ((Kd.R_reads' HO522.out).2.2)); (case side2 => exact (Kd.R_reads' HO522.out).2.1); rintro e w11 ⟨v529, rfl, ho0, hb⟩; refine ⟨_, rfl, ?_⟩; have n0_ := Aside0.mk (Kd.R_below (by exact rw_ HO522.out) hb); have n1_ := Aside0.mk (Kd.R_elder' (by exact rw_ HO526.out) (Kd.R_base ho0) hb); have n2_ := Aside0.mk (Kd.R_lower (Kd.R_new' ho0 (Kd.R_lt (by exact rw_ HO526.out))) (below_size bl_)); have n3_ := Aside0.mk (below_step bl_ hb); clear HO522; clear HO526; clear HB; have HO522 := n0_; have HO526 := n1_; have HO530 := n2_; have HB := n3_; clear n0_ n1_ n2_ n3_; (try clear hb); (try clear hb2); (try clear hk); (try clear hi); (try clear ho0))); go_ret; exact ⟨by first | rfl | (simp [errW_none, errW_some] <;> rfl) | (simp [*, errW_none, errW_some] <;> rfl), bl_⟩
  ·rw [if_neg c7] at H; have c7b0 : (t524 != t528) = false := by simpa using c7
   (try (have c7b1 : decide (t524 = t528) = true := by simpa using c7)); (try (have c7b2 : (t524 == t528) = true := by simpa using c7)); clear c7; have HC12 := Aside0.mk H; clear H; go_enter Try.func7, Try.ntmps7; go_upto_region 8 with (first | ((with_reducible refine gate_callee (f := 29) rfl ?_); refine goesM_ (some 23) rfl rfl Try.func29 (by kernel_rfl) rfl #[.slice A0 l0.length c0] rfl ?_; (with_reducible refine (laws_big.calls _ _ l0 false _ ?side1 ?side2 A2.out).mono ?_); (case side1 => exact cw_ HR0.out); (case side2 => exact HC0.out); rintro e w' ⟨rfl, ⟨nd, rfl⟩⟩; refine ⟨_, rfl, ?_⟩) | ((with_reducible refine gate_callee (f := 30) rfl ?_); refine goesM_ (some 26) rfl rfl Try.func30 (by kernel_rfl) rfl #[.slice A0 l0.length c0] rfl ?_; (with_reducible refine (spec_DrawPageBreaks.calls k _ _ l0 t519 t520 _ ?side1 ?side2 A4.out).mono ?_); (case side1 => exact cw_ HR0.out); (case side2 => exact HC0.out); rintro e w13 ⟨v521, rfl, ho0, hb⟩; refine ⟨_, rfl, ?_⟩; have n0_ := Aside0.mk (Kd.R_lower ho0 (below_size bl_)); have n1_ := Aside0.mk (below_step bl_ hb); clear HB; have HO522 := n0_; have HB := n1_; clear n0_ n1_; (try clear hb); (try clear hb2); (try clear hk); (try clear hi); (try clear ho0); obtain ⟨Ao14, co14, eo14⟩ := Kd.R_slice HO522.out; subst eo14) | ((with_reducible refine gate_callee (f := 17) rfl ?_); refine goesM_ (some 32) rfl rfl Try.func17 (by kernel_rfl) rfl #[.slice Ao14 t519.length co14, .int .i64 t520] rfl ?_; (with_reducible refine (impl_PageBreaks.calls k _ _ t519 t520 t523 t524 _ ?side1 ?side2 A5.out).mono ?_); (case side1 => exact cw_ ((Kd.R_reads' HO522.out).2.2)); (case side2 => exact (Kd.R_reads' HO522.out).2.1); rintro e w15 ⟨v525, rfl, ho0, hb⟩; refine ⟨_, rfl, ?_⟩; have n0_ := Aside0.mk (Kd.R_below (by exact rw_ HO522.out) hb); have n1_ := Aside0.mk (Kd.R_lower ho0 (below_size bl_)); have n2_ := Aside0.mk (below_step bl_ hb); clear HO522; clear HB; have HO522 := n0_; have HO526 := n1_; have HB := n2_; clear n0_ n1_ n2_; (try clear hb); (try clear hb2); (try clear hk); (try clear hi); (try clear ho0)) | ((with_reducible refine gate_callee (f := 16) rfl ?_); refine goesM_ (some 38) rfl rfl Try.func16 (by kernel_rfl) rfl #[.slice Ao14 t519.length co14, .int .i64 t520] rfl ?_; (with_reducible refine (spec_PageBreaks.calls k _ _ t519 t520 t527 t528 _ ?side1 ?side2 A6.out).mono ?_); (case side1 => exact cw_ ((Kd.R_reads' HO522.out).2.2)); (case side2 => exact (Kd.R_reads' HO522.out).2.1); rintro e w16 ⟨v529, rfl, ho0, hb⟩; refine ⟨_, rfl, ?_⟩; have n0_ := Aside0.mk (Kd.R_below (by exact rw_ HO522.out) hb); have n1_ := Aside0.mk (Kd.R_elder' (by exact rw_ HO526.out) (Kd.R_base ho0) hb); have n2_ := Aside0.mk (Kd.R_lower (Kd.R_new' ho0 (Kd.R_lt (by exact rw_ HO526.out))) (below_size bl_)); have n3_ := Aside0.mk (below_step bl_ hb); clear HO522; clear HO526; clear HB; have HO522 := n0_; have HO526 := n1_; have HO530 := n2_; have HB := n3_; clear n0_ n1_ n2_ n3_; (try clear hb); (try clear hb2); (try clear hk); (try clear hi); (try clear ho0)))
   (try simp only [Act.put, List.setIfInBounds_toArray, List.set_cons_zero, List.set_cons_succ]); go_cut [60] (fun v60 wc => ∃ (kq : Nat) (x60_11 : Bool), v60 = .bool x60_11 ∧ Aside0 (laws_FnPages.j0 kq l0 t519 t520 t523 t524 x60_11 = some r) ∧ Aside0 (kq ≤ k) ∧ Aside0 (Kd.R Kd.bool 4 wc w.heap.size (fun _ => True) (.slice Ao14 t519.length co14) t519) ∧ Aside0 (Kd.R (Kd.int .i64) 3 wc w.heap.size (fun _ => True) v525 t523) ∧ Aside0 (Below w.heap.size w wc))
   case first =>
    as_aux_lemma =>
     have H := HC12.out; clear HC12; by_cases c17 : t524 = true
     ·subst c17; rw [if_pos rfl] at H; replace H := Option.bind_eq_some_iff.mp H; obtain ⟨t531, A180, H⟩ := H; (try dsimp only at H); have A18 := Aside0.mk A180; clear A180; by_cases c19 : t531 = true
      ·subst c19; rw [if_pos rfl] at H; have H' := Aside0.mk H; clear H; obtain ⟨Ao20, co20, eo20⟩ := Kd.R_slice HO526.out; subst eo20; go_wp2_with (first | (go_at_call 14; (with_reducible refine (impl_AreBreaks.calls k _ _ t519 t520 _ _ t523 true _ ?side1 ?side2 ?side3 ?side4 A18.out).mono ?_); (case side1 => exact cw_ ((Kd.R_reads' HO522.out).2.2)); (case side2 => exact (Kd.R_reads' HO522.out).2.1); (case side3 => exact cw_ ((Kd.R_reads' HO526.out).2.2)); (case side4 => exact (Kd.R_reads' HO526.out).2.1); rintro e w' ⟨rfl, ⟨nd, rfl⟩⟩)); go_meet
       case rel => exact ⟨_, (false), (by first | rfl | (simp; done) | (simp [*]; done)), H', ⟨by first | omega | exact Nat.le_refl _⟩, ⟨by exact rw_ HO522.out⟩, ⟨by (with_reducible repeat (first | apply Kd.R_alloc | apply Kd.R_drewN | apply Kd.R_drew)); exact Kd.R_mono HO526.out (fun _ hk => trivial)⟩, ⟨bl_⟩⟩
      ·replace c19 := Bool.eq_false_iff.mpr c19; subst c19; rw [if_neg (show ¬ (false = true) by decide)] at H; have H' := Aside0.mk H; clear H; obtain ⟨Ao21, co21, eo21⟩ := Kd.R_slice HO526.out; subst eo21; go_wp2_with (first | (go_at_call 14; (with_reducible refine (impl_AreBreaks.calls k _ _ t519 t520 _ _ t523 false _ ?side1 ?side2 ?side3 ?side4 A18.out).mono ?_); (case side1 => exact cw_ ((Kd.R_reads' HO522.out).2.2)); (case side2 => exact (Kd.R_reads' HO522.out).2.1); (case side3 => exact cw_ ((Kd.R_reads' HO526.out).2.2)); (case side4 => exact (Kd.R_reads' HO526.out).2.1); rintro e w' ⟨rfl, ⟨nd, rfl⟩⟩)); go_meet
       case rel => exact ⟨_, (true), (by first | rfl | (simp; done) | (simp [*]; done)), H', ⟨by first | omega | exact Nat.le_refl _⟩, ⟨by exact rw_ HO522.out⟩, ⟨by (with_reducible repeat (first | apply Kd.R_alloc | apply Kd.R_drewN | apply Kd.R_drew)); exact Kd.R_mono HO526.out (fun _ hk => trivial)⟩, ⟨bl_⟩⟩
     ·replace c17 := Bool.eq_false_iff.mpr c17; subst c17; rw [if_neg (show ¬ (false = true) by decide)] at H; have H' := Aside0.mk H; clear H; obtain ⟨Ao22, co22, eo22⟩ := Kd.R_slice HO526.out; subst eo22; go_wp2; go_meet
      case rel => exact ⟨_, (decide ((t523.length : Int) > 0)), (by first | rfl | (simp; done) | (simp [*]; done)), H', ⟨by first | omega | exact Nat.le_refl _⟩, ⟨by exact rw_ HO522.out⟩, ⟨by (with_reducible repeat (first | apply Kd.R_alloc | apply Kd.R_drewN | apply Kd.R_drew)); exact Kd.R_mono HO526.out (fun _ hk => trivial)⟩, ⟨bl_⟩⟩
   case rest =>
    as_aux_lemma =>
     clear HC12; try clear c1
     try clear c2
     try clear p2
     try clear c3
     try clear c7
     try clear c7b0
     try clear c7b1
     try clear c7b2
     try clear c16
     try clear c17
     try clear c19
     obtain ⟨kq, x60_11, rfl, HA, HJ11, HO_3, HO_5, HB⟩ := hcut
     cases kq with
     | zero => exact absurd HA.out (by simp [laws_FnPages.j0])
     | succ kj11 =>
      have H := HA.out; clear HA; simp only [laws_FnPages.j0] at H; by_cases c23 : x60_11 = true
      ·subst c23; rw [if_pos rfl] at H; obtain rfl := Option.some.inj H
       go_wp2; go_ret; exact ⟨by first | rfl | (simp [errW_none, errW_some] <;> rfl) | (simp [*, errW_none, errW_some] <;> rfl), bl_⟩
      ·replace c23 := Bool.eq_false_iff.mpr c23; subst c23; rw [if_neg (show ¬ (false = true) by decide)] at H; have HC24 := Aside0.mk H; clear H; go_upto_if 61 with (fail)
       go_cut [] (fun wc => ∃ (kq : Nat), Aside0 (laws_FnPages.j2 kq l0 = some r) ∧ Aside0 (kq ≤ kj11) ∧ Aside0 (Below w.heap.size w wc))
       case first =>
        as_aux_lemma =>
         have H := HC24.out; clear HC24; by_cases c25 : t524 = true
         ·subst c25; rw [if_pos rfl] at H; replace H := Option.bind_eq_some_iff.mp H; obtain ⟨⟨t532, t533⟩, A260, H⟩ := H; (try dsimp only at H); have A26 := Aside0.mk A260; clear A260; have HC27 := Aside0.mk H; clear H; go_upto_region 12 with (first | ((with_reducible refine gate_callee (f := 17) rfl ?_); refine goesM_ (some 66) rfl rfl Try.func17 (by kernel_rfl) rfl #[.slice Ao14 t519.length co14, .int .i64 (wrap64 (t520 + 1))] rfl ?_; (with_reducible refine (impl_PageBreaks.calls kj11 _ _ t519 (wrap64 (t520 + 1)) t532 t533 _ ?side1 ?side2 A26.out).mono ?_); (case side1 => exact cw_ ((Kd.R_reads' HO_3.out).2.2)); (case side2 => exact (Kd.R_reads' HO_3.out).2.1); rintro e w28 ⟨v534, rfl, ho0, hb⟩; refine ⟨_, rfl, ?_⟩; have n0_ := Aside0.mk (Kd.R_below (by exact rw_ HO_3.out) hb); have n1_ := Aside0.mk (Kd.R_elder' (by exact rw_ HO_5.out) (Kd.R_base ho0) hb); have n2_ := Aside0.mk (Kd.R_lower (Kd.R_new' ho0 (Kd.R_lt (by exact rw_ HO_5.out))) (below_size bl_)); have n3_ := Aside0.mk (below_step bl_ hb); clear HO_3; clear HO_5; clear HB; have HO_3 := n0_; have HO_5 := n1_; have HO535 := n2_; have HB := n3_; clear n0_ n1_ n2_ n3_; (try clear hb); (try clear hb2); (try clear hk); (try clear hi); (try clear ho0)))
          (try simp only [Act.put, List.setIfInBounds_toArray, List.set_cons_zero, List.set_cons_succ]); go_cut [90] (fun v90 wc => ∃ (kq : Nat) (x90_26 : Bool), v90 = .bool x90_26 ∧ Aside0 (laws_FnPages.j1 kq l0 x90_26 = some r) ∧ Aside0 (kq ≤ kj11) ∧ Aside0 (Below w.heap.size w wc))
          case first =>
           as_aux_lemma =>
            have H := HC27.out; clear HC27; by_cases c29 : t533 = true
            ·subst c29; rw [if_pos rfl] at H; replace H := Option.bind_eq_some_iff.mp H; obtain ⟨t536, A300, H⟩ := H; (try dsimp only at H); have A30 := Aside0.mk A300; clear A300; replace H := Option.bind_eq_some_iff.mp H; obtain ⟨t537, A310, H⟩ := H; (try dsimp only at H); have A31 := Aside0.mk A310; clear A310; by_cases c32 : t536 > t537
             ·rw [if_pos c32] at H; have c32b0 : decide (t537 < t536) = true := decide_eq_true c32; clear c32; (first | rw [c32b0] | (simp only [i64_w, i32_w]; rw [c32b0]) | skip); have H' := Aside0.mk H; clear H; obtain ⟨Ao33, co33, eo33⟩ := Kd.R_slice HO535.out; subst eo33; go_wp2_with (first | (go_at_call 31; (with_reducible refine (impl_CountPages.calls _ _ t532 t536 _ ?side1 ?side2 A30.out).mono ?_); (case side1 => exact cw_ ((Kd.R_reads' HO535.out).2.2)); (case side2 => exact (Kd.R_reads' HO535.out).2.1); rintro e w' ⟨rfl, ⟨nd, rfl⟩⟩; obtain ⟨Ao34, co34, eo34⟩ := Kd.R_slice HO_5.out; subst eo34; clear A30) | (go_at_call 31; (with_reducible refine (impl_CountPages.calls _ _ t523 t537 _ ?side1 ?side2 A31.out).mono ?_); (case side1 => exact cw_ ((Kd.R_reads' HO_5.out).2.2)); (case side2 => exact (Kd.R_reads' HO_5.out).2.1); rintro e w' ⟨rfl, ⟨nd, rfl⟩⟩)); go_meet
              case rel => exact ⟨_, (true), (by first | rfl | (simp; done) | (simp [*]; done)), H', ⟨by have := HJ11.out; first | omega | exact Nat.le_refl _⟩, ⟨bl_⟩⟩
             ·rw [if_neg c32] at H; have c32b0 : decide (t537 < t536) = false := decide_eq_false c32; clear c32; (first | rw [c32b0] | (simp only [i64_w, i32_w]; rw [c32b0]) | skip); replace H := Option.bind_eq_some_iff.mp H; obtain ⟨t538, A350, H⟩ := H; (try dsimp only at H); have A35 := Aside0.mk A350; clear A350; replace H := Option.bind_eq_some_iff.mp H; obtain ⟨t539, A360, H⟩ := H; (try dsimp only at H); have A36 := Aside0.mk A360; clear A360; by_cases c37 : t538 = t539
              ·rw [if_pos c37] at H; have c37b0 : (t538 == t539) = true := beq_iff_eq.mpr c37; have c37b1 : (t538 != t539) = false := bne_eq_false_iff_eq.mpr c37; clear c37; have H' := Aside0.mk H; clear H; obtain ⟨Ao38, co38, eo38⟩ := Kd.R_slice HO535.out; subst eo38; go_wp2_with (first | (go_at_call 31; (with_reducible refine (impl_CountPages.calls _ _ t532 t536 _ ?side1 ?side2 A30.out).mono ?_); (case side1 => exact cw_ ((Kd.R_reads' HO535.out).2.2)); (case side2 => exact (Kd.R_reads' HO535.out).2.1); rintro e w' ⟨rfl, ⟨nd, rfl⟩⟩; obtain ⟨Ao39, co39, eo39⟩ := Kd.R_slice HO_5.out; subst eo39; clear A30) | (go_at_call 31; (with_reducible refine (impl_CountPages.calls _ _ t523 t537 _ ?side1 ?side2 A31.out).mono ?_); (case side1 => exact cw_ ((Kd.R_reads' HO_5.out).2.2)); (case side2 => exact (Kd.R_reads' HO_5.out).2.1); rintro e w' ⟨rfl, ⟨nd, rfl⟩⟩; clear A31) | (go_at_call 10; (with_reducible refine (impl_PageOf.calls kj11 _ _ t523 (t519.length : Int) t538 _ ?side1 ?side2 A35.out).mono ?_); (case side1 => exact cw_ ((Kd.R_reads' HO_5.out).2.2)); (case side2 => exact (Kd.R_reads' HO_5.out).2.1); rintro e w' ⟨rfl, ⟨nd, rfl⟩⟩) | (go_at_call 31; (with_reducible refine (impl_CountPages.calls _ _ t523 t539 _ ?side1 ?side2 A36.out).mono ?_); (case side1 => exact cw_ ((Kd.R_reads' HO_5.out).2.2)); (case side2 => exact (Kd.R_reads' HO_5.out).2.1); rintro e w' ⟨rfl, ⟨nd, rfl⟩⟩)); go_meet
               case rel => exact ⟨_, (false), (by first | rfl | (simp; done) | (simp [*]; done)), H', ⟨by have := HJ11.out; first | omega | exact Nat.le_refl _⟩, ⟨bl_⟩⟩
              ·rw [if_neg c37] at H; have c37b0 : (t538 == t539) = false := beq_eq_false_iff_ne.mpr c37; have c37b1 : (t538 != t539) = true := bne_iff_ne.mpr c37; have H' := Aside0.mk H; clear H; obtain ⟨Ao40, co40, eo40⟩ := Kd.R_slice HO535.out; subst eo40; go_wp2_with (first | (go_at_call 31; (with_reducible refine (impl_CountPages.calls _ _ t532 t536 _ ?side1 ?side2 A30.out).mono ?_); (case side1 => exact cw_ ((Kd.R_reads' HO535.out).2.2)); (case side2 => exact (Kd.R_reads' HO535.out).2.1); rintro e w' ⟨rfl, ⟨nd, rfl⟩⟩; obtain ⟨Ao41, co41, eo41⟩ := Kd.R_slice HO_5.out; subst eo41; clear A30) | (go_at_call 31; (with_reducible refine (impl_CountPages.calls _ _ t523 t537 _ ?side1 ?side2 A31.out).mono ?_); (case side1 => exact cw_ ((Kd.R_reads' HO_5.out).2.2)); (case side2 => exact (Kd.R_reads' HO_5.out).2.1); rintro e w' ⟨rfl, ⟨nd, rfl⟩⟩; clear A31) | (go_at_call 10; (with_reducible refine (impl_PageOf.calls kj11 _ _ t523 (t519.length : Int) t538 _ ?side1 ?side2 A35.out).mono ?_); (case side1 => exact cw_ ((Kd.R_reads' HO_5.out).2.2)); (case side2 => exact (Kd.R_reads' HO_5.out).2.1); rintro e w' ⟨rfl, ⟨nd, rfl⟩⟩) | (go_at_call 31; (with_reducible refine (impl_CountPages.calls _ _ t523 t539 _ ?side1 ?side2 A36.out).mono ?_); (case side1 => exact cw_ ((Kd.R_reads' HO_5.out).2.2)); (case side2 => exact (Kd.R_reads' HO_5.out).2.1); rintro e w' ⟨rfl, ⟨nd, rfl⟩⟩)); go_meet
               case rel => exact ⟨_, (decide ((t519.length : Int) > 0)), (by first | rfl | (simp; done) | (simp [*]; done)), H', ⟨by have := HJ11.out; first | omega | exact Nat.le_refl _⟩, ⟨bl_⟩⟩
            ·replace c29 := Bool.eq_false_iff.mpr c29; subst c29; rw [if_neg (show ¬ (false = true) by decide)] at H; replace H := Option.bind_eq_some_iff.mp H; obtain ⟨t540, A420, H⟩ := H; (try dsimp only at H); have A42 := Aside0.mk A420; clear A420; replace H := Option.bind_eq_some_iff.mp H; obtain ⟨t541, A430, H⟩ := H; (try dsimp only at H); have A43 := Aside0.mk A430; clear A430; by_cases c44 : t540 = t541
             ·rw [if_pos c44] at H; have c44b0 : (t540 == t541) = true := beq_iff_eq.mpr c44; have c44b1 : (t540 != t541) = false := bne_eq_false_iff_eq.mpr c44; clear c44; have H' := Aside0.mk H; clear H; obtain ⟨Ao45, co45, eo45⟩ := Kd.R_slice HO_5.out; subst eo45; go_wp2_with (first | (go_at_call 10; (with_reducible refine (impl_PageOf.calls kj11 _ _ t523 (t519.length : Int) t540 _ ?side1 ?side2 A42.out).mono ?_); (case side1 => exact cw_ ((Kd.R_reads' HO_5.out).2.2)); (case side2 => exact (Kd.R_reads' HO_5.out).2.1); rintro e w' ⟨rfl, ⟨nd, rfl⟩⟩) | (go_at_call 31; (with_reducible refine (impl_CountPages.calls _ _ t523 t541 _ ?side1 ?side2 A43.out).mono ?_); (case side1 => exact cw_ ((Kd.R_reads' HO_5.out).2.2)); (case side2 => exact (Kd.R_reads' HO_5.out).2.1); rintro e w' ⟨rfl, ⟨nd, rfl⟩⟩)); go_meet
              case rel => exact ⟨_, (false), (by first | rfl | (simp; done) | (simp [*]; done)), H', ⟨by have := HJ11.out; first | omega | exact Nat.le_refl _⟩, ⟨bl_⟩⟩
             ·rw [if_neg c44] at H; have c44b0 : (t540 == t541) = false := beq_eq_false_iff_ne.mpr c44; have c44b1 : (t540 != t541) = true := bne_iff_ne.mpr c44; have H' := Aside0.mk H; clear H; obtain ⟨Ao46, co46, eo46⟩ := Kd.R_slice HO_5.out; subst eo46; go_wp2_with (first | (go_at_call 10; (with_reducible refine (impl_PageOf.calls kj11 _ _ t523 (t519.length : Int) t540 _ ?side1 ?side2 A42.out).mono ?_); (case side1 => exact cw_ ((Kd.R_reads' HO_5.out).2.2)); (case side2 => exact (Kd.R_reads' HO_5.out).2.1); rintro e w' ⟨rfl, ⟨nd, rfl⟩⟩) | (go_at_call 31; (with_reducible refine (impl_CountPages.calls _ _ t523 t541 _ ?side1 ?side2 A43.out).mono ?_); (case side1 => exact cw_ ((Kd.R_reads' HO_5.out).2.2)); (case side2 => exact (Kd.R_reads' HO_5.out).2.1); rintro e w' ⟨rfl, ⟨nd, rfl⟩⟩)); go_meet
              case rel => exact ⟨_, (decide ((t519.length : Int) > 0)), (by first | rfl | (simp; done) | (simp [*]; done)), H', ⟨by have := HJ11.out; first | omega | exact Nat.le_refl _⟩, ⟨bl_⟩⟩
          case rest =>
           as_aux_lemma =>
            clear HC27; try clear c1
            try clear c2
            try clear p2
            try clear c3
            try clear c4
            try clear p6
            try clear c7
            try clear c7b0
            try clear c7b1
            try clear c7b2
            try clear c16
            try clear c17
            try clear c19
            try clear c23
            try clear c25
            try clear c29
            try clear c30
            try clear c32
            try clear c32b0
            try clear c37
            try clear c37b0
            try clear c37b1
            try clear c44
            try clear c44b0
            try clear c44b1
            try clear p2
            obtain ⟨kq, x90_26, rfl, HA, HJ26, HB⟩ := hcut
            cases kq with
            | zero => exact absurd HA.out (by simp [laws_FnPages.j1])
            | succ kj26 =>
             have H := HA.out; clear HA; simp only [laws_FnPages.j1] at H; by_cases c47 : x90_26 = true
             ·subst c47; rw [if_pos rfl] at H; obtain rfl := Option.some.inj H
              go_wp2; go_ret; exact ⟨by first | rfl | (simp [errW_none, errW_some] <;> rfl) | (simp [*, errW_none, errW_some] <;> rfl), bl_⟩
             ·replace c47 := Bool.eq_false_iff.mpr c47; subst c47; rw [if_neg (show ¬ (false = true) by decide)] at H; have H' := Aside0.mk H; clear H; go_wp2; go_meet
              case rel => exact ⟨_, H', ⟨by have := HJ11.out; have := HJ26.out; first | omega | exact Nat.le_refl _⟩, ⟨bl_⟩⟩
         ·replace c25 := Bool.eq_false_iff.mpr c25; subst c25; rw [if_neg (show ¬ (false = true) by decide)] at H; have H' := Aside0.mk H; clear H; go_wp2; go_meet
          case rel => exact ⟨_, H', ⟨by have := HJ11.out; first | omega | exact Nat.le_refl _⟩, ⟨bl_⟩⟩
       case rest =>
        as_aux_lemma =>
         clear HC24; try clear c1
         try clear c2
         try clear p2
         try clear c3
         try clear c4
         try clear p6
         try clear c7
         try clear c7b0
         try clear c7b1
         try clear c7b2
         try clear c16
         try clear c17
         try clear c19
         try clear c23
         try clear c25
         try clear c29
         try clear c30
         try clear c32
         try clear c32b0
         try clear c37
         try clear c37b0
         try clear c37b1
         try clear c44
         try clear c44b0
         try clear c44b1
         try clear c47
         try clear p2
         try clear p6
         obtain ⟨kq, HA, HJ23, HB⟩ := hcut
         cases kq with
         | zero => exact absurd HA.out (by simp [laws_FnPages.j2])
         | succ kj23 =>
          have H := HA.out; clear HA; simp only [laws_FnPages.j2] at H; replace H := Option.bind_eq_some_iff.mp H; obtain ⟨⟨t542, t543, t544⟩, A480, H⟩ := H; (try dsimp only at H); have A48 := Aside0.mk A480; clear A480; have HC49 := Aside0.mk H; clear H; go_upto_region 15 with (first | ((with_reducible refine gate_callee (f := 32) rfl ?_); refine goesM_ (some 93) rfl rfl Try.func32 (by kernel_rfl) rfl #[.slice A0 l0.length c0] rfl ?_; (with_reducible refine (spec_DrawAreBreaks.calls kj23 _ _ l0 t542 t543 t544 _ ?side1 ?side2 A48.out).mono ?_); (case side1 => exact cw_ (Kd.C_below HR0.out HB.out)); (case side2 => exact HC0.out); rintro e w50 ⟨v545, v547, rfl, ho0, ho1, hb⟩; refine ⟨_, rfl, ?_⟩; have n0_ := Aside0.mk (Kd.R_lower ho0 (below_size bl_)); have n1_ := Aside0.mk (Kd.R_lower ho1 (below_size bl_)); have n2_ := Aside0.mk (below_step bl_ hb); clear HB; have HO546 := n0_; have HO548 := n1_; have HB := n2_; clear n0_ n1_ n2_; (try clear hb); (try clear hb2); (try clear hk); (try clear hi); (try clear ho0); (try clear ho1)))
          (try simp only [Act.put, List.setIfInBounds_toArray, List.set_cons_zero, List.set_cons_succ]); go_cut [113] (fun v113 wc => ∃ (kq : Nat) (x113_48 : Bool), v113 = .bool x113_48 ∧ Aside0 (laws_FnPages.j3 kq l0 t542 t543 t544 x113_48 = some r) ∧ Aside0 (kq ≤ kj23) ∧ Aside0 (Kd.R Kd.bool 4 wc w.heap.size (fun _ => True) v545 t542) ∧ Aside0 (Kd.R (Kd.int .i64) 3 wc w.heap.size (fun _ => True) v547 t544) ∧ Aside0 (Below w.heap.size w wc))
          case first =>
           as_aux_lemma =>
            have H := HC49.out; clear HC49; replace H := Option.bind_eq_some_iff.mp H; obtain ⟨t549, A510, H⟩ := H; (try dsimp only at H); have A51 := Aside0.mk A510; clear A510; by_cases c52 : t549 = true
            ·subst c52; rw [if_pos rfl] at H; by_cases c53 : (t542.length : Int) ≤ 60
             ·rw [if_pos c53] at H; have c53b0 : decide ((t542.length : Int) ≤ 60) = true := decide_eq_true c53; have c53b1 : decide (t542.length ≤ 60) = true := decide_eq_true (by omega); clear c53; (first | rw [c53b0] | (simp only [i64_w, i32_w]; rw [c53b0]) | skip); by_cases c54 : t543 ≥ 1
              ·rw [if_pos c54] at H; have c54b0 : decide (1 ≤ t543) = true := decide_eq_true c54; clear c54; have H' := Aside0.mk H; clear H; obtain ⟨Ao55, co55, eo55⟩ := Kd.R_slice HO546.out; subst eo55; obtain ⟨Ao56, co56, eo56⟩ := Kd.R_slice HO548.out; subst eo56; go_wp2_with (first | ((with_reducible refine gate_callee (f := 14) rfl ?_); refine goesM_ (some 100) rfl rfl Try.func14 (by kernel_rfl) rfl #[.slice Ao55 t542.length co55, .int .i64 t543, .slice Ao56 t544.length co56] rfl ?_; (with_reducible refine (impl_AreBreaks.calls kj23 _ _ t542 t543 _ _ t544 true _ ?side1 ?side2 ?side3 ?side4 A51.out).mono ?_); (case side1 => exact cw_ ((Kd.R_reads' HO546.out).2.2)); (case side2 => exact (Kd.R_reads' HO546.out).2.1); (case side3 => exact cw_ ((Kd.R_reads' HO548.out).2.2)); (case side4 => exact (Kd.R_reads' HO548.out).2.1); rintro e w' ⟨rfl, ⟨nd, rfl⟩⟩; refine ⟨_, rfl, ?_⟩)); go_meet
               case rel => exact ⟨_, (decide (t543 ≤ 60)), (by first | rfl | (simp; done) | (simp [*]; done)), H', ⟨by have := HJ11.out; have := HJ23.out; first | omega | exact Nat.le_refl _⟩, ⟨by exact rw_ HO546.out⟩, ⟨by exact rw_ HO548.out⟩, ⟨bl_⟩⟩
              ·rw [if_neg c54] at H; have c54b0 : decide (1 ≤ t543) = false := decide_eq_false c54; clear c54; have H' := Aside0.mk H; clear H; obtain ⟨Ao57, co57, eo57⟩ := Kd.R_slice HO546.out; subst eo57; obtain ⟨Ao58, co58, eo58⟩ := Kd.R_slice HO548.out; subst eo58; go_wp2_with (first | ((with_reducible refine gate_callee (f := 14) rfl ?_); refine goesM_ (some 100) rfl rfl Try.func14 (by kernel_rfl) rfl #[.slice Ao57 t542.length co57, .int .i64 t543, .slice Ao58 t544.length co58] rfl ?_; (with_reducible refine (impl_AreBreaks.calls kj23 _ _ t542 t543 _ _ t544 true _ ?side1 ?side2 ?side3 ?side4 A51.out).mono ?_); (case side1 => exact cw_ ((Kd.R_reads' HO546.out).2.2)); (case side2 => exact (Kd.R_reads' HO546.out).2.1); (case side3 => exact cw_ ((Kd.R_reads' HO548.out).2.2)); (case side4 => exact (Kd.R_reads' HO548.out).2.1); rintro e w' ⟨rfl, ⟨nd, rfl⟩⟩; refine ⟨_, rfl, ?_⟩)); go_meet
               case rel => exact ⟨_, (false), (by first | rfl | (simp; done) | (simp [*]; done)), H', ⟨by have := HJ11.out; have := HJ23.out; first | omega | exact Nat.le_refl _⟩, ⟨by exact rw_ HO546.out⟩, ⟨by exact rw_ HO548.out⟩, ⟨bl_⟩⟩
             ·rw [if_neg c53] at H; have c53b0 : decide ((t542.length : Int) ≤ 60) = false := decide_eq_false c53; have c53b1 : decide (t542.length ≤ 60) = false := decide_eq_false (by omega); clear c53; (first | rw [c53b0] | (simp only [i64_w, i32_w]; rw [c53b0]) | skip); have H' := Aside0.mk H; clear H; obtain ⟨Ao59, co59, eo59⟩ := Kd.R_slice HO546.out; subst eo59; obtain ⟨Ao60, co60, eo60⟩ := Kd.R_slice HO548.out; subst eo60; go_wp2_with (first | ((with_reducible refine gate_callee (f := 14) rfl ?_); refine goesM_ (some 100) rfl rfl Try.func14 (by kernel_rfl) rfl #[.slice Ao59 t542.length co59, .int .i64 t543, .slice Ao60 t544.length co60] rfl ?_; (with_reducible refine (impl_AreBreaks.calls kj23 _ _ t542 t543 _ _ t544 true _ ?side1 ?side2 ?side3 ?side4 A51.out).mono ?_); (case side1 => exact cw_ ((Kd.R_reads' HO546.out).2.2)); (case side2 => exact (Kd.R_reads' HO546.out).2.1); (case side3 => exact cw_ ((Kd.R_reads' HO548.out).2.2)); (case side4 => exact (Kd.R_reads' HO548.out).2.1); rintro e w' ⟨rfl, ⟨nd, rfl⟩⟩; refine ⟨_, rfl, ?_⟩)); go_meet
              case rel => exact ⟨_, (false), (by first | rfl | (simp; done) | (simp [*]; done)), H', ⟨by have := HJ11.out; have := HJ23.out; first | omega | exact Nat.le_refl _⟩, ⟨by exact rw_ HO546.out⟩, ⟨by exact rw_ HO548.out⟩, ⟨bl_⟩⟩
            ·replace c52 := Bool.eq_false_iff.mpr c52; subst c52; rw [if_neg (show ¬ (false = true) by decide)] at H; have H' := Aside0.mk H; clear H; obtain ⟨Ao61, co61, eo61⟩ := Kd.R_slice HO546.out; subst eo61; obtain ⟨Ao62, co62, eo62⟩ := Kd.R_slice HO548.out; subst eo62; go_wp2_with (first | ((with_reducible refine gate_callee (f := 14) rfl ?_); refine goesM_ (some 100) rfl rfl Try.func14 (by kernel_rfl) rfl #[.slice Ao61 t542.length co61, .int .i64 t543, .slice Ao62 t544.length co62] rfl ?_; (with_reducible refine (impl_AreBreaks.calls kj23 _ _ t542 t543 _ _ t544 false _ ?side1 ?side2 ?side3 ?side4 A51.out).mono ?_); (case side1 => exact cw_ ((Kd.R_reads' HO546.out).2.2)); (case side2 => exact (Kd.R_reads' HO546.out).2.1); (case side3 => exact cw_ ((Kd.R_reads' HO548.out).2.2)); (case side4 => exact (Kd.R_reads' HO548.out).2.1); rintro e w' ⟨rfl, ⟨nd, rfl⟩⟩; refine ⟨_, rfl, ?_⟩)); go_meet
             case rel => exact ⟨_, (false), (by first | rfl | (simp; done) | (simp [*]; done)), H', ⟨by have := HJ11.out; have := HJ23.out; first | omega | exact Nat.le_refl _⟩, ⟨by exact rw_ HO546.out⟩, ⟨by exact rw_ HO548.out⟩, ⟨bl_⟩⟩
          case rest =>
           as_aux_lemma =>
            clear HC49; try clear c1
            try clear c2
            try clear p2
            try clear c3
            try clear c4
            try clear c5
            try clear p6
            try clear c7
            try clear c7b0
            try clear c7b1
            try clear c7b2
            try clear c14
            try clear c16
            try clear c17
            try clear c19
            try clear c23
            try clear c25
            try clear c29
            try clear c30
            try clear c32
            try clear c32b0
            try clear c37
            try clear c37b0
            try clear c37b1
            try clear c44
            try clear c44b0
            try clear c44b1
            try clear c47
            try clear c52
            try clear c53
            try clear c53b0
            try clear c53b1
            try clear c54
            try clear c54b0
            try clear p2
            try clear p6
            obtain ⟨kq, x113_48, rfl, HA, HJ48, HO_11, HO_13, HB⟩ := hcut
            cases kq with
            | zero => exact absurd HA.out (by simp [laws_FnPages.j3])
            | succ kj48 =>
             have H := HA.out; clear HA; simp only [laws_FnPages.j3] at H; have HC63 := Aside0.mk H; clear H; go_upto_if 113 with (fail)
             go_cut [] (fun wc => ∃ (kq : Nat), Aside0 (laws_FnPages.j5 kq l0 = some r) ∧ Aside0 (kq ≤ kj48) ∧ Aside0 (Below w.heap.size w wc))
             case first =>
              as_aux_lemma =>
               have H := HC63.out; clear HC63; by_cases c64 : x113_48 = true
               ·subst c64; rw [if_pos rfl] at H; replace H := Option.bind_eq_some_iff.mp H; obtain ⟨⟨t550, t551⟩, A650, H⟩ := H; (try dsimp only at H); have A65 := Aside0.mk A650; clear A650; have HC66 := Aside0.mk H; clear H; obtain ⟨Ao67, co67, eo67⟩ := Kd.R_slice HO_11.out; subst eo67; go_upto_region 17 with (first | ((with_reducible refine gate_callee (f := 17) rfl ?_); refine goesM_ (some 117) rfl rfl Try.func17 (by kernel_rfl) rfl #[.slice Ao67 t542.length co67, .int .i64 t543] rfl ?_; (with_reducible refine (impl_PageBreaks.calls kj48 _ _ t542 t543 t550 t551 _ ?side1 ?side2 A65.out).mono ?_); (case side1 => exact cw_ ((Kd.R_reads' HO_11.out).2.2)); (case side2 => exact (Kd.R_reads' HO_11.out).2.1); rintro e w68 ⟨v552, rfl, ho0, hb⟩; refine ⟨_, rfl, ?_⟩; have n0_ := Aside0.mk (Kd.R_below (by exact rw_ HO_11.out) hb); have n1_ := Aside0.mk (Kd.R_elder' (by exact rw_ HO_13.out) (Kd.R_base ho0) hb); have n2_ := Aside0.mk (Kd.R_lower (Kd.R_new' ho0 (Kd.R_lt (by exact rw_ HO_13.out))) (below_size bl_)); have n3_ := Aside0.mk (below_step bl_ hb); clear HO_11; clear HO_13; clear HB; have HO_11 := n0_; have HO_13 := n1_; have HO553 := n2_; have HB := n3_; clear n0_ n1_ n2_ n3_; (try clear hb); (try clear hb2); (try clear hk); (try clear hi); (try clear ho0)))
                (try simp only [Act.put, List.setIfInBounds_toArray, List.set_cons_zero, List.set_cons_succ]); go_cut [128] (fun v128 wc => ∃ (kq : Nat) (x128_65 : Bool), v128 = .bool x128_65 ∧ Aside0 (laws_FnPages.j4 kq l0 x128_65 = some r) ∧ Aside0 (kq ≤ kj48) ∧ Aside0 (Below w.heap.size w wc))
                case first =>
                 as_aux_lemma =>
                  have H := HC66.out; clear HC66; by_cases c69 : t551 = true
                  ·subst c69; rw [if_pos rfl] at H; replace H := Option.bind_eq_some_iff.mp H; obtain ⟨t554, A700, H⟩ := H; (try dsimp only at H); have A70 := Aside0.mk A700; clear A700; replace H := Option.bind_eq_some_iff.mp H; obtain ⟨t555, A710, H⟩ := H; (try dsimp only at H); have A71 := Aside0.mk A710; clear A710; have H' := Aside0.mk H; clear H; obtain ⟨Ao72, co72, eo72⟩ := Kd.R_slice HO553.out; subst eo72; go_wp2_with (first | (go_at_call 31; (with_reducible refine (impl_CountPages.calls _ _ t550 t554 _ ?side1 ?side2 A70.out).mono ?_); (case side1 => exact cw_ ((Kd.R_reads' HO553.out).2.2)); (case side2 => exact (Kd.R_reads' HO553.out).2.1); rintro e w' ⟨rfl, ⟨nd, rfl⟩⟩; obtain ⟨Ao73, co73, eo73⟩ := Kd.R_slice HO_13.out; subst eo73; clear A70) | (go_at_call 31; (with_reducible refine (impl_CountPages.calls _ _ t544 t555 _ ?side1 ?side2 A71.out).mono ?_); (case side1 => exact cw_ ((Kd.R_reads' HO_13.out).2.2)); (case side2 => exact (Kd.R_reads' HO_13.out).2.1); rintro e w' ⟨rfl, ⟨nd, rfl⟩⟩)); go_meet
                   case rel => exact ⟨_, (decide (t554 > t555)), (by first | rfl | (simp; done) | (simp [*]; done)), H', ⟨by have := HJ11.out; have := HJ23.out; have := HJ48.out; first | omega | exact Nat.le_refl _⟩, ⟨bl_⟩⟩
                  ·replace c69 := Bool.eq_false_iff.mpr c69; subst c69; rw [if_neg (show ¬ (false = true) by decide)] at H; have H' := Aside0.mk H; clear H; go_wp2; go_meet
                   case rel => exact ⟨_, (true), (by first | rfl | (simp; done) | (simp [*]; done)), H', ⟨by have := HJ11.out; have := HJ23.out; have := HJ48.out; first | omega | exact Nat.le_refl _⟩, ⟨bl_⟩⟩
                case rest =>
                 as_aux_lemma =>
                  clear HC66; try clear c1
                  try clear c2
                  try clear p2
                  try clear c3
                  try clear c4
                  try clear c5
                  try clear c6
                  try clear p6
                  try clear c7
                  try clear c7b0
                  try clear c7b1
                  try clear c7b2
                  try clear c14
                  try clear c16
                  try clear c17
                  try clear c19
                  try clear c23
                  try clear c25
                  try clear c29
                  try clear c30
                  try clear c32
                  try clear c32b0
                  try clear c37
                  try clear c37b0
                  try clear c37b1
                  try clear c44
                  try clear c44b0
                  try clear c44b1
                  try clear c47
                  try clear c52
                  try clear c53
                  try clear c53b0
                  try clear c53b1
                  try clear c54
                  try clear c54b0
                  try clear c64
                  try clear p64
                  try clear c69
                  try clear p2
                  try clear p6
                  obtain ⟨kq, x128_65, rfl, HA, HJ65, HB⟩ := hcut
                  cases kq with
                  | zero => exact absurd HA.out (by simp [laws_FnPages.j4])
                  | succ kj65 =>
                   have H := HA.out; clear HA; simp only [laws_FnPages.j4] at H; by_cases c74 : x128_65 = true
                   ·subst c74; rw [if_pos rfl] at H; obtain rfl := Option.some.inj H
                    go_wp2; go_ret; exact ⟨by first | rfl | (simp [errW_none, errW_some] <;> rfl) | (simp [*, errW_none, errW_some] <;> rfl), bl_⟩
                   ·replace c74 := Bool.eq_false_iff.mpr c74; subst c74; rw [if_neg (show ¬ (false = true) by decide)] at H; have H' := Aside0.mk H; clear H; go_wp2; go_meet
                    case rel => exact ⟨_, H', ⟨by have := HJ11.out; have := HJ23.out; have := HJ48.out; have := HJ65.out; first | omega | exact Nat.le_refl _⟩, ⟨bl_⟩⟩
               ·replace c64 := Bool.eq_false_iff.mpr c64; subst c64; rw [if_neg (show ¬ (false = true) by decide)] at H; have H' := Aside0.mk H; clear H; go_wp2; go_meet
                case rel => exact ⟨_, H', ⟨by have := HJ11.out; have := HJ23.out; have := HJ48.out; first | omega | exact Nat.le_refl _⟩, ⟨bl_⟩⟩
             case rest =>
              as_aux_lemma =>
               clear HC63; try clear c1
               try clear c2
               try clear p2
               try clear c3
               try clear c4
               try clear c5
               try clear c6
               try clear p6
               try clear c7
               try clear c7b0
               try clear c7b1
               try clear c7b2
               try clear c14
               try clear c16
               try clear c17
               try clear c19
               try clear c23
               try clear c25
               try clear c29
               try clear c30
               try clear c32
               try clear c32b0
               try clear c37
               try clear c37b0
               try clear c37b1
               try clear c44
               try clear c44b0
               try clear c44b1
               try clear c47
               try clear c52
               try clear c53
               try clear c53b0
               try clear c53b1
               try clear c54
               try clear c54b0
               try clear c64
               try clear p64
               try clear c69
               try clear c74
               try clear p2
               try clear p6
               try clear p64
               obtain ⟨kq, HA, HJ62, HB⟩ := hcut
               cases kq with
               | zero => exact absurd HA.out (by simp [laws_FnPages.j5])
               | succ kj62 =>
                have H := HA.out; clear HA; simp only [laws_FnPages.j5] at H; replace H := Option.bind_eq_some_iff.mp H; obtain ⟨⟨t556, t559, t560, t561⟩, A750, H⟩ := H; (try dsimp only at H); have A75 := Aside0.mk A750; clear A750; replace H := Option.bind_eq_some_iff.mp H; obtain ⟨t563, A760, H⟩ := H; (try dsimp only at H); have A76 := Aside0.mk A760; clear A760; replace H := Option.bind_eq_some_iff.mp H; obtain ⟨t566, A770, H⟩ := H; (try dsimp only at H); have A77 := Aside0.mk A770; clear A770; have H' := Aside0.mk H; clear H; go_wp2_with (first | ((with_reducible refine gate_callee (f := 33) rfl ?_); refine goesM_ (some 131) rfl rfl Try.func33 (by kernel_rfl) rfl #[.slice A0 l0.length c0] rfl ?_; (with_reducible refine (spec_DrawFreeBars.calls kj62 _ _ l0 t556 t559 t560 t561 _ ?side1 ?side2 A75.out).mono ?_); (case side1 => exact cw_ (Kd.C_below HR0.out HB.out)); (case side2 => exact HC0.out); rintro e w78 ⟨v557, rfl, ho0, hb⟩; refine ⟨_, rfl, ?_⟩; have n0_ := Aside0.mk (Kd.R_lower ho0 (below_size bl_)); have n1_ := Aside0.mk (below_step bl_ hb); clear HB; have HO558 := n0_; have HB := n1_; clear n0_ n1_; (try clear hb); (try clear hb2); (try clear hk); (try clear hi); (try clear ho0)) | ((with_reducible refine gate_dst (N := 17) rfl ?_); (try (refine gate_guard (by rfl) ?_; dsimp only)); refine box_event ?hg (N := 17) ?hd (cs := #[.int .i64 0, .int .i64 0]) (t := 42) ?hr ?_; (case hd => rfl); (case hg => rfl); (case hr => first | (go_simp; done) | (go_simp; rfl)); intro gb562 hg w79 hbox hb; have n0_ := Aside0.mk (Kd.R_below (by exact rw_ HO558.out) hb); have n1_ := Aside0.mk (below_step bl_ hb); have n2_ := Aside0.mk (hbox); have n3_ := Aside0.mk ((by rw [hg]; exact (below_size bl_) : w.heap.size ≤ gb562)); have n4_ := Aside0.mk ((by rw [hg]; exact (below_size bl_) : w.heap.size ≤ gb562)); clear HO558; clear HB; have HO558 := n0_; have HB := n1_; have BK562 := n2_; have GW562 := n3_; have GE562 := n4_; clear n0_ n1_ n2_ n3_ n4_; clear hb hbox hg; have hcz80_0 : w79.cell? ⟨gb562, 0, none⟩ = some (.int .i64 0) := (blk_cell BK562.out 0).trans rfl; have hcz80_1 : w79.cell? ⟨gb562, 1, none⟩ = some (.int .i64 0) := (blk_cell BK562.out 1).trans rfl; have hfz80_0 := blk_frozen BK562.out 0; have hfz80_1 := blk_frozen BK562.out 1; obtain ⟨Ao81, co81, eo81⟩ := Kd.R_slice HO558.out; subst eo81) | ((with_reducible refine gate_callee (f := 25) rfl ?_); refine goesM_ (some 138) rfl rfl Try.func25 (by kernel_rfl) rfl #[.slice Ao81 t556.length co81, .agg #[.int .i64 t559, .int .i64 t560], .int .i64 t561] rfl ?_; (with_reducible refine (impl_FreeBars.calls kj62 _ _ t556 t559 t560 t561 t563 _ ?side1 ?side2 A76.out).mono ?_); (case side1 => refine (Kd.R_reads' (e := 66) (base := w.heap.size) (ok := fun k_ => True) (n := t556.length) (c := co81) ?_).2.2; exact (by (with_reducible repeat (first | apply Kd.R_alloc | apply Kd.R_drewN | apply Kd.R_drew)); exact (Kd.R_mono (Kd.R_far (p := ⟨gb562, 1, none⟩) (Kd.R_far (p := ⟨gb562, 0, none⟩) (Kd.R_types HO558.out BK562.out (by decide)) (fun _ hk => hk.2) (.int .i64 t559)) (fun _ hk => hk.2) (.int .i64 t560)) (fun _ h_ => h_.1)))); (case side2 => exact (Kd.R_reads' HO558.out).2.1); rintro e w82 ⟨v564, rfl, ho0, hb⟩; refine ⟨_, rfl, ?_⟩; have n0_ := Aside0.mk (Kd.R_below (by (with_reducible repeat (first | apply Kd.R_alloc | apply Kd.R_drewN | apply Kd.R_drew)); exact (Kd.R_mono (Kd.R_far (p := ⟨gb562, 1, none⟩) (Kd.R_far (p := ⟨gb562, 0, none⟩) (Kd.R_types HO558.out BK562.out (by decide)) (fun _ hk => hk.2) (.int .i64 t559)) (fun _ hk => hk.2) (.int .i64 t560)) (fun _ h_ => h_.1))) hb); have n1_ := Aside0.mk (Kd.R_lower ho0 (below_size bl_)); have n2_ := Aside0.mk (blk_below (g := gb562) (o := .cells #[.int .i64 t559, .int .i64 t560] 42 (0, 0)) (by (with_reducible repeat (first | refine blk_drewN ?_ _ | refine blk_drew ?_ | refine blk_alloc ?_ _)); refine blk_put (cs := #[.int .i64 t559, .int .i64 0]) ?_ 1 _ rfl; (with_reducible repeat (first | refine blk_drewN ?_ _ | refine blk_drew ?_ | refine blk_alloc ?_ _)); refine blk_put (cs := #[.int .i64 0, .int .i64 0]) ?_ 0 _ rfl; (with_reducible repeat (first | refine blk_drewN ?_ _ | refine blk_drew ?_ | refine blk_alloc ?_ _)); exact BK562.out) hb); have n3_ := Aside0.mk (below_step bl_ hb); clear HO558; clear BK562; clear HB; have HO558 := n0_; have HO565 := n1_; have BK562 := n2_; have HB := n3_; clear n0_ n1_ n2_ n3_; (try clear hb); (try clear hb2); (try clear hk); (try clear hi); (try clear ho0)) | ((with_reducible refine gate_callee (f := 34) rfl ?_); refine goesM_ (some 140) rfl rfl Try.func34 (by kernel_rfl) rfl #[.slice Ao81 t556.length co81, .int .i64 1] rfl ?_; (with_reducible refine (impl_EventsOf.calls kj62 _ _ t556 1 t566 _ ?side1 ?side2 A77.out).mono ?_); (case side1 => exact cw_ ((Kd.R_reads' HO558.out).2.2)); (case side2 => exact (Kd.R_reads' HO558.out).2.1); rintro e w83 ⟨v567, rfl, ho0, hb⟩; refine ⟨_, rfl, ?_⟩; have n0_ := Aside0.mk (Kd.R_below (by exact rw_ HO558.out) hb); have n1_ := Aside0.mk (Kd.R_below (by exact rw_ HO565.out) hb); have n2_ := Aside0.mk (Kd.R_lower ho0 (below_size bl_)); have n3_ := Aside0.mk (blk_below (g := gb562) (o := .cells #[.int .i64 t559, .int .i64 t560] 42 (0, 0)) (by (with_reducible repeat (first | refine blk_drewN ?_ _ | refine blk_drew ?_ | refine blk_alloc ?_ _)); exact BK562.out) hb); have n4_ := Aside0.mk (below_step bl_ hb); clear HO558; clear HO565; clear BK562; clear HB; have HO558 := n0_; have HO565 := n1_; have HO568 := n2_; have BK562 := n3_; have HB := n4_; clear n0_ n1_ n2_ n3_ n4_; (try clear hb); (try clear hb2); (try clear hk); (try clear hi); (try clear ho0))); go_loopg [21] kj62 (fun kq v21 w' => ∃ (x21_5 : Int), v21 = .int .i64 x21_5 ∧ Aside0 (laws_FnPages.l0 kq t561 t563 t566 x21_5 t559 t560 = some r) ∧ Aside0 (kq ≤ kj62) ∧ Aside0 (Kd.R Kd.bool 4 w' w.heap.size (fun _ => True) v564 t563) ∧ Aside0 (Kd.R k60 60 w' w.heap.size (fun _ => True) v567 t566) ∧ Aside0 (w'.heap[gb562]? = some (.cells #[.int .i64 t559, .int .i64 t560] 42 (0, 0))) ∧ Aside0 (Below w.heap.size w w'))
                case atStart => exact ⟨(0), (by first | rfl | (simp; done) | (simp [*]; done)), H', ⟨Nat.le_refl _⟩, ⟨by exact rw_ HO565.out⟩, ⟨by exact rw_ HO568.out⟩, ⟨by (with_reducible repeat (first | refine blk_drewN ?_ _ | refine blk_drew ?_ | refine blk_alloc ?_ _)); exact BK562.out⟩, ⟨bl_⟩⟩
                case round =>
                 as_aux_lemma =>
                  clear H'; try clear c1
                  try clear c2
                  try clear p2
                  try clear c3
                  try clear c4
                  try clear c5
                  try clear c6
                  try clear p6
                  try clear c7
                  try clear c7b0
                  try clear c7b1
                  try clear c7b2
                  try clear c14
                  try clear c16
                  try clear c17
                  try clear c19
                  try clear c23
                  try clear c25
                  try clear c29
                  try clear c30
                  try clear c32
                  try clear c32b0
                  try clear c33
                  try clear c34
                  try clear c37
                  try clear c37b0
                  try clear c37b1
                  try clear c44
                  try clear c44b0
                  try clear c44b1
                  try clear c47
                  try clear c52
                  try clear c53
                  try clear c53b0
                  try clear c53b1
                  try clear c54
                  try clear c54b0
                  try clear c64
                  try clear p64
                  try clear c69
                  try clear c74
                  try clear hcz80_0
                  try clear hcz80_1
                  try clear hfz80_0
                  try clear hfz80_1
                  try clear p2
                  try clear p6
                  try clear p64
                  obtain ⟨x21_5, rfl, HA, HK5, HO_19, HO_20, BK562, HB⟩ := hrel
                  cases gk with
                  | zero => exact absurd HA.out (by simp [laws_FnPages.l0])
                  | succ k5 =>
                   have H := HA.out; clear HA; simp only [laws_FnPages.l0] at H; by_cases c84 : x21_5 < (t566.length : Int)
                   ·rw [if_pos c84] at H; have c84b0 : decide (x21_5 < (t566.length : Int)) = true := decide_eq_true c84; clear c84; have HC85 := Aside0.mk H; clear H; obtain ⟨Ao86, co86, eo86⟩ := Kd.R_slice HO_20.out; subst eo86; go_upto_region 25 with (fail)
                    go_cut [175] (fun v175 wc => ∃ (kq : Nat) (x175_84 : Bool), v175 = .bool x175_84 ∧ Aside0 (laws_FnPages.j7 kq t561 t563 t566 x21_5 x175_84 t559 t560 = some r) ∧ Aside0 (kq ≤ k5) ∧ Aside0 (Kd.R Kd.bool 4 wc w.heap.size (fun _ => True) v564 t563) ∧ Aside0 (Kd.R k60 60 wc w.heap.size (fun _ => True) (.slice Ao86 t566.length co86) t566) ∧ Aside0 (wc.heap[gb562]? = some (.cells #[.int .i64 t559, .int .i64 t560] 42 (0, 0))) ∧ Aside0 (Below w.heap.size w wc))
                    case first =>
                     as_aux_lemma =>
                      have H := HC85.out; clear HC85; replace H := Option.bind_eq_some_iff.mp H; obtain ⟨t569, A870, H⟩ := H; (try dsimp only at H); have A87 := Aside0.mk A870; clear A870; by_cases c88 : t569 > 0
                      ·rw [if_pos c88] at H; have c88b0 : decide (0 < t569) = true := decide_eq_true c88; clear c88; (first | rw [c88b0] | (simp only [i64_w, i32_w]; rw [c88b0]) | skip); by_cases c89 : 0 ≤ x21_5
                       ·rw [if_pos c89] at H; have c89b0 : decide (0 ≤ x21_5) = true := decide_eq_true c89; clear c89; replace H := Option.bind_eq_some_iff.mp H; obtain ⟨t571, A900, H⟩ := H; (try dsimp only at H); have A90 := Aside0.mk A900; clear A900; by_cases c91 : t571 = 0
                        ·rw [if_pos c91] at H; exact absurd H (by simp)
                        ·rw [if_neg c91] at H; have c91b0 : (t571 == 0) = false := beq_eq_false_iff_ne.mpr c91; have c91b1 : (t571 != 0) = true := bne_iff_ne.mpr c91; by_cases c92 : (t563.length : Int) > (wrap64 (Int.tdiv ((rd_T60 t566 x21_5).f0) t571))
                         ·rw [if_pos c92] at H; have c92b0 : decide ((wrap64 (Int.tdiv ((rd_T60 t566 x21_5).f0) t571)) < (t563.length : Int)) = true := decide_eq_true c92; clear c92; replace H := Option.bind_eq_some_iff.mp H; obtain ⟨t573, A930, H⟩ := H; (try dsimp only at H); have A93 := Aside0.mk A930; clear A930; by_cases c94 : t573 = 0
                          ·rw [if_pos c94] at H; exact absurd H (by simp)
                          ·rw [if_neg c94] at H; have c94b0 : (t573 == 0) = false := beq_eq_false_iff_ne.mpr c94; have c94b1 : (t573 != 0) = true := bne_iff_ne.mpr c94; obtain ⟨ji95, hji95⟩ : ∃ j_ : Int, (wrap64 (Int.tdiv ((rd_T60 t566 x21_5).f0) t573)) = j_ := ⟨_, rfl⟩; replace H : (if 0 ≤ (ji95) then (if (ji95) < (t563.length : Int) then (laws_FnPages.j7 k5 t561 t563 t566 x21_5 (rdOf false t563 (ji95)) t559 t560) else (none)) else (none)) = some r := by first | (rw [hji95] at H; exact H) | (simp only [hji95] at H ⊢; exact H)
                           (try rw [hji95] at A87); (try rw [hji95] at A90); (try rw [hji95] at A93); have hji95w : (IntKind.i64.wrap (Int.tdiv ((rd_T60 t566 x21_5).f0) t573)) = ji95 := (i64_w _).trans hji95; by_cases c96 : 0 ≤ (ji95)
                           ·rw [if_pos c96] at H; have c96b0 : decide (0 ≤ (ji95)) = true := decide_eq_true c96; clear c96; by_cases c97 : (ji95) < (t563.length : Int)
                            ·rw [if_pos c97] at H; have c97b0 : decide ((ji95) < (t563.length : Int)) = true := decide_eq_true c97; clear c97; have H' := Aside0.mk H; clear H; try go_wp2
                             have n0_ := Aside0.mk (Kd.R_drew HO_19.out); have n1_ := Aside0.mk (Kd.R_drew HO_20.out); have n2_ := Aside0.mk (blk_drew BK562.out); have n3_ := Aside0.mk (below_drew1 HB.out); clear HO_19; clear HO_20; clear BK562; clear HB; have HO_19 := n0_; have HO_20 := n1_; have BK562 := n2_; have HB := n3_; clear n0_ n1_ n2_ n3_; have p570 : 0 ≤ (x21_5 : Int) := of_decide_eq_true (by first | (with_reducible assumption) | assumption); have q570 : x21_5 < (t566.length : Int) := of_decide_eq_true (by first | (with_reducible assumption) | assumption); obtain ⟨ad570, e570, hx570_0, hx570_1, hx570_2, hx570_3⟩ := at_T60 (Kd.R_reads' HO_20.out).2.2 x21_5 p570 q570
                             cases e570; replace p570 := eq_true p570; replace q570 := eq_true q570; have p572 : 0 ≤ (x21_5 : Int) := of_decide_eq_true (by first | (with_reducible assumption) | assumption); have q572 : x21_5 < (t566.length : Int) := of_decide_eq_true (by first | (with_reducible assumption) | assumption); obtain ⟨ad572, e572, hx572_0, hx572_1, hx572_2, hx572_3⟩ := at_T60 (Kd.R_reads' HO_20.out).2.2 x21_5 p572 q572; obtain rfl : ad570 = ad572 := (by injection e572)
                             replace p572 := eq_true p572; replace q572 := eq_true q572; have p574 : 0 ≤ ((ji95) : Int) := of_decide_eq_true (by first | (with_reducible assumption) | assumption); have q574 : (ji95) < (t563.length : Int) := of_decide_eq_true (by first | (with_reducible assumption) | assumption); obtain ⟨Aq_, cq_, ev_⟩ := Kd.R_slice HO_19.out; subst ev_; obtain ⟨ad574, e574, hx574_0⟩ := Kd.at_bool (Kd.R_reads' HO_19.out).2.2 (ji95) p574 q574
                             cases e574; replace p574 := eq_true p574; replace q574 := eq_true q574; refine start_ (n := 29) (S := fun w' => w'.cell? ⟨gb562, 0, none⟩ = some (.int .i64 t559) ∧ w'.cell? ⟨gb562, 1, none⟩ = some (.int .i64 t560) ∧ w'.cell? (ad570.add ((x21_5).toNat * 4)) = some (.int .i64 ((rd_T60 t566 x21_5).f0)) ∧ w'.cell? ⟨(ad570.add ((x21_5).toNat * 4)).block, (ad570.add ((x21_5).toNat * 4)).off + 1, none⟩ = some (.int .i64 ((rd_T60 t566 x21_5).f1)) ∧ w'.cell? ⟨(ad570.add ((x21_5).toNat * 4)).block, (ad570.add ((x21_5).toNat * 4)).off + 2, none⟩ = some (.int .i64 ((rd_T60 t566 x21_5).f2)) ∧ w'.cell? ⟨(ad570.add ((x21_5).toNat * 4)).block, (ad570.add ((x21_5).toNat * 4)).off + 3, none⟩ = some (.int .i64 ((rd_T60 t566 x21_5).f3)) ∧ w'.cell? (ad570.add ((x21_5).toNat * 4)) = some (.int .i64 ((rd_T60 t566 x21_5).f0)) ∧ w'.cell? ⟨(ad570.add ((x21_5).toNat * 4)).block, (ad570.add ((x21_5).toNat * 4)).off + 1, none⟩ = some (.int .i64 ((rd_T60 t566 x21_5).f1)) ∧ w'.cell? ⟨(ad570.add ((x21_5).toNat * 4)).block, (ad570.add ((x21_5).toNat * 4)).off + 2, none⟩ = some (.int .i64 ((rd_T60 t566 x21_5).f2)) ∧ w'.cell? ⟨(ad570.add ((x21_5).toNat * 4)).block, (ad570.add ((x21_5).toNat * 4)).off + 3, none⟩ = some (.int .i64 ((rd_T60 t566 x21_5).f3)) ∧ w'.cell? (ad574.add ((ji95)).toNat) = some (.bool (rdOf false t563 (ji95)))) (ds := []) #[ff,ff,ff,ff,ff,ff,ff,ff,ff,ff,ff,ff,ff,ff,ff,ff,ff,ff,ff,ff,ff,ff,ff,ff,ff,ff,ff,ff,ff] (by kernel_rfl) rfl rfl ⟨(blk_cell BK562.out 0).trans rfl, (blk_cell BK562.out 1).trans rfl, hx570_0, hx570_1, hx570_2, hx570_3, hx572_0, hx572_1, hx572_2, hx572_3, hx574_0⟩ (fun hHeld => ?_); refine with_tabW laws_FnPages.tab25 laws_FnPages.bits25 (fun HT_ HW_ => ?_); generalize wr.drew = w98 at HO_19 HO_20 BK562 HB hx570_0 hx570_1 hx570_2 hx570_3 hx572_0 hx572_1 hx572_2 hx572_3 hx574_0 hHeld ⊢
                             refine take_ (i := 0) (N := some 147) (v := ?_) (a' := ?_) #[tt,ff,ff,ff,ff,ff,ff,ff,ff,ff,ff,ff,ff,ff,ff,ff,ff,ff,ff,ff,ff,ff,ff,ff,ff,ff,ff,ff,ff] rfl rfl (take_ofW HT_.out HW_.out (by kernel_rfl)) (fun _ _ _ h => h) (Or.inl ⟨by rfl, ?_⟩) hHeld ?_ ?_; rotate_left
                             ·rintro w' ⟨s0, s1, s2, s3, s4, s5, s6, s7, s8, s9, s10⟩; go_simp; (with_reducible rfl)
                             rotate_left
                             ·simp only [Act.put, List.setIfInBounds_toArray, List.set_cons_zero, List.set_cons_succ, i64_w, i32_w]; rfl
                             refine one_ (i := 1) (N := some 148) #[tt,tt,ff,ff,ff,ff,ff,ff,ff,ff,ff,ff,ff,ff,ff,ff,ff,ff,ff,ff,ff,ff,ff,ff,ff,ff,ff,ff,ff] rfl rfl (one_of HT_.out (by kernel_rfl)) (by decide) (fun K hK => ?_); refine goes_ Try.func35 (by kernel_rfl) rfl #[.agg #[.int .i64 t559, .int .i64 t560]] (by rfl) rfl rfl (by (try simp only [List.map_toArray, List.map_cons, List.map_nil]); first | done | rfl | (simp only [List.length_drop, List.length_take]; rfl)) ?_; (with_reducible refine (impl_BarLong.calls t559 t560 t569 _ A87.out).mono ?_); rintro e w99 ⟨rfl, hb⟩; have HS2_ := (hb.cell (World.block_lt_of_cell? _ _ (hHeld.2.2.1))).trans (hHeld.2.2.1); have HS3_ := (hb.cell (World.block_lt_of_cell? _ _ (hHeld.2.2.2.1))).trans (hHeld.2.2.2.1); have HS4_ := (hb.cell (World.block_lt_of_cell? _ _ (hHeld.2.2.2.2.1))).trans (hHeld.2.2.2.2.1); have HS5_ := (hb.cell (World.block_lt_of_cell? _ _ (hHeld.2.2.2.2.2.1))).trans (hHeld.2.2.2.2.2.1); have HS6_ := (hb.cell (World.block_lt_of_cell? _ _ (hHeld.2.2.2.2.2.2.1))).trans (hHeld.2.2.2.2.2.2.1); have HS7_ := (hb.cell (World.block_lt_of_cell? _ _ (hHeld.2.2.2.2.2.2.2.1))).trans (hHeld.2.2.2.2.2.2.2.1); have HS8_ := (hb.cell (World.block_lt_of_cell? _ _ (hHeld.2.2.2.2.2.2.2.2.1))).trans (hHeld.2.2.2.2.2.2.2.2.1); have HS9_ := (hb.cell (World.block_lt_of_cell? _ _ (hHeld.2.2.2.2.2.2.2.2.2.1))).trans (hHeld.2.2.2.2.2.2.2.2.2.1); have HS10_ := (hb.cell (World.block_lt_of_cell? _ _ (hHeld.2.2.2.2.2.2.2.2.2.2))).trans (hHeld.2.2.2.2.2.2.2.2.2.2); refine ⟨_, rfl, ?_⟩; have n0_ := Aside0.mk (Kd.R_below (by exact rw_ HO_19.out) hb); have n1_ := Aside0.mk (Kd.R_below (by exact rw_ HO_20.out) hb); have n2_ := Aside0.mk (blk_below (g := gb562) (o := .cells #[.int .i64 t559, .int .i64 t560] 42 (0, 0)) (by (with_reducible repeat (first | refine blk_drewN ?_ _ | refine blk_drew ?_ | refine blk_alloc ?_ _)); exact BK562.out) hb); have n3_ := Aside0.mk (below_step bl_ hb); clear HO_19; clear HO_20; clear BK562; clear HB; have HO_19 := n0_; have HO_20 := n1_; have BK562 := n2_; have HB := n3_; clear n0_ n1_ n2_ n3_; (try clear hb); (try clear hb2); (try clear hk); (try clear hi); obtain ⟨Ao100, co100, eo100⟩ := Kd.R_slice HO_19.out; (first | subst eo100 | (injection eo100 with f1_ f2_ f3_; have f4_ := f1_.symm; have f5_ := f3_.symm; clear f1_ f2_ f3_; subst f4_; subst f5_))
                             refine hK.out _ _ ⟨(blk_cell BK562.out 0).trans rfl, (blk_cell BK562.out 1).trans rfl, HS2_, HS3_, HS4_, HS5_, HS6_, HS7_, HS8_, HS9_, HS10_⟩ (fun hHeld => ?_); clear hK K; refine norm_ (a' := ?_) ?_ ?_; rotate_left
                             ·show Act.put _ (some 148) _ = _; simp only [Act.put, List.setIfInBounds_toArray, List.set_cons_zero, List.set_cons_succ, i64_w, i32_w]; rfl
                             refine pure_ (i := 2) (N := some 149) (v := ?_) (a' := ?_) #[tt,tt,tt,ff,ff,ff,ff,ff,ff,ff,ff,ff,ff,ff,ff,ff,ff,ff,ff,ff,ff,ff,ff,ff,ff,ff,ff,ff,ff] rfl rfl (any_of HT_.out (by kernel_rfl)) (fun _ _ _ h => h) (Or.inl ⟨by rfl, ?_⟩) ?_ ?_; rotate_left
                             ·intro w'; go_simp; (with_reducible rfl)
                             rotate_left
                             ·simp only [Act.put, List.setIfInBounds_toArray, List.set_cons_zero, List.set_cons_succ, i64_w, i32_w]; rfl
                             refine pure_ (i := 3) (N := some 150) (v := ?_) (a' := ?_) #[tt,tt,tt,tt,ff,ff,ff,ff,ff,ff,ff,ff,ff,ff,ff,ff,ff,ff,ff,ff,ff,ff,ff,ff,ff,ff,ff,ff,ff] rfl rfl (any_of HT_.out (by kernel_rfl)) (fun _ _ _ h => h) (Or.inl ⟨by rfl, ?_⟩) ?_ ?_; rotate_left
                             ·intro w'; go_simp; (with_reducible rfl)
                             rotate_left
                             ·simp only [Act.put, List.setIfInBounds_toArray, List.set_cons_zero, List.set_cons_succ, i64_w, i32_w]; rfl
                             refine pure_ (i := 4) (N := some 151) (v := ?_) (a' := ?_) #[tt,tt,tt,tt,tt,ff,ff,ff,ff,ff,ff,ff,ff,ff,ff,ff,ff,ff,ff,ff,ff,ff,ff,ff,ff,ff,ff,ff,ff] rfl rfl (any_of HT_.out (by kernel_rfl)) (fun _ _ _ h => h) (Or.inl ⟨by rfl, ?_⟩) ?_ ?_; rotate_left
                             ·intro w'; go_simp; (with_reducible rfl)
                             rotate_left
                             ·simp only [Act.put, List.setIfInBounds_toArray, List.set_cons_zero, List.set_cons_succ, i64_w, i32_w]; rfl
                             refine pure_ (i := 5) (N := some 152) (v := ?_) (a' := ?_) #[tt,tt,tt,tt,tt,tt,ff,ff,ff,ff,ff,ff,ff,ff,ff,ff,ff,ff,ff,ff,ff,ff,ff,ff,ff,ff,ff,ff,ff] rfl rfl (any_of HT_.out (by kernel_rfl)) (fun _ _ _ h => h) (Or.inl ⟨by rfl, ?_⟩) ?_ ?_; rotate_left
                             ·intro w'; go_simp; (with_reducible rfl)
                             rotate_left
                             ·simp only [Act.put, List.setIfInBounds_toArray, List.set_cons_zero, List.set_cons_succ, i64_w, i32_w]; rfl
                             refine pure_ (i := 6) (N := some 153) (v := ?_) (a' := ?_) #[tt,tt,tt,tt,tt,tt,tt,ff,ff,ff,ff,ff,ff,ff,ff,ff,ff,ff,ff,ff,ff,ff,ff,ff,ff,ff,ff,ff,ff] rfl rfl (any_of HT_.out (by kernel_rfl)) (fun _ _ _ h => h) (Or.inl ⟨by rfl, ?_⟩) ?_ ?_; rotate_left
                             ·intro w'; go_simp; (with_reducible rfl)
                             rotate_left
                             ·simp only [Act.put, List.setIfInBounds_toArray, List.set_cons_zero, List.set_cons_succ, i64_w, i32_w]; rfl
                             refine pure_ (i := 7) (N := some 154) (v := ?_) (a' := ?_) #[tt,tt,tt,tt,tt,tt,tt,tt,ff,ff,ff,ff,ff,ff,ff,ff,ff,ff,ff,ff,ff,ff,ff,ff,ff,ff,ff,ff,ff] rfl rfl (any_of HT_.out (by kernel_rfl)) (fun _ _ _ h => h) (Or.inl ⟨by rfl, ?_⟩) ?_ ?_; rotate_left
                             ·intro w'; go_simp; (with_reducible rfl)
                             rotate_left
                             ·simp only [Act.put, List.setIfInBounds_toArray, List.set_cons_zero, List.set_cons_succ, i64_w, i32_w]; rfl
                             refine pure_ (i := 8) (N := some 155) (v := ?_) (a' := ?_) #[tt,tt,tt,tt,tt,tt,tt,tt,tt,ff,ff,ff,ff,ff,ff,ff,ff,ff,ff,ff,ff,ff,ff,ff,ff,ff,ff,ff,ff] rfl rfl (any_of HT_.out (by kernel_rfl)) (fun _ _ _ h => h) (Or.inl ⟨by rfl, ?_⟩) ?_ ?_; rotate_left
                             ·intro w'; go_simp; (with_reducible rfl)
                             rotate_left
                             ·simp only [Act.put, List.setIfInBounds_toArray, List.set_cons_zero, List.set_cons_succ, i64_w, i32_w]; rfl
                             refine pure_ (i := 9) (N := some 156) (v := ?_) (a' := ?_) #[tt,tt,tt,tt,tt,tt,tt,tt,tt,tt,ff,ff,ff,ff,ff,ff,ff,ff,ff,ff,ff,ff,ff,ff,ff,ff,ff,ff,ff] rfl rfl (any_of HT_.out (by kernel_rfl)) (fun _ _ _ h => h) (Or.inl ⟨by rfl, ?_⟩) ?_ ?_; rotate_left
                             ·intro w'; go_simp; (with_reducible rfl)
                             rotate_left
                             ·simp only [Act.put, List.setIfInBounds_toArray, List.set_cons_zero, List.set_cons_succ, i64_w, i32_w]; rfl
                             refine take_ (i := 10) (N := some 157) (v := ?_) (a' := ?_) #[tt,tt,tt,tt,tt,tt,tt,tt,tt,tt,tt,ff,ff,ff,ff,ff,ff,ff,ff,ff,ff,ff,ff,ff,ff,ff,ff,ff,ff] rfl rfl (take_ofW HT_.out HW_.out (by kernel_rfl)) (fun _ _ _ h => h) (Or.inl ⟨by rfl, ?_⟩) hHeld ?_ ?_; rotate_left
                             ·rintro w' ⟨s0, s1, s2, s3, s4, s5, s6, s7, s8, s9, s10⟩; go_simp; (with_reducible rfl)
                             rotate_left
                             ·simp only [Act.put, List.setIfInBounds_toArray, List.set_cons_zero, List.set_cons_succ, i64_w, i32_w]; rfl
                             refine take_ (i := 11) (N := some 158) (v := ?_) (a' := ?_) #[tt,tt,tt,tt,tt,tt,tt,tt,tt,tt,tt,tt,ff,ff,ff,ff,ff,ff,ff,ff,ff,ff,ff,ff,ff,ff,ff,ff,ff] rfl rfl (take_ofW HT_.out HW_.out (by kernel_rfl)) (fun _ _ _ h => h) (Or.inl ⟨by rfl, ?_⟩) hHeld ?_ ?_; rotate_left
                             ·rintro w' ⟨s0, s1, s2, s3, s4, s5, s6, s7, s8, s9, s10⟩; go_simp; (with_reducible rfl)
                             rotate_left
                             ·simp only [Act.put, List.setIfInBounds_toArray, List.set_cons_zero, List.set_cons_succ, i64_w, i32_w]; rfl
                             refine one_ (i := 12) (N := some 159) #[tt,tt,tt,tt,tt,tt,tt,tt,tt,tt,tt,tt,tt,ff,ff,ff,ff,ff,ff,ff,ff,ff,ff,ff,ff,ff,ff,ff,ff] rfl rfl (one_of HT_.out (by kernel_rfl)) (by decide) (fun K hK => ?_); refine goes_ Try.func35 (by kernel_rfl) rfl #[.agg #[.int .i64 t559, .int .i64 t560]] (by rfl) rfl rfl (by (try simp only [List.map_toArray, List.map_cons, List.map_nil]); first | done | rfl | (simp only [List.length_drop, List.length_take]; rfl)) ?_; (with_reducible refine (impl_BarLong.calls t559 t560 t571 _ A90.out).mono ?_); rintro e w101 ⟨rfl, hb⟩; have HS2_ := (hb.cell (World.block_lt_of_cell? _ _ (hHeld.2.2.1))).trans (hHeld.2.2.1); have HS3_ := (hb.cell (World.block_lt_of_cell? _ _ (hHeld.2.2.2.1))).trans (hHeld.2.2.2.1); have HS4_ := (hb.cell (World.block_lt_of_cell? _ _ (hHeld.2.2.2.2.1))).trans (hHeld.2.2.2.2.1); have HS5_ := (hb.cell (World.block_lt_of_cell? _ _ (hHeld.2.2.2.2.2.1))).trans (hHeld.2.2.2.2.2.1); have HS6_ := (hb.cell (World.block_lt_of_cell? _ _ (hHeld.2.2.2.2.2.2.1))).trans (hHeld.2.2.2.2.2.2.1); have HS7_ := (hb.cell (World.block_lt_of_cell? _ _ (hHeld.2.2.2.2.2.2.2.1))).trans (hHeld.2.2.2.2.2.2.2.1); have HS8_ := (hb.cell (World.block_lt_of_cell? _ _ (hHeld.2.2.2.2.2.2.2.2.1))).trans (hHeld.2.2.2.2.2.2.2.2.1); have HS9_ := (hb.cell (World.block_lt_of_cell? _ _ (hHeld.2.2.2.2.2.2.2.2.2.1))).trans (hHeld.2.2.2.2.2.2.2.2.2.1); have HS10_ := (hb.cell (World.block_lt_of_cell? _ _ (hHeld.2.2.2.2.2.2.2.2.2.2))).trans (hHeld.2.2.2.2.2.2.2.2.2.2); refine ⟨_, rfl, ?_⟩; have n0_ := Aside0.mk (Kd.R_below (by exact rw_ HO_19.out) hb); have n1_ := Aside0.mk (Kd.R_below (by exact rw_ HO_20.out) hb); have n2_ := Aside0.mk (blk_below (g := gb562) (o := .cells #[.int .i64 t559, .int .i64 t560] 42 (0, 0)) (by (with_reducible repeat (first | refine blk_drewN ?_ _ | refine blk_drew ?_ | refine blk_alloc ?_ _)); exact BK562.out) hb); have n3_ := Aside0.mk (below_step bl_ hb); clear HO_19; clear HO_20; clear BK562; clear HB; have HO_19 := n0_; have HO_20 := n1_; have BK562 := n2_; have HB := n3_; clear n0_ n1_ n2_ n3_; (try clear hb); (try clear hb2); (try clear hk); (try clear hi); refine hK.out _ _ ⟨(blk_cell BK562.out 0).trans rfl, (blk_cell BK562.out 1).trans rfl, HS2_, HS3_, HS4_, HS5_, HS6_, HS7_, HS8_, HS9_, HS10_⟩ (fun hHeld => ?_); clear hK K; refine norm_ (a' := ?_) ?_ ?_; rotate_left
                             ·show Act.put _ (some 159) _ = _; simp only [Act.put, List.setIfInBounds_toArray, List.set_cons_zero, List.set_cons_succ, i64_w, i32_w]; rfl
                             refine pure_ (i := 13) (N := some 160) (v := ?_) (a' := ?_) #[tt,tt,tt,tt,tt,tt,tt,tt,tt,tt,tt,tt,tt,tt,ff,ff,ff,ff,ff,ff,ff,ff,ff,ff,ff,ff,ff,ff,ff] rfl rfl (any_of HT_.out (by kernel_rfl)) (fun _ _ _ h => h) (Or.inl ⟨by rfl, ?_⟩) ?_ ?_; rotate_left
                             ·intro w'; go_simp; (with_reducible rfl)
                             rotate_left
                             ·simp only [Act.put, List.setIfInBounds_toArray, List.set_cons_zero, List.set_cons_succ, i64_w, i32_w]; rfl
                             refine pure_ (i := 14) (N := some 161) (v := ?_) (a' := ?_) #[tt,tt,tt,tt,tt,tt,tt,tt,tt,tt,tt,tt,tt,tt,tt,ff,ff,ff,ff,ff,ff,ff,ff,ff,ff,ff,ff,ff,ff] rfl rfl (any_of HT_.out (by kernel_rfl)) (fun _ _ _ h => h) (Or.inl ⟨by rfl, ?_⟩) ?_ ?_; rotate_left
                             ·intro w'; go_simp; (with_reducible rfl)
                             rotate_left
                             ·simp only [Act.put, List.setIfInBounds_toArray, List.set_cons_zero, List.set_cons_succ, i64_w, i32_w]; rfl
                             refine pure_ (i := 15) (N := some 162) (v := ?_) (a' := ?_) #[tt,tt,tt,tt,tt,tt,tt,tt,tt,tt,tt,tt,tt,tt,tt,tt,ff,ff,ff,ff,ff,ff,ff,ff,ff,ff,ff,ff,ff] rfl rfl (any_of HT_.out (by kernel_rfl)) (fun _ _ _ h => h) (Or.inl ⟨by rfl, ?_⟩) ?_ ?_; rotate_left
                             ·intro w'; go_simp; (with_reducible rfl)
                             rotate_left
                             ·simp only [Act.put, List.setIfInBounds_toArray, List.set_cons_zero, List.set_cons_succ, i64_w, i32_w]; rfl
                             refine pure_ (i := 16) (N := some 163) (v := ?_) (a' := ?_) #[tt,tt,tt,tt,tt,tt,tt,tt,tt,tt,tt,tt,tt,tt,tt,tt,tt,ff,ff,ff,ff,ff,ff,ff,ff,ff,ff,ff,ff] rfl rfl (any_of HT_.out (by kernel_rfl)) (fun _ _ _ h => h) (Or.inl ⟨by rfl, ?_⟩) ?_ ?_; rotate_left
                             ·intro w'; go_simp; (with_reducible rfl)
                             rotate_left
                             ·simp only [Act.put, List.setIfInBounds_toArray, List.set_cons_zero, List.set_cons_succ, i64_w, i32_w]; rfl
                             refine pure_ (i := 17) (N := some 164) (v := ?_) (a' := ?_) #[tt,tt,tt,tt,tt,tt,tt,tt,tt,tt,tt,tt,tt,tt,tt,tt,tt,tt,ff,ff,ff,ff,ff,ff,ff,ff,ff,ff,ff] rfl rfl (any_of HT_.out (by kernel_rfl)) (fun _ _ _ h => h) (Or.inl ⟨by rfl, ?_⟩) ?_ ?_; rotate_left
                             ·intro w'; go_simp; (with_reducible rfl)
                             rotate_left
                             ·simp only [Act.put, List.setIfInBounds_toArray, List.set_cons_zero, List.set_cons_succ, i64_w, i32_w]; rfl
                             refine pure_ (i := 18) (N := some 165) (v := ?_) (a' := ?_) #[tt,tt,tt,tt,tt,tt,tt,tt,tt,tt,tt,tt,tt,tt,tt,tt,tt,tt,tt,ff,ff,ff,ff,ff,ff,ff,ff,ff,ff] rfl rfl (any_of HT_.out (by kernel_rfl)) (fun _ _ _ h => h) (Or.inl ⟨by rfl, ?_⟩) ?_ ?_; rotate_left
                             ·intro w'; go_simp; (with_reducible rfl)
                             rotate_left
                             ·simp only [Act.put, List.setIfInBounds_toArray, List.set_cons_zero, List.set_cons_succ, i64_w, i32_w]; rfl
                             refine pure_ (i := 19) (N := some 166) (v := ?_) (a' := ?_) #[tt,tt,tt,tt,tt,tt,tt,tt,tt,tt,tt,tt,tt,tt,tt,tt,tt,tt,tt,tt,ff,ff,ff,ff,ff,ff,ff,ff,ff] rfl rfl (any_of HT_.out (by kernel_rfl)) (fun _ _ _ h => h) (Or.inl ⟨by rfl, ?_⟩) ?_ ?_; rotate_left
                             ·intro w'; go_simp; (with_reducible rfl)
                             rotate_left
                             ·simp only [Act.put, List.setIfInBounds_toArray, List.set_cons_zero, List.set_cons_succ, i64_w, i32_w]; rfl
                             refine pure_ (i := 20) (N := some 167) (v := ?_) (a' := ?_) #[tt,tt,tt,tt,tt,tt,tt,tt,tt,tt,tt,tt,tt,tt,tt,tt,tt,tt,tt,tt,tt,ff,ff,ff,ff,ff,ff,ff,ff] rfl rfl (any_of HT_.out (by kernel_rfl)) (fun _ _ _ h => h) (Or.inl ⟨by rfl, ?_⟩) ?_ ?_; rotate_left
                             ·intro w'; go_simp; (with_reducible rfl)
                             rotate_left
                             ·simp only [Act.put, List.setIfInBounds_toArray, List.set_cons_zero, List.set_cons_succ, i64_w, i32_w]; rfl
                             refine pure_ (i := 21) (N := some 168) (v := ?_) (a' := ?_) #[tt,tt,tt,tt,tt,tt,tt,tt,tt,tt,tt,tt,tt,tt,tt,tt,tt,tt,tt,tt,tt,tt,ff,ff,ff,ff,ff,ff,ff] rfl rfl (any_of HT_.out (by kernel_rfl)) (fun _ _ _ h => h) (Or.inl ⟨by rfl, ?_⟩) ?_ ?_; rotate_left
                             ·intro w'; go_simp; (with_reducible rfl)
                             rotate_left
                             ·simp only [Act.put, List.setIfInBounds_toArray, List.set_cons_zero, List.set_cons_succ, i64_w, i32_w]; rfl
                             refine take_ (i := 22) (N := some 169) (v := ?_) (a' := ?_) #[tt,tt,tt,tt,tt,tt,tt,tt,tt,tt,tt,tt,tt,tt,tt,tt,tt,tt,tt,tt,tt,tt,tt,ff,ff,ff,ff,ff,ff] rfl rfl (take_ofW HT_.out HW_.out (by kernel_rfl)) (fun _ _ _ h => h) (Or.inl ⟨by rfl, ?_⟩) hHeld ?_ ?_; rotate_left
                             ·rintro w' ⟨s0, s1, s2, s3, s4, s5, s6, s7, s8, s9, s10⟩; go_simp; (with_reducible rfl)
                             rotate_left
                             ·simp only [Act.put, List.setIfInBounds_toArray, List.set_cons_zero, List.set_cons_succ, i64_w, i32_w]; rfl
                             refine take_ (i := 23) (N := some 170) (v := ?_) (a' := ?_) #[tt,tt,tt,tt,tt,tt,tt,tt,tt,tt,tt,tt,tt,tt,tt,tt,tt,tt,tt,tt,tt,tt,tt,tt,ff,ff,ff,ff,ff] rfl rfl (take_ofW HT_.out HW_.out (by kernel_rfl)) (fun _ _ _ h => h) (Or.inl ⟨by rfl, ?_⟩) hHeld ?_ ?_; rotate_left
                             ·rintro w' ⟨s0, s1, s2, s3, s4, s5, s6, s7, s8, s9, s10⟩; go_simp; (with_reducible rfl)
                             rotate_left
                             ·simp only [Act.put, List.setIfInBounds_toArray, List.set_cons_zero, List.set_cons_succ, i64_w, i32_w]; rfl
                             refine one_ (i := 24) (N := some 171) #[tt,tt,tt,tt,tt,tt,tt,tt,tt,tt,tt,tt,tt,tt,tt,tt,tt,tt,tt,tt,tt,tt,tt,tt,tt,ff,ff,ff,ff] rfl rfl (one_of HT_.out (by kernel_rfl)) (by decide) (fun K hK => ?_); refine goes_ Try.func35 (by kernel_rfl) rfl #[.agg #[.int .i64 t559, .int .i64 t560]] (by rfl) rfl rfl (by (try simp only [List.map_toArray, List.map_cons, List.map_nil]); first | done | rfl | (simp only [List.length_drop, List.length_take]; rfl)) ?_; (with_reducible refine (impl_BarLong.calls t559 t560 t573 _ A93.out).mono ?_); rintro e w102 ⟨rfl, hb⟩; have HS2_ := (hb.cell (World.block_lt_of_cell? _ _ (hHeld.2.2.1))).trans (hHeld.2.2.1); have HS3_ := (hb.cell (World.block_lt_of_cell? _ _ (hHeld.2.2.2.1))).trans (hHeld.2.2.2.1); have HS4_ := (hb.cell (World.block_lt_of_cell? _ _ (hHeld.2.2.2.2.1))).trans (hHeld.2.2.2.2.1); have HS5_ := (hb.cell (World.block_lt_of_cell? _ _ (hHeld.2.2.2.2.2.1))).trans (hHeld.2.2.2.2.2.1); have HS6_ := (hb.cell (World.block_lt_of_cell? _ _ (hHeld.2.2.2.2.2.2.1))).trans (hHeld.2.2.2.2.2.2.1); have HS7_ := (hb.cell (World.block_lt_of_cell? _ _ (hHeld.2.2.2.2.2.2.2.1))).trans (hHeld.2.2.2.2.2.2.2.1); have HS8_ := (hb.cell (World.block_lt_of_cell? _ _ (hHeld.2.2.2.2.2.2.2.2.1))).trans (hHeld.2.2.2.2.2.2.2.2.1); have HS9_ := (hb.cell (World.block_lt_of_cell? _ _ (hHeld.2.2.2.2.2.2.2.2.2.1))).trans (hHeld.2.2.2.2.2.2.2.2.2.1); have HS10_ := (hb.cell (World.block_lt_of_cell? _ _ (hHeld.2.2.2.2.2.2.2.2.2.2))).trans (hHeld.2.2.2.2.2.2.2.2.2.2); refine ⟨_, rfl, ?_⟩; have n0_ := Aside0.mk (Kd.R_below (by exact rw_ HO_19.out) hb); have n1_ := Aside0.mk (Kd.R_below (by exact rw_ HO_20.out) hb); have n2_ := Aside0.mk (blk_below (g := gb562) (o := .cells #[.int .i64 t559, .int .i64 t560] 42 (0, 0)) (by (with_reducible repeat (first | refine blk_drewN ?_ _ | refine blk_drew ?_ | refine blk_alloc ?_ _)); exact BK562.out) hb); have n3_ := Aside0.mk (below_step bl_ hb); clear HO_19; clear HO_20; clear BK562; clear HB; have HO_19 := n0_; have HO_20 := n1_; have BK562 := n2_; have HB := n3_; clear n0_ n1_ n2_ n3_; (try clear hb); (try clear hb2); (try clear hk); (try clear hi); refine hK.out _ _ ⟨(blk_cell BK562.out 0).trans rfl, (blk_cell BK562.out 1).trans rfl, HS2_, HS3_, HS4_, HS5_, HS6_, HS7_, HS8_, HS9_, HS10_⟩ (fun hHeld => ?_); clear hK K; refine norm_ (a' := ?_) ?_ ?_; rotate_left
                             ·show Act.put _ (some 171) _ = _; simp only [Act.put, List.setIfInBounds_toArray, List.set_cons_zero, List.set_cons_succ, i64_w, i32_w]; rfl
                             refine pure_ (i := 25) (N := some 172) (v := ?_) (a' := ?_) #[tt,tt,tt,tt,tt,tt,tt,tt,tt,tt,tt,tt,tt,tt,tt,tt,tt,tt,tt,tt,tt,tt,tt,tt,tt,tt,ff,ff,ff] rfl rfl (any_of HT_.out (by kernel_rfl)) (fun _ _ _ h => h) (Or.inl ⟨by rfl, ?_⟩) ?_ ?_; rotate_left
                             ·intro w'; go_simp; (with_reducible rfl)
                             rotate_left
                             ·simp only [Act.put, List.setIfInBounds_toArray, List.set_cons_zero, List.set_cons_succ, i64_w, i32_w]; rfl
                             refine pure_ (i := 26) (N := some 173) (v := ?_) (a' := ?_) #[tt,tt,tt,tt,tt,tt,tt,tt,tt,tt,tt,tt,tt,tt,tt,tt,tt,tt,tt,tt,tt,tt,tt,tt,tt,tt,tt,ff,ff] rfl rfl (any_of HT_.out (by kernel_rfl)) (fun _ _ _ h => h) (Or.inl ⟨by rfl, ?_⟩) ?_ ?_; rotate_left
                             ·intro w'; go_simp; (with_reducible rfl)
                             rotate_left
                             ·simp only [Act.put, List.setIfInBounds_toArray, List.set_cons_zero, List.set_cons_succ, i64_w, i32_w]; rfl
                             refine take_ (i := 27) (N := some 174) (v := ?_) (a' := ?_) #[tt,tt,tt,tt,tt,tt,tt,tt,tt,tt,tt,tt,tt,tt,tt,tt,tt,tt,tt,tt,tt,tt,tt,tt,tt,tt,tt,tt,ff] rfl rfl (take_ofW HT_.out HW_.out (by kernel_rfl)) (fun _ _ _ h => h) (Or.inl ⟨by rfl, ?_⟩) hHeld ?_ ?_; rotate_left
                             ·rintro w' ⟨s0, s1, s2, s3, s4, s5, s6, s7, s8, s9, s10⟩; go_simp; (with_reducible rfl)
                             rotate_left
                             ·simp only [Act.put, List.setIfInBounds_toArray, List.set_cons_zero, List.set_cons_succ, i64_w, i32_w]; rfl
                             refine pure_ (i := 28) (N := some 175) (v := ?_) (a' := ?_) #[tt,tt,tt,tt,tt,tt,tt,tt,tt,tt,tt,tt,tt,tt,tt,tt,tt,tt,tt,tt,tt,tt,tt,tt,tt,tt,tt,tt,tt] rfl rfl (any_of HT_.out (by kernel_rfl)) (fun _ _ _ h => h) (Or.inl ⟨by rfl, ?_⟩) ?_ ?_; rotate_left
                             ·intro w'; go_simp; (with_reducible rfl)
                             rotate_left
                             ·simp only [Act.put, List.setIfInBounds_toArray, List.set_cons_zero, List.set_cons_succ, i64_w, i32_w]; rfl
                             refine done_ (done_of HT_.out (by kernel_rfl)) ?_; try go_wp2
                             go_meet
                             case rel => exact ⟨_, (rdOf false t563 (ji95)), (by first | rfl | (simp; done) | (simp only [← hji95] <;> (first | rfl | simp)) | (simp [*]; done)), H', ⟨by have := HJ11.out; have := HJ23.out; have := HJ48.out; have := HJ62.out; have := HK5.out; first | omega | exact Nat.le_refl _⟩, ⟨by exact rw_ HO_19.out⟩, ⟨by exact rw_ HO_20.out⟩, ⟨by (with_reducible repeat (first | refine blk_drewN ?_ _ | refine blk_drew ?_ | refine blk_alloc ?_ _)); exact BK562.out⟩, ⟨bl_⟩⟩
                            ·rw [if_neg c97] at H; exact absurd H (by simp)
                           ·rw [if_neg c96] at H; exact absurd H (by simp)
                         ·rw [if_neg c92] at H; have c92b0 : decide ((wrap64 (Int.tdiv ((rd_T60 t566 x21_5).f0) t571)) < (t563.length : Int)) = false := decide_eq_false c92; clear c92; have H' := Aside0.mk H; clear H; try go_wp2
                          have n0_ := Aside0.mk (Kd.R_drew HO_19.out); have n1_ := Aside0.mk (Kd.R_drew HO_20.out); have n2_ := Aside0.mk (blk_drew BK562.out); have n3_ := Aside0.mk (below_drew1 HB.out); clear HO_19; clear HO_20; clear BK562; clear HB; have HO_19 := n0_; have HO_20 := n1_; have BK562 := n2_; have HB := n3_; clear n0_ n1_ n2_ n3_; have p570 : 0 ≤ (x21_5 : Int) := of_decide_eq_true (by first | (with_reducible assumption) | assumption); have q570 : x21_5 < (t566.length : Int) := of_decide_eq_true (by first | (with_reducible assumption) | assumption); obtain ⟨ad570, e570, hx570_0, hx570_1, hx570_2, hx570_3⟩ := at_T60 (Kd.R_reads' HO_20.out).2.2 x21_5 p570 q570
                          cases e570; replace p570 := eq_true p570; replace q570 := eq_true q570; refine start_ (n := 29) (S := fun w' => w'.cell? ⟨gb562, 0, none⟩ = some (.int .i64 t559) ∧ w'.cell? ⟨gb562, 1, none⟩ = some (.int .i64 t560) ∧ w'.cell? (ad570.add ((x21_5).toNat * 4)) = some (.int .i64 ((rd_T60 t566 x21_5).f0)) ∧ w'.cell? ⟨(ad570.add ((x21_5).toNat * 4)).block, (ad570.add ((x21_5).toNat * 4)).off + 1, none⟩ = some (.int .i64 ((rd_T60 t566 x21_5).f1)) ∧ w'.cell? ⟨(ad570.add ((x21_5).toNat * 4)).block, (ad570.add ((x21_5).toNat * 4)).off + 2, none⟩ = some (.int .i64 ((rd_T60 t566 x21_5).f2)) ∧ w'.cell? ⟨(ad570.add ((x21_5).toNat * 4)).block, (ad570.add ((x21_5).toNat * 4)).off + 3, none⟩ = some (.int .i64 ((rd_T60 t566 x21_5).f3))) (ds := []) #[ff,ff,ff,ff,ff,ff,ff,ff,ff,ff,ff,ff,ff,ff,ff,ff,ff,ff,ff,ff,ff,ff,ff,ff,ff,ff,ff,ff,ff] (by kernel_rfl) rfl rfl ⟨(blk_cell BK562.out 0).trans rfl, (blk_cell BK562.out 1).trans rfl, hx570_0, hx570_1, hx570_2, hx570_3⟩ (fun hHeld => ?_); refine with_tabW laws_FnPages.tab25 laws_FnPages.bits25 (fun HT_ HW_ => ?_); generalize wr.drew = w103 at HO_19 HO_20 BK562 HB hx570_0 hx570_1 hx570_2 hx570_3 hHeld ⊢
                          refine take_ (i := 0) (N := some 147) (v := ?_) (a' := ?_) #[tt,ff,ff,ff,ff,ff,ff,ff,ff,ff,ff,ff,ff,ff,ff,ff,ff,ff,ff,ff,ff,ff,ff,ff,ff,ff,ff,ff,ff] rfl rfl (take_ofW HT_.out HW_.out (by kernel_rfl)) (fun _ _ _ h => h) (Or.inl ⟨by rfl, ?_⟩) hHeld ?_ ?_; rotate_left
                          ·rintro w' ⟨s0, s1, s2, s3, s4, s5⟩; go_simp; (with_reducible rfl)
                          rotate_left
                          ·simp only [Act.put, List.setIfInBounds_toArray, List.set_cons_zero, List.set_cons_succ, i64_w, i32_w]; rfl
                          refine one_ (i := 1) (N := some 148) #[tt,tt,ff,ff,ff,ff,ff,ff,ff,ff,ff,ff,ff,ff,ff,ff,ff,ff,ff,ff,ff,ff,ff,ff,ff,ff,ff,ff,ff] rfl rfl (one_of HT_.out (by kernel_rfl)) (by decide) (fun K hK => ?_); refine goes_ Try.func35 (by kernel_rfl) rfl #[.agg #[.int .i64 t559, .int .i64 t560]] (by rfl) rfl rfl (by (try simp only [List.map_toArray, List.map_cons, List.map_nil]); first | done | rfl | (simp only [List.length_drop, List.length_take]; rfl)) ?_; (with_reducible refine (impl_BarLong.calls t559 t560 t569 _ A87.out).mono ?_); rintro e w104 ⟨rfl, hb⟩; have HS2_ := (hb.cell (World.block_lt_of_cell? _ _ (hHeld.2.2.1))).trans (hHeld.2.2.1); have HS3_ := (hb.cell (World.block_lt_of_cell? _ _ (hHeld.2.2.2.1))).trans (hHeld.2.2.2.1); have HS4_ := (hb.cell (World.block_lt_of_cell? _ _ (hHeld.2.2.2.2.1))).trans (hHeld.2.2.2.2.1); have HS5_ := (hb.cell (World.block_lt_of_cell? _ _ (hHeld.2.2.2.2.2))).trans (hHeld.2.2.2.2.2); refine ⟨_, rfl, ?_⟩; have n0_ := Aside0.mk (Kd.R_below (by exact rw_ HO_19.out) hb); have n1_ := Aside0.mk (Kd.R_below (by exact rw_ HO_20.out) hb); have n2_ := Aside0.mk (blk_below (g := gb562) (o := .cells #[.int .i64 t559, .int .i64 t560] 42 (0, 0)) (by (with_reducible repeat (first | refine blk_drewN ?_ _ | refine blk_drew ?_ | refine blk_alloc ?_ _)); exact BK562.out) hb); have n3_ := Aside0.mk (below_step bl_ hb); clear HO_19; clear HO_20; clear BK562; clear HB; have HO_19 := n0_; have HO_20 := n1_; have BK562 := n2_; have HB := n3_; clear n0_ n1_ n2_ n3_; (try clear hb); (try clear hb2); (try clear hk); (try clear hi); obtain ⟨Ao105, co105, eo105⟩ := Kd.R_slice HO_19.out; (first | subst eo105 | (injection eo105 with f1_ f2_ f3_; have f4_ := f1_.symm; have f5_ := f3_.symm; clear f1_ f2_ f3_; subst f4_; subst f5_))
                          refine hK.out _ _ ⟨(blk_cell BK562.out 0).trans rfl, (blk_cell BK562.out 1).trans rfl, HS2_, HS3_, HS4_, HS5_⟩ (fun hHeld => ?_); clear hK K; refine norm_ (a' := ?_) ?_ ?_; rotate_left
                          ·show Act.put _ (some 148) _ = _; simp only [Act.put, List.setIfInBounds_toArray, List.set_cons_zero, List.set_cons_succ, i64_w, i32_w]; rfl
                          refine pure_ (i := 2) (N := some 149) (v := ?_) (a' := ?_) #[tt,tt,tt,ff,ff,ff,ff,ff,ff,ff,ff,ff,ff,ff,ff,ff,ff,ff,ff,ff,ff,ff,ff,ff,ff,ff,ff,ff,ff] rfl rfl (any_of HT_.out (by kernel_rfl)) (fun _ _ _ h => h) (Or.inl ⟨by rfl, ?_⟩) ?_ ?_; rotate_left
                          ·intro w'; go_simp; (with_reducible rfl)
                          rotate_left
                          ·simp only [Act.put, List.setIfInBounds_toArray, List.set_cons_zero, List.set_cons_succ, i64_w, i32_w]; rfl
                          refine pure_ (i := 3) (N := some 150) (v := ?_) (a' := ?_) #[tt,tt,tt,tt,ff,ff,ff,ff,ff,ff,ff,ff,ff,ff,ff,ff,ff,ff,ff,ff,ff,ff,ff,ff,ff,ff,ff,ff,ff] rfl rfl (any_of HT_.out (by kernel_rfl)) (fun _ _ _ h => h) (Or.inl ⟨by rfl, ?_⟩) ?_ ?_; rotate_left
                          ·intro w'; go_simp; (with_reducible rfl)
                          rotate_left
                          ·simp only [Act.put, List.setIfInBounds_toArray, List.set_cons_zero, List.set_cons_succ, i64_w, i32_w]; rfl
                          refine pure_ (i := 4) (N := some 151) (v := ?_) (a' := ?_) #[tt,tt,tt,tt,tt,ff,ff,ff,ff,ff,ff,ff,ff,ff,ff,ff,ff,ff,ff,ff,ff,ff,ff,ff,ff,ff,ff,ff,ff] rfl rfl (any_of HT_.out (by kernel_rfl)) (fun _ _ _ h => h) (Or.inl ⟨by rfl, ?_⟩) ?_ ?_; rotate_left
                          ·intro w'; go_simp; (with_reducible rfl)
                          rotate_left
                          ·simp only [Act.put, List.setIfInBounds_toArray, List.set_cons_zero, List.set_cons_succ, i64_w, i32_w]; rfl
                          refine pure_ (i := 5) (N := some 152) (v := ?_) (a' := ?_) #[tt,tt,tt,tt,tt,tt,ff,ff,ff,ff,ff,ff,ff,ff,ff,ff,ff,ff,ff,ff,ff,ff,ff,ff,ff,ff,ff,ff,ff] rfl rfl (any_of HT_.out (by kernel_rfl)) (fun _ _ _ h => h) (Or.inl ⟨by rfl, ?_⟩) ?_ ?_; rotate_left
                          ·intro w'; go_simp; (with_reducible rfl)
                          rotate_left
                          ·simp only [Act.put, List.setIfInBounds_toArray, List.set_cons_zero, List.set_cons_succ, i64_w, i32_w]; rfl
                          refine pure_ (i := 6) (N := some 153) (v := ?_) (a' := ?_) #[tt,tt,tt,tt,tt,tt,tt,ff,ff,ff,ff,ff,ff,ff,ff,ff,ff,ff,ff,ff,ff,ff,ff,ff,ff,ff,ff,ff,ff] rfl rfl (any_of HT_.out (by kernel_rfl)) (fun _ _ _ h => h) (Or.inl ⟨by rfl, ?_⟩) ?_ ?_; rotate_left
                          ·intro w'; go_simp; (with_reducible rfl)
                          rotate_left
                          ·simp only [Act.put, List.setIfInBounds_toArray, List.set_cons_zero, List.set_cons_succ, i64_w, i32_w]; rfl
                          refine pure_ (i := 7) (N := some 154) (v := ?_) (a' := ?_) #[tt,tt,tt,tt,tt,tt,tt,tt,ff,ff,ff,ff,ff,ff,ff,ff,ff,ff,ff,ff,ff,ff,ff,ff,ff,ff,ff,ff,ff] rfl rfl (any_of HT_.out (by kernel_rfl)) (fun _ _ _ h => h) (Or.inl ⟨by rfl, ?_⟩) ?_ ?_; rotate_left
                          ·intro w'; go_simp; (with_reducible rfl)
                          rotate_left
                          ·simp only [Act.put, List.setIfInBounds_toArray, List.set_cons_zero, List.set_cons_succ, i64_w, i32_w]; rfl
                          refine pure_ (i := 8) (N := some 155) (v := ?_) (a' := ?_) #[tt,tt,tt,tt,tt,tt,tt,tt,tt,ff,ff,ff,ff,ff,ff,ff,ff,ff,ff,ff,ff,ff,ff,ff,ff,ff,ff,ff,ff] rfl rfl (any_of HT_.out (by kernel_rfl)) (fun _ _ _ h => h) (Or.inl ⟨by rfl, ?_⟩) ?_ ?_; rotate_left
                          ·intro w'; go_simp; (with_reducible rfl)
                          rotate_left
                          ·simp only [Act.put, List.setIfInBounds_toArray, List.set_cons_zero, List.set_cons_succ, i64_w, i32_w]; rfl
                          refine pure_ (i := 9) (N := some 156) (v := ?_) (a' := ?_) #[tt,tt,tt,tt,tt,tt,tt,tt,tt,tt,ff,ff,ff,ff,ff,ff,ff,ff,ff,ff,ff,ff,ff,ff,ff,ff,ff,ff,ff] rfl rfl (any_of HT_.out (by kernel_rfl)) (fun _ _ _ h => h) (Or.inl ⟨by rfl, ?_⟩) ?_ ?_; rotate_left
                          ·intro w'; go_simp; (with_reducible rfl)
                          rotate_left
                          ·simp only [Act.put, List.setIfInBounds_toArray, List.set_cons_zero, List.set_cons_succ, i64_w, i32_w]; rfl
                          refine take_ (i := 10) (N := some 157) (v := ?_) (a' := ?_) #[tt,tt,tt,tt,tt,tt,tt,tt,tt,tt,tt,ff,ff,ff,ff,ff,ff,ff,ff,ff,ff,ff,ff,ff,ff,ff,ff,ff,ff] rfl rfl (take_ofW HT_.out HW_.out (by kernel_rfl)) (fun _ _ _ h => h) (Or.inl ⟨by rfl, ?_⟩) hHeld ?_ ?_; rotate_left
                          ·rintro w' ⟨s0, s1, s2, s3, s4, s5⟩; go_simp; (with_reducible rfl)
                          rotate_left
                          ·simp only [Act.put, List.setIfInBounds_toArray, List.set_cons_zero, List.set_cons_succ, i64_w, i32_w]; rfl
                          refine take_ (i := 11) (N := some 158) (v := ?_) (a' := ?_) #[tt,tt,tt,tt,tt,tt,tt,tt,tt,tt,tt,tt,ff,ff,ff,ff,ff,ff,ff,ff,ff,ff,ff,ff,ff,ff,ff,ff,ff] rfl rfl (take_ofW HT_.out HW_.out (by kernel_rfl)) (fun _ _ _ h => h) (Or.inl ⟨by rfl, ?_⟩) hHeld ?_ ?_; rotate_left
                          ·rintro w' ⟨s0, s1, s2, s3, s4, s5⟩; go_simp; (with_reducible rfl)
                          rotate_left
                          ·simp only [Act.put, List.setIfInBounds_toArray, List.set_cons_zero, List.set_cons_succ, i64_w, i32_w]; rfl
                          refine one_ (i := 12) (N := some 159) #[tt,tt,tt,tt,tt,tt,tt,tt,tt,tt,tt,tt,tt,ff,ff,ff,ff,ff,ff,ff,ff,ff,ff,ff,ff,ff,ff,ff,ff] rfl rfl (one_of HT_.out (by kernel_rfl)) (by decide) (fun K hK => ?_); refine goes_ Try.func35 (by kernel_rfl) rfl #[.agg #[.int .i64 t559, .int .i64 t560]] (by rfl) rfl rfl (by (try simp only [List.map_toArray, List.map_cons, List.map_nil]); first | done | rfl | (simp only [List.length_drop, List.length_take]; rfl)) ?_; (with_reducible refine (impl_BarLong.calls t559 t560 t571 _ A90.out).mono ?_); rintro e w106 ⟨rfl, hb⟩; have HS2_ := (hb.cell (World.block_lt_of_cell? _ _ (hHeld.2.2.1))).trans (hHeld.2.2.1); have HS3_ := (hb.cell (World.block_lt_of_cell? _ _ (hHeld.2.2.2.1))).trans (hHeld.2.2.2.1); have HS4_ := (hb.cell (World.block_lt_of_cell? _ _ (hHeld.2.2.2.2.1))).trans (hHeld.2.2.2.2.1); have HS5_ := (hb.cell (World.block_lt_of_cell? _ _ (hHeld.2.2.2.2.2))).trans (hHeld.2.2.2.2.2); refine ⟨_, rfl, ?_⟩; have n0_ := Aside0.mk (Kd.R_below (by exact rw_ HO_19.out) hb); have n1_ := Aside0.mk (Kd.R_below (by exact rw_ HO_20.out) hb); have n2_ := Aside0.mk (blk_below (g := gb562) (o := .cells #[.int .i64 t559, .int .i64 t560] 42 (0, 0)) (by (with_reducible repeat (first | refine blk_drewN ?_ _ | refine blk_drew ?_ | refine blk_alloc ?_ _)); exact BK562.out) hb); have n3_ := Aside0.mk (below_step bl_ hb); clear HO_19; clear HO_20; clear BK562; clear HB; have HO_19 := n0_; have HO_20 := n1_; have BK562 := n2_; have HB := n3_; clear n0_ n1_ n2_ n3_; (try clear hb); (try clear hb2); (try clear hk); (try clear hi); refine hK.out _ _ ⟨(blk_cell BK562.out 0).trans rfl, (blk_cell BK562.out 1).trans rfl, HS2_, HS3_, HS4_, HS5_⟩ (fun hHeld => ?_); clear hK K; refine norm_ (a' := ?_) ?_ ?_; rotate_left
                          ·show Act.put _ (some 159) _ = _; simp only [Act.put, List.setIfInBounds_toArray, List.set_cons_zero, List.set_cons_succ, i64_w, i32_w]; rfl
                          refine pure_ (i := 13) (N := some 160) (v := ?_) (a' := ?_) #[tt,tt,tt,tt,tt,tt,tt,tt,tt,tt,tt,tt,tt,tt,ff,ff,ff,ff,ff,ff,ff,ff,ff,ff,ff,ff,ff,ff,ff] rfl rfl (any_of HT_.out (by kernel_rfl)) (fun _ _ _ h => h) (Or.inl ⟨by rfl, ?_⟩) ?_ ?_; rotate_left
                          ·intro w'; go_simp; (with_reducible rfl)
                          rotate_left
                          ·simp only [Act.put, List.setIfInBounds_toArray, List.set_cons_zero, List.set_cons_succ, i64_w, i32_w]; rfl
                          refine pure_ (i := 14) (N := some 161) (v := ?_) (a' := ?_) #[tt,tt,tt,tt,tt,tt,tt,tt,tt,tt,tt,tt,tt,tt,tt,ff,ff,ff,ff,ff,ff,ff,ff,ff,ff,ff,ff,ff,ff] rfl rfl (any_of HT_.out (by kernel_rfl)) (fun _ _ _ h => h) (Or.inl ⟨by rfl, ?_⟩) ?_ ?_; rotate_left
                          ·intro w'; go_simp; (with_reducible rfl)
                          rotate_left
                          ·simp only [Act.put, List.setIfInBounds_toArray, List.set_cons_zero, List.set_cons_succ, i64_w, i32_w]; rfl
                          refine pure_ (i := 15) (N := some 162) (v := ?_) (a' := ?_) #[tt,tt,tt,tt,tt,tt,tt,tt,tt,tt,tt,tt,tt,tt,tt,tt,ff,ff,ff,ff,ff,ff,ff,ff,ff,ff,ff,ff,ff] rfl rfl (any_of HT_.out (by kernel_rfl)) (fun _ _ _ h => h) (Or.inl ⟨by rfl, ?_⟩) ?_ ?_; rotate_left
                          ·intro w'; go_simp; (with_reducible rfl)
                          rotate_left
                          ·simp only [Act.put, List.setIfInBounds_toArray, List.set_cons_zero, List.set_cons_succ, i64_w, i32_w]; rfl
                          refine pure_ (i := 16) (N := some 163) (v := ?_) (a' := ?_) #[tt,tt,tt,tt,tt,tt,tt,tt,tt,tt,tt,tt,tt,tt,tt,tt,tt,ff,ff,ff,ff,ff,ff,ff,ff,ff,ff,ff,ff] rfl rfl (any_of HT_.out (by kernel_rfl)) (fun _ _ _ h => h) (Or.inl ⟨by rfl, ?_⟩) ?_ ?_; rotate_left
                          ·intro w'; go_simp; (with_reducible rfl)
                          rotate_left
                          ·simp only [Act.put, List.setIfInBounds_toArray, List.set_cons_zero, List.set_cons_succ, i64_w, i32_w]; rfl
                          refine pure_ (i := 17) (N := some 164) (v := undef) (a' := ?_) #[tt,tt,tt,tt,tt,tt,tt,tt,tt,tt,tt,tt,tt,tt,tt,tt,tt,tt,ff,ff,ff,ff,ff,ff,ff,ff,ff,ff,ff] rfl rfl (any_of HT_.out (by kernel_rfl)) (fun _ _ _ h => h) (Or.inr ⟨by rfl, rfl⟩) ?_ ?_; rotate_left
                          ·simp only [Act.put, List.setIfInBounds_toArray, List.set_cons_zero, List.set_cons_succ, i64_w, i32_w]; rfl
                          refine pure_ (i := 18) (N := some 165) (v := undef) (a' := ?_) #[tt,tt,tt,tt,tt,tt,tt,tt,tt,tt,tt,tt,tt,tt,tt,tt,tt,tt,tt,ff,ff,ff,ff,ff,ff,ff,ff,ff,ff] rfl rfl (any_of HT_.out (by kernel_rfl)) (fun _ _ _ h => h) (Or.inr ⟨by rfl, rfl⟩) ?_ ?_; rotate_left
                          ·simp only [Act.put, List.setIfInBounds_toArray, List.set_cons_zero, List.set_cons_succ, i64_w, i32_w]; rfl
                          refine pure_ (i := 19) (N := some 166) (v := undef) (a' := ?_) #[tt,tt,tt,tt,tt,tt,tt,tt,tt,tt,tt,tt,tt,tt,tt,tt,tt,tt,tt,tt,ff,ff,ff,ff,ff,ff,ff,ff,ff] rfl rfl (any_of HT_.out (by kernel_rfl)) (fun _ _ _ h => h) (Or.inr ⟨by rfl, rfl⟩) ?_ ?_; rotate_left
                          ·simp only [Act.put, List.setIfInBounds_toArray, List.set_cons_zero, List.set_cons_succ, i64_w, i32_w]; rfl
                          refine pure_ (i := 20) (N := some 167) (v := undef) (a' := ?_) #[tt,tt,tt,tt,tt,tt,tt,tt,tt,tt,tt,tt,tt,tt,tt,tt,tt,tt,tt,tt,tt,ff,ff,ff,ff,ff,ff,ff,ff] rfl rfl (any_of HT_.out (by kernel_rfl)) (fun _ _ _ h => h) (Or.inr ⟨by rfl, rfl⟩) ?_ ?_; rotate_left
                          ·simp only [Act.put, List.setIfInBounds_toArray, List.set_cons_zero, List.set_cons_succ, i64_w, i32_w]; rfl
                          refine pure_ (i := 21) (N := some 168) (v := undef) (a' := ?_) #[tt,tt,tt,tt,tt,tt,tt,tt,tt,tt,tt,tt,tt,tt,tt,tt,tt,tt,tt,tt,tt,tt,ff,ff,ff,ff,ff,ff,ff] rfl rfl (any_of HT_.out (by kernel_rfl)) (fun _ _ _ h => h) (Or.inr ⟨by rfl, rfl⟩) ?_ ?_; rotate_left
                          ·simp only [Act.put, List.setIfInBounds_toArray, List.set_cons_zero, List.set_cons_succ, i64_w, i32_w]; rfl
                          refine pure_ (i := 22) (N := some 169) (v := undef) (a' := ?_) #[tt,tt,tt,tt,tt,tt,tt,tt,tt,tt,tt,tt,tt,tt,tt,tt,tt,tt,tt,tt,tt,tt,tt,ff,ff,ff,ff,ff,ff] rfl rfl (any_of HT_.out (by kernel_rfl)) (fun _ _ _ h => h) (Or.inr ⟨by rfl, rfl⟩) ?_ ?_; rotate_left
                          ·simp only [Act.put, List.setIfInBounds_toArray, List.set_cons_zero, List.set_cons_succ, i64_w, i32_w]; rfl
                          refine pure_ (i := 23) (N := some 170) (v := undef) (a' := ?_) #[tt,tt,tt,tt,tt,tt,tt,tt,tt,tt,tt,tt,tt,tt,tt,tt,tt,tt,tt,tt,tt,tt,tt,tt,ff,ff,ff,ff,ff] rfl rfl (any_of HT_.out (by kernel_rfl)) (fun _ _ _ h => h) (Or.inr ⟨by rfl, rfl⟩) ?_ ?_; rotate_left
                          ·simp only [Act.put, List.setIfInBounds_toArray, List.set_cons_zero, List.set_cons_succ, i64_w, i32_w]; rfl
                          refine pure_ (i := 24) (N := some 171) (v := undef) (a' := ?_) #[tt,tt,tt,tt,tt,tt,tt,tt,tt,tt,tt,tt,tt,tt,tt,tt,tt,tt,tt,tt,tt,tt,tt,tt,tt,ff,ff,ff,ff] rfl rfl (any_of HT_.out (by kernel_rfl)) (fun _ _ _ h => h) (Or.inr ⟨by rfl, rfl⟩) ?_ ?_; rotate_left
                          ·simp only [Act.put, List.setIfInBounds_toArray, List.set_cons_zero, List.set_cons_succ, i64_w, i32_w]; rfl
                          refine pure_ (i := 25) (N := some 172) (v := undef) (a' := ?_) #[tt,tt,tt,tt,tt,tt,tt,tt,tt,tt,tt,tt,tt,tt,tt,tt,tt,tt,tt,tt,tt,tt,tt,tt,tt,tt,ff,ff,ff] rfl rfl (any_of HT_.out (by kernel_rfl)) (fun _ _ _ h => h) (Or.inr ⟨by rfl, rfl⟩) ?_ ?_; rotate_left
                          ·simp only [Act.put, List.setIfInBounds_toArray, List.set_cons_zero, List.set_cons_succ, i64_w, i32_w]; rfl
                          refine pure_ (i := 26) (N := some 173) (v := undef) (a' := ?_) #[tt,tt,tt,tt,tt,tt,tt,tt,tt,tt,tt,tt,tt,tt,tt,tt,tt,tt,tt,tt,tt,tt,tt,tt,tt,tt,tt,ff,ff] rfl rfl (any_of HT_.out (by kernel_rfl)) (fun _ _ _ h => h) (Or.inr ⟨by rfl, rfl⟩) ?_ ?_; rotate_left
                          ·simp only [Act.put, List.setIfInBounds_toArray, List.set_cons_zero, List.set_cons_succ, i64_w, i32_w]; rfl
                          refine pure_ (i := 27) (N := some 174) (v := undef) (a' := ?_) #[tt,tt,tt,tt,tt,tt,tt,tt,tt,tt,tt,tt,tt,tt,tt,tt,tt,tt,tt,tt,tt,tt,tt,tt,tt,tt,tt,tt,ff] rfl rfl (any_of HT_.out (by kernel_rfl)) (fun _ _ _ h => h) (Or.inr ⟨by rfl, rfl⟩) ?_ ?_; rotate_left
                          ·simp only [Act.put, List.setIfInBounds_toArray, List.set_cons_zero, List.set_cons_succ, i64_w, i32_w]; rfl
                          refine pure_ (i := 28) (N := some 175) (v := ?_) (a' := ?_) #[tt,tt,tt,tt,tt,tt,tt,tt,tt,tt,tt,tt,tt,tt,tt,tt,tt,tt,tt,tt,tt,tt,tt,tt,tt,tt,tt,tt,tt] rfl rfl (any_of HT_.out (by kernel_rfl)) (fun _ _ _ h => h) (Or.inl ⟨by rfl, ?_⟩) ?_ ?_; rotate_left
                          ·intro w'; go_simp; (with_reducible rfl)
                          rotate_left
                          ·simp only [Act.put, List.setIfInBounds_toArray, List.set_cons_zero, List.set_cons_succ, i64_w, i32_w]; rfl
                          refine done_ (done_of HT_.out (by kernel_rfl)) ?_; try go_wp2
                          go_meet
                          case rel => exact ⟨_, (false), (by first | rfl | (simp; done) | (simp [*]; done)), H', ⟨by have := HJ11.out; have := HJ23.out; have := HJ48.out; have := HJ62.out; have := HK5.out; first | omega | exact Nat.le_refl _⟩, ⟨by exact rw_ HO_19.out⟩, ⟨by exact rw_ HO_20.out⟩, ⟨by (with_reducible repeat (first | refine blk_drewN ?_ _ | refine blk_drew ?_ | refine blk_alloc ?_ _)); exact BK562.out⟩, ⟨bl_⟩⟩
                       ·rw [if_neg c89] at H; exact absurd H (by simp)
                      ·rw [if_neg c88] at H; have c88b0 : decide (0 < t569) = false := decide_eq_false c88; clear c88; (first | rw [c88b0] | (simp only [i64_w, i32_w]; rw [c88b0]) | skip); have H' := Aside0.mk H; clear H; try go_wp2
                       have n0_ := Aside0.mk (Kd.R_drew HO_19.out); have n1_ := Aside0.mk (Kd.R_drew HO_20.out); have n2_ := Aside0.mk (blk_drew BK562.out); have n3_ := Aside0.mk (below_drew1 HB.out); clear HO_19; clear HO_20; clear BK562; clear HB; have HO_19 := n0_; have HO_20 := n1_; have BK562 := n2_; have HB := n3_; clear n0_ n1_ n2_ n3_; refine start_ (n := 29) (S := fun w' => w'.cell? ⟨gb562, 0, none⟩ = some (.int .i64 t559) ∧ w'.cell? ⟨gb562, 1, none⟩ = some (.int .i64 t560)) (ds := []) #[ff,ff,ff,ff,ff,ff,ff,ff,ff,ff,ff,ff,ff,ff,ff,ff,ff,ff,ff,ff,ff,ff,ff,ff,ff,ff,ff,ff,ff] (by kernel_rfl) rfl rfl ⟨(blk_cell BK562.out 0).trans rfl, (blk_cell BK562.out 1).trans rfl⟩ (fun hHeld => ?_); refine with_tabW laws_FnPages.tab25 laws_FnPages.bits25 (fun HT_ HW_ => ?_); generalize wr.drew = w107 at HO_19 HO_20 BK562 HB hHeld ⊢
                       refine take_ (i := 0) (N := some 147) (v := ?_) (a' := ?_) #[tt,ff,ff,ff,ff,ff,ff,ff,ff,ff,ff,ff,ff,ff,ff,ff,ff,ff,ff,ff,ff,ff,ff,ff,ff,ff,ff,ff,ff] rfl rfl (take_ofW HT_.out HW_.out (by kernel_rfl)) (fun _ _ _ h => h) (Or.inl ⟨by rfl, ?_⟩) hHeld ?_ ?_; rotate_left
                       ·rintro w' ⟨s0, s1⟩; go_simp; (with_reducible rfl)
                       rotate_left
                       ·simp only [Act.put, List.setIfInBounds_toArray, List.set_cons_zero, List.set_cons_succ, i64_w, i32_w]; rfl
                       refine one_ (i := 1) (N := some 148) #[tt,tt,ff,ff,ff,ff,ff,ff,ff,ff,ff,ff,ff,ff,ff,ff,ff,ff,ff,ff,ff,ff,ff,ff,ff,ff,ff,ff,ff] rfl rfl (one_of HT_.out (by kernel_rfl)) (by decide) (fun K hK => ?_); refine goes_ Try.func35 (by kernel_rfl) rfl #[.agg #[.int .i64 t559, .int .i64 t560]] (by rfl) rfl rfl (by (try simp only [List.map_toArray, List.map_cons, List.map_nil]); first | done | rfl | (simp only [List.length_drop, List.length_take]; rfl)) ?_; (with_reducible refine (impl_BarLong.calls t559 t560 t569 _ A87.out).mono ?_); rintro e w108 ⟨rfl, hb⟩; refine ⟨_, rfl, ?_⟩; have n0_ := Aside0.mk (Kd.R_below (by exact rw_ HO_19.out) hb); have n1_ := Aside0.mk (Kd.R_below (by exact rw_ HO_20.out) hb); have n2_ := Aside0.mk (blk_below (g := gb562) (o := .cells #[.int .i64 t559, .int .i64 t560] 42 (0, 0)) (by (with_reducible repeat (first | refine blk_drewN ?_ _ | refine blk_drew ?_ | refine blk_alloc ?_ _)); exact BK562.out) hb); have n3_ := Aside0.mk (below_step bl_ hb); clear HO_19; clear HO_20; clear BK562; clear HB; have HO_19 := n0_; have HO_20 := n1_; have BK562 := n2_; have HB := n3_; clear n0_ n1_ n2_ n3_; (try clear hb); (try clear hb2); (try clear hk); (try clear hi); refine hK.out _ _ ⟨(blk_cell BK562.out 0).trans rfl, (blk_cell BK562.out 1).trans rfl⟩ (fun hHeld => ?_); clear hK K; refine norm_ (a' := ?_) ?_ ?_; rotate_left
                       ·show Act.put _ (some 148) _ = _; simp only [Act.put, List.setIfInBounds_toArray, List.set_cons_zero, List.set_cons_succ, i64_w, i32_w]; rfl
                       refine pure_ (i := 2) (N := some 149) (v := ?_) (a' := ?_) #[tt,tt,tt,ff,ff,ff,ff,ff,ff,ff,ff,ff,ff,ff,ff,ff,ff,ff,ff,ff,ff,ff,ff,ff,ff,ff,ff,ff,ff] rfl rfl (any_of HT_.out (by kernel_rfl)) (fun _ _ _ h => h) (Or.inl ⟨by rfl, ?_⟩) ?_ ?_; rotate_left
                       ·intro w'; go_simp; (with_reducible rfl)
                       rotate_left
                       ·simp only [Act.put, List.setIfInBounds_toArray, List.set_cons_zero, List.set_cons_succ, i64_w, i32_w]; rfl
                       refine pure_ (i := 3) (N := some 150) (v := ?_) (a' := ?_) #[tt,tt,tt,tt,ff,ff,ff,ff,ff,ff,ff,ff,ff,ff,ff,ff,ff,ff,ff,ff,ff,ff,ff,ff,ff,ff,ff,ff,ff] rfl rfl (any_of HT_.out (by kernel_rfl)) (fun _ _ _ h => h) (Or.inl ⟨by rfl, ?_⟩) ?_ ?_; rotate_left
                       ·intro w'; go_simp; (with_reducible rfl)
                       rotate_left
                       ·simp only [Act.put, List.setIfInBounds_toArray, List.set_cons_zero, List.set_cons_succ, i64_w, i32_w]; rfl
                       refine pure_ (i := 4) (N := some 151) (v := undef) (a' := ?_) #[tt,tt,tt,tt,tt,ff,ff,ff,ff,ff,ff,ff,ff,ff,ff,ff,ff,ff,ff,ff,ff,ff,ff,ff,ff,ff,ff,ff,ff] rfl rfl (any_of HT_.out (by kernel_rfl)) (fun _ _ _ h => h) (Or.inr ⟨by rfl, rfl⟩) ?_ ?_; rotate_left
                       ·simp only [Act.put, List.setIfInBounds_toArray, List.set_cons_zero, List.set_cons_succ, i64_w, i32_w]; rfl
                       refine pure_ (i := 5) (N := some 152) (v := undef) (a' := ?_) #[tt,tt,tt,tt,tt,tt,ff,ff,ff,ff,ff,ff,ff,ff,ff,ff,ff,ff,ff,ff,ff,ff,ff,ff,ff,ff,ff,ff,ff] rfl rfl (any_of HT_.out (by kernel_rfl)) (fun _ _ _ h => h) (Or.inr ⟨by rfl, rfl⟩) ?_ ?_; rotate_left
                       ·simp only [Act.put, List.setIfInBounds_toArray, List.set_cons_zero, List.set_cons_succ, i64_w, i32_w]; rfl
                       refine pure_ (i := 6) (N := some 153) (v := undef) (a' := ?_) #[tt,tt,tt,tt,tt,tt,tt,ff,ff,ff,ff,ff,ff,ff,ff,ff,ff,ff,ff,ff,ff,ff,ff,ff,ff,ff,ff,ff,ff] rfl rfl (any_of HT_.out (by kernel_rfl)) (fun _ _ _ h => h) (Or.inr ⟨by rfl, rfl⟩) ?_ ?_; rotate_left
                       ·simp only [Act.put, List.setIfInBounds_toArray, List.set_cons_zero, List.set_cons_succ, i64_w, i32_w]; rfl
                       refine pure_ (i := 7) (N := some 154) (v := undef) (a' := ?_) #[tt,tt,tt,tt,tt,tt,tt,tt,ff,ff,ff,ff,ff,ff,ff,ff,ff,ff,ff,ff,ff,ff,ff,ff,ff,ff,ff,ff,ff] rfl rfl (any_of HT_.out (by kernel_rfl)) (fun _ _ _ h => h) (Or.inr ⟨by rfl, rfl⟩) ?_ ?_; rotate_left
                       ·simp only [Act.put, List.setIfInBounds_toArray, List.set_cons_zero, List.set_cons_succ, i64_w, i32_w]; rfl
                       refine pure_ (i := 8) (N := some 155) (v := undef) (a' := ?_) #[tt,tt,tt,tt,tt,tt,tt,tt,tt,ff,ff,ff,ff,ff,ff,ff,ff,ff,ff,ff,ff,ff,ff,ff,ff,ff,ff,ff,ff] rfl rfl (any_of HT_.out (by kernel_rfl)) (fun _ _ _ h => h) (Or.inr ⟨by rfl, rfl⟩) ?_ ?_; rotate_left
                       ·simp only [Act.put, List.setIfInBounds_toArray, List.set_cons_zero, List.set_cons_succ, i64_w, i32_w]; rfl
                       refine pure_ (i := 9) (N := some 156) (v := undef) (a' := ?_) #[tt,tt,tt,tt,tt,tt,tt,tt,tt,tt,ff,ff,ff,ff,ff,ff,ff,ff,ff,ff,ff,ff,ff,ff,ff,ff,ff,ff,ff] rfl rfl (any_of HT_.out (by kernel_rfl)) (fun _ _ _ h => h) (Or.inr ⟨by rfl, rfl⟩) ?_ ?_; rotate_left
                       ·simp only [Act.put, List.setIfInBounds_toArray, List.set_cons_zero, List.set_cons_succ, i64_w, i32_w]; rfl
                       refine pure_ (i := 10) (N := some 157) (v := undef) (a' := ?_) #[tt,tt,tt,tt,tt,tt,tt,tt,tt,tt,tt,ff,ff,ff,ff,ff,ff,ff,ff,ff,ff,ff,ff,ff,ff,ff,ff,ff,ff] rfl rfl (any_of HT_.out (by kernel_rfl)) (fun _ _ _ h => h) (Or.inr ⟨by rfl, rfl⟩) ?_ ?_; rotate_left
                       ·simp only [Act.put, List.setIfInBounds_toArray, List.set_cons_zero, List.set_cons_succ, i64_w, i32_w]; rfl
                       refine pure_ (i := 11) (N := some 158) (v := undef) (a' := ?_) #[tt,tt,tt,tt,tt,tt,tt,tt,tt,tt,tt,tt,ff,ff,ff,ff,ff,ff,ff,ff,ff,ff,ff,ff,ff,ff,ff,ff,ff] rfl rfl (any_of HT_.out (by kernel_rfl)) (fun _ _ _ h => h) (Or.inr ⟨by rfl, rfl⟩) ?_ ?_; rotate_left
                       ·simp only [Act.put, List.setIfInBounds_toArray, List.set_cons_zero, List.set_cons_succ, i64_w, i32_w]; rfl
                       refine pure_ (i := 12) (N := some 159) (v := undef) (a' := ?_) #[tt,tt,tt,tt,tt,tt,tt,tt,tt,tt,tt,tt,tt,ff,ff,ff,ff,ff,ff,ff,ff,ff,ff,ff,ff,ff,ff,ff,ff] rfl rfl (any_of HT_.out (by kernel_rfl)) (fun _ _ _ h => h) (Or.inr ⟨by rfl, rfl⟩) ?_ ?_; rotate_left
                       ·simp only [Act.put, List.setIfInBounds_toArray, List.set_cons_zero, List.set_cons_succ, i64_w, i32_w]; rfl
                       refine pure_ (i := 13) (N := some 160) (v := undef) (a' := ?_) #[tt,tt,tt,tt,tt,tt,tt,tt,tt,tt,tt,tt,tt,tt,ff,ff,ff,ff,ff,ff,ff,ff,ff,ff,ff,ff,ff,ff,ff] rfl rfl (any_of HT_.out (by kernel_rfl)) (fun _ _ _ h => h) (Or.inr ⟨by rfl, rfl⟩) ?_ ?_; rotate_left
                       ·simp only [Act.put, List.setIfInBounds_toArray, List.set_cons_zero, List.set_cons_succ, i64_w, i32_w]; rfl
                       refine pure_ (i := 14) (N := some 161) (v := undef) (a' := ?_) #[tt,tt,tt,tt,tt,tt,tt,tt,tt,tt,tt,tt,tt,tt,tt,ff,ff,ff,ff,ff,ff,ff,ff,ff,ff,ff,ff,ff,ff] rfl rfl (any_of HT_.out (by kernel_rfl)) (fun _ _ _ h => h) (Or.inr ⟨by rfl, rfl⟩) ?_ ?_; rotate_left
                       ·simp only [Act.put, List.setIfInBounds_toArray, List.set_cons_zero, List.set_cons_succ, i64_w, i32_w]; rfl
                       refine pure_ (i := 15) (N := some 162) (v := ?_) (a' := ?_) #[tt,tt,tt,tt,tt,tt,tt,tt,tt,tt,tt,tt,tt,tt,tt,tt,ff,ff,ff,ff,ff,ff,ff,ff,ff,ff,ff,ff,ff] rfl rfl (any_of HT_.out (by kernel_rfl)) (fun _ _ _ h => h) (Or.inl ⟨by rfl, ?_⟩) ?_ ?_; rotate_left
                       ·intro w'; go_simp; (with_reducible rfl)
                       rotate_left
                       ·simp only [Act.put, List.setIfInBounds_toArray, List.set_cons_zero, List.set_cons_succ, i64_w, i32_w]; rfl
                       refine pure_ (i := 16) (N := some 163) (v := ?_) (a' := ?_) #[tt,tt,tt,tt,tt,tt,tt,tt,tt,tt,tt,tt,tt,tt,tt,tt,tt,ff,ff,ff,ff,ff,ff,ff,ff,ff,ff,ff,ff] rfl rfl (any_of HT_.out (by kernel_rfl)) (fun _ _ _ h => h) (Or.inl ⟨by rfl, ?_⟩) ?_ ?_; rotate_left
                       ·intro w'; go_simp; (with_reducible rfl)
                       rotate_left
                       ·simp only [Act.put, List.setIfInBounds_toArray, List.set_cons_zero, List.set_cons_succ, i64_w, i32_w]; rfl
                       refine pure_ (i := 17) (N := some 164) (v := undef) (a' := ?_) #[tt,tt,tt,tt,tt,tt,tt,tt,tt,tt,tt,tt,tt,tt,tt,tt,tt,tt,ff,ff,ff,ff,ff,ff,ff,ff,ff,ff,ff] rfl rfl (any_of HT_.out (by kernel_rfl)) (fun _ _ _ h => h) (Or.inr ⟨by rfl, rfl⟩) ?_ ?_; rotate_left
                       ·simp only [Act.put, List.setIfInBounds_toArray, List.set_cons_zero, List.set_cons_succ, i64_w, i32_w]; rfl
                       refine pure_ (i := 18) (N := some 165) (v := undef) (a' := ?_) #[tt,tt,tt,tt,tt,tt,tt,tt,tt,tt,tt,tt,tt,tt,tt,tt,tt,tt,tt,ff,ff,ff,ff,ff,ff,ff,ff,ff,ff] rfl rfl (any_of HT_.out (by kernel_rfl)) (fun _ _ _ h => h) (Or.inr ⟨by rfl, rfl⟩) ?_ ?_; rotate_left
                       ·simp only [Act.put, List.setIfInBounds_toArray, List.set_cons_zero, List.set_cons_succ, i64_w, i32_w]; rfl
                       refine pure_ (i := 19) (N := some 166) (v := undef) (a' := ?_) #[tt,tt,tt,tt,tt,tt,tt,tt,tt,tt,tt,tt,tt,tt,tt,tt,tt,tt,tt,tt,ff,ff,ff,ff,ff,ff,ff,ff,ff] rfl rfl (any_of HT_.out (by kernel_rfl)) (fun _ _ _ h => h) (Or.inr ⟨by rfl, rfl⟩) ?_ ?_; rotate_left
                       ·simp only [Act.put, List.setIfInBounds_toArray, List.set_cons_zero, List.set_cons_succ, i64_w, i32_w]; rfl
                       refine pure_ (i := 20) (N := some 167) (v := undef) (a' := ?_) #[tt,tt,tt,tt,tt,tt,tt,tt,tt,tt,tt,tt,tt,tt,tt,tt,tt,tt,tt,tt,tt,ff,ff,ff,ff,ff,ff,ff,ff] rfl rfl (any_of HT_.out (by kernel_rfl)) (fun _ _ _ h => h) (Or.inr ⟨by rfl, rfl⟩) ?_ ?_; rotate_left
                       ·simp only [Act.put, List.setIfInBounds_toArray, List.set_cons_zero, List.set_cons_succ, i64_w, i32_w]; rfl
                       refine pure_ (i := 21) (N := some 168) (v := undef) (a' := ?_) #[tt,tt,tt,tt,tt,tt,tt,tt,tt,tt,tt,tt,tt,tt,tt,tt,tt,tt,tt,tt,tt,tt,ff,ff,ff,ff,ff,ff,ff] rfl rfl (any_of HT_.out (by kernel_rfl)) (fun _ _ _ h => h) (Or.inr ⟨by rfl, rfl⟩) ?_ ?_; rotate_left
                       ·simp only [Act.put, List.setIfInBounds_toArray, List.set_cons_zero, List.set_cons_succ, i64_w, i32_w]; rfl
                       refine pure_ (i := 22) (N := some 169) (v := undef) (a' := ?_) #[tt,tt,tt,tt,tt,tt,tt,tt,tt,tt,tt,tt,tt,tt,tt,tt,tt,tt,tt,tt,tt,tt,tt,ff,ff,ff,ff,ff,ff] rfl rfl (any_of HT_.out (by kernel_rfl)) (fun _ _ _ h => h) (Or.inr ⟨by rfl, rfl⟩) ?_ ?_; rotate_left
                       ·simp only [Act.put, List.setIfInBounds_toArray, List.set_cons_zero, List.set_cons_succ, i64_w, i32_w]; rfl
                       refine pure_ (i := 23) (N := some 170) (v := undef) (a' := ?_) #[tt,tt,tt,tt,tt,tt,tt,tt,tt,tt,tt,tt,tt,tt,tt,tt,tt,tt,tt,tt,tt,tt,tt,tt,ff,ff,ff,ff,ff] rfl rfl (any_of HT_.out (by kernel_rfl)) (fun _ _ _ h => h) (Or.inr ⟨by rfl, rfl⟩) ?_ ?_; rotate_left
                       ·simp only [Act.put, List.setIfInBounds_toArray, List.set_cons_zero, List.set_cons_succ, i64_w, i32_w]; rfl
                       refine pure_ (i := 24) (N := some 171) (v := undef) (a' := ?_) #[tt,tt,tt,tt,tt,tt,tt,tt,tt,tt,tt,tt,tt,tt,tt,tt,tt,tt,tt,tt,tt,tt,tt,tt,tt,ff,ff,ff,ff] rfl rfl (any_of HT_.out (by kernel_rfl)) (fun _ _ _ h => h) (Or.inr ⟨by rfl, rfl⟩) ?_ ?_; rotate_left
                       ·simp only [Act.put, List.setIfInBounds_toArray, List.set_cons_zero, List.set_cons_succ, i64_w, i32_w]; rfl
                       refine pure_ (i := 25) (N := some 172) (v := undef) (a' := ?_) #[tt,tt,tt,tt,tt,tt,tt,tt,tt,tt,tt,tt,tt,tt,tt,tt,tt,tt,tt,tt,tt,tt,tt,tt,tt,tt,ff,ff,ff] rfl rfl (any_of HT_.out (by kernel_rfl)) (fun _ _ _ h => h) (Or.inr ⟨by rfl, rfl⟩) ?_ ?_; rotate_left
                       ·simp only [Act.put, List.setIfInBounds_toArray, List.set_cons_zero, List.set_cons_succ, i64_w, i32_w]; rfl
                       refine pure_ (i := 26) (N := some 173) (v := undef) (a' := ?_) #[tt,tt,tt,tt,tt,tt,tt,tt,tt,tt,tt,tt,tt,tt,tt,tt,tt,tt,tt,tt,tt,tt,tt,tt,tt,tt,tt,ff,ff] rfl rfl (any_of HT_.out (by kernel_rfl)) (fun _ _ _ h => h) (Or.inr ⟨by rfl, rfl⟩) ?_ ?_; rotate_left
                       ·simp only [Act.put, List.setIfInBounds_toArray, List.set_cons_zero, List.set_cons_succ, i64_w, i32_w]; rfl
                       refine pure_ (i := 27) (N := some 174) (v := undef) (a' := ?_) #[tt,tt,tt,tt,tt,tt,tt,tt,tt,tt,tt,tt,tt,tt,tt,tt,tt,tt,tt,tt,tt,tt,tt,tt,tt,tt,tt,tt,ff] rfl rfl (any_of HT_.out (by kernel_rfl)) (fun _ _ _ h => h) (Or.inr ⟨by rfl, rfl⟩) ?_ ?_; rotate_left
                       ·simp only [Act.put, List.setIfInBounds_toArray, List.set_cons_zero, List.set_cons_succ, i64_w, i32_w]; rfl
                       refine pure_ (i := 28) (N := some 175) (v := ?_) (a' := ?_) #[tt,tt,tt,tt,tt,tt,tt,tt,tt,tt,tt,tt,tt,tt,tt,tt,tt,tt,tt,tt,tt,tt,tt,tt,tt,tt,tt,tt,tt] rfl rfl (any_of HT_.out (by kernel_rfl)) (fun _ _ _ h => h) (Or.inl ⟨by rfl, ?_⟩) ?_ ?_; rotate_left
                       ·intro w'; go_simp; (with_reducible rfl)
                       rotate_left
                       ·simp only [Act.put, List.setIfInBounds_toArray, List.set_cons_zero, List.set_cons_succ, i64_w, i32_w]; rfl
                       refine done_ (done_of HT_.out (by kernel_rfl)) ?_; try go_wp2
                       go_meet
                       case rel => exact ⟨_, (false), (by first | rfl | (simp; done) | (simp [*]; done)), H', ⟨by have := HJ11.out; have := HJ23.out; have := HJ48.out; have := HJ62.out; have := HK5.out; first | omega | exact Nat.le_refl _⟩, ⟨by exact rw_ HO_19.out⟩, ⟨by exact rw_ HO_20.out⟩, ⟨by (with_reducible repeat (first | refine blk_drewN ?_ _ | refine blk_drew ?_ | refine blk_alloc ?_ _)); exact BK562.out⟩, ⟨bl_⟩⟩
                    case rest =>
                     as_aux_lemma =>
                      clear HC85; try clear p2
                      try clear c3
                      try clear p5
                      try clear q5
                      try clear hx5
                      try clear p6
                      try clear c8
                      try clear c9
                      try clear c35
                      try clear p57
                      try clear q57
                      try clear hx57
                      try clear p64
                      try clear c88
                      try clear c88b0
                      try clear c89
                      try clear c92
                      try clear c92b0
                      try clear c96
                      try clear c97
                      try clear hx570_0
                      try clear hx570_1
                      try clear hx570_2
                      try clear hx570_3
                      try clear p570
                      try clear q570
                      obtain ⟨kq, x175_84, rfl, HA, HJ84, HO_19, HO_20, BK562, HB⟩ := hcut
                      cases kq with
                      | zero => exact absurd HA.out (by simp [laws_FnPages.j7])
                      | succ kj84 =>
                       have H := HA.out; clear HA; simp only [laws_FnPages.j7] at H; by_cases c109 : x175_84 = true
                       ·subst c109; rw [if_pos rfl] at H; obtain rfl := Option.some.inj H
                        go_wp2; go_ret; exact ⟨by first | rfl | (simp [errW_none, errW_some] <;> rfl) | (simp [*, errW_none, errW_some] <;> rfl), bl_⟩
                       ·replace c109 := Bool.eq_false_iff.mpr c109; subst c109; rw [if_neg (show ¬ (false = true) by decide)] at H; have H' := Aside0.mk H; clear H; go_wp2; go_roundg kj84
                        case measure => have := HJ11.out; have := HJ23.out; have := HJ48.out; have := HJ62.out; have := HK5.out; have := HJ84.out; omega
                        case rel => exact ⟨(wrap64 (x21_5 + 1)), (by first | rfl | (simp; done) | (simp [*]; done)), H', ⟨by have := HJ11.out; have := HJ23.out; have := HJ48.out; have := HJ62.out; have := HK5.out; have := HJ84.out; omega⟩, ⟨by exact rw_ HO_19.out⟩, ⟨by exact rw_ HO_20.out⟩, ⟨by (with_reducible repeat (first | refine blk_drewN ?_ _ | refine blk_drew ?_ | refine blk_alloc ?_ _)); exact BK562.out⟩, ⟨bl_⟩⟩
                   ·rw [if_neg c84] at H; have c84b0 : decide (x21_5 < (t566.length : Int)) = false := decide_eq_false c84; clear c84; by_cases c110 : (t563.length : Int) = 0
                    ·rw [if_pos c110] at H; have c110b0 : ((t563.length : Int) == 0) = true := beq_iff_eq.mpr c110; have c110b1 : ((t563.length : Int) != 0) = false := bne_eq_false_iff_eq.mpr c110; clear c110; obtain rfl := Option.some.inj H
                     obtain ⟨Ao111, co111, eo111⟩ := Kd.R_slice HO_20.out; subst eo111; obtain ⟨Ao112, co112, eo112⟩ := Kd.R_slice HO_19.out; subst eo112; go_wp2; go_ret; exact ⟨by first | rfl | (simp [errW_none, errW_some] <;> rfl) | (simp [*, errW_none, errW_some] <;> rfl), bl_⟩
                    ·rw [if_neg c110] at H; have c110b0 : ((t563.length : Int) == 0) = false := beq_eq_false_iff_ne.mpr c110; have c110b1 : ((t563.length : Int) != 0) = true := bne_iff_ne.mpr c110; have c110b2 : ¬ (t563 = []) := fun h_ => c110 (by rw [h_]; rfl)
                     obtain rfl := Option.some.inj H
                     obtain ⟨Ao113, co113, eo113⟩ := Kd.R_slice HO_20.out; subst eo113; obtain ⟨Ao114, co114, eo114⟩ := Kd.R_slice HO_19.out; subst eo114; go_wp2; go_ret; exact ⟨by first | rfl | (simp [errW_none, errW_some] <;> rfl) | (simp [*, errW_none, errW_some] <;> rfl), bl_⟩

/-- THE ONE PURE STATEMENT of laws_FnPages: yours. -/
def laws_FnPages.Pure : Prop := ∀ (l0 : List Int), l0.length ≤ maxLen → l0.length * 1 ≤ 140737488351232 → (∀ x ∈ l0, (Lit.int .u8 x).wf = true) → ∃ k, laws_FnPages.f k l0 = some true
theorem laws_FnPages.walk (P : laws_FnPages.Pure) (a0 : Option Addr) (len0 cap0 : Nat) (z0 : List Int) (w : World) (w0 : (a0 = none ∧ len0 = 0 ∧ cap0 = 0 ∧ z0 = []) ∨ ∃ x, a0 = some x ∧ len0 ≤ cap0 ∧ cap0 ≤ maxLen ∧ z0.length = cap0 ∧ (∀ i, i < z0.length → w.cell? (x.add i) = some (.int .u8 (z0.getD i 0))) ∧ ∀ n ∈ z0, (Lit.int .u8 n).wf = true) (y0 : len0 * 1 ≤ 140737488351232) :
  Calls Try.prog 7 #[.slice a0 len0 cap0] w fun e w' => e = .returned (.bool true) ∧ Below w.heap.size w w' := by
 obtain ⟨l0, rfl, hr0, hm0, hw0, hc0⟩ := ReadsInt.ofRowC w0; obtain ⟨k, h⟩ := P l0 hm0 y0 hw0; refine (laws_FnPages.calls k _ _ l0 true w (Kd.C_of_reads (d := (0 : Int)) (h1 := fun _ => rfl) hr0) hc0 h).mono ?_; rintro e w' ⟨rfl, hd⟩; exact ⟨rfl, hd⟩

end Go.Proofs.Ythlipgfmfgangaa.QFnPages
