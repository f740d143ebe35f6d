/- For each Go function that the law uses, a Lean function with the same answers and a proof that its call comes to them; the conditions stand in each theorem. (Written by a program of this session, turned from the print of the kit.) -/
import Derived.Test.YtojklddddedoeaaPFnMonotonePlansx0
import Derived.Test.YtojklddddedoeaaPFnMonotonePlansx1
import Derived.Test.YtojklddddedoeaaPFnMonotonePlansx3
import Derived.Test.YtojklddddedoeaaPFnMonotonePlansx4
import Derived.Test.YtojklddddedoeaaPFnMonotonePlansx5
import Derived.Test.YtojklddddedoeaaPFnMonotonePlansx6
import Derived.Test.YtojklddddedoeaaPFnMonotonePlansx7
import Derived.Test.YtojklddddedoeaaPFnMonotonePlansx8
import Derived.Test.YtojklddddedoeaaPFnMonotonePlansx10
namespace Go.Proofs.Ytojklddddedoeaa.PFnMonotonePlans
open Go.RowKit Go.Proofs.YtojklddddedoeaaW.PrintWords Go.Proofs.YtojklddddedoeaaW.PrintLast Go.Proofs.YtojklddddedoeaaW.PrintMore
attribute [local go_sem] max2_int min2_int max_two min_two max_three min_three max_four min_four   -- for this text's walks alone
set_option linter.unusedVariables false
set_option linter.unusedSimpArgs false

/-! ### laws_FnMonotonePlans: function 3 -/
mutual
def laws_FnMonotonePlans.j0 : Nat → List Int → List Int → List Int → List (List Int) → Bool → Int → Bool → Option (Bool)
 | 0, _, _, _, _, _, _, _ => none
 | k + 1, x1, x5, x6, x7, x10, x11, x91 => if x91 = true then none else (if x10 = true then ((impl_IsPlan.f k x7 x5 x6).bind fun bt448 => ((impl_PlanCost.f k x7).bind fun bt450 => ((impl_IsMonotone.f k x7).bind fun bt452 => ((impl_LineDistance.f k x6 x5).bind fun bt454 => (if bt448.2 = true then (if bt450.2 = true then (if bt452.2 = true then (if bt454.2 = true then (if bt448.1 = true then (if bt450.1 = x11 then (if bt452.1 = true then (if bt454.1 = x11 then (laws_FnMonotonePlans.j1 k x1) else none) else none) else none) else none) else none) else none) else none) else none))))) else (laws_FnMonotonePlans.j1 k x1))
def laws_FnMonotonePlans.j1 : Nat → List Int → Option (Bool)
 | 0, _ => none
 | k + 1, x1 => (spec_DrawPlanCost.f k x1).bind fun t456 => ((impl_PlanCost.f k t456).bind fun bt459 => ((spec_PlanCost.f k t456).bind fun bt461 => (if (bt459.2 != bt461.2) = true then none else (laws_FnMonotonePlans.j2 k t456 bt459.1 bt459.2 (bt459.1 != bt461.1)))))
def laws_FnMonotonePlans.j2 : Nat → List (List Int) → Int → Bool → Bool → Option (Bool)
 | 0, _, _, _, _ => none
 | k + 1, x23, x24, x25, x167 => if x167 = true then none else (if x25 = true then ((laws_pMargins.f k x23).bind fun bt463 => ((impl_LineDistance.f k bt463.1 bt463.2).bind fun bt469 => ((impl_IsMonotone.f k x23).bind fun bt471 => ((impl_MonotonePlan.f k bt463.1 bt463.2).bind fun bt473 => (if bt469.2 = true then (if bt471.2 = true then (if bt473.2 = true then (if bt469.1 ≤ x24 then ((laws_pSameRows.f k bt473.1 x23).bind fun t477 => (some (bt471.1 == t477))) else none) else none) else none) else (some true)))))) else (some true))
end
def laws_FnMonotonePlans.f (k : Nat) (l0 : List Int) (l1 : List Int) : Option (Bool) := (laws_big.f l0 l1).bind fun t428 => (if t428 = true then (some true) else ((spec_DrawMonotonePlan.f k l0).bind fun bt429 => ((impl_MonotonePlan.f k bt429.1 bt429.2).bind fun bt435 => ((spec_MonotonePlan.f k bt429.1 bt429.2).bind fun bt439 => ((impl_LineDistance.f k bt429.1 bt429.2).bind fun bt443 => ((spec_LineDistance.f k bt429.1 bt429.2).bind fun bt445 => (if (bt435.2 != bt439.2) = true then none else ((laws_pSameRows.f k bt435.1 bt439.1).bind fun t447 => (if t447 = true then (if (bt443.2 != bt445.2) = true then none else (if bt443.1 = bt445.1 then (laws_FnMonotonePlans.j0 k l1 bt429.1 bt429.2 bt435.1 bt439.2 bt443.1 (bt443.2 != bt435.2)) else none)) else none)))))))))
theorem laws_FnMonotonePlans.mono_l : ∀ k, (∀ y0 y1 y2 y3 y4 y5 y6, LeO (laws_FnMonotonePlans.j0 k y0 y1 y2 y3 y4 y5 y6) (laws_FnMonotonePlans.j0 (k + 1) y0 y1 y2 y3 y4 y5 y6)) ∧ (∀ y0, LeO (laws_FnMonotonePlans.j1 k y0) (laws_FnMonotonePlans.j1 (k + 1) y0)) ∧ (∀ y0 y1 y2 y3, LeO (laws_FnMonotonePlans.j2 k y0 y1 y2 y3) (laws_FnMonotonePlans.j2 (k + 1) y0 y1 y2 y3))
 | 0 => ⟨fun _ _ _ _ _ _ _ r h => by simp [laws_FnMonotonePlans.j0] at h, fun _ r h => by simp [laws_FnMonotonePlans.j1] at h, fun _ _ _ _ r h => by simp [laws_FnMonotonePlans.j2] at h⟩
 | k + 1 => by
  obtain ⟨ih0, ih1, ih2⟩ := laws_FnMonotonePlans.mono_l k
  refine ⟨?_, ?_, ?_⟩
  ·intro y0 y1 y2 y3 y4 y5 y6
   unfold laws_FnMonotonePlans.j0
   repeat' first
   | (with_reducible exact ih0 _ _ _ _ _ _ _)
   | (with_reducible exact ih1 _)
   | (with_reducible exact ih2 _ _ _ _)
   | (with_reducible exact impl_IsMonotone.mono _ _)
   | (with_reducible exact impl_IsPlan.mono _ _ _ _)
   | (with_reducible exact impl_LineDistance.mono _ _ _)
   | (with_reducible exact impl_MonotonePlan.mono _ _ _)
   | (with_reducible exact impl_PlanCost.mono _ _)
   | (with_reducible exact laws_pMargins.mono _ _)
   | (with_reducible exact laws_pSameRows.mono _ _ _)
   | (with_reducible exact spec_DrawMonotonePlan.mono _ _)
   | (with_reducible exact spec_DrawPlanCost.mono _ _)
   | (with_reducible exact spec_LineDistance.mono _ _ _)
   | (with_reducible exact spec_MonotonePlan.mono _ _ _)
   | (with_reducible exact spec_PlanCost.mono _ _)
   | (with_reducible exact LeO.refl _)
   | (with_reducible exact LeO.none _)
   | (with_reducible refine LeO.ite ?_ ?_)
   | (with_reducible refine LeO.bind ?_ (fun _ => ?_))
   | exact ih0 _ _ _ _ _ _ _
   | exact ih1 _
   | exact ih2 _ _ _ _
   | exact impl_IsMonotone.mono _ _
   | exact impl_IsPlan.mono _ _ _ _
   | exact impl_LineDistance.mono _ _ _
   | exact impl_MonotonePlan.mono _ _ _
   | exact impl_PlanCost.mono _ _
   | exact laws_pMargins.mono _ _
   | exact laws_pSameRows.mono _ _ _
   | exact spec_DrawMonotonePlan.mono _ _
   | exact spec_DrawPlanCost.mono _ _
   | exact spec_LineDistance.mono _ _ _
   | exact spec_MonotonePlan.mono _ _ _
   | exact spec_PlanCost.mono _ _
   | exact LeO.none _
   | refine LeO.ite ?_ ?_
   | refine LeO.bind ?_ (fun _ => ?_)
  ·intro y0
   unfold laws_FnMonotonePlans.j1
   repeat' first
   | (with_reducible exact ih0 _ _ _ _ _ _ _)
   | (with_reducible exact ih1 _)
   | (with_reducible exact ih2 _ _ _ _)
   | (with_reducible exact impl_IsMonotone.mono _ _)
   | (with_reducible exact impl_IsPlan.mono _ _ _ _)
   | (with_reducible exact impl_LineDistance.mono _ _ _)
   | (with_reducible exact impl_MonotonePlan.mono _ _ _)
   | (with_reducible exact impl_PlanCost.mono _ _)
   | (with_reducible exact laws_pMargins.mono _ _)
   | (with_reducible exact laws_pSameRows.mono _ _ _)
   | (with_reducible exact spec_DrawMonotonePlan.mono _ _)
   | (with_reducible exact spec_DrawPlanCost.mono _ _)
   | (with_reducible exact spec_LineDistance.mono _ _ _)
   | (with_reducible exact spec_MonotonePlan.mono _ _ _)
   | (with_reducible exact spec_PlanCost.mono _ _)
   | (with_reducible exact LeO.refl _)
   | (with_reducible exact LeO.none _)
   | (with_reducible refine LeO.ite ?_ ?_)
   | (with_reducible refine LeO.bind ?_ (fun _ => ?_))
   | exact ih0 _ _ _ _ _ _ _
   | exact ih1 _
   | exact ih2 _ _ _ _
   | exact impl_IsMonotone.mono _ _
   | exact impl_IsPlan.mono _ _ _ _
   | exact impl_LineDistance.mono _ _ _
   | exact impl_MonotonePlan.mono _ _ _
   | exact impl_PlanCost.mono _ _
   | exact laws_pMargins.mono _ _
   | exact laws_pSameRows.mono _ _ _
   | exact spec_DrawMonotonePlan.mono _ _
   | exact spec_DrawPlanCost.mono _ _
   | exact spec_LineDistance.mono _ _ _
   | exact spec_MonotonePlan.mono _ _ _
   | exact spec_PlanCost.mono _ _
   | exact LeO.none _
   | refine LeO.ite ?_ ?_
   | refine LeO.bind ?_ (fun _ => ?_)
  ·intro y0 y1 y2 y3
   unfold laws_FnMonotonePlans.j2
   repeat' first
   | (with_reducible exact ih0 _ _ _ _ _ _ _)
   | (with_reducible exact ih1 _)
   | (with_reducible exact ih2 _ _ _ _)
   | (with_reducible exact impl_IsMonotone.mono _ _)
   | (with_reducible exact impl_IsPlan.mono _ _ _ _)
   | (with_reducible exact impl_LineDistance.mono _ _ _)
   | (with_reducible exact impl_MonotonePlan.mono _ _ _)
   | (with_reducible exact impl_PlanCost.mono _ _)
   | (with_reducible exact laws_pMargins.mono _ _)
   | (with_reducible exact laws_pSameRows.mono _ _ _)
   | (with_reducible exact spec_DrawMonotonePlan.mono _ _)
   | (with_reducible exact spec_DrawPlanCost.mono _ _)
   | (with_reducible exact spec_LineDistance.mono _ _ _)
   | (with_reducible exact spec_MonotonePlan.mono _ _ _)
   | (with_reducible exact spec_PlanCost.mono _ _)
   | (with_reducible exact LeO.refl _)
   | (with_reducible exact LeO.none _)
   | (with_reducible refine LeO.ite ?_ ?_)
   | (with_reducible refine LeO.bind ?_ (fun _ => ?_))
   | exact ih0 _ _ _ _ _ _ _
   | exact ih1 _
   | exact ih2 _ _ _ _
   | exact impl_IsMonotone.mono _ _
   | exact impl_IsPlan.mono _ _ _ _
   | exact impl_LineDistance.mono _ _ _
   | exact impl_MonotonePlan.mono _ _ _
   | exact impl_PlanCost.mono _ _
   | exact laws_pMargins.mono _ _
   | exact laws_pSameRows.mono _ _ _
   | exact spec_DrawMonotonePlan.mono _ _
   | exact spec_DrawPlanCost.mono _ _
   | exact spec_LineDistance.mono _ _ _
   | exact spec_MonotonePlan.mono _ _ _
   | exact spec_PlanCost.mono _ _
   | exact LeO.none _
   | refine LeO.ite ?_ ?_
   | refine LeO.bind ?_ (fun _ => ?_)
theorem laws_FnMonotonePlans.mono : ∀ a0 a1 k, LeO (laws_FnMonotonePlans.f k a0 a1) (laws_FnMonotonePlans.f (k + 1) a0 a1) := by
 intro a0 a1 k
 obtain ⟨ih0, ih1, ih2⟩ := laws_FnMonotonePlans.mono_l k
 unfold laws_FnMonotonePlans.f
 repeat' first
   | (with_reducible exact ih0 _ _ _ _ _ _ _)
   | (with_reducible exact ih1 _)
   | (with_reducible exact ih2 _ _ _ _)
   | (with_reducible exact impl_IsMonotone.mono _ _)
   | (with_reducible exact impl_IsPlan.mono _ _ _ _)
   | (with_reducible exact impl_LineDistance.mono _ _ _)
   | (with_reducible exact impl_MonotonePlan.mono _ _ _)
   | (with_reducible exact impl_PlanCost.mono _ _)
   | (with_reducible exact laws_pMargins.mono _ _)
   | (with_reducible exact laws_pSameRows.mono _ _ _)
   | (with_reducible exact spec_DrawMonotonePlan.mono _ _)
   | (with_reducible exact spec_DrawPlanCost.mono _ _)
   | (with_reducible exact spec_LineDistance.mono _ _ _)
   | (with_reducible exact spec_MonotonePlan.mono _ _ _)
   | (with_reducible exact spec_PlanCost.mono _ _)
   | (with_reducible exact LeO.refl _)
   | (with_reducible exact LeO.none _)
   | (with_reducible refine LeO.ite ?_ ?_)
   | (with_reducible refine LeO.bind ?_ (fun _ => ?_))
   | exact ih0 _ _ _ _ _ _ _
   | exact ih1 _
   | exact ih2 _ _ _ _
   | exact impl_IsMonotone.mono _ _
   | exact impl_IsPlan.mono _ _ _ _
   | exact impl_LineDistance.mono _ _ _
   | exact impl_MonotonePlan.mono _ _ _
   | exact impl_PlanCost.mono _ _
   | exact laws_pMargins.mono _ _
   | exact laws_pSameRows.mono _ _ _
   | exact spec_DrawMonotonePlan.mono _ _
   | exact spec_DrawPlanCost.mono _ _
   | exact spec_LineDistance.mono _ _ _
   | exact spec_MonotonePlan.mono _ _ _
   | exact spec_PlanCost.mono _ _
   | exact LeO.none _
   | refine LeO.ite ?_ ?_
   | refine LeO.bind ?_ (fun _ => ?_)
set_option maxHeartbeats 8000000 in
set_option maxRecDepth 100000 in
-- NOFALSE
theorem laws_FnMonotonePlans.calls (k : Nat) (A0 : Option Addr) (c0 : Nat) (l0 : List Int) (A1 : Option Addr) (c1 : Nat) (l1 : List Int) (r : Bool) (w : World) (hr0 : Kd.C (Kd.int .u8) w A0 l0.length l0) (hc0 : l0.length ≤ c0) (hr1 : Kd.C (Kd.int .u8) w A1 l1.length l1) (hc1 : l1.length ≤ c1) (h : laws_FnMonotonePlans.f k l0 l1 = some r) :
  Calls Try.prog 3 #[.slice A0 l0.length c0, .slice A1 l1.length c1] w fun e w' => e = .returned (.bool r) ∧ Below w.heap.size w w' := by
 have HR0 := Aside0.mk hr0
 have HC0 := Aside0.mk hc0
 clear hr0 hc0
 have HR1 := Aside0.mk hr1
 have HC1 := Aside0.mk hc1
 clear hr1 hc1
 have HB := Aside0.mk (Below.refl w.heap.size w)
 have H : ((laws_big.f l0 l1).bind fun t428 => (if t428 = true then (some true) else ((spec_DrawMonotonePlan.f k l0).bind fun bt429 => ((impl_MonotonePlan.f k bt429.1 bt429.2).bind fun bt435 => ((spec_MonotonePlan.f k bt429.1 bt429.2).bind fun bt439 => ((impl_LineDistance.f k bt429.1 bt429.2).bind fun bt443 => ((spec_LineDistance.f k bt429.1 bt429.2).bind fun bt445 => (if (bt435.2 != bt439.2) = true then none else ((laws_pSameRows.f k bt435.1 bt439.1).bind fun t447 => (if t447 = true then (if (bt443.2 != bt445.2) = true then none else (if bt443.1 = bt445.1 then (laws_FnMonotonePlans.j0 k l1 bt429.1 bt429.2 bt435.1 bt439.2 bt443.1 (bt443.2 != bt435.2)) else none)) else none)))))))))) = some r := h
 clear h
 replace H := Option.bind_eq_some_iff.mp H
 obtain ⟨t428, A30, H⟩ := H
 replace H : (if t428 = true then (some true) else ((spec_DrawMonotonePlan.f k l0).bind fun bt429 => ((impl_MonotonePlan.f k bt429.1 bt429.2).bind fun bt435 => ((spec_MonotonePlan.f k bt429.1 bt429.2).bind fun bt439 => ((impl_LineDistance.f k bt429.1 bt429.2).bind fun bt443 => ((spec_LineDistance.f k bt429.1 bt429.2).bind fun bt445 => (if (bt435.2 != bt439.2) = true then none else ((laws_pSameRows.f k bt435.1 bt439.1).bind fun t447 => (if t447 = true then (if (bt443.2 != bt445.2) = true then none else (if bt443.1 = bt445.1 then (laws_FnMonotonePlans.j0 k l1 bt429.1 bt429.2 bt435.1 bt439.2 bt443.1 (bt443.2 != bt435.2)) else none)) else none))))))))) = some r := H
 have A3 := Aside0.mk A30
 clear A30
 by_cases c4 : t428 = true
 ·subst c4
  have H1 : (some true) = some r := by rw [if_pos rfl] at H; exact H
  clear H
  have H := H1
  clear H1
  obtain rfl := Option.some.inj H
  go_enter Try.func3, Try.ntmps3
  go_wp2_with (first | ((with_reducible refine gate_callee (f := 10) rfl ?_); refine goesL_ (some 38) rfl rfl Try.func10 (by kernel_rfl) rfl #[.slice A0 l0.length c0, .slice A1 l1.length c1] rfl (by (try simp only [List.map_toArray, List.map_cons, List.map_nil]); first | done | rfl | (simp only [List.length_drop, List.length_take]; rfl)) ?_; (with_reducible refine (laws_big.calls _ _ l0 _ _ l1 true _ ?side1 ?side2 ?side3 ?side4 A3.out).mono ?_); (case side1 => repeat (first | exact HR0.out | (with_reducible refine Kd.C_alloc ?_ _) | (with_reducible refine Kd.C_drewN ?_ _) | (with_reducible refine Kd.C_drew ?_))); (case side2 => exact HC0.out); (case side3 => repeat (first | exact HR1.out | (with_reducible refine Kd.C_alloc ?_ _) | (with_reducible refine Kd.C_drewN ?_ _) | (with_reducible refine Kd.C_drew ?_))); (case side4 => exact HC1.out); rintro e w' ⟨rfl, ⟨nd, rfl⟩⟩; refine ⟨_, rfl, ?_⟩))
  go_ret
  exact ⟨by first | rfl | (simp [errW_none, errW_some] <;> rfl) | (simp [*, errW_none, errW_some] <;> rfl), by repeat (first | (with_reducible first | exact HB.out | apply below_alloc | apply pw_below_drewN | apply below_drew1) | exact HB.out)⟩
 ·replace c4 := Bool.eq_false_iff.mpr c4
  subst c4
  have H1 : ((spec_DrawMonotonePlan.f k l0).bind fun bt429 => ((impl_MonotonePlan.f k bt429.1 bt429.2).bind fun bt435 => ((spec_MonotonePlan.f k bt429.1 bt429.2).bind fun bt439 => ((impl_LineDistance.f k bt429.1 bt429.2).bind fun bt443 => ((spec_LineDistance.f k bt429.1 bt429.2).bind fun bt445 => (if (bt435.2 != bt439.2) = true then none else ((laws_pSameRows.f k bt435.1 bt439.1).bind fun t447 => (if t447 = true then (if (bt443.2 != bt445.2) = true then none else (if bt443.1 = bt445.1 then (laws_FnMonotonePlans.j0 k l1 bt429.1 bt429.2 bt435.1 bt439.2 bt443.1 (bt443.2 != bt435.2)) else none)) else none)))))))) = some r := by rw [if_neg (show ¬ (false = true) by decide)] at H; exact H
  clear H
  have H := H1
  clear H1
  replace H := Option.bind_eq_some_iff.mp H
  obtain ⟨⟨t429, t430⟩, A50, H⟩ := H
  replace H : ((impl_MonotonePlan.f k t429 t430).bind fun bt435 => ((spec_MonotonePlan.f k t429 t430).bind fun bt439 => ((impl_LineDistance.f k t429 t430).bind fun bt443 => ((spec_LineDistance.f k t429 t430).bind fun bt445 => (if (bt435.2 != bt439.2) = true then none else ((laws_pSameRows.f k bt435.1 bt439.1).bind fun t447 => (if t447 = true then (if (bt443.2 != bt445.2) = true then none else (if bt443.1 = bt445.1 then (laws_FnMonotonePlans.j0 k l1 t429 t430 bt435.1 bt439.2 bt443.1 (bt443.2 != bt435.2)) else none)) else none))))))) = some r := H
  have A5 := Aside0.mk A50
  clear A50
  replace H := Option.bind_eq_some_iff.mp H
  obtain ⟨⟨t435, t436⟩, A60, H⟩ := H
  replace H : ((spec_MonotonePlan.f k t429 t430).bind fun bt439 => ((impl_LineDistance.f k t429 t430).bind fun bt443 => ((spec_LineDistance.f k t429 t430).bind fun bt445 => (if (t436 != bt439.2) = true then none else ((laws_pSameRows.f k t435 bt439.1).bind fun t447 => (if t447 = true then (if (bt443.2 != bt445.2) = true then none else (if bt443.1 = bt445.1 then (laws_FnMonotonePlans.j0 k l1 t429 t430 t435 bt439.2 bt443.1 (bt443.2 != t436)) else none)) else none)))))) = some r := H
  have A6 := Aside0.mk A60
  clear A60
  replace H := Option.bind_eq_some_iff.mp H
  obtain ⟨⟨t439, t440⟩, A70, H⟩ := H
  replace H : ((impl_LineDistance.f k t429 t430).bind fun bt443 => ((spec_LineDistance.f k t429 t430).bind fun bt445 => (if (t436 != t440) = true then none else ((laws_pSameRows.f k t435 t439).bind fun t447 => (if t447 = true then (if (bt443.2 != bt445.2) = true then none else (if bt443.1 = bt445.1 then (laws_FnMonotonePlans.j0 k l1 t429 t430 t435 t440 bt443.1 (bt443.2 != t436)) else none)) else none))))) = some r := H
  have A7 := Aside0.mk A70
  clear A70
  replace H := Option.bind_eq_some_iff.mp H
  obtain ⟨⟨t443, t444⟩, A80, H⟩ := H
  replace H : ((spec_LineDistance.f k t429 t430).bind fun bt445 => (if (t436 != t440) = true then none else ((laws_pSameRows.f k t435 t439).bind fun t447 => (if t447 = true then (if (t444 != bt445.2) = true then none else (if t443 = bt445.1 then (laws_FnMonotonePlans.j0 k l1 t429 t430 t435 t440 t443 (t444 != t436)) else none)) else none)))) = some r := H
  have A8 := Aside0.mk A80
  clear A80
  replace H := Option.bind_eq_some_iff.mp H
  obtain ⟨⟨t445, t446⟩, A90, H⟩ := H
  replace H : (if (t436 != t440) = true then none else ((laws_pSameRows.f k t435 t439).bind fun t447 => (if t447 = true then (if (t444 != t446) = true then none else (if t443 = t445 then (laws_FnMonotonePlans.j0 k l1 t429 t430 t435 t440 t443 (t444 != t436)) else none)) else none))) = some r := H
  have A9 := Aside0.mk A90
  clear A90
  have HC10 := Aside0.mk H
  clear H
  go_enter Try.func3, Try.ntmps3
  go_upto_region 8 with (first | ((with_reducible refine gate_callee (f := 10) rfl ?_); refine goesL_ (some 38) rfl rfl Try.func10 (by kernel_rfl) rfl #[.slice A0 l0.length c0, .slice A1 l1.length c1] rfl (by (try simp only [List.map_toArray, List.map_cons, List.map_nil]); first | done | rfl | (simp only [List.length_drop, List.length_take]; rfl)) ?_; (with_reducible refine (laws_big.calls _ _ l0 _ _ l1 false _ ?side1 ?side2 ?side3 ?side4 A3.out).mono ?_); (case side1 => repeat (first | exact HR0.out | (with_reducible refine Kd.C_alloc ?_ _) | (with_reducible refine Kd.C_drewN ?_ _) | (with_reducible refine Kd.C_drew ?_))); (case side2 => exact HC0.out); (case side3 => repeat (first | exact HR1.out | (with_reducible refine Kd.C_alloc ?_ _) | (with_reducible refine Kd.C_drewN ?_ _) | (with_reducible refine Kd.C_drew ?_))); (case side4 => exact HC1.out); rintro e w' ⟨rfl, ⟨nd, rfl⟩⟩; refine ⟨_, rfl, ?_⟩) | ((with_reducible refine gate_callee (f := 11) rfl ?_); refine goesL_ (some 41) rfl rfl Try.func11 (by kernel_rfl) rfl #[.slice A0 l0.length c0] rfl (by (try simp only [List.map_toArray, List.map_cons, List.map_nil]); first | done | rfl | (simp only [List.length_drop, List.length_take]; rfl)) ?_; (with_reducible refine (spec_DrawMonotonePlan.calls k _ _ l0 t429 t430 _ ?side1 ?side2 A5.out).mono ?_); (case side1 => repeat (first | exact HR0.out | (with_reducible refine Kd.C_alloc ?_ _) | (with_reducible refine Kd.C_drewN ?_ _) | (with_reducible refine Kd.C_drew ?_))); (case side2 => exact HC0.out); rintro e w11 ⟨v431, v433, rfl, ho0, ho1, hb⟩; refine ⟨_, rfl, ?_⟩; have n0_ := Aside0.mk (Kd.R_lower ho0 (below_size (by repeat (first | (with_reducible first | exact HB.out | apply below_alloc | apply pw_below_drewN | apply below_drew1) | exact HB.out)))); have n1_ := Aside0.mk (Kd.R_lower ho1 (below_size (by repeat (first | (with_reducible first | exact HB.out | apply below_alloc | apply pw_below_drewN | apply below_drew1) | exact HB.out)))); have n2_ := Aside0.mk (below_step (by repeat (first | (with_reducible first | exact HB.out | apply below_alloc | apply pw_below_drewN | apply below_drew1) | exact HB.out)) hb); clear HB; have HO432 := n0_; have HO434 := n1_; have HB := n2_; clear n0_ n1_ n2_; (try clear hb); (try clear hb2); (try clear hk); (try clear hi); (try clear ho0); (try clear ho1); obtain ⟨Ao12, co12, eo12⟩ := Kd.R_slice HO432.out; subst eo12; obtain ⟨Ao13, co13, eo13⟩ := Kd.R_slice HO434.out; subst eo13) | ((with_reducible refine gate_callee (f := 12) rfl ?_); refine goesL_ (some 47) rfl rfl Try.func12 (by kernel_rfl) rfl #[.slice Ao12 t429.length co12, .slice Ao13 t430.length co13] rfl (by (try simp only [List.map_toArray, List.map_cons, List.map_nil]); first | done | rfl | (simp only [List.length_drop, List.length_take]; rfl)) ?_; (with_reducible refine (impl_MonotonePlan.calls k _ _ t429 _ _ t430 t435 t436 _ ?side1 ?side2 ?side3 ?side4 A6.out).mono ?_); (case side1 => repeat (first | exact (Kd.R_reads' HO432.out).2.2 | (with_reducible refine Kd.C_alloc ?_ _) | (with_reducible refine Kd.C_drewN ?_ _) | (with_reducible refine Kd.C_drew ?_))); (case side2 => exact (Kd.R_reads' HO432.out).2.1); (case side3 => repeat (first | exact (Kd.R_reads' HO434.out).2.2 | (with_reducible refine Kd.C_alloc ?_ _) | (with_reducible refine Kd.C_drewN ?_ _) | (with_reducible refine Kd.C_drew ?_))); (case side4 => exact (Kd.R_reads' HO434.out).2.1); rintro e w14 ⟨v437, rfl, ho0, hb⟩; refine ⟨_, rfl, ?_⟩; have n0_ := Aside0.mk (Kd.R_below (by (with_reducible repeat (first | apply Kd.R_alloc | apply Kd.R_drewN | apply Kd.R_drew)); exact HO432.out) hb); have n1_ := Aside0.mk (Kd.R_below (by (with_reducible repeat (first | apply Kd.R_alloc | apply Kd.R_drewN | apply Kd.R_drew)); exact HO434.out) hb); have n2_ := Aside0.mk (Kd.S_lower (Kd.S_new' (Kd.S_new' ho0 (Kd.R_lt (by (with_reducible repeat (first | apply Kd.R_alloc | apply Kd.R_drewN | apply Kd.R_drew)); exact HO432.out))) (Kd.R_lt (by (with_reducible repeat (first | apply Kd.R_alloc | apply Kd.R_drewN | apply Kd.R_drew)); exact HO434.out))) (below_size (by repeat (first | (with_reducible first | exact HB.out | apply below_alloc | apply pw_below_drewN | apply below_drew1) | exact HB.out)))); have n3_ := Aside0.mk (below_step (by repeat (first | (with_reducible first | exact HB.out | apply below_alloc | apply pw_below_drewN | apply below_drew1) | exact HB.out)) hb); clear HO432; clear HO434; clear HB; have HO432 := n0_; have HO434 := n1_; have HO438 := n2_; have HB := n3_; clear n0_ n1_ n2_ n3_; (try clear hb); (try clear hb2); (try clear hk); (try clear hi); (try clear ho0)) | ((with_reducible refine gate_callee (f := 13) rfl ?_); refine goesL_ (some 53) rfl rfl Try.func13 (by kernel_rfl) rfl #[.slice Ao12 t429.length co12, .slice Ao13 t430.length co13] rfl (by (try simp only [List.map_toArray, List.map_cons, List.map_nil]); first | done | rfl | (simp only [List.length_drop, List.length_take]; rfl)) ?_; (with_reducible refine (spec_MonotonePlan.calls k _ _ t429 _ _ t430 t439 t440 _ ?side1 ?side2 ?side3 ?side4 A7.out).mono ?_); (case side1 => repeat (first | exact (Kd.R_reads' HO432.out).2.2 | (with_reducible refine Kd.C_alloc ?_ _) | (with_reducible refine Kd.C_drewN ?_ _) | (with_reducible refine Kd.C_drew ?_))); (case side2 => exact (Kd.R_reads' HO432.out).2.1); (case side3 => repeat (first | exact (Kd.R_reads' HO434.out).2.2 | (with_reducible refine Kd.C_alloc ?_ _) | (with_reducible refine Kd.C_drewN ?_ _) | (with_reducible refine Kd.C_drew ?_))); (case side4 => exact (Kd.R_reads' HO434.out).2.1); rintro e w15 ⟨v441, rfl, ho0, hb⟩; refine ⟨_, rfl, ?_⟩; have n0_ := Aside0.mk (Kd.R_below (by (with_reducible repeat (first | apply Kd.R_alloc | apply Kd.R_drewN | apply Kd.R_drew)); exact HO432.out) hb); have n1_ := Aside0.mk (Kd.R_below (by (with_reducible repeat (first | apply Kd.R_alloc | apply Kd.R_drewN | apply Kd.R_drew)); exact HO434.out) hb); have n2_ := Aside0.mk (Kd.S_elder' (by (with_reducible repeat (first | apply Kd.S_alloc | apply Kd.S_drewN | apply Kd.S_drew)); exact HO438.out) (Kd.S_base ho0) hb); have n3_ := Aside0.mk (Kd.S_lower (Kd.S_new' (Kd.S_new' (Kd.S_new' ho0 (Kd.R_lt (by (with_reducible repeat (first | apply Kd.R_alloc | apply Kd.R_drewN | apply Kd.R_drew)); exact HO432.out))) (Kd.R_lt (by (with_reducible repeat (first | apply Kd.R_alloc | apply Kd.R_drewN | apply Kd.R_drew)); exact HO434.out))) (Kd.S_lt (by (with_reducible repeat (first | apply Kd.S_alloc | apply Kd.S_drewN | apply Kd.S_drew)); exact HO438.out))) (below_size (by repeat (first | (with_reducible first | exact HB.out | apply below_alloc | apply pw_below_drewN | apply below_drew1) | exact HB.out)))); have n4_ := Aside0.mk (below_step (by repeat (first | (with_reducible first | exact HB.out | apply below_alloc | apply pw_below_drewN | apply below_drew1) | exact HB.out)) hb); clear HO432; clear HO434; clear HO438; clear HB; have HO432 := n0_; have HO434 := n1_; have HO438 := n2_; have HO442 := n3_; have HB := n4_; clear n0_ n1_ n2_ n3_ n4_; (try clear hb); (try clear hb2); (try clear hk); (try clear hi); (try clear ho0)) | ((with_reducible refine gate_callee (f := 14) rfl ?_); refine goesL_ (some 59) rfl rfl Try.func14 (by kernel_rfl) rfl #[.slice Ao12 t429.length co12, .slice Ao13 t430.length co13] rfl (by (try simp only [List.map_toArray, List.map_cons, List.map_nil]); first | done | rfl | (simp only [List.length_drop, List.length_take]; rfl)) ?_; (with_reducible refine (impl_LineDistance.calls k _ _ t429 _ _ t430 t443 t444 _ ?side1 ?side2 ?side3 ?side4 A8.out).mono ?_); (case side1 => repeat (first | exact (Kd.R_reads' HO432.out).2.2 | (with_reducible refine Kd.C_alloc ?_ _) | (with_reducible refine Kd.C_drewN ?_ _) | (with_reducible refine Kd.C_drew ?_))); (case side2 => exact (Kd.R_reads' HO432.out).2.1); (case side3 => repeat (first | exact (Kd.R_reads' HO434.out).2.2 | (with_reducible refine Kd.C_alloc ?_ _) | (with_reducible refine Kd.C_drewN ?_ _) | (with_reducible refine Kd.C_drew ?_))); (case side4 => exact (Kd.R_reads' HO434.out).2.1); rintro e w16 ⟨rfl, hb⟩; refine ⟨_, rfl, ?_⟩; have n0_ := Aside0.mk (Kd.R_below (by (with_reducible repeat (first | apply Kd.R_alloc | apply Kd.R_drewN | apply Kd.R_drew)); exact HO432.out) hb); have n1_ := Aside0.mk (Kd.R_below (by (with_reducible repeat (first | apply Kd.R_alloc | apply Kd.R_drewN | apply Kd.R_drew)); exact HO434.out) hb); have n2_ := Aside0.mk (Kd.S_below (by (with_reducible repeat (first | apply Kd.S_alloc | apply Kd.S_drewN | apply Kd.S_drew)); exact HO438.out) hb); have n3_ := Aside0.mk (Kd.S_below (by (with_reducible repeat (first | apply Kd.S_alloc | apply Kd.S_drewN | apply Kd.S_drew)); exact HO442.out) hb); have n4_ := Aside0.mk (below_step (by repeat (first | (with_reducible first | exact HB.out | apply below_alloc | apply pw_below_drewN | apply below_drew1) | exact HB.out)) hb); clear HO432; clear HO434; clear HO438; clear HO442; clear HB; have HO432 := n0_; have HO434 := n1_; have HO438 := n2_; have HO442 := n3_; have HB := n4_; clear n0_ n1_ n2_ n3_ n4_; (try clear hb); (try clear hb2); (try clear hk); (try clear hi)) | ((with_reducible refine gate_callee (f := 15) rfl ?_); refine goesL_ (some 65) rfl rfl Try.func15 (by kernel_rfl) rfl #[.slice Ao12 t429.length co12, .slice Ao13 t430.length co13] rfl (by (try simp only [List.map_toArray, List.map_cons, List.map_nil]); first | done | rfl | (simp only [List.length_drop, List.length_take]; rfl)) ?_; (with_reducible refine (spec_LineDistance.calls k _ _ t429 _ _ t430 t445 t446 _ ?side1 ?side2 ?side3 ?side4 A9.out).mono ?_); (case side1 => repeat (first | exact (Kd.R_reads' HO432.out).2.2 | (with_reducible refine Kd.C_alloc ?_ _) | (with_reducible refine Kd.C_drewN ?_ _) | (with_reducible refine Kd.C_drew ?_))); (case side2 => exact (Kd.R_reads' HO432.out).2.1); (case side3 => repeat (first | exact (Kd.R_reads' HO434.out).2.2 | (with_reducible refine Kd.C_alloc ?_ _) | (with_reducible refine Kd.C_drewN ?_ _) | (with_reducible refine Kd.C_drew ?_))); (case side4 => exact (Kd.R_reads' HO434.out).2.1); rintro e w17 ⟨rfl, hb⟩; refine ⟨_, rfl, ?_⟩; have n0_ := Aside0.mk (Kd.R_below (by (with_reducible repeat (first | apply Kd.R_alloc | apply Kd.R_drewN | apply Kd.R_drew)); exact HO432.out) hb); have n1_ := Aside0.mk (Kd.R_below (by (with_reducible repeat (first | apply Kd.R_alloc | apply Kd.R_drewN | apply Kd.R_drew)); exact HO434.out) hb); have n2_ := Aside0.mk (Kd.S_below (by (with_reducible repeat (first | apply Kd.S_alloc | apply Kd.S_drewN | apply Kd.S_drew)); exact HO438.out) hb); have n3_ := Aside0.mk (Kd.S_below (by (with_reducible repeat (first | apply Kd.S_alloc | apply Kd.S_drewN | apply Kd.S_drew)); exact HO442.out) hb); have n4_ := Aside0.mk (below_step (by repeat (first | (with_reducible first | exact HB.out | apply below_alloc | apply pw_below_drewN | apply below_drew1) | exact HB.out)) hb); clear HO432; clear HO434; clear HO438; clear HO442; clear HB; have HO432 := n0_; have HO434 := n1_; have HO438 := n2_; have HO442 := n3_; have HB := n4_; clear n0_ n1_ n2_ n3_ n4_; (try clear hb); (try clear hb2); (try clear hk); (try clear hi)))
  (try simp only [Act.put, List.setIfInBounds_toArray, List.set_cons_zero, List.set_cons_succ])
  go_cut [91] (fun v91 wc => ∃ (kq : Nat) (x91_9 : Bool), v91 = .bool x91_9 ∧ Aside0 (laws_FnMonotonePlans.j0 kq l1 t429 t430 t435 t440 t443 x91_9 = some r) ∧ Aside0 (kq ≤ k) ∧ Aside0 (Kd.R (Kd.int .i64) 3 wc w.heap.size (fun k_ => some k_ ≠ ((.slice Ao13 t430.length co13) : Value).ownBlock) (.slice Ao12 t429.length co12) t429) ∧ Aside0 (Kd.R (Kd.int .i64) 3 wc w.heap.size (fun k_ => some k_ ≠ ((.slice Ao12 t429.length co12) : Value).ownBlock) (.slice Ao13 t430.length co13) t430) ∧ Aside0 (Kd.S (Kd.slice 3 (Kd.int .i64)) 24 wc w.heap.size (fun k_ => some k_ ≠ ((.slice Ao12 t429.length co12) : Value).ownBlock ∧ some k_ ≠ ((.slice Ao13 t430.length co13) : Value).ownBlock) v437 t435) ∧ Aside0 (Below w.heap.size w wc))
  case first =>
   have H := HC10.out
   clear HC10
   by_cases c18 : (t436 != t440) = true
   ·rw [if_pos c18] at H
    cases H
   ·rw [if_neg c18] at H
    have c18b0 : (t436 != t440) = false := by simpa using c18
    (try (have c18b1 : decide (t436 = t440) = true := by simpa using c18))
    (try (have c18b2 : (t436 == t440) = true := by simpa using c18))
    clear c18
    (first | rw [c18b0] | (simp only [i64_w, i32_w]; rw [c18b0]) | skip)
    replace H := Option.bind_eq_some_iff.mp H
    obtain ⟨t447, A190, H⟩ := H
    replace H : (if t447 = true then (if (t444 != t446) = true then none else (if t443 = t445 then (laws_FnMonotonePlans.j0 k l1 t429 t430 t435 t440 t443 (t444 != t436)) else none)) else none) = some r := H
    have A19 := Aside0.mk A190
    clear A190
    by_cases c20 : t447 = true
    ·subst c20
     have H1 : (if (t444 != t446) = true then none else (if t443 = t445 then (laws_FnMonotonePlans.j0 k l1 t429 t430 t435 t440 t443 (t444 != t436)) else none)) = some r := by rw [if_pos rfl] at H; exact H
     clear H
     have H := H1
     clear H1
     by_cases c21 : (t444 != t446) = true
     ·rw [if_pos c21] at H
      cases H
     ·rw [if_neg c21] at H
      have c21b0 : (t444 != t446) = false := by simpa using c21
      (try (have c21b1 : decide (t444 = t446) = true := by simpa using c21))
      (try (have c21b2 : (t444 == t446) = true := by simpa using c21))
      clear c21
      by_cases c24 : t443 = t445
      ·rw [if_pos c24] at H
       have c24b0 : (t443 == t445) = true := beq_iff_eq.mpr c24
       have c24b1 : (t443 != t445) = false := bne_eq_false_iff_eq.mpr c24
       clear c24
       have H' := Aside0.mk H
       clear H
       obtain ⟨Ao25, co25, eo25⟩ := Kd.S_slice HO438.out
       subst eo25
       obtain ⟨Ao26, co26, eo26⟩ := Kd.S_slice HO442.out
       subst eo26
       go_wp2_with (first | (go_at_call 16; (with_reducible refine (laws_pSameRows.calls k _ _ t435 _ _ t439 true _ ?side1 ?side2 ?side3 ?side4 A19.out).mono ?_); (case side1 => repeat (first | exact (Kd.S_reads' HO438.out).2.2 | (with_reducible refine Kd.C_alloc ?_ _) | (with_reducible refine Kd.C_drewN ?_ _) | (with_reducible refine Kd.C_drew ?_))); (case side2 => exact (Kd.S_reads' HO438.out).2.1); (case side3 => repeat (first | exact (Kd.S_reads' HO442.out).2.2 | (with_reducible refine Kd.C_alloc ?_ _) | (with_reducible refine Kd.C_drewN ?_ _) | (with_reducible refine Kd.C_drew ?_))); (case side4 => exact (Kd.S_reads' HO442.out).2.1); rintro e w' ⟨rfl, ⟨nd, rfl⟩⟩))
       go_meet
       case rel => exact ⟨_, ((t444 != t436)), (by first | rfl | (simp; done) | (simp [*]; done)), H', ⟨by first | omega | exact Nat.le_refl _⟩, ⟨by (with_reducible repeat (first | apply Kd.R_alloc | apply Kd.R_drewN | apply Kd.R_drew)); exact HO432.out⟩, ⟨by (with_reducible repeat (first | apply Kd.R_alloc | apply Kd.R_drewN | apply Kd.R_drew)); exact HO434.out⟩, ⟨by (with_reducible repeat (first | apply Kd.S_alloc | apply Kd.S_drewN | apply Kd.S_drew)); exact Kd.S_mono HO438.out (fun _ hk => ⟨hk.1.1.2, hk.1.2⟩)⟩, ⟨by repeat (first | (with_reducible first | exact HB.out | apply below_alloc | apply pw_below_drewN | apply below_drew1) | exact HB.out)⟩⟩
      ·rw [if_neg c24] at H
       cases H
    ·replace c20 := Bool.eq_false_iff.mpr c20
     subst c20
     have H1 : none = some r := by rw [if_neg (show ¬ (false = true) by decide)] at H; exact H
     cases H1
  case rest =>
   clear HC10
   try clear c1
   try clear c2
   try clear p2
   try clear c3
   try clear c4
   try clear c10
   try clear c11
   try clear c12
   try clear c13
   try clear c14
   try clear c15
   try clear c18
   try clear c18b0
   try clear c18b1
   try clear c18b2
   try clear c20
   try clear c21
   try clear c21b0
   try clear c21b1
   try clear c21b2
   try clear c24
   try clear c24b0
   try clear c24b1
   obtain ⟨kq, x91_9, rfl, HA, HJ9, HO_5, HO_6, HO_7, HB⟩ := hcut
   cases kq with
   | zero => exact absurd HA.out (by simp [laws_FnMonotonePlans.j0])
   | succ kj9 =>
    have H := HA.out
    clear HA
    simp only [laws_FnMonotonePlans.j0] at H
    by_cases c31 : x91_9 = true
    ·subst c31
     rw [if_pos rfl] at H
     cases H
    ·replace c31 := Bool.eq_false_iff.mpr c31
     subst c31
     have H1 : (if t440 = true then ((impl_IsPlan.f kj9 t435 t429 t430).bind fun bt448 => ((impl_PlanCost.f kj9 t435).bind fun bt450 => ((impl_IsMonotone.f kj9 t435).bind fun bt452 => ((impl_LineDistance.f kj9 t430 t429).bind fun bt454 => (if bt448.2 = true then (if bt450.2 = true then (if bt452.2 = true then (if bt454.2 = true then (if bt448.1 = true then (if bt450.1 = t443 then (if bt452.1 = true then (if bt454.1 = t443 then (laws_FnMonotonePlans.j1 kj9 l1) else none) else none) else none) else none) else none) else none) else none) else none))))) else (laws_FnMonotonePlans.j1 kj9 l1)) = some r := by rw [if_neg (show ¬ (false = true) by decide)] at H; exact H
     clear H
     have H := H1
     clear H1
     have HC32 := Aside0.mk H
     clear H
     go_upto_if 92 with (fail)
     go_cut [] (fun wc => ∃ (kq : Nat), Aside0 (laws_FnMonotonePlans.j1 kq l1 = some r) ∧ Aside0 (kq ≤ kj9) ∧ Aside0 (Below w.heap.size w wc))
     case first =>
      have H := HC32.out
      clear HC32
      by_cases c33 : t440 = true
      ·subst c33
       have H1 : ((impl_IsPlan.f kj9 t435 t429 t430).bind fun bt448 => ((impl_PlanCost.f kj9 t435).bind fun bt450 => ((impl_IsMonotone.f kj9 t435).bind fun bt452 => ((impl_LineDistance.f kj9 t430 t429).bind fun bt454 => (if bt448.2 = true then (if bt450.2 = true then (if bt452.2 = true then (if bt454.2 = true then (if bt448.1 = true then (if bt450.1 = t443 then (if bt452.1 = true then (if bt454.1 = t443 then (laws_FnMonotonePlans.j1 kj9 l1) else none) else none) else none) else none) else none) else none) else none) else none))))) = some r := by rw [if_pos rfl] at H; exact H
       clear H
       have H := H1
       clear H1
       replace H := Option.bind_eq_some_iff.mp H
       obtain ⟨⟨t448, t449⟩, A340, H⟩ := H
       replace H : ((impl_PlanCost.f kj9 t435).bind fun bt450 => ((impl_IsMonotone.f kj9 t435).bind fun bt452 => ((impl_LineDistance.f kj9 t430 t429).bind fun bt454 => (if t449 = true then (if bt450.2 = true then (if bt452.2 = true then (if bt454.2 = true then (if t448 = true then (if bt450.1 = t443 then (if bt452.1 = true then (if bt454.1 = t443 then (laws_FnMonotonePlans.j1 kj9 l1) else none) else none) else none) else none) else none) else none) else none) else none)))) = some r := H
       have A34 := Aside0.mk A340
       clear A340
       replace H := Option.bind_eq_some_iff.mp H
       obtain ⟨⟨t450, t451⟩, A350, H⟩ := H
       replace H : ((impl_IsMonotone.f kj9 t435).bind fun bt452 => ((impl_LineDistance.f kj9 t430 t429).bind fun bt454 => (if t449 = true then (if t451 = true then (if bt452.2 = true then (if bt454.2 = true then (if t448 = true then (if t450 = t443 then (if bt452.1 = true then (if bt454.1 = t443 then (laws_FnMonotonePlans.j1 kj9 l1) else none) else none) else none) else none) else none) else none) else none) else none))) = some r := H
       have A35 := Aside0.mk A350
       clear A350
       replace H := Option.bind_eq_some_iff.mp H
       obtain ⟨⟨t452, t453⟩, A360, H⟩ := H
       replace H : ((impl_LineDistance.f kj9 t430 t429).bind fun bt454 => (if t449 = true then (if t451 = true then (if t453 = true then (if bt454.2 = true then (if t448 = true then (if t450 = t443 then (if t452 = true then (if bt454.1 = t443 then (laws_FnMonotonePlans.j1 kj9 l1) else none) else none) else none) else none) else none) else none) else none) else none)) = some r := H
       have A36 := Aside0.mk A360
       clear A360
       replace H := Option.bind_eq_some_iff.mp H
       obtain ⟨⟨t454, t455⟩, A370, H⟩ := H
       replace H : (if t449 = true then (if t451 = true then (if t453 = true then (if t455 = true then (if t448 = true then (if t450 = t443 then (if t452 = true then (if t454 = t443 then (laws_FnMonotonePlans.j1 kj9 l1) else none) else none) else none) else none) else none) else none) else none) else none) = some r := H
       have A37 := Aside0.mk A370
       clear A370
       by_cases c38 : t449 = true
       ·subst c38
        have H1 : (if t451 = true then (if t453 = true then (if t455 = true then (if t448 = true then (if t450 = t443 then (if t452 = true then (if t454 = t443 then (laws_FnMonotonePlans.j1 kj9 l1) else none) else none) else none) else none) else none) else none) else none) = some r := by rw [if_pos rfl] at H; exact H
        clear H
        have H := H1
        clear H1
        by_cases c39 : t451 = true
        ·subst c39
         have H1 : (if t453 = true then (if t455 = true then (if t448 = true then (if t450 = t443 then (if t452 = true then (if t454 = t443 then (laws_FnMonotonePlans.j1 kj9 l1) else none) else none) else none) else none) else none) else none) = some r := by rw [if_pos rfl] at H; exact H
         clear H
         have H := H1
         clear H1
         by_cases c40 : t453 = true
         ·subst c40
          have H1 : (if t455 = true then (if t448 = true then (if t450 = t443 then (if t452 = true then (if t454 = t443 then (laws_FnMonotonePlans.j1 kj9 l1) else none) else none) else none) else none) else none) = some r := by rw [if_pos rfl] at H; exact H
          clear H
          have H := H1
          clear H1
          by_cases c41 : t455 = true
          ·subst c41
           have H1 : (if t448 = true then (if t450 = t443 then (if t452 = true then (if t454 = t443 then (laws_FnMonotonePlans.j1 kj9 l1) else none) else none) else none) else none) = some r := by rw [if_pos rfl] at H; exact H
           clear H
           have H := H1
           clear H1
           by_cases c42 : t448 = true
           ·subst c42
            have H1 : (if t450 = t443 then (if t452 = true then (if t454 = t443 then (laws_FnMonotonePlans.j1 kj9 l1) else none) else none) else none) = some r := by rw [if_pos rfl] at H; exact H
            clear H
            have H := H1
            clear H1
            by_cases c43 : t450 = t443
            ·rw [if_pos c43] at H
             have c43b0 : (t450 == t443) = true := beq_iff_eq.mpr c43
             have c43b1 : (t450 != t443) = false := bne_eq_false_iff_eq.mpr c43
             clear c43
             (first | rw [c43b0] | (simp only [i64_w, i32_w]; rw [c43b0]) | skip)
             by_cases c44 : t452 = true
             ·subst c44
              have H1 : (if t454 = t443 then (laws_FnMonotonePlans.j1 kj9 l1) else none) = some r := by rw [if_pos rfl] at H; exact H
              clear H
              have H := H1
              clear H1
              by_cases c45 : t454 = t443
              ·rw [if_pos c45] at H
               have c45b0 : (t454 == t443) = true := beq_iff_eq.mpr c45
               have c45b1 : (t454 != t443) = false := bne_eq_false_iff_eq.mpr c45
               clear c45
               have H' := Aside0.mk H
               clear H
               obtain ⟨Ao46, co46, eo46⟩ := Kd.S_slice HO_7.out
               subst eo46
               go_wp2_with (first | ((with_reducible refine gate_callee (f := 17) rfl ?_); refine goesL_ (some 97) rfl rfl Try.func17 (by kernel_rfl) rfl #[.slice Ao46 t435.length co46, .slice Ao12 t429.length co12, .slice Ao13 t430.length co13] rfl (by (try simp only [List.map_toArray, List.map_cons, List.map_nil]); first | done | rfl | (simp only [List.length_drop, List.length_take]; rfl)) ?_; (with_reducible refine (impl_IsPlan.calls kj9 _ _ t435 _ _ t429 _ _ t430 true true _ ?side1 ?side2 ?side3 ?side4 ?side5 ?side6 A34.out).mono ?_); (case side1 => repeat (first | exact (Kd.S_reads' HO_7.out).2.2 | (with_reducible refine Kd.C_alloc ?_ _) | (with_reducible refine Kd.C_drewN ?_ _) | (with_reducible refine Kd.C_drew ?_))); (case side2 => exact (Kd.S_reads' HO_7.out).2.1); (case side3 => repeat (first | exact (Kd.R_reads' HO_5.out).2.2 | (with_reducible refine Kd.C_alloc ?_ _) | (with_reducible refine Kd.C_drewN ?_ _) | (with_reducible refine Kd.C_drew ?_))); (case side4 => exact (Kd.R_reads' HO_5.out).2.1); (case side5 => repeat (first | exact (Kd.R_reads' HO_6.out).2.2 | (with_reducible refine Kd.C_alloc ?_ _) | (with_reducible refine Kd.C_drewN ?_ _) | (with_reducible refine Kd.C_drew ?_))); (case side6 => exact (Kd.R_reads' HO_6.out).2.1); rintro e w47 ⟨rfl, hb⟩; refine ⟨_, rfl, ?_⟩; have n0_ := Aside0.mk (Kd.R_below (by (with_reducible repeat (first | apply Kd.R_alloc | apply Kd.R_drewN | apply Kd.R_drew)); exact HO_5.out) hb); have n1_ := Aside0.mk (Kd.R_below (by (with_reducible repeat (first | apply Kd.R_alloc | apply Kd.R_drewN | apply Kd.R_drew)); exact HO_6.out) hb); have n2_ := Aside0.mk (Kd.S_below (by (with_reducible repeat (first | apply Kd.S_alloc | apply Kd.S_drewN | apply Kd.S_drew)); exact HO_7.out) hb); have n3_ := Aside0.mk (below_step (by repeat (first | (with_reducible first | exact HB.out | apply below_alloc | apply pw_below_drewN | apply below_drew1) | exact HB.out)) hb); clear HO_5; clear HO_6; clear HO_7; clear HB; have HO_5 := n0_; have HO_6 := n1_; have HO_7 := n2_; have HB := n3_; clear n0_ n1_ n2_ n3_; (try clear hb); (try clear hb2); (try clear hk); (try clear hi)) | ((with_reducible refine gate_callee (f := 18) rfl ?_); refine goesL_ (some 102) rfl rfl Try.func18 (by kernel_rfl) rfl #[.slice Ao46 t435.length co46] rfl (by (try simp only [List.map_toArray, List.map_cons, List.map_nil]); first | done | rfl | (simp only [List.length_drop, List.length_take]; rfl)) ?_; (with_reducible refine (impl_PlanCost.calls kj9 _ _ t435 t450 true _ ?side1 ?side2 A35.out).mono ?_); (case side1 => repeat (first | exact (Kd.S_reads' HO_7.out).2.2 | (with_reducible refine Kd.C_alloc ?_ _) | (with_reducible refine Kd.C_drewN ?_ _) | (with_reducible refine Kd.C_drew ?_))); (case side2 => exact (Kd.S_reads' HO_7.out).2.1); rintro e w48 ⟨rfl, hb⟩; refine ⟨_, rfl, ?_⟩; have n0_ := Aside0.mk (Kd.R_below (by (with_reducible repeat (first | apply Kd.R_alloc | apply Kd.R_drewN | apply Kd.R_drew)); exact HO_5.out) hb); have n1_ := Aside0.mk (Kd.R_below (by (with_reducible repeat (first | apply Kd.R_alloc | apply Kd.R_drewN | apply Kd.R_drew)); exact HO_6.out) hb); have n2_ := Aside0.mk (Kd.S_below (by (with_reducible repeat (first | apply Kd.S_alloc | apply Kd.S_drewN | apply Kd.S_drew)); exact HO_7.out) hb); have n3_ := Aside0.mk (below_step (by repeat (first | (with_reducible first | exact HB.out | apply below_alloc | apply pw_below_drewN | apply below_drew1) | exact HB.out)) hb); clear HO_5; clear HO_6; clear HO_7; clear HB; have HO_5 := n0_; have HO_6 := n1_; have HO_7 := n2_; have HB := n3_; clear n0_ n1_ n2_ n3_; (try clear hb); (try clear hb2); (try clear hk); (try clear hi)) | ((with_reducible refine gate_callee (f := 19) rfl ?_); refine goesL_ (some 107) rfl rfl Try.func19 (by kernel_rfl) rfl #[.slice Ao46 t435.length co46] rfl (by (try simp only [List.map_toArray, List.map_cons, List.map_nil]); first | done | rfl | (simp only [List.length_drop, List.length_take]; rfl)) ?_; (with_reducible refine (impl_IsMonotone.calls kj9 _ _ t435 true true _ ?side1 ?side2 A36.out).mono ?_); (case side1 => repeat (first | exact (Kd.S_reads' HO_7.out).2.2 | (with_reducible refine Kd.C_alloc ?_ _) | (with_reducible refine Kd.C_drewN ?_ _) | (with_reducible refine Kd.C_drew ?_))); (case side2 => exact (Kd.S_reads' HO_7.out).2.1); rintro e w49 ⟨rfl, hb⟩; refine ⟨_, rfl, ?_⟩; have n0_ := Aside0.mk (Kd.R_below (by (with_reducible repeat (first | apply Kd.R_alloc | apply Kd.R_drewN | apply Kd.R_drew)); exact HO_5.out) hb); have n1_ := Aside0.mk (Kd.R_below (by (with_reducible repeat (first | apply Kd.R_alloc | apply Kd.R_drewN | apply Kd.R_drew)); exact HO_6.out) hb); have n2_ := Aside0.mk (Kd.S_below (by (with_reducible repeat (first | apply Kd.S_alloc | apply Kd.S_drewN | apply Kd.S_drew)); exact HO_7.out) hb); have n3_ := Aside0.mk (below_step (by repeat (first | (with_reducible first | exact HB.out | apply below_alloc | apply pw_below_drewN | apply below_drew1) | exact HB.out)) hb); clear HO_5; clear HO_6; clear HO_7; clear HB; have HO_5 := n0_; have HO_6 := n1_; have HO_7 := n2_; have HB := n3_; clear n0_ n1_ n2_ n3_; (try clear hb); (try clear hb2); (try clear hk); (try clear hi)) | ((with_reducible refine gate_callee (f := 14) rfl ?_); refine goesL_ (some 113) rfl rfl Try.func14 (by kernel_rfl) rfl #[.slice Ao13 t430.length co13, .slice Ao12 t429.length co12] rfl (by (try simp only [List.map_toArray, List.map_cons, List.map_nil]); first | done | rfl | (simp only [List.length_drop, List.length_take]; rfl)) ?_; (with_reducible refine (impl_LineDistance.calls kj9 _ _ t430 _ _ t429 t454 true _ ?side1 ?side2 ?side3 ?side4 A37.out).mono ?_); (case side1 => repeat (first | exact (Kd.R_reads' HO_6.out).2.2 | (with_reducible refine Kd.C_alloc ?_ _) | (with_reducible refine Kd.C_drewN ?_ _) | (with_reducible refine Kd.C_drew ?_))); (case side2 => exact (Kd.R_reads' HO_6.out).2.1); (case side3 => repeat (first | exact (Kd.R_reads' HO_5.out).2.2 | (with_reducible refine Kd.C_alloc ?_ _) | (with_reducible refine Kd.C_drewN ?_ _) | (with_reducible refine Kd.C_drew ?_))); (case side4 => exact (Kd.R_reads' HO_5.out).2.1); rintro e w50 ⟨rfl, hb⟩; refine ⟨_, rfl, ?_⟩; have n0_ := Aside0.mk (Kd.R_below (by (with_reducible repeat (first | apply Kd.R_alloc | apply Kd.R_drewN | apply Kd.R_drew)); exact HO_5.out) hb); have n1_ := Aside0.mk (Kd.R_below (by (with_reducible repeat (first | apply Kd.R_alloc | apply Kd.R_drewN | apply Kd.R_drew)); exact HO_6.out) hb); have n2_ := Aside0.mk (Kd.S_below (by (with_reducible repeat (first | apply Kd.S_alloc | apply Kd.S_drewN | apply Kd.S_drew)); exact HO_7.out) hb); have n3_ := Aside0.mk (below_step (by repeat (first | (with_reducible first | exact HB.out | apply below_alloc | apply pw_below_drewN | apply below_drew1) | exact HB.out)) hb); clear HO_5; clear HO_6; clear HO_7; clear HB; have HO_5 := n0_; have HO_6 := n1_; have HO_7 := n2_; have HB := n3_; clear n0_ n1_ n2_ n3_; (try clear hb); (try clear hb2); (try clear hk); (try clear hi)))
               go_meet
               case rel => exact ⟨_, H', ⟨by have := HJ9.out; first | omega | exact Nat.le_refl _⟩, ⟨by repeat (first | (with_reducible first | exact HB.out | apply below_alloc | apply pw_below_drewN | apply below_drew1) | exact HB.out)⟩⟩
              ·rw [if_neg c45] at H
               cases H
             ·replace c44 := Bool.eq_false_iff.mpr c44
              subst c44
              rw [if_neg (show ¬ (false = true) by decide)] at H
              cases H
            ·rw [if_neg c43] at H
             cases H
           ·replace c42 := Bool.eq_false_iff.mpr c42
            subst c42
            rw [if_neg (show ¬ (false = true) by decide)] at H
            cases H
          ·replace c41 := Bool.eq_false_iff.mpr c41
           subst c41
           rw [if_neg (show ¬ (false = true) by decide)] at H
           cases H
         ·replace c40 := Bool.eq_false_iff.mpr c40
          subst c40
          rw [if_neg (show ¬ (false = true) by decide)] at H
          cases H
        ·replace c39 := Bool.eq_false_iff.mpr c39
         subst c39
         rw [if_neg (show ¬ (false = true) by decide)] at H
         cases H
       ·replace c38 := Bool.eq_false_iff.mpr c38
        subst c38
        rw [if_neg (show ¬ (false = true) by decide)] at H
        cases H
      ·replace c33 := Bool.eq_false_iff.mpr c33
       subst c33
       have H1 : (laws_FnMonotonePlans.j1 kj9 l1) = some r := by rw [if_neg (show ¬ (false = true) by decide)] at H; exact H
       clear H
       have H := H1
       clear H1
       have H' := Aside0.mk H
       clear H
       go_wp2
       go_meet
       case rel => exact ⟨_, H', ⟨by have := HJ9.out; first | omega | exact Nat.le_refl _⟩, ⟨by repeat (first | (with_reducible first | exact HB.out | apply below_alloc | apply pw_below_drewN | apply below_drew1) | exact HB.out)⟩⟩
     case rest =>
      clear HC32
      try clear c1
      try clear c2
      try clear p2
      try clear c3
      try clear c4
      try clear c10
      try clear c11
      try clear c12
      try clear c13
      try clear c14
      try clear c15
      try clear c17
      try clear c18
      try clear c18b0
      try clear c18b1
      try clear c18b2
      try clear c19
      try clear c20
      try clear c21
      try clear c21b0
      try clear c21b1
      try clear c21b2
      try clear c24
      try clear c24b0
      try clear c24b1
      try clear c31
      try clear c33
      try clear c38
      try clear c39
      try clear c40
      try clear c41
      try clear c42
      try clear c43
      try clear c43b0
      try clear c43b1
      try clear c44
      try clear c45
      try clear c45b0
      try clear c45b1
      try clear p2
      obtain ⟨kq, HA, HJ31, HB⟩ := hcut
      cases kq with
      | zero => exact absurd HA.out (by simp [laws_FnMonotonePlans.j1])
      | succ kj31 =>
       have H := HA.out
       clear HA
       simp only [laws_FnMonotonePlans.j1] at H
       replace H := Option.bind_eq_some_iff.mp H
       obtain ⟨t456, A910, H⟩ := H
       replace H : ((impl_PlanCost.f kj31 t456).bind fun bt459 => ((spec_PlanCost.f kj31 t456).bind fun bt461 => (if (bt459.2 != bt461.2) = true then none else (laws_FnMonotonePlans.j2 kj31 t456 bt459.1 bt459.2 (bt459.1 != bt461.1))))) = some r := H
       have A91 := Aside0.mk A910
       clear A910
       replace H := Option.bind_eq_some_iff.mp H
       obtain ⟨⟨t459, t460⟩, A920, H⟩ := H
       replace H : ((spec_PlanCost.f kj31 t456).bind fun bt461 => (if (t460 != bt461.2) = true then none else (laws_FnMonotonePlans.j2 kj31 t456 t459 t460 (t459 != bt461.1)))) = some r := H
       have A92 := Aside0.mk A920
       clear A920
       replace H := Option.bind_eq_some_iff.mp H
       obtain ⟨⟨t461, t462⟩, A930, H⟩ := H
       replace H : (if (t460 != t462) = true then none else (laws_FnMonotonePlans.j2 kj31 t456 t459 t460 (t459 != t461))) = some r := H
       have A93 := Aside0.mk A930
       clear A930
       have HC94 := Aside0.mk H
       clear H
       go_upto_region 20 with (first | ((with_reducible refine gate_callee (f := 20) rfl ?_); refine goesL_ (some 149) rfl rfl Try.func20 (by kernel_rfl) rfl #[.slice A1 l1.length c1] rfl (by (try simp only [List.map_toArray, List.map_cons, List.map_nil]); first | done | rfl | (simp only [List.length_drop, List.length_take]; rfl)) ?_; (with_reducible refine (spec_DrawPlanCost.calls kj31 _ _ l1 t456 _ ?side1 ?side2 A91.out).mono ?_); (case side1 => repeat (first | exact (Kd.C_below HR1.out HB.out) | (with_reducible refine Kd.C_alloc ?_ _) | (with_reducible refine Kd.C_drewN ?_ _) | (with_reducible refine Kd.C_drew ?_))); (case side2 => exact HC1.out); rintro e w95 ⟨v457, rfl, ho0, hb⟩; refine ⟨_, rfl, ?_⟩; have n0_ := Aside0.mk (Kd.S_lower ho0 (below_size (by repeat (first | (with_reducible first | exact HB.out | apply below_alloc | apply pw_below_drewN | apply below_drew1) | exact HB.out)))); have n1_ := Aside0.mk (below_step (by repeat (first | (with_reducible first | exact HB.out | apply below_alloc | apply pw_below_drewN | apply below_drew1) | exact HB.out)) hb); clear HB; have HO458 := n0_; have HB := n1_; clear n0_ n1_; (try clear hb); (try clear hb2); (try clear hk); (try clear hi); (try clear ho0); obtain ⟨Ao96, co96, eo96⟩ := Kd.S_slice HO458.out; subst eo96) | ((with_reducible refine gate_callee (f := 18) rfl ?_); refine goesL_ (some 152) rfl rfl Try.func18 (by kernel_rfl) rfl #[.slice Ao96 t456.length co96] rfl (by (try simp only [List.map_toArray, List.map_cons, List.map_nil]); first | done | rfl | (simp only [List.length_drop, List.length_take]; rfl)) ?_; (with_reducible refine (impl_PlanCost.calls kj31 _ _ t456 t459 t460 _ ?side1 ?side2 A92.out).mono ?_); (case side1 => repeat (first | exact (Kd.S_reads' HO458.out).2.2 | (with_reducible refine Kd.C_alloc ?_ _) | (with_reducible refine Kd.C_drewN ?_ _) | (with_reducible refine Kd.C_drew ?_))); (case side2 => exact (Kd.S_reads' HO458.out).2.1); rintro e w97 ⟨rfl, hb⟩; refine ⟨_, rfl, ?_⟩; have n0_ := Aside0.mk (Kd.S_below (by (with_reducible repeat (first | apply Kd.S_alloc | apply Kd.S_drewN | apply Kd.S_drew)); exact HO458.out) hb); have n1_ := Aside0.mk (below_step (by repeat (first | (with_reducible first | exact HB.out | apply below_alloc | apply pw_below_drewN | apply below_drew1) | exact HB.out)) hb); clear HO458; clear HB; have HO458 := n0_; have HB := n1_; clear n0_ n1_; (try clear hb); (try clear hb2); (try clear hk); (try clear hi)) | ((with_reducible refine gate_callee (f := 21) rfl ?_); refine goesL_ (some 157) rfl rfl Try.func21 (by kernel_rfl) rfl #[.slice Ao96 t456.length co96] rfl (by (try simp only [List.map_toArray, List.map_cons, List.map_nil]); first | done | rfl | (simp only [List.length_drop, List.length_take]; rfl)) ?_; (with_reducible refine (spec_PlanCost.calls kj31 _ _ t456 t461 t462 _ ?side1 ?side2 A93.out).mono ?_); (case side1 => repeat (first | exact (Kd.S_reads' HO458.out).2.2 | (with_reducible refine Kd.C_alloc ?_ _) | (with_reducible refine Kd.C_drewN ?_ _) | (with_reducible refine Kd.C_drew ?_))); (case side2 => exact (Kd.S_reads' HO458.out).2.1); rintro e w' ⟨rfl, ⟨nd, rfl⟩⟩; refine ⟨_, rfl, ?_⟩))
       (try simp only [Act.put, List.setIfInBounds_toArray, List.set_cons_zero, List.set_cons_succ])
       go_cut [167] (fun v167 wc => ∃ (kq : Nat) (x167_93 : Bool), v167 = .bool x167_93 ∧ Aside0 (laws_FnMonotonePlans.j2 kq t456 t459 t460 x167_93 = some r) ∧ Aside0 (kq ≤ kj31) ∧ Aside0 (Kd.S (Kd.slice 3 (Kd.int .i64)) 24 wc w.heap.size (fun _ => True) (.slice Ao96 t456.length co96) t456) ∧ Aside0 (Below w.heap.size w wc))
       case first =>
        have H := HC94.out
        clear HC94
        by_cases c98 : (t460 != t462) = true
        ·rw [if_pos c98] at H
         cases H
        ·rw [if_neg c98] at H
         have c98b0 : (t460 != t462) = false := by simpa using c98
         (try (have c98b1 : decide (t460 = t462) = true := by simpa using c98))
         (try (have c98b2 : (t460 == t462) = true := by simpa using c98))
         clear c98
         (first | rw [c98b0] | (simp only [i64_w, i32_w]; rw [c98b0]) | skip)
         have H' := Aside0.mk H
         clear H
         go_wp2
         go_meet
         case rel => exact ⟨_, ((t459 != t461)), (by first | rfl | (simp; done) | (simp [*]; done)), H', ⟨by have := HJ9.out; have := HJ31.out; first | omega | exact Nat.le_refl _⟩, ⟨by (with_reducible repeat (first | apply Kd.S_alloc | apply Kd.S_drewN | apply Kd.S_drew)); exact HO458.out⟩, ⟨by repeat (first | (with_reducible first | exact HB.out | apply below_alloc | apply pw_below_drewN | apply below_drew1) | exact HB.out)⟩⟩
       case rest =>
        clear HC94
        try clear c1
        try clear c2
        try clear p2
        try clear c3
        try clear c4
        try clear c9
        try clear c10
        try clear c11
        try clear c12
        try clear c13
        try clear c14
        try clear c15
        try clear c17
        try clear c18
        try clear c18b0
        try clear c18b1
        try clear c18b2
        try clear c19
        try clear c20
        try clear c21
        try clear c21b0
        try clear c21b1
        try clear c21b2
        try clear c24
        try clear c24b0
        try clear c24b1
        try clear c31
        try clear c33
        try clear c38
        try clear c39
        try clear c40
        try clear c41
        try clear c42
        try clear c43
        try clear c43b0
        try clear c43b1
        try clear c44
        try clear c45
        try clear c45b0
        try clear c45b1
        try clear c98
        try clear c98b0
        try clear c98b1
        try clear c98b2
        try clear p2
        obtain ⟨kq, x167_93, rfl, HA, HJ93, HO_23, HB⟩ := hcut
        cases kq with
        | zero => exact absurd HA.out (by simp [laws_FnMonotonePlans.j2])
        | succ kj93 =>
         have H := HA.out
         clear HA
         simp only [laws_FnMonotonePlans.j2] at H
         by_cases c99 : x167_93 = true
         ·subst c99
          rw [if_pos rfl] at H
          cases H
         ·replace c99 := Bool.eq_false_iff.mpr c99
          subst c99
          have H1 : (if t460 = true then ((laws_pMargins.f kj93 t456).bind fun bt463 => ((impl_LineDistance.f kj93 bt463.1 bt463.2).bind fun bt469 => ((impl_IsMonotone.f kj93 t456).bind fun bt471 => ((impl_MonotonePlan.f kj93 bt463.1 bt463.2).bind fun bt473 => (if bt469.2 = true then (if bt471.2 = true then (if bt473.2 = true then (if bt469.1 ≤ t459 then ((laws_pSameRows.f kj93 bt473.1 t456).bind fun t477 => (some (bt471.1 == t477))) else none) else none) else none) else (some true)))))) else (some true)) = some r := by rw [if_neg (show ¬ (false = true) by decide)] at H; exact H
          clear H
          have H := H1
          clear H1
          by_cases c100 : t460 = true
          ·subst c100
           have H1 : ((laws_pMargins.f kj93 t456).bind fun bt463 => ((impl_LineDistance.f kj93 bt463.1 bt463.2).bind fun bt469 => ((impl_IsMonotone.f kj93 t456).bind fun bt471 => ((impl_MonotonePlan.f kj93 bt463.1 bt463.2).bind fun bt473 => (if bt469.2 = true then (if bt471.2 = true then (if bt473.2 = true then (if bt469.1 ≤ t459 then ((laws_pSameRows.f kj93 bt473.1 t456).bind fun t477 => (some (bt471.1 == t477))) else none) else none) else none) else (some true)))))) = some r := by rw [if_pos rfl] at H; exact H
           clear H
           have H := H1
           clear H1
           replace H := Option.bind_eq_some_iff.mp H
           obtain ⟨⟨t463, t464⟩, A1010, H⟩ := H
           replace H : ((impl_LineDistance.f kj93 t463 t464).bind fun bt469 => ((impl_IsMonotone.f kj93 t456).bind fun bt471 => ((impl_MonotonePlan.f kj93 t463 t464).bind fun bt473 => (if bt469.2 = true then (if bt471.2 = true then (if bt473.2 = true then (if bt469.1 ≤ t459 then ((laws_pSameRows.f kj93 bt473.1 t456).bind fun t477 => (some (bt471.1 == t477))) else none) else none) else none) else (some true))))) = some r := H
           have A101 := Aside0.mk A1010
           clear A1010
           replace H := Option.bind_eq_some_iff.mp H
           obtain ⟨⟨t469, t470⟩, A1020, H⟩ := H
           replace H : ((impl_IsMonotone.f kj93 t456).bind fun bt471 => ((impl_MonotonePlan.f kj93 t463 t464).bind fun bt473 => (if t470 = true then (if bt471.2 = true then (if bt473.2 = true then (if t469 ≤ t459 then ((laws_pSameRows.f kj93 bt473.1 t456).bind fun t477 => (some (bt471.1 == t477))) else none) else none) else none) else (some true)))) = some r := H
           have A102 := Aside0.mk A1020
           clear A1020
           replace H := Option.bind_eq_some_iff.mp H
           obtain ⟨⟨t471, t472⟩, A1030, H⟩ := H
           replace H : ((impl_MonotonePlan.f kj93 t463 t464).bind fun bt473 => (if t470 = true then (if t472 = true then (if bt473.2 = true then (if t469 ≤ t459 then ((laws_pSameRows.f kj93 bt473.1 t456).bind fun t477 => (some (t471 == t477))) else none) else none) else none) else (some true))) = some r := H
           have A103 := Aside0.mk A1030
           clear A1030
           replace H := Option.bind_eq_some_iff.mp H
           obtain ⟨⟨t473, t474⟩, A1040, H⟩ := H
           replace H : (if t470 = true then (if t472 = true then (if t474 = true then (if t469 ≤ t459 then ((laws_pSameRows.f kj93 t473 t456).bind fun t477 => (some (t471 == t477))) else none) else none) else none) else (some true)) = some r := H
           have A104 := Aside0.mk A1040
           clear A1040
           by_cases c105 : t470 = true
           ·subst c105
            have H1 : (if t472 = true then (if t474 = true then (if t469 ≤ t459 then ((laws_pSameRows.f kj93 t473 t456).bind fun t477 => (some (t471 == t477))) else none) else none) else none) = some r := by rw [if_pos rfl] at H; exact H
            clear H
            have H := H1
            clear H1
            by_cases c106 : t472 = true
            ·subst c106
             have H1 : (if t474 = true then (if t469 ≤ t459 then ((laws_pSameRows.f kj93 t473 t456).bind fun t477 => (some (t471 == t477))) else none) else none) = some r := by rw [if_pos rfl] at H; exact H
             clear H
             have H := H1
             clear H1
             by_cases c107 : t474 = true
             ·subst c107
              have H1 : (if t469 ≤ t459 then ((laws_pSameRows.f kj93 t473 t456).bind fun t477 => (some (t471 == t477))) else none) = some r := by rw [if_pos rfl] at H; exact H
              clear H
              have H := H1
              clear H1
              by_cases c108 : t469 ≤ t459
              ·rw [if_pos c108] at H
               have c108b0 : decide (t469 ≤ t459) = true := decide_eq_true c108
               clear c108
               replace H := Option.bind_eq_some_iff.mp H
               obtain ⟨t477, A1090, H⟩ := H
               replace H : (some (t471 == t477)) = some r := H
               have A109 := Aside0.mk A1090
               clear A1090
               obtain rfl := Option.some.inj H
               go_wp2_with (first | ((with_reducible refine gate_callee (f := 22) rfl ?_); refine goesL_ (some 172) rfl rfl Try.func22 (by kernel_rfl) rfl #[.slice Ao96 t456.length co96] rfl (by (try simp only [List.map_toArray, List.map_cons, List.map_nil]); first | done | rfl | (simp only [List.length_drop, List.length_take]; rfl)) ?_; (with_reducible refine (laws_pMargins.calls kj93 _ _ t456 t463 t464 _ ?side1 ?side2 A101.out).mono ?_); (case side1 => repeat (first | exact (Kd.S_reads' HO_23.out).2.2 | (with_reducible refine Kd.C_alloc ?_ _) | (with_reducible refine Kd.C_drewN ?_ _) | (with_reducible refine Kd.C_drew ?_))); (case side2 => exact (Kd.S_reads' HO_23.out).2.1); rintro e w110 ⟨v465, v467, rfl, ho0, ho1, hb⟩; refine ⟨_, rfl, ?_⟩; have n0_ := Aside0.mk (Kd.S_mono (Kd.S_told (Kd.S_told (Kd.S_old (by (with_reducible repeat (first | apply Kd.S_alloc | apply Kd.S_drewN | apply Kd.S_drew)); exact HO_23.out) hb) (Kd.R_base ho0)) (Kd.R_base ho1)) (fun _ h_ => h_.1)); have n1_ := Aside0.mk (Kd.R_lower ho0 (below_size (by repeat (first | (with_reducible first | exact HB.out | apply below_alloc | apply pw_below_drewN | apply below_drew1) | exact HB.out)))); have n2_ := Aside0.mk (Kd.R_lower ho1 (below_size (by repeat (first | (with_reducible first | exact HB.out | apply below_alloc | apply pw_below_drewN | apply below_drew1) | exact HB.out)))); have n3_ := Aside0.mk (below_step (by repeat (first | (with_reducible first | exact HB.out | apply below_alloc | apply pw_below_drewN | apply below_drew1) | exact HB.out)) hb); clear HO_23; clear HB; have HO_23 := n0_; have HO466 := n1_; have HO468 := n2_; have HB := n3_; clear n0_ n1_ n2_ n3_; (try clear hb); (try clear hb2); (try clear hk); (try clear hi); (try clear ho0); (try clear ho1); obtain ⟨Ao111, co111, eo111⟩ := Kd.R_slice HO466.out; subst eo111; obtain ⟨Ao112, co112, eo112⟩ := Kd.R_slice HO468.out; subst eo112) | ((with_reducible refine gate_callee (f := 14) rfl ?_); refine goesL_ (some 178) rfl rfl Try.func14 (by kernel_rfl) rfl #[.slice Ao111 t463.length co111, .slice Ao112 t464.length co112] rfl (by (try simp only [List.map_toArray, List.map_cons, List.map_nil]); first | done | rfl | (simp only [List.length_drop, List.length_take]; rfl)) ?_; (with_reducible refine (impl_LineDistance.calls kj93 _ _ t463 _ _ t464 t469 true _ ?side1 ?side2 ?side3 ?side4 A102.out).mono ?_); (case side1 => repeat (first | exact (Kd.R_reads' HO466.out).2.2 | (with_reducible refine Kd.C_alloc ?_ _) | (with_reducible refine Kd.C_drewN ?_ _) | (with_reducible refine Kd.C_drew ?_))); (case side2 => exact (Kd.R_reads' HO466.out).2.1); (case side3 => repeat (first | exact (Kd.R_reads' HO468.out).2.2 | (with_reducible refine Kd.C_alloc ?_ _) | (with_reducible refine Kd.C_drewN ?_ _) | (with_reducible refine Kd.C_drew ?_))); (case side4 => exact (Kd.R_reads' HO468.out).2.1); rintro e w113 ⟨rfl, hb⟩; refine ⟨_, rfl, ?_⟩; have n0_ := Aside0.mk (Kd.S_below (by (with_reducible repeat (first | apply Kd.S_alloc | apply Kd.S_drewN | apply Kd.S_drew)); exact HO_23.out) hb); have n1_ := Aside0.mk (Kd.R_below (by (with_reducible repeat (first | apply Kd.R_alloc | apply Kd.R_drewN | apply Kd.R_drew)); exact HO466.out) hb); have n2_ := Aside0.mk (Kd.R_below (by (with_reducible repeat (first | apply Kd.R_alloc | apply Kd.R_drewN | apply Kd.R_drew)); exact HO468.out) hb); have n3_ := Aside0.mk (below_step (by repeat (first | (with_reducible first | exact HB.out | apply below_alloc | apply pw_below_drewN | apply below_drew1) | exact HB.out)) hb); clear HO_23; clear HO466; clear HO468; clear HB; have HO_23 := n0_; have HO466 := n1_; have HO468 := n2_; have HB := n3_; clear n0_ n1_ n2_ n3_; (try clear hb); (try clear hb2); (try clear hk); (try clear hi)) | ((with_reducible refine gate_callee (f := 19) rfl ?_); refine goesL_ (some 183) rfl rfl Try.func19 (by kernel_rfl) rfl #[.slice Ao96 t456.length co96] rfl (by (try simp only [List.map_toArray, List.map_cons, List.map_nil]); first | done | rfl | (simp only [List.length_drop, List.length_take]; rfl)) ?_; (with_reducible refine (impl_IsMonotone.calls kj93 _ _ t456 t471 true _ ?side1 ?side2 A103.out).mono ?_); (case side1 => repeat (first | exact (Kd.S_reads' HO_23.out).2.2 | (with_reducible refine Kd.C_alloc ?_ _) | (with_reducible refine Kd.C_drewN ?_ _) | (with_reducible refine Kd.C_drew ?_))); (case side2 => exact (Kd.S_reads' HO_23.out).2.1); rintro e w114 ⟨rfl, hb⟩; refine ⟨_, rfl, ?_⟩; have n0_ := Aside0.mk (Kd.S_below (by (with_reducible repeat (first | apply Kd.S_alloc | apply Kd.S_drewN | apply Kd.S_drew)); exact HO_23.out) hb); have n1_ := Aside0.mk (Kd.R_below (by (with_reducible repeat (first | apply Kd.R_alloc | apply Kd.R_drewN | apply Kd.R_drew)); exact HO466.out) hb); have n2_ := Aside0.mk (Kd.R_below (by (with_reducible repeat (first | apply Kd.R_alloc | apply Kd.R_drewN | apply Kd.R_drew)); exact HO468.out) hb); have n3_ := Aside0.mk (below_step (by repeat (first | (with_reducible first | exact HB.out | apply below_alloc | apply pw_below_drewN | apply below_drew1) | exact HB.out)) hb); clear HO_23; clear HO466; clear HO468; clear HB; have HO_23 := n0_; have HO466 := n1_; have HO468 := n2_; have HB := n3_; clear n0_ n1_ n2_ n3_; (try clear hb); (try clear hb2); (try clear hk); (try clear hi)) | ((with_reducible refine gate_callee (f := 12) rfl ?_); refine goesL_ (some 189) rfl rfl Try.func12 (by kernel_rfl) rfl #[.slice Ao111 t463.length co111, .slice Ao112 t464.length co112] rfl (by (try simp only [List.map_toArray, List.map_cons, List.map_nil]); first | done | rfl | (simp only [List.length_drop, List.length_take]; rfl)) ?_; (with_reducible refine (impl_MonotonePlan.calls kj93 _ _ t463 _ _ t464 t473 true _ ?side1 ?side2 ?side3 ?side4 A104.out).mono ?_); (case side1 => repeat (first | exact (Kd.R_reads' HO466.out).2.2 | (with_reducible refine Kd.C_alloc ?_ _) | (with_reducible refine Kd.C_drewN ?_ _) | (with_reducible refine Kd.C_drew ?_))); (case side2 => exact (Kd.R_reads' HO466.out).2.1); (case side3 => repeat (first | exact (Kd.R_reads' HO468.out).2.2 | (with_reducible refine Kd.C_alloc ?_ _) | (with_reducible refine Kd.C_drewN ?_ _) | (with_reducible refine Kd.C_drew ?_))); (case side4 => exact (Kd.R_reads' HO468.out).2.1); rintro e w115 ⟨v475, rfl, ho0, hb⟩; refine ⟨_, rfl, ?_⟩; have n0_ := Aside0.mk (Kd.S_elder' (by (with_reducible repeat (first | apply Kd.S_alloc | apply Kd.S_drewN | apply Kd.S_drew)); exact HO_23.out) (Kd.S_base ho0) hb); have n1_ := Aside0.mk (Kd.R_below (by (with_reducible repeat (first | apply Kd.R_alloc | apply Kd.R_drewN | apply Kd.R_drew)); exact HO466.out) hb); have n2_ := Aside0.mk (Kd.R_below (by (with_reducible repeat (first | apply Kd.R_alloc | apply Kd.R_drewN | apply Kd.R_drew)); exact HO468.out) hb); have n3_ := Aside0.mk (Kd.S_lower (Kd.S_new' (Kd.S_new' (Kd.S_new' ho0 (Kd.S_lt (by (with_reducible repeat (first | apply Kd.S_alloc | apply Kd.S_drewN | apply Kd.S_drew)); exact HO_23.out))) (Kd.R_lt (by (with_reducible repeat (first | apply Kd.R_alloc | apply Kd.R_drewN | apply Kd.R_drew)); exact HO466.out))) (Kd.R_lt (by (with_reducible repeat (first | apply Kd.R_alloc | apply Kd.R_drewN | apply Kd.R_drew)); exact HO468.out))) (below_size (by repeat (first | (with_reducible first | exact HB.out | apply below_alloc | apply pw_below_drewN | apply below_drew1) | exact HB.out)))); have n4_ := Aside0.mk (below_step (by repeat (first | (with_reducible first | exact HB.out | apply below_alloc | apply pw_below_drewN | apply below_drew1) | exact HB.out)) hb); clear HO_23; clear HO466; clear HO468; clear HB; have HO_23 := n0_; have HO466 := n1_; have HO468 := n2_; have HO476 := n3_; have HB := n4_; clear n0_ n1_ n2_ n3_ n4_; (try clear hb); (try clear hb2); (try clear hk); (try clear hi); (try clear ho0); obtain ⟨Ao116, co116, eo116⟩ := Kd.S_slice HO476.out; subst eo116) | (go_at_call 16; (with_reducible refine (laws_pSameRows.calls kj93 _ _ t473 _ _ t456 t477 _ ?side1 ?side2 ?side3 ?side4 A109.out).mono ?_); (case side1 => repeat (first | exact (Kd.S_reads' HO476.out).2.2 | (with_reducible refine Kd.C_alloc ?_ _) | (with_reducible refine Kd.C_drewN ?_ _) | (with_reducible refine Kd.C_drew ?_))); (case side2 => exact (Kd.S_reads' HO476.out).2.1); (case side3 => repeat (first | exact (Kd.S_reads' HO_23.out).2.2 | (with_reducible refine Kd.C_alloc ?_ _) | (with_reducible refine Kd.C_drewN ?_ _) | (with_reducible refine Kd.C_drew ?_))); (case side4 => exact (Kd.S_reads' HO_23.out).2.1); rintro e w' ⟨rfl, ⟨nd, rfl⟩⟩))
               go_ret
               exact ⟨by first | rfl | (simp [errW_none, errW_some] <;> rfl) | (simp [*, errW_none, errW_some] <;> rfl), by repeat (first | (with_reducible first | exact HB.out | apply below_alloc | apply pw_below_drewN | apply below_drew1) | exact HB.out)⟩
              ·rw [if_neg c108] at H
               cases H
             ·replace c107 := Bool.eq_false_iff.mpr c107
              subst c107
              rw [if_neg (show ¬ (false = true) by decide)] at H
              cases H
            ·replace c106 := Bool.eq_false_iff.mpr c106
             subst c106
             rw [if_neg (show ¬ (false = true) by decide)] at H
             cases H
           ·replace c105 := Bool.eq_false_iff.mpr c105
            subst c105
            have H1 : (some true) = some r := by rw [if_neg (show ¬ (false = true) by decide)] at H; exact H
            clear H
            have H := H1
            clear H1
            obtain rfl := Option.some.inj H
            go_wp2_with (first | ((with_reducible refine gate_callee (f := 22) rfl ?_); refine goesL_ (some 172) rfl rfl Try.func22 (by kernel_rfl) rfl #[.slice Ao96 t456.length co96] rfl (by (try simp only [List.map_toArray, List.map_cons, List.map_nil]); first | done | rfl | (simp only [List.length_drop, List.length_take]; rfl)) ?_; (with_reducible refine (laws_pMargins.calls kj93 _ _ t456 t463 t464 _ ?side1 ?side2 A101.out).mono ?_); (case side1 => repeat (first | exact (Kd.S_reads' HO_23.out).2.2 | (with_reducible refine Kd.C_alloc ?_ _) | (with_reducible refine Kd.C_drewN ?_ _) | (with_reducible refine Kd.C_drew ?_))); (case side2 => exact (Kd.S_reads' HO_23.out).2.1); rintro e w135 ⟨v465, v467, rfl, ho0, ho1, hb⟩; refine ⟨_, rfl, ?_⟩; have n0_ := Aside0.mk (Kd.S_mono (Kd.S_told (Kd.S_told (Kd.S_old (by (with_reducible repeat (first | apply Kd.S_alloc | apply Kd.S_drewN | apply Kd.S_drew)); exact HO_23.out) hb) (Kd.R_base ho0)) (Kd.R_base ho1)) (fun _ h_ => h_.1)); have n1_ := Aside0.mk (Kd.R_lower ho0 (below_size (by repeat (first | (with_reducible first | exact HB.out | apply below_alloc | apply pw_below_drewN | apply below_drew1) | exact HB.out)))); have n2_ := Aside0.mk (Kd.R_lower ho1 (below_size (by repeat (first | (with_reducible first | exact HB.out | apply below_alloc | apply pw_below_drewN | apply below_drew1) | exact HB.out)))); have n3_ := Aside0.mk (below_step (by repeat (first | (with_reducible first | exact HB.out | apply below_alloc | apply pw_below_drewN | apply below_drew1) | exact HB.out)) hb); clear HO_23; clear HB; have HO_23 := n0_; have HO466 := n1_; have HO468 := n2_; have HB := n3_; clear n0_ n1_ n2_ n3_; (try clear hb); (try clear hb2); (try clear hk); (try clear hi); (try clear ho0); (try clear ho1); obtain ⟨Ao136, co136, eo136⟩ := Kd.R_slice HO466.out; subst eo136; obtain ⟨Ao137, co137, eo137⟩ := Kd.R_slice HO468.out; subst eo137) | ((with_reducible refine gate_callee (f := 14) rfl ?_); refine goesL_ (some 178) rfl rfl Try.func14 (by kernel_rfl) rfl #[.slice Ao136 t463.length co136, .slice Ao137 t464.length co137] rfl (by (try simp only [List.map_toArray, List.map_cons, List.map_nil]); first | done | rfl | (simp only [List.length_drop, List.length_take]; rfl)) ?_; (with_reducible refine (impl_LineDistance.calls kj93 _ _ t463 _ _ t464 t469 false _ ?side1 ?side2 ?side3 ?side4 A102.out).mono ?_); (case side1 => repeat (first | exact (Kd.R_reads' HO466.out).2.2 | (with_reducible refine Kd.C_alloc ?_ _) | (with_reducible refine Kd.C_drewN ?_ _) | (with_reducible refine Kd.C_drew ?_))); (case side2 => exact (Kd.R_reads' HO466.out).2.1); (case side3 => repeat (first | exact (Kd.R_reads' HO468.out).2.2 | (with_reducible refine Kd.C_alloc ?_ _) | (with_reducible refine Kd.C_drewN ?_ _) | (with_reducible refine Kd.C_drew ?_))); (case side4 => exact (Kd.R_reads' HO468.out).2.1); rintro e w138 ⟨rfl, hb⟩; refine ⟨_, rfl, ?_⟩; have n0_ := Aside0.mk (Kd.S_below (by (with_reducible repeat (first | apply Kd.S_alloc | apply Kd.S_drewN | apply Kd.S_drew)); exact HO_23.out) hb); have n1_ := Aside0.mk (Kd.R_below (by (with_reducible repeat (first | apply Kd.R_alloc | apply Kd.R_drewN | apply Kd.R_drew)); exact HO466.out) hb); have n2_ := Aside0.mk (Kd.R_below (by (with_reducible repeat (first | apply Kd.R_alloc | apply Kd.R_drewN | apply Kd.R_drew)); exact HO468.out) hb); have n3_ := Aside0.mk (below_step (by repeat (first | (with_reducible first | exact HB.out | apply below_alloc | apply pw_below_drewN | apply below_drew1) | exact HB.out)) hb); clear HO_23; clear HO466; clear HO468; clear HB; have HO_23 := n0_; have HO466 := n1_; have HO468 := n2_; have HB := n3_; clear n0_ n1_ n2_ n3_; (try clear hb); (try clear hb2); (try clear hk); (try clear hi)) | ((with_reducible refine gate_callee (f := 19) rfl ?_); refine goesL_ (some 183) rfl rfl Try.func19 (by kernel_rfl) rfl #[.slice Ao96 t456.length co96] rfl (by (try simp only [List.map_toArray, List.map_cons, List.map_nil]); first | done | rfl | (simp only [List.length_drop, List.length_take]; rfl)) ?_; (with_reducible refine (impl_IsMonotone.calls kj93 _ _ t456 t471 t472 _ ?side1 ?side2 A103.out).mono ?_); (case side1 => repeat (first | exact (Kd.S_reads' HO_23.out).2.2 | (with_reducible refine Kd.C_alloc ?_ _) | (with_reducible refine Kd.C_drewN ?_ _) | (with_reducible refine Kd.C_drew ?_))); (case side2 => exact (Kd.S_reads' HO_23.out).2.1); rintro e w139 ⟨rfl, hb⟩; refine ⟨_, rfl, ?_⟩; have n0_ := Aside0.mk (Kd.S_below (by (with_reducible repeat (first | apply Kd.S_alloc | apply Kd.S_drewN | apply Kd.S_drew)); exact HO_23.out) hb); have n1_ := Aside0.mk (Kd.R_below (by (with_reducible repeat (first | apply Kd.R_alloc | apply Kd.R_drewN | apply Kd.R_drew)); exact HO466.out) hb); have n2_ := Aside0.mk (Kd.R_below (by (with_reducible repeat (first | apply Kd.R_alloc | apply Kd.R_drewN | apply Kd.R_drew)); exact HO468.out) hb); have n3_ := Aside0.mk (below_step (by repeat (first | (with_reducible first | exact HB.out | apply below_alloc | apply pw_below_drewN | apply below_drew1) | exact HB.out)) hb); clear HO_23; clear HO466; clear HO468; clear HB; have HO_23 := n0_; have HO466 := n1_; have HO468 := n2_; have HB := n3_; clear n0_ n1_ n2_ n3_; (try clear hb); (try clear hb2); (try clear hk); (try clear hi)) | ((with_reducible refine gate_callee (f := 12) rfl ?_); refine goesL_ (some 189) rfl rfl Try.func12 (by kernel_rfl) rfl #[.slice Ao136 t463.length co136, .slice Ao137 t464.length co137] rfl (by (try simp only [List.map_toArray, List.map_cons, List.map_nil]); first | done | rfl | (simp only [List.length_drop, List.length_take]; rfl)) ?_; (with_reducible refine (impl_MonotonePlan.calls kj93 _ _ t463 _ _ t464 t473 t474 _ ?side1 ?side2 ?side3 ?side4 A104.out).mono ?_); (case side1 => repeat (first | exact (Kd.R_reads' HO466.out).2.2 | (with_reducible refine Kd.C_alloc ?_ _) | (with_reducible refine Kd.C_drewN ?_ _) | (with_reducible refine Kd.C_drew ?_))); (case side2 => exact (Kd.R_reads' HO466.out).2.1); (case side3 => repeat (first | exact (Kd.R_reads' HO468.out).2.2 | (with_reducible refine Kd.C_alloc ?_ _) | (with_reducible refine Kd.C_drewN ?_ _) | (with_reducible refine Kd.C_drew ?_))); (case side4 => exact (Kd.R_reads' HO468.out).2.1); rintro e w140 ⟨v475, rfl, ho0, hb⟩; refine ⟨_, rfl, ?_⟩; have n0_ := Aside0.mk (Kd.S_elder' (by (with_reducible repeat (first | apply Kd.S_alloc | apply Kd.S_drewN | apply Kd.S_drew)); exact HO_23.out) (Kd.S_base ho0) hb); have n1_ := Aside0.mk (Kd.R_below (by (with_reducible repeat (first | apply Kd.R_alloc | apply Kd.R_drewN | apply Kd.R_drew)); exact HO466.out) hb); have n2_ := Aside0.mk (Kd.R_below (by (with_reducible repeat (first | apply Kd.R_alloc | apply Kd.R_drewN | apply Kd.R_drew)); exact HO468.out) hb); have n3_ := Aside0.mk (Kd.S_lower (Kd.S_new' (Kd.S_new' (Kd.S_new' ho0 (Kd.S_lt (by (with_reducible repeat (first | apply Kd.S_alloc | apply Kd.S_drewN | apply Kd.S_drew)); exact HO_23.out))) (Kd.R_lt (by (with_reducible repeat (first | apply Kd.R_alloc | apply Kd.R_drewN | apply Kd.R_drew)); exact HO466.out))) (Kd.R_lt (by (with_reducible repeat (first | apply Kd.R_alloc | apply Kd.R_drewN | apply Kd.R_drew)); exact HO468.out))) (below_size (by repeat (first | (with_reducible first | exact HB.out | apply below_alloc | apply pw_below_drewN | apply below_drew1) | exact HB.out)))); have n4_ := Aside0.mk (below_step (by repeat (first | (with_reducible first | exact HB.out | apply below_alloc | apply pw_below_drewN | apply below_drew1) | exact HB.out)) hb); clear HO_23; clear HO466; clear HO468; clear HB; have HO_23 := n0_; have HO466 := n1_; have HO468 := n2_; have HO476 := n3_; have HB := n4_; clear n0_ n1_ n2_ n3_ n4_; (try clear hb); (try clear hb2); (try clear hk); (try clear hi); (try clear ho0)))
            go_ret
            exact ⟨by first | rfl | (simp [errW_none, errW_some] <;> rfl) | (simp [*, errW_none, errW_some] <;> rfl), by repeat (first | (with_reducible first | exact HB.out | apply below_alloc | apply pw_below_drewN | apply below_drew1) | exact HB.out)⟩
          ·replace c100 := Bool.eq_false_iff.mpr c100
           subst c100
           have H1 : (some true) = some r := by rw [if_neg (show ¬ (false = true) by decide)] at H; exact H
           clear H
           have H := H1
           clear H1
           obtain rfl := Option.some.inj H
           go_wp2
           go_ret
           exact ⟨by first | rfl | (simp [errW_none, errW_some] <;> rfl) | (simp [*, errW_none, errW_some] <;> rfl), by repeat (first | (with_reducible first | exact HB.out | apply below_alloc | apply pw_below_drewN | apply below_drew1) | exact HB.out)⟩

/-- THE ONE PURE STATEMENT of laws_FnMonotonePlans: yours. -/
def laws_FnMonotonePlans.Pure : Prop := ∀ (l0 : List Int) (l1 : List Int), l0.length ≤ maxLen → l0.length * 1 ≤ 140737488351232 → (∀ x ∈ l0, (Lit.int .u8 x).wf = true) → l1.length ≤ maxLen → l1.length * 1 ≤ 140737488351232 → (∀ x ∈ l1, (Lit.int .u8 x).wf = true) → ∃ k, laws_FnMonotonePlans.f k l0 l1 = some true
theorem laws_FnMonotonePlans.walk (P : laws_FnMonotonePlans.Pure) (a0 : Option Addr) (len0 cap0 : Nat) (z0 : List Int) (a1 : Option Addr) (len1 cap1 : Nat) (z1 : List Int) (w : World) (w0 : (a0 = none ∧ len0 = 0 ∧ cap0 = 0 ∧ z0 = []) ∨ ∃ x, a0 = some x ∧ len0 ≤ cap0 ∧ cap0 ≤ maxLen ∧ z0.length = cap0 ∧ (∀ i, i < z0.length → w.cell? (x.add i) = some (.int .u8 (z0.getD i 0))) ∧ ∀ n ∈ z0, (Lit.int .u8 n).wf = true) (y0 : len0 * 1 ≤ 140737488351232) (w1 : (a1 = none ∧ len1 = 0 ∧ cap1 = 0 ∧ z1 = []) ∨ ∃ x, a1 = some x ∧ len1 ≤ cap1 ∧ cap1 ≤ maxLen ∧ z1.length = cap1 ∧ (∀ i, i < z1.length → w.cell? (x.add i) = some (.int .u8 (z1.getD i 0))) ∧ ∀ n ∈ z1, (Lit.int .u8 n).wf = true) (y1 : len1 * 1 ≤ 140737488351232) :
  Calls Try.prog 3 #[.slice a0 len0 cap0, .slice a1 len1 cap1] w fun e w' => e = .returned (.bool true) ∧ Below w.heap.size w w' := by
 obtain ⟨l0, rfl, hr0, hm0, hw0, hc0⟩ := ReadsInt.ofRowC w0
 obtain ⟨l1, rfl, hr1, hm1, hw1, hc1⟩ := ReadsInt.ofRowC w1
 obtain ⟨k, h⟩ := P l0 l1 hm0 y0 hw0 hm1 y1 hw1
 refine (laws_FnMonotonePlans.calls k _ _ l0 _ _ l1 true w (Kd.C_of_reads (d := (0 : Int)) (h1 := fun _ => rfl) hr0) hc0 (Kd.C_of_reads (d := (0 : Int)) (h1 := fun _ => rfl) hr1) hc1 h).mono ?_
 rintro e w' ⟨rfl, hd⟩
 exact ⟨rfl, hd⟩

end Go.Proofs.Ytojklddddedoeaa.PFnMonotonePlans
-- SLIM
