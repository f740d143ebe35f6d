/- For each Go function that the law uses, a Lean function with the same answers and a proof that its call comes to them; the conditions stand in each theorem. (Written by a program of this session, turned from the print of the kit.) -/
import Derived.Test.YtojklddddedoeaaPFnUncrossingx0
import Derived.Test.YtojklddddedoeaaPFnUncrossingx1
import Derived.Test.YtojklddddedoeaaPFnUncrossingx2
import Derived.Test.YtojklddddedoeaaPFnUncrossingx3
import Derived.Test.YtojklddddedoeaaPFnUncrossingx4
import Derived.Test.YtojklddddedoeaaPFnUncrossingx7
import Derived.Test.YtojklddddedoeaaPFnUncrossingx8
import Derived.Test.YtojklddddedoeaaPFnUncrossingx10
namespace Go.Proofs.Ytojklddddedoeaa.PFnUncrossing
open Go.RowKit Go.Proofs.YtojklddddedoeaaW.PrintWords Go.Proofs.YtojklddddedoeaaW.PrintLast Go.Proofs.YtojklddddedoeaaW.PrintMore
attribute [local go_sem] max2_int min2_int max_two min_two max_three min_three max_four min_four   -- for this text's walks alone
set_option linter.unusedVariables false
set_option linter.unusedSimpArgs false

attribute [local go_sem high] eqA45
/-! ### laws_FnUncrossing: function 4 -/
mutual
def laws_FnUncrossing.j0 : Nat → List (List Int) → List (List Int) → Int → Bool → List (S45) → Bool → List (S45) → Bool → Option (Bool)
 | 0, _, _, _, _, _, _, _, _ => none
 | k + 1, x5, x6, x7, x11, x12, x13, x14, x93 => if x93 = true then none else (laws_FnUncrossing.l0 k x5 x6 x7 x11 x12 x13 x14 (x12.length : Int) 0)
def laws_FnUncrossing.l0 : Nat → List (List Int) → List (List Int) → Int → Bool → List (S45) → Bool → List (S45) → Int → Int → Option (Bool)
 | 0, _, _, _, _, _, _, _, _, _ => none
 | k + 1, x5, x6, x7, x11, x12, x13, x14, x95, x96 => if x96 < x95 then (if 0 ≤ x96 then (if x96 < (x12.length : Int) then (if x96 < (x14.length : Int) then (if (!(((rd_T45 x12 x96).f0) == ((rd_T45 x14 x96).f0)) || (!(((rd_T45 x12 x96).f1) == ((rd_T45 x14 x96).f1)))) = true then none else (laws_FnUncrossing.l0 k x5 x6 x7 x11 x12 x13 x14 x95 (wrap64 (x96 + 1)))) else (none)) else (none)) else (none)) else (if x13 = true then (if 0 < (x12.length : Int) then (if 1 < (x12.length : Int) then (if ((rd_T45 x12 0).f0) ≥ ((rd_T45 x12 1).f0) then none else (if ((rd_T45 x12 0).f1) ≤ ((rd_T45 x12 1).f1) then none else (if 0 ≤ ((rd_T45 x12 0).f0) then (if ((rd_T45 x12 0).f0) < (x5.length : Int) then (if 0 ≤ ((rd_T45 x12 0).f1) then (if ((rd_T45 x12 0).f1) < ((rd_L2 x5 ((rd_T45 x12 0).f0)).length : Int) then (if (rd (rd_L2 x5 ((rd_T45 x12 0).f0)) ((rd_T45 x12 0).f1)) < 1 then none else (if 0 ≤ ((rd_T45 x12 1).f0) then (if ((rd_T45 x12 1).f0) < (x5.length : Int) then (if 0 ≤ ((rd_T45 x12 1).f1) then (if ((rd_T45 x12 1).f1) < ((rd_L2 x5 ((rd_T45 x12 1).f0)).length : Int) then (if (rd (rd_L2 x5 ((rd_T45 x12 1).f0)) ((rd_T45 x12 1).f1)) < 1 then none else (laws_FnUncrossing.j2 k x5 x6 x7 x11)) else (none)) else (none)) else (none)) else (none))) else (none)) else (none)) else (none)) else (none)))) else (none)) else (none)) else (laws_FnUncrossing.j2 k x5 x6 x7 x11))
def laws_FnUncrossing.j2 : Nat → List (List Int) → List (List Int) → Int → Bool → Option (Bool)
 | 0, _, _, _, _ => none
 | k + 1, x5, x6, x7, x11 => if x11 = true then ((impl_PlanCost.f k x5).bind fun bt351 => ((impl_PlanCost.f k x6).bind fun bt353 => ((laws_pMargins.f k x5).bind fun bt355 => ((laws_pMargins.f k x6).bind fun bt361 => (if bt351.2 = true then (if bt353.2 = true then (if (wrap64 (bt351.1 - bt353.1)) = x7 then (if x7 < 0 then none else ((laws_pSame.f k bt361.1 bt355.1).bind fun t367 => (if t367 = true then ((laws_pSame.f k bt361.2 bt355.2).bind fun t368 => (laws_FnUncrossing.j3 k x5 bt355.1 bt355.2 (!t368))) else none))) else none) else none) else none))))) else (some true)
def laws_FnUncrossing.j3 : Nat → List (List Int) → List Int → List Int → Bool → Option (Bool)
 | 0, _, _, _, _ => none
 | k + 1, x5, x23, x24, x202 => if x202 = true then none else ((impl_MonotonePlan.f k x23 x24).bind fun bt369 => (if bt369.2 = true then (laws_FnUncrossing.l1 k bt369.1 x5 0) else (some true)))
def laws_FnUncrossing.l1 : Nat → List (List Int) → List (List Int) → Int → Option (Bool)
 | 0, _, _, _ => none
 | k + 1, x27, x29, x30 => if x30 < 30000 then ((impl_Uncross.f k x29).bind fun bt373 => (if bt373.2.2 = true then (laws_FnUncrossing.l1 k x27 bt373.1 (wrap64 (x30 + 1))) else ((laws_pSameRows.f k x29 x27).bind fun t378 => (some t378)))) else none
end
def laws_FnUncrossing.f (k : Nat) (l0 : List Int) (l1 : List Int) : Option (Bool) := (laws_big.f l0 l1).bind fun t318 => (if t318 = true then (some true) else ((spec_DrawUncross.f k l0).bind fun t319 => ((impl_Uncross.f k t319).bind fun bt322 => ((spec_Uncross.f k t319).bind fun bt327 => ((impl_CrossingOf.f k t319).bind fun bt332 => ((spec_CrossingOf.f k t319).bind fun bt336 => (if (bt322.2.2 != bt327.2.2) = true then none else ((laws_pSameRows.f k bt322.1 bt327.1).bind fun t340 => (if t340 = true then (if bt322.2.1 = bt327.2.1 then (if (bt332.2 != bt336.2) = true then none else (if (bt332.1.length : Int) = (bt336.1.length : Int) then (if bt322.2.2 = true then (laws_FnUncrossing.j0 k t319 bt322.1 bt322.2.1 bt327.2.2 bt332.1 bt332.2 bt336.1 (!bt332.2)) else (laws_FnUncrossing.j0 k t319 bt322.1 bt322.2.1 bt327.2.2 bt332.1 bt332.2 bt336.1 false)) else none)) else none) else none)))))))))
theorem laws_FnUncrossing.mono_l : ∀ k, (∀ y0 y1 y2 y3 y4 y5 y6 y7, LeO (laws_FnUncrossing.j0 k y0 y1 y2 y3 y4 y5 y6 y7) (laws_FnUncrossing.j0 (k + 1) y0 y1 y2 y3 y4 y5 y6 y7)) ∧ (∀ y0 y1 y2 y3 y4 y5 y6 y7 y8, LeO (laws_FnUncrossing.l0 k y0 y1 y2 y3 y4 y5 y6 y7 y8) (laws_FnUncrossing.l0 (k + 1) y0 y1 y2 y3 y4 y5 y6 y7 y8)) ∧ (∀ y0 y1 y2 y3, LeO (laws_FnUncrossing.j2 k y0 y1 y2 y3) (laws_FnUncrossing.j2 (k + 1) y0 y1 y2 y3)) ∧ (∀ y0 y1 y2 y3, LeO (laws_FnUncrossing.j3 k y0 y1 y2 y3) (laws_FnUncrossing.j3 (k + 1) y0 y1 y2 y3)) ∧ (∀ y0 y1 y2, LeO (laws_FnUncrossing.l1 k y0 y1 y2) (laws_FnUncrossing.l1 (k + 1) y0 y1 y2))
 | 0 => ⟨fun _ _ _ _ _ _ _ _ r h => by simp [laws_FnUncrossing.j0] at h, fun _ _ _ _ _ _ _ _ _ r h => by simp [laws_FnUncrossing.l0] at h, fun _ _ _ _ r h => by simp [laws_FnUncrossing.j2] at h, fun _ _ _ _ r h => by simp [laws_FnUncrossing.j3] at h, fun _ _ _ r h => by simp [laws_FnUncrossing.l1] at h⟩
 | k + 1 => by
  obtain ⟨ih0, ih1, ih2, ih3, ih4⟩ := laws_FnUncrossing.mono_l k
  refine ⟨?_, ?_, ?_, ?_, ?_⟩
  ·intro y0 y1 y2 y3 y4 y5 y6 y7
   unfold laws_FnUncrossing.j0
   repeat' first
   | (with_reducible exact ih0 _ _ _ _ _ _ _ _)
   | (with_reducible exact ih1 _ _ _ _ _ _ _ _ _)
   | (with_reducible exact ih2 _ _ _ _)
   | (with_reducible exact ih3 _ _ _ _)
   | (with_reducible exact ih4 _ _ _)
   | (with_reducible exact impl_CrossingOf.mono _ _)
   | (with_reducible exact impl_MonotonePlan.mono _ _ _)
   | (with_reducible exact impl_PlanCost.mono _ _)
   | (with_reducible exact impl_Uncross.mono _ _)
   | (with_reducible exact laws_pMargins.mono _ _)
   | (with_reducible exact laws_pSame.mono _ _ _)
   | (with_reducible exact laws_pSameRows.mono _ _ _)
   | (with_reducible exact spec_CrossingOf.mono _ _)
   | (with_reducible exact spec_DrawUncross.mono _ _)
   | (with_reducible exact spec_Uncross.mono _ _)
   | (with_reducible exact LeO.refl _)
   | (with_reducible exact LeO.none _)
   | (with_reducible refine LeO.ite ?_ ?_)
   | (with_reducible refine LeO.bind ?_ (fun _ => ?_))
   | exact ih0 _ _ _ _ _ _ _ _
   | exact ih1 _ _ _ _ _ _ _ _ _
   | exact ih2 _ _ _ _
   | exact ih3 _ _ _ _
   | exact ih4 _ _ _
   | exact impl_CrossingOf.mono _ _
   | exact impl_MonotonePlan.mono _ _ _
   | exact impl_PlanCost.mono _ _
   | exact impl_Uncross.mono _ _
   | exact laws_pMargins.mono _ _
   | exact laws_pSame.mono _ _ _
   | exact laws_pSameRows.mono _ _ _
   | exact spec_CrossingOf.mono _ _
   | exact spec_DrawUncross.mono _ _
   | exact spec_Uncross.mono _ _
   | exact LeO.none _
   | refine LeO.ite ?_ ?_
   | refine LeO.bind ?_ (fun _ => ?_)
  ·intro y0 y1 y2 y3 y4 y5 y6 y7 y8
   unfold laws_FnUncrossing.l0
   repeat' first
   | (with_reducible exact ih0 _ _ _ _ _ _ _ _)
   | (with_reducible exact ih1 _ _ _ _ _ _ _ _ _)
   | (with_reducible exact ih2 _ _ _ _)
   | (with_reducible exact ih3 _ _ _ _)
   | (with_reducible exact ih4 _ _ _)
   | (with_reducible exact impl_CrossingOf.mono _ _)
   | (with_reducible exact impl_MonotonePlan.mono _ _ _)
   | (with_reducible exact impl_PlanCost.mono _ _)
   | (with_reducible exact impl_Uncross.mono _ _)
   | (with_reducible exact laws_pMargins.mono _ _)
   | (with_reducible exact laws_pSame.mono _ _ _)
   | (with_reducible exact laws_pSameRows.mono _ _ _)
   | (with_reducible exact spec_CrossingOf.mono _ _)
   | (with_reducible exact spec_DrawUncross.mono _ _)
   | (with_reducible exact spec_Uncross.mono _ _)
   | (with_reducible exact LeO.refl _)
   | (with_reducible exact LeO.none _)
   | (with_reducible refine LeO.ite ?_ ?_)
   | (with_reducible refine LeO.bind ?_ (fun _ => ?_))
   | exact ih0 _ _ _ _ _ _ _ _
   | exact ih1 _ _ _ _ _ _ _ _ _
   | exact ih2 _ _ _ _
   | exact ih3 _ _ _ _
   | exact ih4 _ _ _
   | exact impl_CrossingOf.mono _ _
   | exact impl_MonotonePlan.mono _ _ _
   | exact impl_PlanCost.mono _ _
   | exact impl_Uncross.mono _ _
   | exact laws_pMargins.mono _ _
   | exact laws_pSame.mono _ _ _
   | exact laws_pSameRows.mono _ _ _
   | exact spec_CrossingOf.mono _ _
   | exact spec_DrawUncross.mono _ _
   | exact spec_Uncross.mono _ _
   | exact LeO.none _
   | refine LeO.ite ?_ ?_
   | refine LeO.bind ?_ (fun _ => ?_)
  ·intro y0 y1 y2 y3
   unfold laws_FnUncrossing.j2
   repeat' first
   | (with_reducible exact ih0 _ _ _ _ _ _ _ _)
   | (with_reducible exact ih1 _ _ _ _ _ _ _ _ _)
   | (with_reducible exact ih2 _ _ _ _)
   | (with_reducible exact ih3 _ _ _ _)
   | (with_reducible exact ih4 _ _ _)
   | (with_reducible exact impl_CrossingOf.mono _ _)
   | (with_reducible exact impl_MonotonePlan.mono _ _ _)
   | (with_reducible exact impl_PlanCost.mono _ _)
   | (with_reducible exact impl_Uncross.mono _ _)
   | (with_reducible exact laws_pMargins.mono _ _)
   | (with_reducible exact laws_pSame.mono _ _ _)
   | (with_reducible exact laws_pSameRows.mono _ _ _)
   | (with_reducible exact spec_CrossingOf.mono _ _)
   | (with_reducible exact spec_DrawUncross.mono _ _)
   | (with_reducible exact spec_Uncross.mono _ _)
   | (with_reducible exact LeO.refl _)
   | (with_reducible exact LeO.none _)
   | (with_reducible refine LeO.ite ?_ ?_)
   | (with_reducible refine LeO.bind ?_ (fun _ => ?_))
   | exact ih0 _ _ _ _ _ _ _ _
   | exact ih1 _ _ _ _ _ _ _ _ _
   | exact ih2 _ _ _ _
   | exact ih3 _ _ _ _
   | exact ih4 _ _ _
   | exact impl_CrossingOf.mono _ _
   | exact impl_MonotonePlan.mono _ _ _
   | exact impl_PlanCost.mono _ _
   | exact impl_Uncross.mono _ _
   | exact laws_pMargins.mono _ _
   | exact laws_pSame.mono _ _ _
   | exact laws_pSameRows.mono _ _ _
   | exact spec_CrossingOf.mono _ _
   | exact spec_DrawUncross.mono _ _
   | exact spec_Uncross.mono _ _
   | exact LeO.none _
   | refine LeO.ite ?_ ?_
   | refine LeO.bind ?_ (fun _ => ?_)
  ·intro y0 y1 y2 y3
   unfold laws_FnUncrossing.j3
   repeat' first
   | (with_reducible exact ih0 _ _ _ _ _ _ _ _)
   | (with_reducible exact ih1 _ _ _ _ _ _ _ _ _)
   | (with_reducible exact ih2 _ _ _ _)
   | (with_reducible exact ih3 _ _ _ _)
   | (with_reducible exact ih4 _ _ _)
   | (with_reducible exact impl_CrossingOf.mono _ _)
   | (with_reducible exact impl_MonotonePlan.mono _ _ _)
   | (with_reducible exact impl_PlanCost.mono _ _)
   | (with_reducible exact impl_Uncross.mono _ _)
   | (with_reducible exact laws_pMargins.mono _ _)
   | (with_reducible exact laws_pSame.mono _ _ _)
   | (with_reducible exact laws_pSameRows.mono _ _ _)
   | (with_reducible exact spec_CrossingOf.mono _ _)
   | (with_reducible exact spec_DrawUncross.mono _ _)
   | (with_reducible exact spec_Uncross.mono _ _)
   | (with_reducible exact LeO.refl _)
   | (with_reducible exact LeO.none _)
   | (with_reducible refine LeO.ite ?_ ?_)
   | (with_reducible refine LeO.bind ?_ (fun _ => ?_))
   | exact ih0 _ _ _ _ _ _ _ _
   | exact ih1 _ _ _ _ _ _ _ _ _
   | exact ih2 _ _ _ _
   | exact ih3 _ _ _ _
   | exact ih4 _ _ _
   | exact impl_CrossingOf.mono _ _
   | exact impl_MonotonePlan.mono _ _ _
   | exact impl_PlanCost.mono _ _
   | exact impl_Uncross.mono _ _
   | exact laws_pMargins.mono _ _
   | exact laws_pSame.mono _ _ _
   | exact laws_pSameRows.mono _ _ _
   | exact spec_CrossingOf.mono _ _
   | exact spec_DrawUncross.mono _ _
   | exact spec_Uncross.mono _ _
   | exact LeO.none _
   | refine LeO.ite ?_ ?_
   | refine LeO.bind ?_ (fun _ => ?_)
  ·intro y0 y1 y2
   unfold laws_FnUncrossing.l1
   repeat' first
   | (with_reducible exact ih0 _ _ _ _ _ _ _ _)
   | (with_reducible exact ih1 _ _ _ _ _ _ _ _ _)
   | (with_reducible exact ih2 _ _ _ _)
   | (with_reducible exact ih3 _ _ _ _)
   | (with_reducible exact ih4 _ _ _)
   | (with_reducible exact impl_CrossingOf.mono _ _)
   | (with_reducible exact impl_MonotonePlan.mono _ _ _)
   | (with_reducible exact impl_PlanCost.mono _ _)
   | (with_reducible exact impl_Uncross.mono _ _)
   | (with_reducible exact laws_pMargins.mono _ _)
   | (with_reducible exact laws_pSame.mono _ _ _)
   | (with_reducible exact laws_pSameRows.mono _ _ _)
   | (with_reducible exact spec_CrossingOf.mono _ _)
   | (with_reducible exact spec_DrawUncross.mono _ _)
   | (with_reducible exact spec_Uncross.mono _ _)
   | (with_reducible exact LeO.refl _)
   | (with_reducible exact LeO.none _)
   | (with_reducible refine LeO.ite ?_ ?_)
   | (with_reducible refine LeO.bind ?_ (fun _ => ?_))
   | exact ih0 _ _ _ _ _ _ _ _
   | exact ih1 _ _ _ _ _ _ _ _ _
   | exact ih2 _ _ _ _
   | exact ih3 _ _ _ _
   | exact ih4 _ _ _
   | exact impl_CrossingOf.mono _ _
   | exact impl_MonotonePlan.mono _ _ _
   | exact impl_PlanCost.mono _ _
   | exact impl_Uncross.mono _ _
   | exact laws_pMargins.mono _ _
   | exact laws_pSame.mono _ _ _
   | exact laws_pSameRows.mono _ _ _
   | exact spec_CrossingOf.mono _ _
   | exact spec_DrawUncross.mono _ _
   | exact spec_Uncross.mono _ _
   | exact LeO.none _
   | refine LeO.ite ?_ ?_
   | refine LeO.bind ?_ (fun _ => ?_)
theorem laws_FnUncrossing.mono : ∀ a0 a1 k, LeO (laws_FnUncrossing.f k a0 a1) (laws_FnUncrossing.f (k + 1) a0 a1) := by
 intro a0 a1 k
 obtain ⟨ih0, ih1, ih2, ih3, ih4⟩ := laws_FnUncrossing.mono_l k
 unfold laws_FnUncrossing.f
 repeat' first
   | (with_reducible exact ih0 _ _ _ _ _ _ _ _)
   | (with_reducible exact ih1 _ _ _ _ _ _ _ _ _)
   | (with_reducible exact ih2 _ _ _ _)
   | (with_reducible exact ih3 _ _ _ _)
   | (with_reducible exact ih4 _ _ _)
   | (with_reducible exact impl_CrossingOf.mono _ _)
   | (with_reducible exact impl_MonotonePlan.mono _ _ _)
   | (with_reducible exact impl_PlanCost.mono _ _)
   | (with_reducible exact impl_Uncross.mono _ _)
   | (with_reducible exact laws_pMargins.mono _ _)
   | (with_reducible exact laws_pSame.mono _ _ _)
   | (with_reducible exact laws_pSameRows.mono _ _ _)
   | (with_reducible exact spec_CrossingOf.mono _ _)
   | (with_reducible exact spec_DrawUncross.mono _ _)
   | (with_reducible exact spec_Uncross.mono _ _)
   | (with_reducible exact LeO.refl _)
   | (with_reducible exact LeO.none _)
   | (with_reducible refine LeO.ite ?_ ?_)
   | (with_reducible refine LeO.bind ?_ (fun _ => ?_))
   | exact ih0 _ _ _ _ _ _ _ _
   | exact ih1 _ _ _ _ _ _ _ _ _
   | exact ih2 _ _ _ _
   | exact ih3 _ _ _ _
   | exact ih4 _ _ _
   | exact impl_CrossingOf.mono _ _
   | exact impl_MonotonePlan.mono _ _ _
   | exact impl_PlanCost.mono _ _
   | exact impl_Uncross.mono _ _
   | exact laws_pMargins.mono _ _
   | exact laws_pSame.mono _ _ _
   | exact laws_pSameRows.mono _ _ _
   | exact spec_CrossingOf.mono _ _
   | exact spec_DrawUncross.mono _ _
   | exact spec_Uncross.mono _ _
   | exact LeO.none _
   | refine LeO.ite ?_ ?_
   | refine LeO.bind ?_ (fun _ => ?_)
def laws_FnUncrossing.T13 : Bool × List (List Nat × List Nat) := (true, [([], []), ([], []), ([0, 1], [0, 1]), ([2], [2]), ([], []), ([], []), ([4, 5], [4, 5]), ([6], [6]), ([3, 7], [3, 7])])
def laws_FnUncrossing.B13 : List Nat := [0, 0, 3, 7, 0, 0, 48, 112, 255]
theorem laws_FnUncrossing.tab13 : rtab .any (opsOf Try.f4 13) = laws_FnUncrossing.T13 := by kernel_rfl
theorem laws_FnUncrossing.bits13 : waitsOk laws_FnUncrossing.T13.2 laws_FnUncrossing.B13 = true := by kernel_rfl
def laws_FnUncrossing.T17 : Bool × List (List Nat × List Nat) := (true, [([], []), ([0], [0]), ([1], [1]), ([], []), ([3], [3]), ([4], [4]), ([], []), ([], []), ([6, 2, 0, 1, 2, 6, 7], [2, 6]), ([7, 5, 8, 0, 1, 2, 3, 4, 5, 6, 7, 8], [5, 7])])
def laws_FnUncrossing.B17 : List Nat := [0, 1, 3, 0, 8, 24, 0, 0, 199, 511]
theorem laws_FnUncrossing.tab17 : rtab .any (opsOf Try.f4 17) = laws_FnUncrossing.T17 := by kernel_rfl
theorem laws_FnUncrossing.bits17 : waitsOk laws_FnUncrossing.T17.2 laws_FnUncrossing.B17 = true := by kernel_rfl
def laws_FnUncrossing.T18 : Bool × List (List Nat × List Nat) := (true, [([], []), ([0], [0]), ([], []), ([2], [2]), ([1, 3], [1, 3]), ([4], [4]), ([5], [5]), ([6, 5], [5, 6]), ([5], [5]), ([8, 5], [5, 8]), ([7, 9, 5], [5, 7, 9]), ([5, 10], [5, 10]), ([11, 5], [11]), ([12], [12]), ([12], [12]), ([14, 12], [12, 14]), ([13, 15, 12], [12, 13, 15]), ([16, 12], [12, 16]), ([12], [12]), ([18, 12], [12, 18]), ([17, 19, 12], [12, 17, 19]), ([20, 12], [12, 20]), ([21, 12], [12, 21]), ([12, 22], [12, 22]), ([23, 12], [23]), ([24], [24]), ([24], [24]), ([26, 24], [24, 26]), ([25, 27, 24], [24, 25, 27]), ([28, 24], [24, 28]), ([24], [24]), ([30, 24], [24, 30]), ([29, 31, 24], [24, 29, 31]), ([32, 24], [24, 32]), ([33, 24], [24, 33]), ([24, 34], [24, 34])])
def laws_FnUncrossing.B18 : List Nat := [0, 1, 0, 4, 15, 31, 63, 127, 63, 319, 1023, 2047, 4095, 8191, 8191, 24575, 65535, 131071, 8191, 270335, 1048575, 2097151, 4194303, 8388607, 16777215, 33554431, 33554431, 100663295, 268435455, 536870911, 33554431, 1107296255, 4294967295, 8589934591, 17179869183, 34359738367]
theorem laws_FnUncrossing.tab18 : rtab .any (opsOf Try.f4 18) = laws_FnUncrossing.T18 := by kernel_rfl
theorem laws_FnUncrossing.bits18 : waitsOk laws_FnUncrossing.T18.2 laws_FnUncrossing.B18 = true := by kernel_rfl
set_option maxHeartbeats 8000000 in
set_option maxRecDepth 100000 in
-- NOFALSE
theorem laws_FnUncrossing.calls (k : Nat) (A0 : Option Addr) (c0 : Nat) (l0 : List Int) (A1 : Option Addr) (c1 : Nat) (l1 : List Int) (r : Bool) (w : World) (hr0 : Kd.C (Kd.int .u8) w A0 l0.length l0) (hc0 : l0.length ≤ c0) (hr1 : Kd.C (Kd.int .u8) w A1 l1.length l1) (hc1 : l1.length ≤ c1) (h : laws_FnUncrossing.f k l0 l1 = some r) :
  Calls Try.prog 4 #[.slice A0 l0.length c0, .slice A1 l1.length c1] w fun e w' => e = .returned (.bool r) ∧ Below w.heap.size w w' := by
 have hu45 := Try.underlying45
 have HR0 := Aside0.mk hr0
 have HC0 := Aside0.mk hc0
 clear hr0 hc0
 have HR1 := Aside0.mk hr1
 have HC1 := Aside0.mk hc1
 clear hr1 hc1
 have HB := Aside0.mk (Below.refl w.heap.size w)
 have H : ((laws_big.f l0 l1).bind fun t318 => (if t318 = true then (some true) else ((spec_DrawUncross.f k l0).bind fun t319 => ((impl_Uncross.f k t319).bind fun bt322 => ((spec_Uncross.f k t319).bind fun bt327 => ((impl_CrossingOf.f k t319).bind fun bt332 => ((spec_CrossingOf.f k t319).bind fun bt336 => (if (bt322.2.2 != bt327.2.2) = true then none else ((laws_pSameRows.f k bt322.1 bt327.1).bind fun t340 => (if t340 = true then (if bt322.2.1 = bt327.2.1 then (if (bt332.2 != bt336.2) = true then none else (if (bt332.1.length : Int) = (bt336.1.length : Int) then (if bt322.2.2 = true then (laws_FnUncrossing.j0 k t319 bt322.1 bt322.2.1 bt327.2.2 bt332.1 bt332.2 bt336.1 (!bt332.2)) else (laws_FnUncrossing.j0 k t319 bt322.1 bt322.2.1 bt327.2.2 bt332.1 bt332.2 bt336.1 false)) else none)) else none) else none)))))))))) = some r := h
 clear h
 replace H := Option.bind_eq_some_iff.mp H
 obtain ⟨t318, A30, H⟩ := H
 replace H : (if t318 = true then (some true) else ((spec_DrawUncross.f k l0).bind fun t319 => ((impl_Uncross.f k t319).bind fun bt322 => ((spec_Uncross.f k t319).bind fun bt327 => ((impl_CrossingOf.f k t319).bind fun bt332 => ((spec_CrossingOf.f k t319).bind fun bt336 => (if (bt322.2.2 != bt327.2.2) = true then none else ((laws_pSameRows.f k bt322.1 bt327.1).bind fun t340 => (if t340 = true then (if bt322.2.1 = bt327.2.1 then (if (bt332.2 != bt336.2) = true then none else (if (bt332.1.length : Int) = (bt336.1.length : Int) then (if bt322.2.2 = true then (laws_FnUncrossing.j0 k t319 bt322.1 bt322.2.1 bt327.2.2 bt332.1 bt332.2 bt336.1 (!bt332.2)) else (laws_FnUncrossing.j0 k t319 bt322.1 bt322.2.1 bt327.2.2 bt332.1 bt332.2 bt336.1 false)) else none)) else none) else none))))))))) = some r := H
 have A3 := Aside0.mk A30
 clear A30
 by_cases c4 : t318 = true
 ·subst c4
  have H1 : (some true) = some r := by rw [if_pos rfl] at H; exact H
  clear H
  have H := H1
  clear H1
  obtain rfl := Option.some.inj H
  go_enter Try.func4, Try.ntmps4
  go_wp2_with (first | ((with_reducible refine gate_callee (f := 10) rfl ?_); refine goesL_ (some 36) rfl rfl Try.func10 (by kernel_rfl) rfl #[.slice A0 l0.length c0, .slice A1 l1.length c1] rfl (by (try simp only [List.map_toArray, List.map_cons, List.map_nil]); first | done | rfl | (simp only [List.length_drop, List.length_take]; rfl)) ?_; (with_reducible refine (laws_big.calls _ _ l0 _ _ l1 true _ ?side1 ?side2 ?side3 ?side4 A3.out).mono ?_); (case side1 => repeat (first | exact HR0.out | (with_reducible refine Kd.C_alloc ?_ _) | (with_reducible refine Kd.C_drewN ?_ _) | (with_reducible refine Kd.C_drew ?_))); (case side2 => exact HC0.out); (case side3 => repeat (first | exact HR1.out | (with_reducible refine Kd.C_alloc ?_ _) | (with_reducible refine Kd.C_drewN ?_ _) | (with_reducible refine Kd.C_drew ?_))); (case side4 => exact HC1.out); rintro e w' ⟨rfl, ⟨nd, rfl⟩⟩; refine ⟨_, rfl, ?_⟩))
  go_ret
  exact ⟨by first | rfl | (simp [errW_none, errW_some] <;> rfl) | (simp [*, errW_none, errW_some] <;> rfl), by repeat (first | (with_reducible first | exact HB.out | apply below_alloc | apply pw_below_drewN | apply below_drew1) | exact HB.out)⟩
 ·replace c4 := Bool.eq_false_iff.mpr c4
  subst c4
  have H1 : ((spec_DrawUncross.f k l0).bind fun t319 => ((impl_Uncross.f k t319).bind fun bt322 => ((spec_Uncross.f k t319).bind fun bt327 => ((impl_CrossingOf.f k t319).bind fun bt332 => ((spec_CrossingOf.f k t319).bind fun bt336 => (if (bt322.2.2 != bt327.2.2) = true then none else ((laws_pSameRows.f k bt322.1 bt327.1).bind fun t340 => (if t340 = true then (if bt322.2.1 = bt327.2.1 then (if (bt332.2 != bt336.2) = true then none else (if (bt332.1.length : Int) = (bt336.1.length : Int) then (if bt322.2.2 = true then (laws_FnUncrossing.j0 k t319 bt322.1 bt322.2.1 bt327.2.2 bt332.1 bt332.2 bt336.1 (!bt332.2)) else (laws_FnUncrossing.j0 k t319 bt322.1 bt322.2.1 bt327.2.2 bt332.1 bt332.2 bt336.1 false)) else none)) else none) else none)))))))) = some r := by rw [if_neg (show ¬ (false = true) by decide)] at H; exact H
  clear H
  have H := H1
  clear H1
  replace H := Option.bind_eq_some_iff.mp H
  obtain ⟨t319, A50, H⟩ := H
  replace H : ((impl_Uncross.f k t319).bind fun bt322 => ((spec_Uncross.f k t319).bind fun bt327 => ((impl_CrossingOf.f k t319).bind fun bt332 => ((spec_CrossingOf.f k t319).bind fun bt336 => (if (bt322.2.2 != bt327.2.2) = true then none else ((laws_pSameRows.f k bt322.1 bt327.1).bind fun t340 => (if t340 = true then (if bt322.2.1 = bt327.2.1 then (if (bt332.2 != bt336.2) = true then none else (if (bt332.1.length : Int) = (bt336.1.length : Int) then (if bt322.2.2 = true then (laws_FnUncrossing.j0 k t319 bt322.1 bt322.2.1 bt327.2.2 bt332.1 bt332.2 bt336.1 (!bt332.2)) else (laws_FnUncrossing.j0 k t319 bt322.1 bt322.2.1 bt327.2.2 bt332.1 bt332.2 bt336.1 false)) else none)) else none) else none))))))) = some r := H
  have A5 := Aside0.mk A50
  clear A50
  replace H := Option.bind_eq_some_iff.mp H
  obtain ⟨⟨t322, t323, t324⟩, A60, H⟩ := H
  replace H : ((spec_Uncross.f k t319).bind fun bt327 => ((impl_CrossingOf.f k t319).bind fun bt332 => ((spec_CrossingOf.f k t319).bind fun bt336 => (if (t324 != bt327.2.2) = true then none else ((laws_pSameRows.f k t322 bt327.1).bind fun t340 => (if t340 = true then (if t323 = bt327.2.1 then (if (bt332.2 != bt336.2) = true then none else (if (bt332.1.length : Int) = (bt336.1.length : Int) then (if t324 = true then (laws_FnUncrossing.j0 k t319 t322 t323 bt327.2.2 bt332.1 bt332.2 bt336.1 (!bt332.2)) else (laws_FnUncrossing.j0 k t319 t322 t323 bt327.2.2 bt332.1 bt332.2 bt336.1 false)) else none)) else none) else none)))))) = some r := H
  have A6 := Aside0.mk A60
  clear A60
  replace H := Option.bind_eq_some_iff.mp H
  obtain ⟨⟨t327, t328, t329⟩, A70, H⟩ := H
  replace H : ((impl_CrossingOf.f k t319).bind fun bt332 => ((spec_CrossingOf.f k t319).bind fun bt336 => (if (t324 != t329) = true then none else ((laws_pSameRows.f k t322 t327).bind fun t340 => (if t340 = true then (if t323 = t328 then (if (bt332.2 != bt336.2) = true then none else (if (bt332.1.length : Int) = (bt336.1.length : Int) then (if t324 = true then (laws_FnUncrossing.j0 k t319 t322 t323 t329 bt332.1 bt332.2 bt336.1 (!bt332.2)) else (laws_FnUncrossing.j0 k t319 t322 t323 t329 bt332.1 bt332.2 bt336.1 false)) else none)) else none) else none))))) = some r := H
  have A7 := Aside0.mk A70
  clear A70
  replace H := Option.bind_eq_some_iff.mp H
  obtain ⟨⟨t332, t333⟩, A80, H⟩ := H
  replace H : ((spec_CrossingOf.f k t319).bind fun bt336 => (if (t324 != t329) = true then none else ((laws_pSameRows.f k t322 t327).bind fun t340 => (if t340 = true then (if t323 = t328 then (if (t333 != bt336.2) = true then none else (if (t332.length : Int) = (bt336.1.length : Int) then (if t324 = true then (laws_FnUncrossing.j0 k t319 t322 t323 t329 t332 t333 bt336.1 (!t333)) else (laws_FnUncrossing.j0 k t319 t322 t323 t329 t332 t333 bt336.1 false)) else none)) else none) else none)))) = some r := H
  have A8 := Aside0.mk A80
  clear A80
  replace H := Option.bind_eq_some_iff.mp H
  obtain ⟨⟨t336, t337⟩, A90, H⟩ := H
  replace H : (if (t324 != t329) = true then none else ((laws_pSameRows.f k t322 t327).bind fun t340 => (if t340 = true then (if t323 = t328 then (if (t333 != t337) = true then none else (if (t332.length : Int) = (t336.length : Int) then (if t324 = true then (laws_FnUncrossing.j0 k t319 t322 t323 t329 t332 t333 t336 (!t333)) else (laws_FnUncrossing.j0 k t319 t322 t323 t329 t332 t333 t336 false)) else none)) else none) else none))) = some r := H
  have A9 := Aside0.mk A90
  clear A90
  have HC10 := Aside0.mk H
  clear H
  go_enter Try.func4, Try.ntmps4
  go_upto_region 8 with (first | ((with_reducible refine gate_callee (f := 10) rfl ?_); refine goesL_ (some 36) rfl rfl Try.func10 (by kernel_rfl) rfl #[.slice A0 l0.length c0, .slice A1 l1.length c1] rfl (by (try simp only [List.map_toArray, List.map_cons, List.map_nil]); first | done | rfl | (simp only [List.length_drop, List.length_take]; rfl)) ?_; (with_reducible refine (laws_big.calls _ _ l0 _ _ l1 false _ ?side1 ?side2 ?side3 ?side4 A3.out).mono ?_); (case side1 => repeat (first | exact HR0.out | (with_reducible refine Kd.C_alloc ?_ _) | (with_reducible refine Kd.C_drewN ?_ _) | (with_reducible refine Kd.C_drew ?_))); (case side2 => exact HC0.out); (case side3 => repeat (first | exact HR1.out | (with_reducible refine Kd.C_alloc ?_ _) | (with_reducible refine Kd.C_drewN ?_ _) | (with_reducible refine Kd.C_drew ?_))); (case side4 => exact HC1.out); rintro e w' ⟨rfl, ⟨nd, rfl⟩⟩; refine ⟨_, rfl, ?_⟩) | ((with_reducible refine gate_callee (f := 23) rfl ?_); refine goesL_ (some 38) rfl rfl Try.func23 (by kernel_rfl) rfl #[.slice A0 l0.length c0] rfl (by (try simp only [List.map_toArray, List.map_cons, List.map_nil]); first | done | rfl | (simp only [List.length_drop, List.length_take]; rfl)) ?_; (with_reducible refine (spec_DrawUncross.calls k _ _ l0 t319 _ ?side1 ?side2 A5.out).mono ?_); (case side1 => repeat (first | exact HR0.out | (with_reducible refine Kd.C_alloc ?_ _) | (with_reducible refine Kd.C_drewN ?_ _) | (with_reducible refine Kd.C_drew ?_))); (case side2 => exact HC0.out); rintro e w11 ⟨v320, rfl, ho0, hb⟩; refine ⟨_, rfl, ?_⟩; have n0_ := Aside0.mk (Kd.S_lower ho0 (below_size (by repeat (first | (with_reducible first | exact HB.out | apply below_alloc | apply pw_below_drewN | apply below_drew1) | exact HB.out)))); have n1_ := Aside0.mk (below_step (by repeat (first | (with_reducible first | exact HB.out | apply below_alloc | apply pw_below_drewN | apply below_drew1) | exact HB.out)) hb); clear HB; have HO321 := n0_; have HB := n1_; clear n0_ n1_; (try clear hb); (try clear hb2); (try clear hk); (try clear hi); (try clear ho0); obtain ⟨Ao12, co12, eo12⟩ := Kd.S_slice HO321.out; subst eo12) | ((with_reducible refine gate_callee (f := 24) rfl ?_); refine goesL_ (some 41) rfl rfl Try.func24 (by kernel_rfl) rfl #[.slice Ao12 t319.length co12] rfl (by (try simp only [List.map_toArray, List.map_cons, List.map_nil]); first | done | rfl | (simp only [List.length_drop, List.length_take]; rfl)) ?_; (with_reducible refine (impl_Uncross.calls k _ _ t319 t322 t323 t324 _ ?side1 ?side2 A6.out).mono ?_); (case side1 => repeat (first | exact (Kd.S_reads' HO321.out).2.2 | (with_reducible refine Kd.C_alloc ?_ _) | (with_reducible refine Kd.C_drewN ?_ _) | (with_reducible refine Kd.C_drew ?_))); (case side2 => exact (Kd.S_reads' HO321.out).2.1); rintro e w13 ⟨v325, rfl, ho0, hb⟩; refine ⟨_, rfl, ?_⟩; have n0_ := Aside0.mk (Kd.S_elder' (by (with_reducible repeat (first | apply Kd.S_alloc | apply Kd.S_drewN | apply Kd.S_drew)); exact HO321.out) (Kd.S_base ho0) hb); have n1_ := Aside0.mk (Kd.S_lower (Kd.S_new' ho0 (Kd.S_lt (by (with_reducible repeat (first | apply Kd.S_alloc | apply Kd.S_drewN | apply Kd.S_drew)); exact HO321.out))) (below_size (by repeat (first | (with_reducible first | exact HB.out | apply below_alloc | apply pw_below_drewN | apply below_drew1) | exact HB.out)))); have n2_ := Aside0.mk (below_step (by repeat (first | (with_reducible first | exact HB.out | apply below_alloc | apply pw_below_drewN | apply below_drew1) | exact HB.out)) hb); clear HO321; clear HB; have HO321 := n0_; have HO326 := n1_; have HB := n2_; clear n0_ n1_ n2_; (try clear hb); (try clear hb2); (try clear hk); (try clear hi); (try clear ho0)) | ((with_reducible refine gate_callee (f := 25) rfl ?_); refine goesL_ (some 47) rfl rfl Try.func25 (by kernel_rfl) rfl #[.slice Ao12 t319.length co12] rfl (by (try simp only [List.map_toArray, List.map_cons, List.map_nil]); first | done | rfl | (simp only [List.length_drop, List.length_take]; rfl)) ?_; (with_reducible refine (spec_Uncross.calls k _ _ t319 t327 t328 t329 _ ?side1 ?side2 A7.out).mono ?_); (case side1 => repeat (first | exact (Kd.S_reads' HO321.out).2.2 | (with_reducible refine Kd.C_alloc ?_ _) | (with_reducible refine Kd.C_drewN ?_ _) | (with_reducible refine Kd.C_drew ?_))); (case side2 => exact (Kd.S_reads' HO321.out).2.1); rintro e w14 ⟨v330, rfl, ho0, hb⟩; refine ⟨_, rfl, ?_⟩; have n0_ := Aside0.mk (Kd.S_elder' (by (with_reducible repeat (first | apply Kd.S_alloc | apply Kd.S_drewN | apply Kd.S_drew)); exact HO321.out) (Kd.S_base ho0) hb); have n1_ := Aside0.mk (Kd.S_elder' (by (with_reducible repeat (first | apply Kd.S_alloc | apply Kd.S_drewN | apply Kd.S_drew)); exact HO326.out) (Kd.S_base ho0) hb); have n2_ := Aside0.mk (Kd.S_lower (Kd.S_new' (Kd.S_new' ho0 (Kd.S_lt (by (with_reducible repeat (first | apply Kd.S_alloc | apply Kd.S_drewN | apply Kd.S_drew)); exact HO321.out))) (Kd.S_lt (by (with_reducible repeat (first | apply Kd.S_alloc | apply Kd.S_drewN | apply Kd.S_drew)); exact HO326.out))) (below_size (by repeat (first | (with_reducible first | exact HB.out | apply below_alloc | apply pw_below_drewN | apply below_drew1) | exact HB.out)))); have n3_ := Aside0.mk (below_step (by repeat (first | (with_reducible first | exact HB.out | apply below_alloc | apply pw_below_drewN | apply below_drew1) | exact HB.out)) hb); clear HO321; clear HO326; clear HB; have HO321 := n0_; have HO326 := n1_; have HO331 := n2_; have HB := n3_; clear n0_ n1_ n2_ n3_; (try clear hb); (try clear hb2); (try clear hk); (try clear hi); (try clear ho0)) | ((with_reducible refine gate_callee (f := 26) rfl ?_); refine goesL_ (some 53) rfl rfl Try.func26 (by kernel_rfl) rfl #[.slice Ao12 t319.length co12] rfl (by (try simp only [List.map_toArray, List.map_cons, List.map_nil]); first | done | rfl | (simp only [List.length_drop, List.length_take]; rfl)) ?_; (with_reducible refine (impl_CrossingOf.calls k _ _ t319 t332 t333 _ ?side1 ?side2 A8.out).mono ?_); (case side1 => repeat (first | exact (Kd.S_reads' HO321.out).2.2 | (with_reducible refine Kd.C_alloc ?_ _) | (with_reducible refine Kd.C_drewN ?_ _) | (with_reducible refine Kd.C_drew ?_))); (case side2 => exact (Kd.S_reads' HO321.out).2.1); rintro e w15 ⟨v334, rfl, ho0, hb⟩; refine ⟨_, rfl, ?_⟩; have n0_ := Aside0.mk (Kd.S_below (by (with_reducible repeat (first | apply Kd.S_alloc | apply Kd.S_drewN | apply Kd.S_drew)); exact HO321.out) hb); have n1_ := Aside0.mk (Kd.S_below (by (with_reducible repeat (first | apply Kd.S_alloc | apply Kd.S_drewN | apply Kd.S_drew)); exact HO326.out) hb); have n2_ := Aside0.mk (Kd.S_below (by (with_reducible repeat (first | apply Kd.S_alloc | apply Kd.S_drewN | apply Kd.S_drew)); exact HO331.out) hb); have n3_ := Aside0.mk (Kd.R_lower ho0 (below_size (by repeat (first | (with_reducible first | exact HB.out | apply below_alloc | apply pw_below_drewN | apply below_drew1) | exact HB.out)))); have n4_ := Aside0.mk (below_step (by repeat (first | (with_reducible first | exact HB.out | apply below_alloc | apply pw_below_drewN | apply below_drew1) | exact HB.out)) hb); clear HO321; clear HO326; clear HO331; clear HB; have HO321 := n0_; have HO326 := n1_; have HO331 := n2_; have HO335 := n3_; have HB := n4_; clear n0_ n1_ n2_ n3_ n4_; (try clear hb); (try clear hb2); (try clear hk); (try clear hi); (try clear ho0)) | ((with_reducible refine gate_callee (f := 27) rfl ?_); refine goesL_ (some 58) rfl rfl Try.func27 (by kernel_rfl) rfl #[.slice Ao12 t319.length co12] rfl (by (try simp only [List.map_toArray, List.map_cons, List.map_nil]); first | done | rfl | (simp only [List.length_drop, List.length_take]; rfl)) ?_; (with_reducible refine (spec_CrossingOf.calls k _ _ t319 t336 t337 _ ?side1 ?side2 A9.out).mono ?_); (case side1 => repeat (first | exact (Kd.S_reads' HO321.out).2.2 | (with_reducible refine Kd.C_alloc ?_ _) | (with_reducible refine Kd.C_drewN ?_ _) | (with_reducible refine Kd.C_drew ?_))); (case side2 => exact (Kd.S_reads' HO321.out).2.1); rintro e w16 ⟨v338, rfl, ho0, hb⟩; refine ⟨_, rfl, ?_⟩; have n0_ := Aside0.mk (Kd.S_below (by (with_reducible repeat (first | apply Kd.S_alloc | apply Kd.S_drewN | apply Kd.S_drew)); exact HO321.out) hb); have n1_ := Aside0.mk (Kd.S_below (by (with_reducible repeat (first | apply Kd.S_alloc | apply Kd.S_drewN | apply Kd.S_drew)); exact HO326.out) hb); have n2_ := Aside0.mk (Kd.S_below (by (with_reducible repeat (first | apply Kd.S_alloc | apply Kd.S_drewN | apply Kd.S_drew)); exact HO331.out) hb); have n3_ := Aside0.mk (Kd.R_elder' (by (with_reducible repeat (first | apply Kd.R_alloc | apply Kd.R_drewN | apply Kd.R_drew)); exact HO335.out) (Kd.R_base ho0) hb); have n4_ := Aside0.mk (Kd.R_lower (Kd.R_new' ho0 (Kd.R_lt (by (with_reducible repeat (first | apply Kd.R_alloc | apply Kd.R_drewN | apply Kd.R_drew)); exact HO335.out))) (below_size (by repeat (first | (with_reducible first | exact HB.out | apply below_alloc | apply pw_below_drewN | apply below_drew1) | exact HB.out)))); have n5_ := Aside0.mk (below_step (by repeat (first | (with_reducible first | exact HB.out | apply below_alloc | apply pw_below_drewN | apply below_drew1) | exact HB.out)) hb); clear HO321; clear HO326; clear HO331; clear HO335; clear HB; have HO321 := n0_; have HO326 := n1_; have HO331 := n2_; have HO335 := n3_; have HO339 := n4_; have HB := n5_; clear n0_ n1_ n2_ n3_ n4_ n5_; (try clear hb); (try clear hb2); (try clear hk); (try clear hi); (try clear ho0)))
  (try simp only [Act.put, List.setIfInBounds_toArray, List.set_cons_zero, List.set_cons_succ])
  go_cut [93] (fun v93 wc => ∃ (kq : Nat) (x93_9 : Bool), v93 = .bool x93_9 ∧ Aside0 (laws_FnUncrossing.j0 kq t319 t322 t323 t329 t332 t333 t336 x93_9 = some r) ∧ Aside0 (kq ≤ k) ∧ Aside0 (Kd.S (Kd.slice 3 (Kd.int .i64)) 24 wc w.heap.size (fun k_ => some k_ ≠ (v325 : Value).ownBlock) (.slice Ao12 t319.length co12) t319) ∧ Aside0 (Kd.S (Kd.slice 3 (Kd.int .i64)) 24 wc w.heap.size (fun k_ => some k_ ≠ ((.slice Ao12 t319.length co12) : Value).ownBlock) v325 t322) ∧ Aside0 (Kd.R k45 45 wc w.heap.size (fun k_ => some k_ ≠ (v338 : Value).ownBlock) v334 t332) ∧ Aside0 (Kd.R k45 45 wc w.heap.size (fun k_ => some k_ ≠ (v334 : Value).ownBlock) v338 t336) ∧ Aside0 (Below w.heap.size w wc))
  case first =>
   have H := HC10.out
   clear HC10
   by_cases c17 : (t324 != t329) = true
   ·rw [if_pos c17] at H
    cases H
   ·rw [if_neg c17] at H
    have c17b0 : (t324 != t329) = false := by simpa using c17
    (try (have c17b1 : decide (t324 = t329) = true := by simpa using c17))
    (try (have c17b2 : (t324 == t329) = true := by simpa using c17))
    clear c17
    (first | rw [c17b0] | (simp only [i64_w, i32_w]; rw [c17b0]) | skip)
    replace H := Option.bind_eq_some_iff.mp H
    obtain ⟨t340, A180, H⟩ := H
    replace H : (if t340 = true then (if t323 = t328 then (if (t333 != t337) = true then none else (if (t332.length : Int) = (t336.length : Int) then (if t324 = true then (laws_FnUncrossing.j0 k t319 t322 t323 t329 t332 t333 t336 (!t333)) else (laws_FnUncrossing.j0 k t319 t322 t323 t329 t332 t333 t336 false)) else none)) else none) else none) = some r := H
    have A18 := Aside0.mk A180
    clear A180
    by_cases c19 : t340 = true
    ·subst c19
     have H1 : (if t323 = t328 then (if (t333 != t337) = true then none else (if (t332.length : Int) = (t336.length : Int) then (if t324 = true then (laws_FnUncrossing.j0 k t319 t322 t323 t329 t332 t333 t336 (!t333)) else (laws_FnUncrossing.j0 k t319 t322 t323 t329 t332 t333 t336 false)) else none)) else none) = some r := by rw [if_pos rfl] at H; exact H
     clear H
     have H := H1
     clear H1
     by_cases c20 : t323 = t328
     ·rw [if_pos c20] at H
      have c20b0 : (t323 == t328) = true := beq_iff_eq.mpr c20
      have c20b1 : (t323 != t328) = false := bne_eq_false_iff_eq.mpr c20
      clear c20
      by_cases c21 : (t333 != t337) = true
      ·rw [if_pos c21] at H
       cases H
      ·rw [if_neg c21] at H
       have c21b0 : (t333 != t337) = false := by simpa using c21
       (try (have c21b1 : decide (t333 = t337) = true := by simpa using c21))
       (try (have c21b2 : (t333 == t337) = true := by simpa using c21))
       clear c21
       by_cases c24 : (t332.length : Int) = (t336.length : Int)
       ·rw [if_pos c24] at H
        have c24b0 : ((t332.length : Int) == (t336.length : Int)) = true := beq_iff_eq.mpr c24
        have c24b1 : ((t332.length : Int) != (t336.length : Int)) = false := bne_eq_false_iff_eq.mpr c24
        have c24b2 : (t332.length == t336.length) = true := by first | simpa using c24 | (simp at c24 ⊢; omega)
        clear c24
        by_cases c25 : t324 = true
        ·subst c25
         have H1 : (laws_FnUncrossing.j0 k t319 t322 t323 t329 t332 t333 t336 (!t333)) = some r := by rw [if_pos rfl] at H; exact H
         clear H
         have H := H1
         clear H1
         have H' := Aside0.mk H
         clear H
         obtain ⟨Ao26, co26, eo26⟩ := Kd.S_slice HO326.out
         subst eo26
         obtain ⟨Ao27, co27, eo27⟩ := Kd.S_slice HO331.out
         subst eo27
         go_wp2_with (first | (go_at_call 16; (with_reducible refine (laws_pSameRows.calls k _ _ t322 _ _ t327 true _ ?side1 ?side2 ?side3 ?side4 A18.out).mono ?_); (case side1 => repeat (first | exact (Kd.S_reads' HO326.out).2.2 | (with_reducible refine Kd.C_alloc ?_ _) | (with_reducible refine Kd.C_drewN ?_ _) | (with_reducible refine Kd.C_drew ?_))); (case side2 => exact (Kd.S_reads' HO326.out).2.1); (case side3 => repeat (first | exact (Kd.S_reads' HO331.out).2.2 | (with_reducible refine Kd.C_alloc ?_ _) | (with_reducible refine Kd.C_drewN ?_ _) | (with_reducible refine Kd.C_drew ?_))); (case side4 => exact (Kd.S_reads' HO331.out).2.1); rintro e w' ⟨rfl, ⟨nd, rfl⟩⟩; obtain ⟨Ao28, co28, eo28⟩ := Kd.R_slice HO335.out; subst eo28; obtain ⟨Ao29, co29, eo29⟩ := Kd.R_slice HO339.out; subst eo29))
         go_meet
         case rel => exact ⟨_, (!t333), (by first | rfl | (simp; done) | (simp [*]; done)), H', ⟨by first | omega | exact Nat.le_refl _⟩, ⟨by (with_reducible repeat (first | apply Kd.S_alloc | apply Kd.S_drewN | apply Kd.S_drew)); exact Kd.S_mono HO321.out (fun _ hk => hk.1.2)⟩, ⟨by (with_reducible repeat (first | apply Kd.S_alloc | apply Kd.S_drewN | apply Kd.S_drew)); exact Kd.S_mono HO326.out (fun _ hk => hk.1.2)⟩, ⟨by (with_reducible repeat (first | apply Kd.R_alloc | apply Kd.R_drewN | apply Kd.R_drew)); exact Kd.R_mono HO335.out (fun _ hk => hk.2)⟩, ⟨by (with_reducible repeat (first | apply Kd.R_alloc | apply Kd.R_drewN | apply Kd.R_drew)); exact Kd.R_mono HO339.out (fun _ hk => hk.2)⟩, ⟨by repeat (first | (with_reducible first | exact HB.out | apply below_alloc | apply pw_below_drewN | apply below_drew1) | exact HB.out)⟩⟩
        ·replace c25 := Bool.eq_false_iff.mpr c25
         subst c25
         have H1 : (laws_FnUncrossing.j0 k t319 t322 t323 t329 t332 t333 t336 false) = some r := by rw [if_neg (show ¬ (false = true) by decide)] at H; exact H
         clear H
         have H := H1
         clear H1
         have H' := Aside0.mk H
         clear H
         obtain ⟨Ao30, co30, eo30⟩ := Kd.S_slice HO326.out
         subst eo30
         obtain ⟨Ao31, co31, eo31⟩ := Kd.S_slice HO331.out
         subst eo31
         go_wp2_with (first | (go_at_call 16; (with_reducible refine (laws_pSameRows.calls k _ _ t322 _ _ t327 true _ ?side1 ?side2 ?side3 ?side4 A18.out).mono ?_); (case side1 => repeat (first | exact (Kd.S_reads' HO326.out).2.2 | (with_reducible refine Kd.C_alloc ?_ _) | (with_reducible refine Kd.C_drewN ?_ _) | (with_reducible refine Kd.C_drew ?_))); (case side2 => exact (Kd.S_reads' HO326.out).2.1); (case side3 => repeat (first | exact (Kd.S_reads' HO331.out).2.2 | (with_reducible refine Kd.C_alloc ?_ _) | (with_reducible refine Kd.C_drewN ?_ _) | (with_reducible refine Kd.C_drew ?_))); (case side4 => exact (Kd.S_reads' HO331.out).2.1); rintro e w' ⟨rfl, ⟨nd, rfl⟩⟩; obtain ⟨Ao32, co32, eo32⟩ := Kd.R_slice HO335.out; subst eo32; obtain ⟨Ao33, co33, eo33⟩ := Kd.R_slice HO339.out; subst eo33))
         go_meet
         case rel => exact ⟨_, (false), (by first | rfl | (simp; done) | (simp [*]; done)), H', ⟨by first | omega | exact Nat.le_refl _⟩, ⟨by (with_reducible repeat (first | apply Kd.S_alloc | apply Kd.S_drewN | apply Kd.S_drew)); exact Kd.S_mono HO321.out (fun _ hk => hk.1.2)⟩, ⟨by (with_reducible repeat (first | apply Kd.S_alloc | apply Kd.S_drewN | apply Kd.S_drew)); exact Kd.S_mono HO326.out (fun _ hk => hk.1.2)⟩, ⟨by (with_reducible repeat (first | apply Kd.R_alloc | apply Kd.R_drewN | apply Kd.R_drew)); exact Kd.R_mono HO335.out (fun _ hk => hk.2)⟩, ⟨by (with_reducible repeat (first | apply Kd.R_alloc | apply Kd.R_drewN | apply Kd.R_drew)); exact Kd.R_mono HO339.out (fun _ hk => hk.2)⟩, ⟨by repeat (first | (with_reducible first | exact HB.out | apply below_alloc | apply pw_below_drewN | apply below_drew1) | exact HB.out)⟩⟩
       ·rw [if_neg c24] at H
        cases H
     ·rw [if_neg c20] at H
      cases H
    ·replace c19 := Bool.eq_false_iff.mpr c19
     subst c19
     have H1 : none = some r := by rw [if_neg (show ¬ (false = true) by decide)] at H; exact H
     cases H1
  case rest =>
   clear HC10
   try clear c1
   try clear c2
   try clear p2
   try clear c4
   try clear c10
   try clear c17
   try clear c17b0
   try clear c17b1
   try clear c17b2
   try clear c19
   try clear c20
   try clear c20b0
   try clear c20b1
   try clear c21
   try clear c21b0
   try clear c21b1
   try clear c21b2
   try clear c23
   try clear c24
   try clear c24b0
   try clear c24b1
   try clear c24b2
   try clear c25
   try clear c26
   try clear c27
   obtain ⟨kq, x93_9, rfl, HA, HJ9, HO_5, HO_6, HO_12, HO_14, HB⟩ := hcut
   cases kq with
   | zero => exact absurd HA.out (by simp [laws_FnUncrossing.j0])
   | succ kj9 =>
    have H := HA.out
    clear HA
    simp only [laws_FnUncrossing.j0] at H
    by_cases c42 : x93_9 = true
    ·subst c42
     rw [if_pos rfl] at H
     cases H
    ·replace c42 := Bool.eq_false_iff.mpr c42
     subst c42
     have H1 : (laws_FnUncrossing.l0 kj9 t319 t322 t323 t329 t332 t333 t336 (t332.length : Int) 0) = some r := by rw [if_neg (show ¬ (false = true) by decide)] at H; exact H
     clear H
     have H := H1
     clear H1
     have H' := Aside0.mk H
     clear H
     obtain ⟨Ao43, co43, eo43⟩ := Kd.R_slice HO_12.out
     subst eo43
     go_wp2
     go_loopg [96] kj9 (fun kq v96 w' => ∃ (x96_2 : Int), v96 = .int .i64 x96_2 ∧ Aside0 (laws_FnUncrossing.l0 kq t319 t322 t323 t329 t332 t333 t336 (t332.length : Int) x96_2 = some r) ∧ Aside0 (kq ≤ kj9) ∧ Aside0 (Kd.S (Kd.slice 3 (Kd.int .i64)) 24 w' w.heap.size (fun k_ => some k_ ≠ (v325 : Value).ownBlock) (.slice Ao12 t319.length co12) t319) ∧ Aside0 (Kd.S (Kd.slice 3 (Kd.int .i64)) 24 w' w.heap.size (fun k_ => some k_ ≠ ((.slice Ao12 t319.length co12) : Value).ownBlock) v325 t322) ∧ Aside0 (Kd.R k45 45 w' w.heap.size (fun k_ => some k_ ≠ (v338 : Value).ownBlock) (.slice Ao43 t332.length co43) t332) ∧ Aside0 (Kd.R k45 45 w' w.heap.size (fun k_ => some k_ ≠ ((.slice Ao43 t332.length co43) : Value).ownBlock) v338 t336) ∧ Aside0 (Below w.heap.size w w'))
     case atStart => exact ⟨(0), (by first | rfl | (simp; done) | (simp [*]; done)), H', ⟨Nat.le_refl _⟩, ⟨by (with_reducible repeat (first | apply Kd.S_alloc | apply Kd.S_drewN | apply Kd.S_drew)); exact HO_5.out⟩, ⟨by (with_reducible repeat (first | apply Kd.S_alloc | apply Kd.S_drewN | apply Kd.S_drew)); exact HO_6.out⟩, ⟨by (with_reducible repeat (first | apply Kd.R_alloc | apply Kd.R_drewN | apply Kd.R_drew)); exact HO_12.out⟩, ⟨by (with_reducible repeat (first | apply Kd.R_alloc | apply Kd.R_drewN | apply Kd.R_drew)); exact HO_14.out⟩, ⟨by repeat (first | (with_reducible first | exact HB.out | apply below_alloc | apply pw_below_drewN | apply below_drew1) | exact HB.out)⟩⟩
     case round =>
      clear H'
      try clear c1
      try clear c2
      try clear p2
      try clear c4
      try clear c10
      try clear c17
      try clear c17b0
      try clear c17b1
      try clear c17b2
      try clear c19
      try clear c20
      try clear c20b0
      try clear c20b1
      try clear c21
      try clear c21b0
      try clear c21b1
      try clear c21b2
      try clear c23
      try clear c24
      try clear c24b0
      try clear c24b1
      try clear c24b2
      try clear c25
      try clear c26
      try clear c27
      try clear c42
      try clear p2
      obtain ⟨x96_2, rfl, HA, HK2, HO_5, HO_6, HO_12, HO_14, HB⟩ := hrel
      cases gk with
      | zero => exact absurd HA.out (by simp [laws_FnUncrossing.l0])
      | succ k2 =>
       have H := HA.out
       clear HA
       simp only [laws_FnUncrossing.l0] at H
       by_cases c44 : x96_2 < (t332.length : Int)
       ·rw [if_pos c44] at H
        have c44b0 : decide (x96_2 < (t332.length : Int)) = true := decide_eq_true c44
        clear c44
        by_cases c45 : 0 ≤ x96_2
        ·rw [if_pos c45] at H
         have c45b0 : decide (0 ≤ x96_2) = true := decide_eq_true c45
         clear c45
         by_cases c46 : x96_2 < (t332.length : Int)
         ·rw [if_pos c46] at H
          have c46b0 : decide (x96_2 < (t332.length : Int)) = true := decide_eq_true c46
          clear c46
          by_cases c47 : x96_2 < (t336.length : Int)
          ·rw [if_pos c47] at H
           have c47b0 : decide (x96_2 < (t336.length : Int)) = true := decide_eq_true c47
           clear c47
           by_cases c48 : (!(((rd_T45 t332 x96_2).f0) == ((rd_T45 t336 x96_2).f0)) || (!(((rd_T45 t332 x96_2).f1) == ((rd_T45 t336 x96_2).f1)))) = true
           ·rw [if_pos c48] at H
            cases H
           ·rw [if_neg c48] at H
            have c48b0 : (!(((rd_T45 t332 x96_2).f0) == ((rd_T45 t336 x96_2).f0)) || (!(((rd_T45 t332 x96_2).f1) == ((rd_T45 t336 x96_2).f1)))) = false := by simpa using c48
            clear c48
            have H' := Aside0.mk H
            clear H
            try go_wp2
            have n0_ := Aside0.mk (Kd.S_drew HO_5.out)
            have n1_ := Aside0.mk (Kd.S_drew HO_6.out)
            have n2_ := Aside0.mk (Kd.R_drew HO_12.out)
            have n3_ := Aside0.mk (Kd.R_drew HO_14.out)
            have n4_ := Aside0.mk (below_drew1 HB.out)
            clear HO_5
            clear HO_6
            clear HO_12
            clear HO_14
            clear HB
            have HO_5 := n0_
            have HO_6 := n1_
            have HO_12 := n2_
            have HO_14 := n3_
            have HB := n4_
            clear n0_ n1_ n2_ n3_ n4_
            have p341 : 0 ≤ (x96_2 : Int) := of_decide_eq_true (by first | (with_reducible assumption) | assumption)
            have q341 : x96_2 < (t332.length : Int) := of_decide_eq_true (by first | (with_reducible assumption) | assumption)
            obtain ⟨ad341, e341, hx341_0, hx341_1⟩ := at_T45 (Kd.R_reads' HO_12.out).2.2 x96_2 p341 q341
            cases e341
            replace p341 := eq_true p341
            replace q341 := eq_true q341
            obtain ⟨Ao52, co52, eo52⟩ := Kd.R_slice HO_14.out
            (first | subst eo52 | (injection eo52 with f1_ f2_ f3_; have f4_ := f1_.symm; have f5_ := f3_.symm; clear f1_ f2_ f3_; subst f4_; subst f5_))
            have p342 : 0 ≤ (x96_2 : Int) := of_decide_eq_true (by first | (with_reducible assumption) | assumption)
            have q342 : x96_2 < (t336.length : Int) := of_decide_eq_true (by first | (with_reducible assumption) | assumption)
            obtain ⟨ad342, e342, hx342_0, hx342_1⟩ := at_T45 (Kd.R_reads' HO_14.out).2.2 x96_2 p342 q342
            cases e342
            replace p342 := eq_true p342
            replace q342 := eq_true q342
            refine start_ (n := 9) (S := fun w' => w'.cell? (ad341.add ((x96_2).toNat * 2)) = some (.int .i64 ((rd_T45 t332 x96_2).f0)) ∧ w'.cell? ⟨(ad341.add ((x96_2).toNat * 2)).block, (ad341.add ((x96_2).toNat * 2)).off + 1, none⟩ = some (.int .i64 ((rd_T45 t332 x96_2).f1)) ∧ w'.cell? (ad342.add ((x96_2).toNat * 2)) = some (.int .i64 ((rd_T45 t336 x96_2).f0)) ∧ w'.cell? ⟨(ad342.add ((x96_2).toNat * 2)).block, (ad342.add ((x96_2).toNat * 2)).off + 1, none⟩ = some (.int .i64 ((rd_T45 t336 x96_2).f1))) (ds := []) #[false, false, false, false, false, false, false, false, false] (by kernel_rfl) rfl rfl ⟨hx341_0, hx341_1, hx342_0, hx342_1⟩ (fun hHeld => ?_); refine with_tabW laws_FnUncrossing.tab13 laws_FnUncrossing.bits13 (fun HT_ HW_ => ?_)
            generalize wr.drew = w51 at HO_5 HO_6 HO_12 HO_14 HB hx341_0 hx341_1 hx342_0 hx342_1 hHeld ⊢
            refine pure_ (i := 0) (N := some 99) (v := ?_) (a' := ?_) #[true, false, false, false, false, false, false, false, false] rfl rfl (any_of HT_.out (by kernel_rfl)) (fun _ _ _ h => h) (Or.inl ⟨by rfl, ?_⟩) ?_ ?_
            rotate_left
            ·intro w'
             go_simp
             with_reducible rfl
            rotate_left
            ·simp only [Act.put, List.setIfInBounds_toArray, List.set_cons_zero, List.set_cons_succ, i64_w, i32_w]
             rfl
            refine pure_ (i := 1) (N := some 100) (v := ?_) (a' := ?_) #[true, true, false, false, false, false, false, false, false] rfl rfl (any_of HT_.out (by kernel_rfl)) (fun _ _ _ h => h) (Or.inl ⟨by rfl, ?_⟩) ?_ ?_
            rotate_left
            ·intro w'
             go_simp
             with_reducible rfl
            rotate_left
            ·simp only [Act.put, List.setIfInBounds_toArray, List.set_cons_zero, List.set_cons_succ, i64_w, i32_w]
             rfl
            refine pure_ (i := 2) (N := some 101) (v := ?_) (a' := ?_) #[true, true, true, false, false, false, false, false, false] rfl rfl (any_of HT_.out (by kernel_rfl)) (fun _ _ _ h => h) (Or.inl ⟨by rfl, ?_⟩) ?_ ?_
            rotate_left
            ·intro w'
             go_simp
             with_reducible rfl
            rotate_left
            ·simp only [Act.put, List.setIfInBounds_toArray, List.set_cons_zero, List.set_cons_succ, i64_w, i32_w]
             rfl
            refine pure_ (i := 4) (N := some 103) (v := ?_) (a' := ?_) #[true, true, true, false, true, false, false, false, false] rfl rfl (any_of HT_.out (by kernel_rfl)) (fun _ _ _ h => h) (Or.inl ⟨by rfl, ?_⟩) ?_ ?_
            rotate_left
            ·intro w'
             go_simp
             with_reducible rfl
            rotate_left
            ·simp only [Act.put, List.setIfInBounds_toArray, List.set_cons_zero, List.set_cons_succ, i64_w, i32_w]
             rfl
            refine pure_ (i := 5) (N := some 104) (v := ?_) (a' := ?_) #[true, true, true, false, true, true, false, false, false] rfl rfl (any_of HT_.out (by kernel_rfl)) (fun _ _ _ h => h) (Or.inl ⟨by rfl, ?_⟩) ?_ ?_
            rotate_left
            ·intro w'
             go_simp
             with_reducible rfl
            rotate_left
            ·simp only [Act.put, List.setIfInBounds_toArray, List.set_cons_zero, List.set_cons_succ, i64_w, i32_w]
             rfl
            refine pure_ (i := 6) (N := some 105) (v := ?_) (a' := ?_) #[true, true, true, false, true, true, true, false, false] rfl rfl (any_of HT_.out (by kernel_rfl)) (fun _ _ _ h => h) (Or.inl ⟨by rfl, ?_⟩) ?_ ?_
            rotate_left
            ·intro w'
             go_simp
             with_reducible rfl
            rotate_left
            ·simp only [Act.put, List.setIfInBounds_toArray, List.set_cons_zero, List.set_cons_succ, i64_w, i32_w]
             rfl
            refine take_ (i := 3) (N := some 102) (v := ?_) (a' := ?_) #[true, true, true, true, true, true, true, false, false] rfl rfl (take_ofW HT_.out HW_.out (by kernel_rfl)) (fun _ _ _ h => h) (Or.inl ⟨by rfl, ?_⟩) hHeld ?_ ?_
            rotate_left
            ·rintro w' ⟨s0, s1, s2, s3⟩
             go_simp
             with_reducible rfl
            rotate_left
            ·simp only [Act.put, List.setIfInBounds_toArray, List.set_cons_zero, List.set_cons_succ, i64_w, i32_w]
             rfl
            refine take_ (i := 7) (N := some 106) (v := ?_) (a' := ?_) #[true, true, true, true, true, true, true, true, false] rfl rfl (take_ofW HT_.out HW_.out (by kernel_rfl)) (fun _ _ _ h => h) (Or.inl ⟨by rfl, ?_⟩) hHeld ?_ ?_
            rotate_left
            ·rintro w' ⟨s0, s1, s2, s3⟩
             go_simp
             with_reducible rfl
            rotate_left
            ·simp only [Act.put, List.setIfInBounds_toArray, List.set_cons_zero, List.set_cons_succ, i64_w, i32_w]
             rfl
            refine pure_ (i := 8) (N := some 107) (v := ?_) (a' := ?_) #[true, true, true, true, true, true, true, true, true] rfl rfl (any_of HT_.out (by kernel_rfl)) (fun _ _ _ h => h) (Or.inl ⟨by rfl, ?_⟩) ?_ ?_
            rotate_left
            ·intro w'
             go_simp
             with_reducible rfl
            rotate_left
            ·simp only [Act.put, List.setIfInBounds_toArray, List.set_cons_zero, List.set_cons_succ, i64_w, i32_w]
             rfl
            refine done_ (done_of HT_.out (by kernel_rfl)) ?_
            try go_wp2
            go_roundg k2
            case measure => have := HJ9.out; have := HK2.out; omega
            case rel => exact ⟨(wrap64 (x96_2 + 1)), (by first | rfl | (simp; done) | (simp [*]; done)), H', ⟨by have := HJ9.out; have := HK2.out; omega⟩, ⟨by (with_reducible repeat (first | apply Kd.S_alloc | apply Kd.S_drewN | apply Kd.S_drew)); exact HO_5.out⟩, ⟨by (with_reducible repeat (first | apply Kd.S_alloc | apply Kd.S_drewN | apply Kd.S_drew)); exact HO_6.out⟩, ⟨by (with_reducible repeat (first | apply Kd.R_alloc | apply Kd.R_drewN | apply Kd.R_drew)); exact HO_12.out⟩, ⟨by (with_reducible repeat (first | apply Kd.R_alloc | apply Kd.R_drewN | apply Kd.R_drew)); exact HO_14.out⟩, ⟨by repeat (first | (with_reducible first | exact HB.out | apply below_alloc | apply pw_below_drewN | apply below_drew1) | exact HB.out)⟩⟩
          ·rw [if_neg c47] at H
           exact absurd H (by simp)
         ·rw [if_neg c46] at H
          exact absurd H (by simp)
        ·rw [if_neg c45] at H
         exact absurd H (by simp)
       ·rw [if_neg c44] at H
        have c44b0 : decide (x96_2 < (t332.length : Int)) = false := decide_eq_false c44
        clear c44
        have HC53 := Aside0.mk H
        clear H
        go_upto_if 109 with (fail)
        go_cut [] (fun wc => ∃ (kq : Nat), Aside0 (laws_FnUncrossing.j2 kq t319 t322 t323 t329 = some r) ∧ Aside0 (kq ≤ k2) ∧ Aside0 (Kd.S (Kd.slice 3 (Kd.int .i64)) 24 wc w.heap.size (fun k_ => some k_ ≠ (v325 : Value).ownBlock) (.slice Ao12 t319.length co12) t319) ∧ Aside0 (Kd.S (Kd.slice 3 (Kd.int .i64)) 24 wc w.heap.size (fun k_ => some k_ ≠ ((.slice Ao12 t319.length co12) : Value).ownBlock) v325 t322) ∧ Aside0 (Below w.heap.size w wc))
        case first =>
         have H := HC53.out
         clear HC53
         by_cases c54 : t333 = true
         ·subst c54
          have H1 : (if 0 < (t332.length : Int) then (if 1 < (t332.length : Int) then (if ((rd_T45 t332 0).f0) ≥ ((rd_T45 t332 1).f0) then none else (if ((rd_T45 t332 0).f1) ≤ ((rd_T45 t332 1).f1) then none else (if 0 ≤ ((rd_T45 t332 0).f0) then (if ((rd_T45 t332 0).f0) < (t319.length : Int) then (if 0 ≤ ((rd_T45 t332 0).f1) then (if ((rd_T45 t332 0).f1) < ((rd_L2 t319 ((rd_T45 t332 0).f0)).length : Int) then (if (rd (rd_L2 t319 ((rd_T45 t332 0).f0)) ((rd_T45 t332 0).f1)) < 1 then none else (if 0 ≤ ((rd_T45 t332 1).f0) then (if ((rd_T45 t332 1).f0) < (t319.length : Int) then (if 0 ≤ ((rd_T45 t332 1).f1) then (if ((rd_T45 t332 1).f1) < ((rd_L2 t319 ((rd_T45 t332 1).f0)).length : Int) then (if (rd (rd_L2 t319 ((rd_T45 t332 1).f0)) ((rd_T45 t332 1).f1)) < 1 then none else (laws_FnUncrossing.j2 k2 t319 t322 t323 t329)) else (none)) else (none)) else (none)) else (none))) else (none)) else (none)) else (none)) else (none)))) else (none)) else (none)) = some r := by rw [if_pos rfl] at H; exact H
          clear H
          have H := H1
          clear H1
          by_cases c55 : 0 < (t332.length : Int)
          ·rw [if_pos c55] at H
           have c55b0 : decide (0 < (t332.length : Int)) = true := decide_eq_true c55
           have c55b1 : decide (0 < t332.length) = true := decide_eq_true (by omega)
           clear c55
           (first | rw [c55b0] | (simp only [i64_w, i32_w]; rw [c55b0]) | skip)
           by_cases c56 : 1 < (t332.length : Int)
           ·rw [if_pos c56] at H
            have c56b0 : decide (1 < (t332.length : Int)) = true := decide_eq_true c56
            have c56b1 : decide (1 < t332.length) = true := decide_eq_true (by omega)
            clear c56
            by_cases c57 : ((rd_T45 t332 0).f0) ≥ ((rd_T45 t332 1).f0)
            ·rw [if_pos c57] at H
             cases H
            ·rw [if_neg c57] at H
             have c57b0 : decide (((rd_T45 t332 1).f0) ≤ ((rd_T45 t332 0).f0)) = false := decide_eq_false c57
             clear c57
             by_cases c68 : ((rd_T45 t332 0).f1) ≤ ((rd_T45 t332 1).f1)
             ·rw [if_pos c68] at H
              cases H
             ·rw [if_neg c68] at H
              have c68b0 : decide (((rd_T45 t332 0).f1) ≤ ((rd_T45 t332 1).f1)) = false := decide_eq_false c68
              clear c68
              by_cases c79 : 0 ≤ ((rd_T45 t332 0).f0)
              ·rw [if_pos c79] at H
               have c79b0 : decide (0 ≤ ((rd_T45 t332 0).f0)) = true := decide_eq_true c79
               clear c79
               by_cases c80 : ((rd_T45 t332 0).f0) < (t319.length : Int)
               ·rw [if_pos c80] at H
                have c80b0 : decide (((rd_T45 t332 0).f0) < (t319.length : Int)) = true := decide_eq_true c80
                clear c80
                by_cases c81 : 0 ≤ ((rd_T45 t332 0).f1)
                ·rw [if_pos c81] at H
                 have c81b0 : decide (0 ≤ ((rd_T45 t332 0).f1)) = true := decide_eq_true c81
                 clear c81
                 by_cases c82 : ((rd_T45 t332 0).f1) < ((rd_L2 t319 ((rd_T45 t332 0).f0)).length : Int)
                 ·rw [if_pos c82] at H
                  have c82b0 : decide (((rd_T45 t332 0).f1) < ((rd_L2 t319 ((rd_T45 t332 0).f0)).length : Int)) = true := decide_eq_true c82
                  clear c82
                  by_cases c83 : (rd (rd_L2 t319 ((rd_T45 t332 0).f0)) ((rd_T45 t332 0).f1)) < 1
                  ·rw [if_pos c83] at H
                   cases H
                  ·rw [if_neg c83] at H
                   have c83b0 : decide ((rd (rd_L2 t319 ((rd_T45 t332 0).f0)) ((rd_T45 t332 0).f1)) < 1) = false := decide_eq_false c83
                   clear c83
                   by_cases c94 : 0 ≤ ((rd_T45 t332 1).f0)
                   ·rw [if_pos c94] at H
                    have c94b0 : decide (0 ≤ ((rd_T45 t332 1).f0)) = true := decide_eq_true c94
                    clear c94
                    by_cases c95 : ((rd_T45 t332 1).f0) < (t319.length : Int)
                    ·rw [if_pos c95] at H
                     have c95b0 : decide (((rd_T45 t332 1).f0) < (t319.length : Int)) = true := decide_eq_true c95
                     clear c95
                     by_cases c96 : 0 ≤ ((rd_T45 t332 1).f1)
                     ·rw [if_pos c96] at H
                      have c96b0 : decide (0 ≤ ((rd_T45 t332 1).f1)) = true := decide_eq_true c96
                      clear c96
                      by_cases c97 : ((rd_T45 t332 1).f1) < ((rd_L2 t319 ((rd_T45 t332 1).f0)).length : Int)
                      ·rw [if_pos c97] at H
                       have c97b0 : decide (((rd_T45 t332 1).f1) < ((rd_L2 t319 ((rd_T45 t332 1).f0)).length : Int)) = true := decide_eq_true c97
                       clear c97
                       by_cases c98 : (rd (rd_L2 t319 ((rd_T45 t332 1).f0)) ((rd_T45 t332 1).f1)) < 1
                       ·rw [if_pos c98] at H
                        cases H
                       ·rw [if_neg c98] at H
                        have c98b0 : decide ((rd (rd_L2 t319 ((rd_T45 t332 1).f0)) ((rd_T45 t332 1).f1)) < 1) = false := decide_eq_false c98
                        clear c98
                        have H' := Aside0.mk H
                        clear H
                        try go_wp2
                        have n0_ := Aside0.mk (Kd.S_drew HO_5.out)
                        have n1_ := Aside0.mk (Kd.S_drew HO_6.out)
                        have n2_ := Aside0.mk (Kd.R_drew HO_12.out)
                        have n3_ := Aside0.mk (Kd.R_drew HO_14.out)
                        have n4_ := Aside0.mk (below_drew1 HB.out)
                        clear HO_5
                        clear HO_6
                        clear HO_12
                        clear HO_14
                        clear HB
                        have HO_5 := n0_
                        have HO_6 := n1_
                        have HO_12 := n2_
                        have HO_14 := n3_
                        have HB := n4_
                        clear n0_ n1_ n2_ n3_ n4_
                        have p343 : 0 ≤ (0 : Int) := (by omega)
                        have q343 : 0 < (t332.length : Int) := of_decide_eq_true (by first | (with_reducible assumption) | assumption)
                        obtain ⟨ad343, e343, hx343_0, hx343_1⟩ := at_T45 (Kd.R_reads' HO_12.out).2.2 0 p343 q343
                        cases e343
                        have qi343 : (0 < t332.length) = True := eq_true (by omega)
                        (try rw [show ((0 : Int)).toNat = 0 from rfl] at hx343_0)
                        (try rw [show 0 * 2 = 0 from rfl] at hx343_0)
                        (try rw [Addr.add_zero'] at hx343_0)
                        (try rw [show ((0 : Int)).toNat = 0 from rfl] at hx343_1)
                        (try rw [show 0 * 2 = 0 from rfl] at hx343_1)
                        (try rw [Addr.add_zero'] at hx343_1)
                        replace p343 := eq_true p343
                        replace q343 := eq_true q343
                        have p344 : 0 ≤ (1 : Int) := (by omega)
                        have q344 : 1 < (t332.length : Int) := of_decide_eq_true (by first | (with_reducible assumption) | assumption)
                        obtain ⟨ad344, e344, hx344_0, hx344_1⟩ := at_T45 (Kd.R_reads' HO_12.out).2.2 1 p344 q344
                        obtain rfl : ad343 = ad344 := (by injection e344)
                        (try simp only [show (1 : Int).toNat = 1 from rfl, Nat.reduceMul, Nat.reduceEqDiff, Go.Addr.add, ↓reduceIte] at hx344_0)
                        (try simp only [show (1 : Int).toNat = 1 from rfl, Nat.reduceMul, Nat.reduceEqDiff, Go.Addr.add, ↓reduceIte] at hx344_1)
                        have qi344 : (1 < t332.length) = True := eq_true (by omega)
                        (try rw [show ((1 : Int)).toNat = 1 from rfl] at hx344_0)
                        (try rw [show 1 * 2 = 2 from rfl] at hx344_0)
                        (try rw [show ((1 : Int)).toNat = 1 from rfl] at hx344_1)
                        (try rw [show 1 * 2 = 2 from rfl] at hx344_1)
                        replace p344 := eq_true p344
                        replace q344 := eq_true q344
                        refine start_ (n := 10) (S := fun w' => w'.cell? ad343 = some (.int .i64 ((rd_T45 t332 0).f0)) ∧ w'.cell? ⟨ad343.block, ad343.off + 1, none⟩ = some (.int .i64 ((rd_T45 t332 0).f1)) ∧ w'.cell? ⟨ad343.block, ad343.off + 2, none⟩ = some (.int .i64 ((rd_T45 t332 1).f0)) ∧ w'.cell? ⟨ad343.block, ad343.off + 2 + 1, none⟩ = some (.int .i64 ((rd_T45 t332 1).f1))) (ds := []) #[false, false, false, false, false, false, false, false, false, false] (by kernel_rfl) rfl rfl ⟨hx343_0, hx343_1, hx344_0, hx344_1⟩ (fun hHeld => ?_); refine with_tabW laws_FnUncrossing.tab17 laws_FnUncrossing.bits17 (fun HT_ HW_ => ?_)
                        generalize wr.drew = w109 at HO_5 HO_6 HO_12 HO_14 HB hx343_0 hx343_1 hx344_0 hx344_1 hHeld ⊢
                        refine pure_ (i := 0) (N := some 110) (v := ?_) (a' := ?_) #[true, false, false, false, false, false, false, false, false, false] rfl rfl (any_of HT_.out (by kernel_rfl)) (fun _ _ _ h => h) (Or.inl ⟨by rfl, ?_⟩) ?_ ?_
                        rotate_left
                        ·intro w'
                         go_simp
                         with_reducible rfl
                        rotate_left
                        ·simp only [Act.put, List.setIfInBounds_toArray, List.set_cons_zero, List.set_cons_succ, i64_w, i32_w]
                         rfl
                        refine pure_ (i := 1) (N := some 111) (v := ?_) (a' := ?_) #[true, true, false, false, false, false, false, false, false, false] rfl rfl (any_of HT_.out (by kernel_rfl)) (fun _ _ _ h => h) (Or.inl ⟨by rfl, ?_⟩) ?_ ?_
                        rotate_left
                        ·intro w'
                         go_simp
                         with_reducible rfl
                        rotate_left
                        ·simp only [Act.put, List.setIfInBounds_toArray, List.set_cons_zero, List.set_cons_succ, i64_w, i32_w]
                         rfl
                        refine pure_ (i := 3) (N := some 113) (v := ?_) (a' := ?_) #[true, true, false, true, false, false, false, false, false, false] rfl rfl (any_of HT_.out (by kernel_rfl)) (fun _ _ _ h => h) (Or.inl ⟨by rfl, ?_⟩) ?_ ?_
                        rotate_left
                        ·intro w'
                         go_simp
                         with_reducible rfl
                        rotate_left
                        ·simp only [Act.put, List.setIfInBounds_toArray, List.set_cons_zero, List.set_cons_succ, i64_w, i32_w]
                         rfl
                        refine pure_ (i := 4) (N := some 114) (v := ?_) (a' := ?_) #[true, true, false, true, true, false, false, false, false, false] rfl rfl (any_of HT_.out (by kernel_rfl)) (fun _ _ _ h => h) (Or.inl ⟨by rfl, ?_⟩) ?_ ?_
                        rotate_left
                        ·intro w'
                         go_simp
                         with_reducible rfl
                        rotate_left
                        ·simp only [Act.put, List.setIfInBounds_toArray, List.set_cons_zero, List.set_cons_succ, i64_w, i32_w]
                         rfl
                        refine take_ (i := 2) (N := some 112) (v := ?_) (a' := ?_) #[true, true, true, true, true, false, false, false, false, false] rfl rfl (take_ofW HT_.out HW_.out (by kernel_rfl)) (fun _ _ _ h => h) (Or.inl ⟨by rfl, ?_⟩) hHeld ?_ ?_
                        rotate_left
                        ·rintro w' ⟨s0, s1, s2, s3⟩
                         go_simp
                         with_reducible rfl
                        rotate_left
                        ·simp only [Act.put, List.setIfInBounds_toArray, List.set_cons_zero, List.set_cons_succ, i64_w, i32_w]
                         rfl
                        refine take_ (i := 5) (N := some 115) (v := ?_) (a' := ?_) #[true, true, true, true, true, true, false, false, false, false] rfl rfl (take_ofW HT_.out HW_.out (by kernel_rfl)) (fun _ _ _ h => h) (Or.inl ⟨by rfl, ?_⟩) hHeld ?_ ?_
                        rotate_left
                        ·rintro w' ⟨s0, s1, s2, s3⟩
                         go_simp
                         with_reducible rfl
                        rotate_left
                        ·simp only [Act.put, List.setIfInBounds_toArray, List.set_cons_zero, List.set_cons_succ, i64_w, i32_w]
                         rfl
                        refine join_ (σ := Nat × Nat) 2 #[true, true, true, true, true, true, true, true, false, false] (fun s_ => [(17, .pointer (some ⟨s_.1, 0, none⟩)), (18, .pointer (some ⟨s_.2, 0, none⟩))]) (fun s_ w' => (w'.cell? ad343 = some (.int .i64 ((rd_T45 t332 0).f0)) ∧ w'.cell? ⟨ad343.block, ad343.off + 1, none⟩ = some (.int .i64 ((rd_T45 t332 0).f1)) ∧ w'.cell? ⟨ad343.block, ad343.off + 2, none⟩ = some (.int .i64 ((rd_T45 t332 1).f0)) ∧ w'.cell? ⟨ad343.block, ad343.off + 2 + 1, none⟩ = some (.int .i64 ((rd_T45 t332 1).f1))) ∧ (Kd.R k45 45 w' w.heap.size (fun k_ => some k_ ≠ (v338 : Value).ownBlock ∧ k_ ≠ s_.1 ∧ k_ ≠ s_.2) (.slice (some ad343) t332.length co43) t332) ∧ (Kd.R k45 45 w' w.heap.size (fun k_ => some k_ ≠ (.slice (some ad343) t332.length co43 : Value).ownBlock ∧ k_ ≠ s_.1 ∧ k_ ≠ s_.2) v338 t336) ∧ (Kd.S (Kd.slice 3 (Kd.int .i64)) 24 w' w.heap.size (fun k_ => some k_ ≠ (v325 : Value).ownBlock) (.slice Ao12 t319.length co12) t319) ∧ (Kd.S (Kd.slice 3 (Kd.int .i64)) 24 w' w.heap.size (fun k_ => some k_ ≠ (.slice Ao12 t319.length co12 : Value).ownBlock) v325 t322) ∧ (w'.heap[s_.1]? = some (.cells #[.int .i64 0, .int .i64 0] 45 (0, 0))) ∧ (w'.heap[s_.2]? = some (.cells #[.int .i64 0, .int .i64 0] 45 (0, 0))) ∧ (w.heap.size ≤ s_.1) ∧ (w.heap.size ≤ s_.1) ∧ (s_.2 ≠ s_.1) ∧ (s_.1 ≠ s_.2) ∧ (w.heap.size ≤ s_.2) ∧ (w.heap.size ≤ s_.2) ∧ (Below w.heap.size w w')) ?_ ?_
                        rotate_left
                        ·intro hCont
                         refine two_ (i := 6) (j := 7) (Ni := some 17) (Nj := some 18) #[true, true, true, true, true, true, true, false, false, false] #[true, true, true, true, true, true, false, true, false, false] rfl rfl rfl rfl (two_of HT_.out (by kernel_rfl)) (by decide) (by decide) (fun K hK => ?_) (fun K hK => ?_)
                         ·skip
                          refine box_step ?hg (N := 17) ?hd (cs := #[.int .i64 0, .int .i64 0]) (t := 45) ?hr ?_; (case hd => rfl); (case hg => rfl); (case hr => first | (go_simp; done) | (go_simp; rfl))
                          intro gb345 hg w110 hbox hb
                          have HS0_ := (hb.cell (World.block_lt_of_cell? _ _ (hHeld.1))).trans (hHeld.1)
                          have HS1_ := (hb.cell (World.block_lt_of_cell? _ _ (hHeld.2.1))).trans (hHeld.2.1)
                          have HS2_ := (hb.cell (World.block_lt_of_cell? _ _ (hHeld.2.2.1))).trans (hHeld.2.2.1)
                          have HS3_ := (hb.cell (World.block_lt_of_cell? _ _ (hHeld.2.2.2))).trans (hHeld.2.2.2)
                          have n0_ := Aside0.mk (Kd.S_below (by (with_reducible repeat (first | apply Kd.S_alloc | apply Kd.S_drewN | apply Kd.S_drew)); exact HO_5.out) hb)
                          have n1_ := Aside0.mk (Kd.S_below (by (with_reducible repeat (first | apply Kd.S_alloc | apply Kd.S_drewN | apply Kd.S_drew)); exact HO_6.out) hb)
                          have n2_ := Aside0.mk (Kd.R_below (Kd.R_elderB (by (with_reducible repeat (first | apply Kd.R_alloc | apply Kd.R_drewN | apply Kd.R_drew)); exact HO_12.out) gb345 (Nat.le_of_eq hg.symm)) hb)
                          have n3_ := Aside0.mk (Kd.R_below (Kd.R_elderB (by (with_reducible repeat (first | apply Kd.R_alloc | apply Kd.R_drewN | apply Kd.R_drew)); exact HO_14.out) gb345 (Nat.le_of_eq hg.symm)) hb)
                          have n4_ := Aside0.mk (below_step (by repeat (first | (with_reducible first | exact HB.out | apply below_alloc | apply pw_below_drewN | apply below_drew1) | exact HB.out)) hb)
                          have n5_ := Aside0.mk (hbox)
                          have n6_ := Aside0.mk ((by rw [hg]; exact (below_size (by repeat (first | (with_reducible first | exact HB.out | apply below_alloc | apply pw_below_drewN | apply below_drew1) | exact HB.out))) : w.heap.size ≤ gb345))
                          have n7_ := Aside0.mk ((by rw [hg]; exact (below_size (by repeat (first | (with_reducible first | exact HB.out | apply below_alloc | apply pw_below_drewN | apply below_drew1) | exact HB.out))) : w.heap.size ≤ gb345))
                          clear HO_5
                          clear HO_6
                          clear HO_12
                          clear HO_14
                          clear HB
                          have HO_5 := n0_
                          have HO_6 := n1_
                          have HO_12 := n2_
                          have HO_14 := n3_
                          have HB := n4_
                          have BK345 := n5_
                          have GW345 := n6_
                          have GE345 := n7_
                          clear n0_ n1_ n2_ n3_ n4_ n5_ n6_ n7_
                          clear hb hbox hg
                          refine hK.out _ _ ⟨HS0_, HS1_, HS2_, HS3_⟩ (fun hHeld => ?_)
                          clear hK K
                          refine norm_ (a' := ?_) ?_ ?_
                          rotate_left
                          ·show Act.put _ (some 17) _ = _
                           simp only [Act.put, List.setIfInBounds_toArray, List.set_cons_zero, List.set_cons_succ, i64_w, i32_w]
                           rfl
                          refine one_ (i := 7) (N := some 18) #[true, true, true, true, true, true, true, true, false, false] rfl rfl (one_of HT_.out (by kernel_rfl)) (by decide) (fun K hK => ?_)
                          refine box_step ?hg (N := 18) ?hd (cs := #[.int .i64 0, .int .i64 0]) (t := 45) ?hr ?_; (case hd => rfl); (case hg => rfl); (case hr => first | (go_simp; done) | (go_simp; rfl))
                          intro gb346 hg w111 hbox hb
                          have HS0_ := (hb.cell (World.block_lt_of_cell? _ _ (hHeld.1))).trans (hHeld.1)
                          have HS1_ := (hb.cell (World.block_lt_of_cell? _ _ (hHeld.2.1))).trans (hHeld.2.1)
                          have HS2_ := (hb.cell (World.block_lt_of_cell? _ _ (hHeld.2.2.1))).trans (hHeld.2.2.1)
                          have HS3_ := (hb.cell (World.block_lt_of_cell? _ _ (hHeld.2.2.2))).trans (hHeld.2.2.2)
                          have n0_ := Aside0.mk (Kd.S_below (by (with_reducible repeat (first | apply Kd.S_alloc | apply Kd.S_drewN | apply Kd.S_drew)); exact HO_5.out) hb)
                          have n1_ := Aside0.mk (Kd.S_below (by (with_reducible repeat (first | apply Kd.S_alloc | apply Kd.S_drewN | apply Kd.S_drew)); exact HO_6.out) hb)
                          have n2_ := Aside0.mk (Kd.R_below (Kd.R_elderB (by (with_reducible repeat (first | apply Kd.R_alloc | apply Kd.R_drewN | apply Kd.R_drew)); exact HO_12.out) gb346 (Nat.le_of_eq hg.symm)) hb)
                          have n3_ := Aside0.mk (Kd.R_below (Kd.R_elderB (by (with_reducible repeat (first | apply Kd.R_alloc | apply Kd.R_drewN | apply Kd.R_drew)); exact HO_14.out) gb346 (Nat.le_of_eq hg.symm)) hb)
                          have n4_ := Aside0.mk (blk_below (g := gb345) (o := .cells #[.int .i64 0, .int .i64 0] 45 (0, 0)) (by (with_reducible repeat (first | refine blk_drewN ?_ _ | refine blk_drew ?_ | refine blk_alloc ?_ _)); exact BK345.out) hb)
                          have n5_ := Aside0.mk (below_step (by repeat (first | (with_reducible first | exact HB.out | apply below_alloc | apply pw_below_drewN | apply below_drew1 | refine below_set ?_ GE345.out) | exact HB.out)) hb)
                          have n6_ := Aside0.mk (hbox)
                          have n7_ := Aside0.mk ((by rw [hg]; exact (below_size (by repeat (first | (with_reducible first | exact HB.out | apply below_alloc | apply pw_below_drewN | apply below_drew1 | refine below_set ?_ GE345.out) | exact HB.out))) : w.heap.size ≤ gb346))
                          have n8_ := Aside0.mk ((by rw [hg]; exact (below_size (by repeat (first | (with_reducible first | exact HB.out | apply below_alloc | apply pw_below_drewN | apply below_drew1 | refine below_set ?_ GE345.out) | exact HB.out))) : w.heap.size ≤ gb346))
                          have n9_ := Aside0.mk ((by rw [hg]; exact Nat.ne_of_lt (blk_lt (g := gb345) (o := .cells #[.int .i64 0, .int .i64 0] 45 (0, 0)) (by (with_reducible repeat (first | refine blk_drewN ?_ _ | refine blk_drew ?_ | refine blk_alloc ?_ _)); exact BK345.out)) : gb345 ≠ gb346))
                          have n10_ := Aside0.mk ((by rw [hg]; exact Nat.ne_of_gt (blk_lt (g := gb345) (o := .cells #[.int .i64 0, .int .i64 0] 45 (0, 0)) (by (with_reducible repeat (first | refine blk_drewN ?_ _ | refine blk_drew ?_ | refine blk_alloc ?_ _)); exact BK345.out)) : gb346 ≠ gb345))
                          clear HO_5
                          clear HO_6
                          clear HO_12
                          clear HO_14
                          clear BK345
                          clear HB
                          have HO_5 := n0_
                          have HO_6 := n1_
                          have HO_12 := n2_
                          have HO_14 := n3_
                          have BK345 := n4_
                          have HB := n5_
                          have BK346 := n6_
                          have GW346 := n7_
                          have GE346 := n8_
                          have NB345_346 := n9_
                          have NB346_345 := n10_
                          clear n0_ n1_ n2_ n3_ n4_ n5_ n6_ n7_ n8_ n9_ n10_
                          clear hb hbox hg
                          refine hK.out _ _ ⟨HS0_, HS1_, HS2_, HS3_⟩ (fun hHeld => ?_)
                          clear hK K
                          refine norm_ (a' := ?_) ?_ ?_
                          rotate_left
                          ·show Act.put _ (some 18) _ = _
                           simp only [Act.put, List.setIfInBounds_toArray, List.set_cons_zero, List.set_cons_succ, i64_w, i32_w]
                           rfl
                          exact norm_ (by simp only [putAll, Act.put, List.setIfInBounds_toArray, List.set_cons_zero, List.set_cons_succ]) (hCont (gb345, gb346) _ ⟨hHeld, (by (with_reducible repeat (first | apply Kd.R_alloc | apply Kd.R_drewN | apply Kd.R_drew)); exact Kd.R_mono HO_12.out (fun _ hk => ⟨hk.1.1, ⟨hk.1.2, hk.2⟩⟩)), (by (with_reducible repeat (first | apply Kd.R_alloc | apply Kd.R_drewN | apply Kd.R_drew)); exact Kd.R_mono HO_14.out (fun _ hk => ⟨hk.1.1, ⟨hk.1.2, hk.2⟩⟩)), (by (with_reducible repeat (first | apply Kd.S_alloc | apply Kd.S_drewN | apply Kd.S_drew)); exact HO_5.out), (by (with_reducible repeat (first | apply Kd.S_alloc | apply Kd.S_drewN | apply Kd.S_drew)); exact HO_6.out), (by (with_reducible repeat (first | refine blk_drewN ?_ _ | refine blk_drew ?_ | refine blk_alloc ?_ _)); exact BK345.out), (by (with_reducible repeat (first | refine blk_drewN ?_ _ | refine blk_drew ?_ | refine blk_alloc ?_ _)); exact BK346.out), GW345.out, GE345.out, NB346_345.out, NB345_346.out, GW346.out, GE346.out, (by repeat (first | (with_reducible first | exact HB.out | apply below_alloc | apply pw_below_drewN | apply below_drew1 | refine below_set ?_ GE345.out | refine below_set ?_ GE346.out) | exact HB.out))⟩)
                         ·skip
                          refine box_step ?hg (N := 18) ?hd (cs := #[.int .i64 0, .int .i64 0]) (t := 45) ?hr ?_; (case hd => rfl); (case hg => rfl); (case hr => first | (go_simp; done) | (go_simp; rfl))
                          intro gb346 hg w110 hbox hb
                          have HS0_ := (hb.cell (World.block_lt_of_cell? _ _ (hHeld.1))).trans (hHeld.1)
                          have HS1_ := (hb.cell (World.block_lt_of_cell? _ _ (hHeld.2.1))).trans (hHeld.2.1)
                          have HS2_ := (hb.cell (World.block_lt_of_cell? _ _ (hHeld.2.2.1))).trans (hHeld.2.2.1)
                          have HS3_ := (hb.cell (World.block_lt_of_cell? _ _ (hHeld.2.2.2))).trans (hHeld.2.2.2)
                          have n0_ := Aside0.mk (Kd.S_below (by (with_reducible repeat (first | apply Kd.S_alloc | apply Kd.S_drewN | apply Kd.S_drew)); exact HO_5.out) hb)
                          have n1_ := Aside0.mk (Kd.S_below (by (with_reducible repeat (first | apply Kd.S_alloc | apply Kd.S_drewN | apply Kd.S_drew)); exact HO_6.out) hb)
                          have n2_ := Aside0.mk (Kd.R_below (Kd.R_elderB (by (with_reducible repeat (first | apply Kd.R_alloc | apply Kd.R_drewN | apply Kd.R_drew)); exact HO_12.out) gb346 (Nat.le_of_eq hg.symm)) hb)
                          have n3_ := Aside0.mk (Kd.R_below (Kd.R_elderB (by (with_reducible repeat (first | apply Kd.R_alloc | apply Kd.R_drewN | apply Kd.R_drew)); exact HO_14.out) gb346 (Nat.le_of_eq hg.symm)) hb)
                          have n4_ := Aside0.mk (below_step (by repeat (first | (with_reducible first | exact HB.out | apply below_alloc | apply pw_below_drewN | apply below_drew1) | exact HB.out)) hb)
                          have n5_ := Aside0.mk (hbox)
                          have n6_ := Aside0.mk ((by rw [hg]; exact (below_size (by repeat (first | (with_reducible first | exact HB.out | apply below_alloc | apply pw_below_drewN | apply below_drew1) | exact HB.out))) : w.heap.size ≤ gb346))
                          have n7_ := Aside0.mk ((by rw [hg]; exact (below_size (by repeat (first | (with_reducible first | exact HB.out | apply below_alloc | apply pw_below_drewN | apply below_drew1) | exact HB.out))) : w.heap.size ≤ gb346))
                          clear HO_5
                          clear HO_6
                          clear HO_12
                          clear HO_14
                          clear HB
                          have HO_5 := n0_
                          have HO_6 := n1_
                          have HO_12 := n2_
                          have HO_14 := n3_
                          have HB := n4_
                          have BK346 := n5_
                          have GW346 := n6_
                          have GE346 := n7_
                          clear n0_ n1_ n2_ n3_ n4_ n5_ n6_ n7_
                          clear hb hbox hg
                          refine hK.out _ _ ⟨HS0_, HS1_, HS2_, HS3_⟩ (fun hHeld => ?_)
                          clear hK K
                          refine norm_ (a' := ?_) ?_ ?_
                          rotate_left
                          ·show Act.put _ (some 18) _ = _
                           simp only [Act.put, List.setIfInBounds_toArray, List.set_cons_zero, List.set_cons_succ, i64_w, i32_w]
                           rfl
                          refine one_ (i := 6) (N := some 17) #[true, true, true, true, true, true, true, true, false, false] rfl rfl (one_of HT_.out (by kernel_rfl)) (by decide) (fun K hK => ?_)
                          refine box_step ?hg (N := 17) ?hd (cs := #[.int .i64 0, .int .i64 0]) (t := 45) ?hr ?_; (case hd => rfl); (case hg => rfl); (case hr => first | (go_simp; done) | (go_simp; rfl))
                          intro gb345 hg w111 hbox hb
                          have HS0_ := (hb.cell (World.block_lt_of_cell? _ _ (hHeld.1))).trans (hHeld.1)
                          have HS1_ := (hb.cell (World.block_lt_of_cell? _ _ (hHeld.2.1))).trans (hHeld.2.1)
                          have HS2_ := (hb.cell (World.block_lt_of_cell? _ _ (hHeld.2.2.1))).trans (hHeld.2.2.1)
                          have HS3_ := (hb.cell (World.block_lt_of_cell? _ _ (hHeld.2.2.2))).trans (hHeld.2.2.2)
                          have n0_ := Aside0.mk (Kd.S_below (by (with_reducible repeat (first | apply Kd.S_alloc | apply Kd.S_drewN | apply Kd.S_drew)); exact HO_5.out) hb)
                          have n1_ := Aside0.mk (Kd.S_below (by (with_reducible repeat (first | apply Kd.S_alloc | apply Kd.S_drewN | apply Kd.S_drew)); exact HO_6.out) hb)
                          have n2_ := Aside0.mk (Kd.R_below (Kd.R_elderB (by (with_reducible repeat (first | apply Kd.R_alloc | apply Kd.R_drewN | apply Kd.R_drew)); exact HO_12.out) gb345 (Nat.le_of_eq hg.symm)) hb)
                          have n3_ := Aside0.mk (Kd.R_below (Kd.R_elderB (by (with_reducible repeat (first | apply Kd.R_alloc | apply Kd.R_drewN | apply Kd.R_drew)); exact HO_14.out) gb345 (Nat.le_of_eq hg.symm)) hb)
                          have n4_ := Aside0.mk (blk_below (g := gb346) (o := .cells #[.int .i64 0, .int .i64 0] 45 (0, 0)) (by (with_reducible repeat (first | refine blk_drewN ?_ _ | refine blk_drew ?_ | refine blk_alloc ?_ _)); exact BK346.out) hb)
                          have n5_ := Aside0.mk (below_step (by repeat (first | (with_reducible first | exact HB.out | apply below_alloc | apply pw_below_drewN | apply below_drew1 | refine below_set ?_ GE346.out) | exact HB.out)) hb)
                          have n6_ := Aside0.mk (hbox)
                          have n7_ := Aside0.mk ((by rw [hg]; exact (below_size (by repeat (first | (with_reducible first | exact HB.out | apply below_alloc | apply pw_below_drewN | apply below_drew1 | refine below_set ?_ GE346.out) | exact HB.out))) : w.heap.size ≤ gb345))
                          have n8_ := Aside0.mk ((by rw [hg]; exact (below_size (by repeat (first | (with_reducible first | exact HB.out | apply below_alloc | apply pw_below_drewN | apply below_drew1 | refine below_set ?_ GE346.out) | exact HB.out))) : w.heap.size ≤ gb345))
                          have n9_ := Aside0.mk ((by rw [hg]; exact Nat.ne_of_lt (blk_lt (g := gb346) (o := .cells #[.int .i64 0, .int .i64 0] 45 (0, 0)) (by (with_reducible repeat (first | refine blk_drewN ?_ _ | refine blk_drew ?_ | refine blk_alloc ?_ _)); exact BK346.out)) : gb346 ≠ gb345))
                          have n10_ := Aside0.mk ((by rw [hg]; exact Nat.ne_of_gt (blk_lt (g := gb346) (o := .cells #[.int .i64 0, .int .i64 0] 45 (0, 0)) (by (with_reducible repeat (first | refine blk_drewN ?_ _ | refine blk_drew ?_ | refine blk_alloc ?_ _)); exact BK346.out)) : gb345 ≠ gb346))
                          clear HO_5
                          clear HO_6
                          clear HO_12
                          clear HO_14
                          clear BK346
                          clear HB
                          have HO_5 := n0_
                          have HO_6 := n1_
                          have HO_12 := n2_
                          have HO_14 := n3_
                          have BK346 := n4_
                          have HB := n5_
                          have BK345 := n6_
                          have GW345 := n7_
                          have GE345 := n8_
                          have NB346_345 := n9_
                          have NB345_346 := n10_
                          clear n0_ n1_ n2_ n3_ n4_ n5_ n6_ n7_ n8_ n9_ n10_
                          clear hb hbox hg
                          refine hK.out _ _ ⟨HS0_, HS1_, HS2_, HS3_⟩ (fun hHeld => ?_)
                          clear hK K
                          refine norm_ (a' := ?_) ?_ ?_
                          rotate_left
                          ·show Act.put _ (some 17) _ = _
                           simp only [Act.put, List.setIfInBounds_toArray, List.set_cons_zero, List.set_cons_succ, i64_w, i32_w]
                           rfl
                          exact norm_ (by simp only [putAll, Act.put, List.setIfInBounds_toArray, List.set_cons_zero, List.set_cons_succ]) (hCont (gb345, gb346) _ ⟨hHeld, (by (with_reducible repeat (first | apply Kd.R_alloc | apply Kd.R_drewN | apply Kd.R_drew)); exact Kd.R_mono HO_12.out (fun _ hk => ⟨hk.1.1, ⟨hk.2, hk.1.2⟩⟩)), (by (with_reducible repeat (first | apply Kd.R_alloc | apply Kd.R_drewN | apply Kd.R_drew)); exact Kd.R_mono HO_14.out (fun _ hk => ⟨hk.1.1, ⟨hk.2, hk.1.2⟩⟩)), (by (with_reducible repeat (first | apply Kd.S_alloc | apply Kd.S_drewN | apply Kd.S_drew)); exact HO_5.out), (by (with_reducible repeat (first | apply Kd.S_alloc | apply Kd.S_drewN | apply Kd.S_drew)); exact HO_6.out), (by (with_reducible repeat (first | refine blk_drewN ?_ _ | refine blk_drew ?_ | refine blk_alloc ?_ _)); exact BK345.out), (by (with_reducible repeat (first | refine blk_drewN ?_ _ | refine blk_drew ?_ | refine blk_alloc ?_ _)); exact BK346.out), GW345.out, GE345.out, NB346_345.out, NB345_346.out, GW346.out, GE346.out, (by repeat (first | (with_reducible first | exact HB.out | apply below_alloc | apply pw_below_drewN | apply below_drew1 | refine below_set ?_ GE346.out | refine below_set ?_ GE345.out) | exact HB.out))⟩)
                        rintro ⟨gb345, gb346⟩ w112 ⟨hS_, h0_, h1_, h2_, h3_, h4_, h5_, h6_, h7_, h8_, h9_, h10_, h11_, h12_⟩
                        have n0_ : Aside0 (Kd.R k45 45 w112 w.heap.size (fun k_ => some k_ ≠ (v338 : Value).ownBlock ∧ k_ ≠ gb345 ∧ k_ ≠ gb346) (.slice (some ad343) t332.length co43) t332) := ⟨h0_⟩
                        have n1_ : Aside0 (Kd.R k45 45 w112 w.heap.size (fun k_ => some k_ ≠ (.slice (some ad343) t332.length co43 : Value).ownBlock ∧ k_ ≠ gb345 ∧ k_ ≠ gb346) v338 t336) := ⟨h1_⟩
                        have n2_ : Aside0 (Kd.S (Kd.slice 3 (Kd.int .i64)) 24 w112 w.heap.size (fun k_ => some k_ ≠ (v325 : Value).ownBlock) (.slice Ao12 t319.length co12) t319) := ⟨h2_⟩
                        have n3_ : Aside0 (Kd.S (Kd.slice 3 (Kd.int .i64)) 24 w112 w.heap.size (fun k_ => some k_ ≠ (.slice Ao12 t319.length co12 : Value).ownBlock) v325 t322) := ⟨h3_⟩
                        have n4_ : Aside0 (w112.heap[gb345]? = some (.cells #[.int .i64 0, .int .i64 0] 45 (0, 0))) := ⟨h4_⟩
                        have n5_ : Aside0 (w112.heap[gb346]? = some (.cells #[.int .i64 0, .int .i64 0] 45 (0, 0))) := ⟨h5_⟩
                        have n6_ : Aside0 (w.heap.size ≤ gb345) := ⟨h6_⟩
                        have n7_ : Aside0 (w.heap.size ≤ gb345) := ⟨h7_⟩
                        have n8_ : Aside0 (gb346 ≠ gb345) := ⟨h8_⟩
                        have n9_ : Aside0 (gb345 ≠ gb346) := ⟨h9_⟩
                        have n10_ : Aside0 (w.heap.size ≤ gb346) := ⟨h10_⟩
                        have n11_ : Aside0 (w.heap.size ≤ gb346) := ⟨h11_⟩
                        have n12_ : Aside0 (Below w.heap.size w w112) := ⟨h12_⟩
                        clear HO_5
                        clear HO_6
                        clear HO_12
                        clear HO_14
                        clear HB
                        clear h0_ h1_ h2_ h3_ h4_ h5_ h6_ h7_ h8_ h9_ h10_ h11_ h12_
                        have HO_12 := n0_
                        have HO_14 := n1_
                        have HO_5 := n2_
                        have HO_6 := n3_
                        have BK345 := n4_
                        have BK346 := n5_
                        have GW345 := n6_
                        have GE345 := n7_
                        have NB346_345 := n8_
                        have NB345_346 := n9_
                        have GW346 := n10_
                        have GE346 := n11_
                        have HB := n12_
                        clear n0_ n1_ n2_ n3_ n4_ n5_ n6_ n7_ n8_ n9_ n10_ n11_ n12_
                        have hHeld : w112.cell? ad343 = some (.int .i64 ((rd_T45 t332 0).f0)) ∧ w112.cell? ⟨ad343.block, ad343.off + 1, none⟩ = some (.int .i64 ((rd_T45 t332 0).f1)) ∧ w112.cell? ⟨ad343.block, ad343.off + 2, none⟩ = some (.int .i64 ((rd_T45 t332 1).f0)) ∧ w112.cell? ⟨ad343.block, ad343.off + 2 + 1, none⟩ = some (.int .i64 ((rd_T45 t332 1).f1)) := hS_
                        refine norm_ (a' := ?_) ?_ ?_
                        rotate_left
                        ·simp only [putAll, Act.put, List.setIfInBounds_toArray, List.set_cons_zero, List.set_cons_succ]
                         rfl
                        refine one_ (i := 8) (N := none) #[true, true, true, true, true, true, true, true, true, false] rfl rfl (one_of HT_.out (by kernel_rfl)) (by decide) (fun K hK => ?_)
                        have hs113 : w112.cell? ⟨gb345, 0, none⟩ = some (.int .i64 0) := (blk_cell BK345.out 0).trans rfl
                        have hfs113 := blk_frozen BK345.out 0
                        have hns113_1 := NB346_345.out
                        have hms113_1 := NB345_346.out
                        have hs114 : w112.cell? ⟨gb345, 1, none⟩ = some (.int .i64 0) := (blk_cell BK345.out 1).trans rfl
                        have hfs114 := blk_frozen BK345.out 1
                        have hns114_1 := NB346_345.out
                        have hms114_1 := NB345_346.out
                        refine skip_ (w1 := ?_) (by rfl) rfl ?_ ?_
                        rotate_left
                        ·go_simp
                         rfl
                        have Agb345_ : ad343.block ≠ gb345 := Kd.own_blk (Kd.R_away HO_12.out (fun _ hk => hk.2.1))
                        refine hK.out _ _ ⟨?_, ?_, ?_, ?_⟩ (fun hHeld => ?_)
                        ·exact (cell_far (p := ⟨gb345, 1, none⟩) (a := ad343) Agb345_ _).trans ((cell_far (W := _) (p := ⟨gb345, 0, none⟩) (a := ad343) Agb345_ _).trans hHeld.1)
                        ·exact (cell_far (p := ⟨gb345, 1, none⟩) (a := ⟨ad343.block, ad343.off + 1, none⟩) Agb345_ _).trans ((cell_far (W := _) (p := ⟨gb345, 0, none⟩) (a := ⟨ad343.block, ad343.off + 1, none⟩) Agb345_ _).trans hHeld.2.1)
                        ·exact (cell_far (p := ⟨gb345, 1, none⟩) (a := ⟨ad343.block, ad343.off + 2, none⟩) Agb345_ _).trans ((cell_far (W := _) (p := ⟨gb345, 0, none⟩) (a := ⟨ad343.block, ad343.off + 2, none⟩) Agb345_ _).trans hHeld.2.2.1)
                        ·exact (cell_far (p := ⟨gb345, 1, none⟩) (a := ⟨ad343.block, ad343.off + 2 + 1, none⟩) Agb345_ _).trans ((cell_far (W := _) (p := ⟨gb345, 0, none⟩) (a := ⟨ad343.block, ad343.off + 2 + 1, none⟩) Agb345_ _).trans hHeld.2.2.2)
                        clear hK K
                        refine one_ (i := 9) (N := none) #[true, true, true, true, true, true, true, true, true, true] rfl rfl (one_of HT_.out (by kernel_rfl)) (by decide) (fun K hK => ?_)
                        have hs115 : w112.cell? ⟨gb346, 0, none⟩ = some (.int .i64 0) := (blk_cell BK346.out 0).trans rfl
                        have hfs115 := blk_frozen BK346.out 0
                        have hns115_0 := NB345_346.out
                        have hms115_0 := NB346_345.out
                        have hs116 : w112.cell? ⟨gb346, 1, none⟩ = some (.int .i64 0) := (blk_cell BK346.out 1).trans rfl
                        have hfs116 := blk_frozen BK346.out 1
                        have hns116_0 := NB345_346.out
                        have hms116_0 := NB346_345.out
                        refine skip_ (w1 := ?_) (by rfl) rfl ?_ ?_
                        rotate_left
                        ·go_simp
                         rfl
                        have Agb346_ : ad343.block ≠ gb346 := Kd.own_blk (Kd.R_away HO_12.out (fun _ hk => hk.2.2))
                        refine hK.out _ _ ⟨?_, ?_, ?_, ?_⟩ (fun hHeld => ?_)
                        ·exact (cell_far (p := ⟨gb346, 1, none⟩) (a := ad343) Agb346_ _).trans ((cell_far (W := _) (p := ⟨gb346, 0, none⟩) (a := ad343) Agb346_ _).trans hHeld.1)
                        ·exact (cell_far (p := ⟨gb346, 1, none⟩) (a := ⟨ad343.block, ad343.off + 1, none⟩) Agb346_ _).trans ((cell_far (W := _) (p := ⟨gb346, 0, none⟩) (a := ⟨ad343.block, ad343.off + 1, none⟩) Agb346_ _).trans hHeld.2.1)
                        ·exact (cell_far (p := ⟨gb346, 1, none⟩) (a := ⟨ad343.block, ad343.off + 2, none⟩) Agb346_ _).trans ((cell_far (W := _) (p := ⟨gb346, 0, none⟩) (a := ⟨ad343.block, ad343.off + 2, none⟩) Agb346_ _).trans hHeld.2.2.1)
                        ·exact (cell_far (p := ⟨gb346, 1, none⟩) (a := ⟨ad343.block, ad343.off + 2 + 1, none⟩) Agb346_ _).trans ((cell_far (W := _) (p := ⟨gb346, 0, none⟩) (a := ⟨ad343.block, ad343.off + 2 + 1, none⟩) Agb346_ _).trans hHeld.2.2.2)
                        clear hK K
                        refine done_ (done_of HT_.out (by kernel_rfl)) ?_
                        try go_wp2
                        have n0_ : Aside0 (Kd.S (Kd.slice 3 (Kd.int .i64)) 24 ((((w112.setCell ⟨gb345, 0, none⟩ (.int .i64 ((rd_T45 t332 0).f0))).setCell ⟨gb345, 1, none⟩ (.int .i64 ((rd_T45 t332 0).f1))).setCell ⟨gb346, 0, none⟩ (.int .i64 ((rd_T45 t332 1).f0))).setCell ⟨gb346, 1, none⟩ (.int .i64 ((rd_T45 t332 1).f1))) w.heap.size (fun k_ => some k_ ≠ (v325 : Value).ownBlock) (.slice Ao12 t319.length co12) t319) := ⟨by (with_reducible repeat (first | apply Kd.S_alloc | apply Kd.S_drewN | apply Kd.S_drew)); exact Kd.S_mono (Kd.S_far (p := ⟨gb346, 1, none⟩) (Kd.S_far (p := ⟨gb346, 0, none⟩) (Kd.S_far (p := ⟨gb345, 1, none⟩) (Kd.S_far (p := ⟨gb345, 0, none⟩) (Kd.S_types (Kd.S_types HO_5.out BK345.out (by decide)) BK346.out (by decide)) (fun _ hk => hk.1.2) (.int .i64 ((rd_T45 t332 0).f0))) (fun _ hk => hk.1.2) (.int .i64 ((rd_T45 t332 0).f1))) (fun _ hk => hk.2) (.int .i64 ((rd_T45 t332 1).f0))) (fun _ hk => hk.2) (.int .i64 ((rd_T45 t332 1).f1))) (fun _ hk => hk.1.1)⟩
                        have n1_ : Aside0 (Kd.S (Kd.slice 3 (Kd.int .i64)) 24 ((((w112.setCell ⟨gb345, 0, none⟩ (.int .i64 ((rd_T45 t332 0).f0))).setCell ⟨gb345, 1, none⟩ (.int .i64 ((rd_T45 t332 0).f1))).setCell ⟨gb346, 0, none⟩ (.int .i64 ((rd_T45 t332 1).f0))).setCell ⟨gb346, 1, none⟩ (.int .i64 ((rd_T45 t332 1).f1))) w.heap.size (fun k_ => some k_ ≠ (.slice Ao12 t319.length co12 : Value).ownBlock) v325 t322) := ⟨by (with_reducible repeat (first | apply Kd.S_alloc | apply Kd.S_drewN | apply Kd.S_drew)); exact Kd.S_mono (Kd.S_far (p := ⟨gb346, 1, none⟩) (Kd.S_far (p := ⟨gb346, 0, none⟩) (Kd.S_far (p := ⟨gb345, 1, none⟩) (Kd.S_far (p := ⟨gb345, 0, none⟩) (Kd.S_types (Kd.S_types HO_6.out BK345.out (by decide)) BK346.out (by decide)) (fun _ hk => hk.1.2) (.int .i64 ((rd_T45 t332 0).f0))) (fun _ hk => hk.1.2) (.int .i64 ((rd_T45 t332 0).f1))) (fun _ hk => hk.2) (.int .i64 ((rd_T45 t332 1).f0))) (fun _ hk => hk.2) (.int .i64 ((rd_T45 t332 1).f1))) (fun _ hk => hk.1.1)⟩
                        have n2_ : Aside0 (Kd.R k45 45 ((((w112.setCell ⟨gb345, 0, none⟩ (.int .i64 ((rd_T45 t332 0).f0))).setCell ⟨gb345, 1, none⟩ (.int .i64 ((rd_T45 t332 0).f1))).setCell ⟨gb346, 0, none⟩ (.int .i64 ((rd_T45 t332 1).f0))).setCell ⟨gb346, 1, none⟩ (.int .i64 ((rd_T45 t332 1).f1))) w.heap.size (fun k_ => some k_ ≠ (v338 : Value).ownBlock ∧ k_ ≠ gb345 ∧ k_ ≠ gb346) (.slice (some ad343) t332.length co43) t332) := ⟨by (with_reducible repeat (first | apply Kd.R_alloc | apply Kd.R_drewN | apply Kd.R_drew)); exact Kd.R_mono (Kd.R_far (p := ⟨gb346, 1, none⟩) (Kd.R_far (p := ⟨gb346, 0, none⟩) (Kd.R_far (p := ⟨gb345, 1, none⟩) (Kd.R_far (p := ⟨gb345, 0, none⟩) (Kd.R_mono (Kd.R_mono HO_12.out (fun k_ hk => (⟨hk, hk.2.1⟩ : _ ∧ k_ ≠ gb345))) (fun k_ hk => (⟨hk, hk.1.2.2⟩ : _ ∧ k_ ≠ gb346))) (fun _ hk => hk.1.2) (.int .i64 ((rd_T45 t332 0).f0))) (fun _ hk => hk.1.2) (.int .i64 ((rd_T45 t332 0).f1))) (fun _ hk => hk.2) (.int .i64 ((rd_T45 t332 1).f0))) (fun _ hk => hk.2) (.int .i64 ((rd_T45 t332 1).f1))) (fun _ hk => ⟨hk.1.1.1, ⟨hk.1.1.2.1, hk.1.1.2.2⟩⟩)⟩
                        have n3_ : Aside0 (Kd.R k45 45 ((((w112.setCell ⟨gb345, 0, none⟩ (.int .i64 ((rd_T45 t332 0).f0))).setCell ⟨gb345, 1, none⟩ (.int .i64 ((rd_T45 t332 0).f1))).setCell ⟨gb346, 0, none⟩ (.int .i64 ((rd_T45 t332 1).f0))).setCell ⟨gb346, 1, none⟩ (.int .i64 ((rd_T45 t332 1).f1))) w.heap.size (fun k_ => some k_ ≠ (.slice (some ad343) t332.length co43 : Value).ownBlock ∧ k_ ≠ gb345 ∧ k_ ≠ gb346) v338 t336) := ⟨by (with_reducible repeat (first | apply Kd.R_alloc | apply Kd.R_drewN | apply Kd.R_drew)); exact Kd.R_mono (Kd.R_far (p := ⟨gb346, 1, none⟩) (Kd.R_far (p := ⟨gb346, 0, none⟩) (Kd.R_far (p := ⟨gb345, 1, none⟩) (Kd.R_far (p := ⟨gb345, 0, none⟩) (Kd.R_mono (Kd.R_mono HO_14.out (fun k_ hk => (⟨hk, hk.2.1⟩ : _ ∧ k_ ≠ gb345))) (fun k_ hk => (⟨hk, hk.1.2.2⟩ : _ ∧ k_ ≠ gb346))) (fun _ hk => hk.1.2) (.int .i64 ((rd_T45 t332 0).f0))) (fun _ hk => hk.1.2) (.int .i64 ((rd_T45 t332 0).f1))) (fun _ hk => hk.2) (.int .i64 ((rd_T45 t332 1).f0))) (fun _ hk => hk.2) (.int .i64 ((rd_T45 t332 1).f1))) (fun _ hk => ⟨hk.1.1.1, ⟨hk.1.1.2.1, hk.1.1.2.2⟩⟩)⟩
                        have n4_ : Aside0 (((((w112.setCell ⟨gb345, 0, none⟩ (.int .i64 ((rd_T45 t332 0).f0))).setCell ⟨gb345, 1, none⟩ (.int .i64 ((rd_T45 t332 0).f1))).setCell ⟨gb346, 0, none⟩ (.int .i64 ((rd_T45 t332 1).f0))).setCell ⟨gb346, 1, none⟩ (.int .i64 ((rd_T45 t332 1).f1))).heap[gb345]? = some (.cells #[.int .i64 ((rd_T45 t332 0).f0), .int .i64 ((rd_T45 t332 0).f1)] 45 (0, 0))) := ⟨by (with_reducible repeat (first | refine blk_drewN ?_ _ | refine blk_drew ?_ | refine blk_alloc ?_ _)); refine blk_far ?_ NB345_346.out _; (with_reducible repeat (first | refine blk_drewN ?_ _ | refine blk_drew ?_ | refine blk_alloc ?_ _)); refine blk_far ?_ NB345_346.out _; (with_reducible repeat (first | refine blk_drewN ?_ _ | refine blk_drew ?_ | refine blk_alloc ?_ _)); refine blk_put (cs := #[.int .i64 ((rd_T45 t332 0).f0), .int .i64 0]) ?_ 1 _ rfl; (with_reducible repeat (first | refine blk_drewN ?_ _ | refine blk_drew ?_ | refine blk_alloc ?_ _)); refine blk_put (cs := #[.int .i64 0, .int .i64 0]) ?_ 0 _ rfl; (with_reducible repeat (first | refine blk_drewN ?_ _ | refine blk_drew ?_ | refine blk_alloc ?_ _)); exact BK345.out⟩
                        have n5_ : Aside0 (((((w112.setCell ⟨gb345, 0, none⟩ (.int .i64 ((rd_T45 t332 0).f0))).setCell ⟨gb345, 1, none⟩ (.int .i64 ((rd_T45 t332 0).f1))).setCell ⟨gb346, 0, none⟩ (.int .i64 ((rd_T45 t332 1).f0))).setCell ⟨gb346, 1, none⟩ (.int .i64 ((rd_T45 t332 1).f1))).heap[gb346]? = some (.cells #[.int .i64 ((rd_T45 t332 1).f0), .int .i64 ((rd_T45 t332 1).f1)] 45 (0, 0))) := ⟨by (with_reducible repeat (first | refine blk_drewN ?_ _ | refine blk_drew ?_ | refine blk_alloc ?_ _)); refine blk_put (cs := #[.int .i64 ((rd_T45 t332 1).f0), .int .i64 0]) ?_ 1 _ rfl; (with_reducible repeat (first | refine blk_drewN ?_ _ | refine blk_drew ?_ | refine blk_alloc ?_ _)); refine blk_put (cs := #[.int .i64 0, .int .i64 0]) ?_ 0 _ rfl; (with_reducible repeat (first | refine blk_drewN ?_ _ | refine blk_drew ?_ | refine blk_alloc ?_ _)); refine blk_far ?_ NB346_345.out _; (with_reducible repeat (first | refine blk_drewN ?_ _ | refine blk_drew ?_ | refine blk_alloc ?_ _)); refine blk_far ?_ NB346_345.out _; (with_reducible repeat (first | refine blk_drewN ?_ _ | refine blk_drew ?_ | refine blk_alloc ?_ _)); exact BK346.out⟩
                        have n6_ : Aside0 (Below w.heap.size w ((((w112.setCell ⟨gb345, 0, none⟩ (.int .i64 ((rd_T45 t332 0).f0))).setCell ⟨gb345, 1, none⟩ (.int .i64 ((rd_T45 t332 0).f1))).setCell ⟨gb346, 0, none⟩ (.int .i64 ((rd_T45 t332 1).f0))).setCell ⟨gb346, 1, none⟩ (.int .i64 ((rd_T45 t332 1).f1)))) := ⟨by repeat (first | (with_reducible first | exact HB.out | apply below_alloc | apply pw_below_drewN | apply below_drew1 | refine below_set ?_ GE345.out | refine below_set ?_ GE346.out) | exact HB.out)⟩
                        (try clear HO_5)
                        (try clear HO_6)
                        (try clear HO_12)
                        (try clear HO_14)
                        (try clear BK345)
                        (try clear BK346)
                        (try clear HB)
                        generalize ((((w112.setCell ⟨gb345, 0, none⟩ (.int .i64 ((rd_T45 t332 0).f0))).setCell ⟨gb345, 1, none⟩ (.int .i64 ((rd_T45 t332 0).f1))).setCell ⟨gb346, 0, none⟩ (.int .i64 ((rd_T45 t332 1).f0))).setCell ⟨gb346, 1, none⟩ (.int .i64 ((rd_T45 t332 1).f1))) = w117 at n0_ n1_ n2_ n3_ n4_ n5_ n6_ ⊢
                        have HO_5 := n0_
                        have HO_6 := n1_
                        have HO_12 := n2_
                        have HO_14 := n3_
                        have BK345 := n4_
                        have BK346 := n5_
                        have HB := n6_
                        clear n0_ n1_ n2_ n3_ n4_ n5_ n6_
                        have n0_ := Aside0.mk (Kd.S_drew HO_5.out)
                        have n1_ := Aside0.mk (Kd.S_drew HO_6.out)
                        have n2_ := Aside0.mk (Kd.R_drew HO_12.out)
                        have n3_ := Aside0.mk (Kd.R_drew HO_14.out)
                        have n4_ := Aside0.mk (blk_drew BK345.out)
                        have n5_ := Aside0.mk (blk_drew BK346.out)
                        have n6_ := Aside0.mk (below_drew1 HB.out)
                        clear HO_5
                        clear HO_6
                        clear HO_12
                        clear HO_14
                        clear BK345
                        clear BK346
                        clear HB
                        have HO_5 := n0_
                        have HO_6 := n1_
                        have HO_12 := n2_
                        have HO_14 := n3_
                        have BK345 := n4_
                        have BK346 := n5_
                        have HB := n6_
                        clear n0_ n1_ n2_ n3_ n4_ n5_ n6_
                        have p347 : 0 ≤ (((rd_T45 t332 0).f0) : Int) := of_decide_eq_true (by first | (with_reducible assumption) | assumption)
                        have q347 : ((rd_T45 t332 0).f0) < (t319.length : Int) := of_decide_eq_true (by first | (with_reducible assumption) | assumption)
                        obtain ⟨ad347, A347_0, c347_0, e347, hx347_0, hl347_0, hi347_0⟩ := at_L2 (Kd.S_reads' HO_5.out).2.2 ((rd_T45 t332 0).f0) p347 q347
                        cases e347
                        obtain ⟨ce347, hce347, hMe347, hcc347⟩ := Kd.S_get HO_5.out [] ((rd_T45 t332 0).f0) p347 (by first | exact q347 | exact of_decide_eq_true (by first | (with_reducible assumption) | assumption) | (have e_ := (Kd.S_reads' HO_5.out).1; omega))
                        obtain ⟨ve347_0, rfl, ge347_0⟩ := hMe347
                        have hv347_0 := hcc347 0 _ rfl
                        rw [Nat.add_zero, show ((Kd.slice 3 (Kd.int .i64))).sz = 1 from rfl, Nat.mul_one] at hv347_0
                        replace hv347_0 := Option.some.inj (hv347_0.symm.trans hx347_0)
                        rw [hv347_0] at ge347_0
                        have HL347_0 := Aside0.mk (show Kd.R (Kd.int .i64) 3 _ _ _ _ (rd_L2 t319 ((rd_T45 t332 0).f0)) from ge347_0)
                        clear hv347_0 ge347_0
                        clear hcc347 hce347
                        have HR347_0 := Aside0.mk hi347_0
                        have HC347_0 := Aside0.mk hl347_0
                        clear hi347_0 hl347_0
                        replace p347 := eq_true p347
                        replace q347 := eq_true q347
                        have p348 : 0 ≤ (((rd_T45 t332 0).f1) : Int) := of_decide_eq_true (by first | (with_reducible assumption) | assumption)
                        have q348 : ((rd_T45 t332 0).f1) < ((rd_L2 t319 ((rd_T45 t332 0).f0)).length : Int) := of_decide_eq_true (by first | (with_reducible assumption) | assumption)
                        obtain ⟨ad348, e348, hx348_0⟩ := Kd.at_int (by repeat (first | (with_reducible exact HR347_0.out) | (with_reducible refine Kd.C_alloc ?_ _) | (with_reducible refine Kd.C_drewN ?_ _) | (with_reducible refine Kd.C_drew ?_) | exact HR347_0.out)) ((rd_T45 t332 0).f1) p348 q348
                        cases e348
                        replace p348 := eq_true p348
                        replace q348 := eq_true q348
                        have p349 : 0 ≤ (((rd_T45 t332 1).f0) : Int) := of_decide_eq_true (by first | (with_reducible assumption) | assumption)
                        have q349 : ((rd_T45 t332 1).f0) < (t319.length : Int) := of_decide_eq_true (by first | (with_reducible assumption) | assumption)
                        obtain ⟨ad349, A349_0, c349_0, e349, hx349_0, hl349_0, hi349_0⟩ := at_L2 (Kd.S_reads' HO_5.out).2.2 ((rd_T45 t332 1).f0) p349 q349
                        obtain rfl : ad347 = ad349 := (by injection e349)
                        obtain ⟨ce349, hce349, hMe349, hcc349⟩ := Kd.S_get HO_5.out [] ((rd_T45 t332 1).f0) p349 (by first | exact q349 | exact of_decide_eq_true (by first | (with_reducible assumption) | assumption) | (have e_ := (Kd.S_reads' HO_5.out).1; omega))
                        obtain ⟨ve349_0, rfl, ge349_0⟩ := hMe349
                        have hv349_0 := hcc349 0 _ rfl
                        rw [Nat.add_zero, show ((Kd.slice 3 (Kd.int .i64))).sz = 1 from rfl, Nat.mul_one] at hv349_0
                        replace hv349_0 := Option.some.inj (hv349_0.symm.trans hx349_0)
                        rw [hv349_0] at ge349_0
                        have HL349_0 := Aside0.mk (show Kd.R (Kd.int .i64) 3 _ _ _ _ (rd_L2 t319 ((rd_T45 t332 1).f0)) from ge349_0)
                        clear hv349_0 ge349_0
                        clear hcc349 hce349
                        have HR349_0 := Aside0.mk hi349_0
                        have HC349_0 := Aside0.mk hl349_0
                        clear hi349_0 hl349_0
                        replace p349 := eq_true p349
                        replace q349 := eq_true q349
                        have p350 : 0 ≤ (((rd_T45 t332 1).f1) : Int) := of_decide_eq_true (by first | (with_reducible assumption) | assumption)
                        have q350 : ((rd_T45 t332 1).f1) < ((rd_L2 t319 ((rd_T45 t332 1).f0)).length : Int) := of_decide_eq_true (by first | (with_reducible assumption) | assumption)
                        obtain ⟨ad350, e350, hx350_0⟩ := Kd.at_int (by repeat (first | (with_reducible exact HR349_0.out) | (with_reducible refine Kd.C_alloc ?_ _) | (with_reducible refine Kd.C_drewN ?_ _) | (with_reducible refine Kd.C_drew ?_) | exact HR349_0.out)) ((rd_T45 t332 1).f1) p350 q350
                        cases e350
                        replace p350 := eq_true p350
                        replace q350 := eq_true q350
                        refine start_ (n := 36) (S := fun w' => w'.cell? ⟨gb345, 0, none⟩ = some (.int .i64 ((rd_T45 t332 0).f0)) ∧ w'.cell? ⟨gb345, 1, none⟩ = some (.int .i64 ((rd_T45 t332 0).f1)) ∧ w'.cell? ⟨gb346, 0, none⟩ = some (.int .i64 ((rd_T45 t332 1).f0)) ∧ w'.cell? ⟨gb346, 1, none⟩ = some (.int .i64 ((rd_T45 t332 1).f1)) ∧ w'.cell? (ad347.add (((rd_T45 t332 0).f0)).toNat) = some (.slice (some ad348) (rd_L2 t319 ((rd_T45 t332 0).f0)).length c347_0) ∧ w'.cell? (ad348.add (((rd_T45 t332 0).f1)).toNat) = some (.int .i64 (rd (rd_L2 t319 ((rd_T45 t332 0).f0)) ((rd_T45 t332 0).f1))) ∧ w'.cell? (ad347.add (((rd_T45 t332 1).f0)).toNat) = some (.slice (some ad350) (rd_L2 t319 ((rd_T45 t332 1).f0)).length c349_0) ∧ w'.cell? (ad350.add (((rd_T45 t332 1).f1)).toNat) = some (.int .i64 (rd (rd_L2 t319 ((rd_T45 t332 1).f0)) ((rd_T45 t332 1).f1)))) (ds := []) #[false, false, false, false, false, false, false, false, false, false, false, false, false, false, false, false, false, false, false, false, false, false, false, false, false, false, false, false, false, false, false, false, false, false, false, false] (by kernel_rfl) rfl rfl ⟨(blk_cell BK345.out 0).trans rfl, (blk_cell BK345.out 1).trans rfl, (blk_cell BK346.out 0).trans rfl, (blk_cell BK346.out 1).trans rfl, hx347_0, hx348_0, hx349_0, hx350_0⟩ (fun hHeld => ?_); refine with_tabW laws_FnUncrossing.tab18 laws_FnUncrossing.bits18 (fun HT_ HW_ => ?_)
                        generalize w117.drew = w118 at HO_5 HO_6 HO_12 HO_14 BK345 BK346 HB HL347_0 HL349_0 HR347_0 HR349_0 hx347_0 hx348_0 hx349_0 hx350_0 hHeld ⊢
                        refine pure_ (i := 0) (N := some 116) (v := ?_) (a' := ?_) #[true, false, false, false, false, false, false, false, false, false, false, false, false, false, false, false, false, false, false, false, false, false, false, false, false, false, false, false, false, false, false, false, false, false, false, false] rfl rfl (any_of HT_.out (by kernel_rfl)) (fun _ _ _ h => h) (Or.inl ⟨by rfl, ?_⟩) ?_ ?_
                        rotate_left
                        ·intro w'
                         go_simp
                         with_reducible rfl
                        rotate_left
                        ·simp only [Act.put, List.setIfInBounds_toArray, List.set_cons_zero, List.set_cons_succ, i64_w, i32_w]
                         rfl
                        refine pure_ (i := 2) (N := some 118) (v := ?_) (a' := ?_) #[true, false, true, false, false, false, false, false, false, false, false, false, false, false, false, false, false, false, false, false, false, false, false, false, false, false, false, false, false, false, false, false, false, false, false, false] rfl rfl (any_of HT_.out (by kernel_rfl)) (fun _ _ _ h => h) (Or.inl ⟨by rfl, ?_⟩) ?_ ?_
                        rotate_left
                        ·intro w'
                         go_simp
                         with_reducible rfl
                        rotate_left
                        ·simp only [Act.put, List.setIfInBounds_toArray, List.set_cons_zero, List.set_cons_succ, i64_w, i32_w]
                         rfl
                        refine take_ (i := 1) (N := some 117) (v := ?_) (a' := ?_) #[true, true, true, false, false, false, false, false, false, false, false, false, false, false, false, false, false, false, false, false, false, false, false, false, false, false, false, false, false, false, false, false, false, false, false, false] rfl rfl (take_ofW HT_.out HW_.out (by kernel_rfl)) (fun _ _ _ h => h) (Or.inl ⟨by rfl, ?_⟩) hHeld ?_ ?_
                        rotate_left
                        ·rintro w' ⟨s0, s1, s2, s3, s4, s5, s6, s7⟩
                         go_simp
                         with_reducible rfl
                        rotate_left
                        ·simp only [Act.put, List.setIfInBounds_toArray, List.set_cons_zero, List.set_cons_succ, i64_w, i32_w]
                         rfl
                        refine take_ (i := 3) (N := some 119) (v := ?_) (a' := ?_) #[true, true, true, true, false, false, false, false, false, false, false, false, false, false, false, false, false, false, false, false, false, false, false, false, false, false, false, false, false, false, false, false, false, false, false, false] rfl rfl (take_ofW HT_.out HW_.out (by kernel_rfl)) (fun _ _ _ h => h) (Or.inl ⟨by rfl, ?_⟩) hHeld ?_ ?_
                        rotate_left
                        ·rintro w' ⟨s0, s1, s2, s3, s4, s5, s6, s7⟩
                         go_simp
                         with_reducible rfl
                        rotate_left
                        ·simp only [Act.put, List.setIfInBounds_toArray, List.set_cons_zero, List.set_cons_succ, i64_w, i32_w]
                         rfl
                        refine pure_ (i := 4) (N := some 120) (v := ?_) (a' := ?_) #[true, true, true, true, true, false, false, false, false, false, false, false, false, false, false, false, false, false, false, false, false, false, false, false, false, false, false, false, false, false, false, false, false, false, false, false] rfl rfl (any_of HT_.out (by kernel_rfl)) (fun _ _ _ h => h) (Or.inl ⟨by rfl, ?_⟩) ?_ ?_
                        rotate_left
                        ·intro w'
                         go_simp
                         with_reducible rfl
                        rotate_left
                        ·simp only [Act.put, List.setIfInBounds_toArray, List.set_cons_zero, List.set_cons_succ, i64_w, i32_w]
                         rfl
                        refine pure_ (i := 5) (N := some 121) (v := ?_) (a' := ?_) #[true, true, true, true, true, true, false, false, false, false, false, false, false, false, false, false, false, false, false, false, false, false, false, false, false, false, false, false, false, false, false, false, false, false, false, false] rfl rfl (any_of HT_.out (by kernel_rfl)) (fun _ _ _ h => h) (Or.inl ⟨by rfl, ?_⟩) ?_ ?_
                        rotate_left
                        ·intro w'
                         go_simp
                         with_reducible rfl
                        rotate_left
                        ·simp only [Act.put, List.setIfInBounds_toArray, List.set_cons_zero, List.set_cons_succ, i64_w, i32_w]
                         rfl
                        refine pure_ (i := 6) (N := some 122) (v := ?_) (a' := ?_) #[true, true, true, true, true, true, true, false, false, false, false, false, false, false, false, false, false, false, false, false, false, false, false, false, false, false, false, false, false, false, false, false, false, false, false, false] rfl rfl (any_of HT_.out (by kernel_rfl)) (fun _ _ _ h => h) (Or.inl ⟨by rfl, ?_⟩) ?_ ?_
                        rotate_left
                        ·intro w'
                         go_simp
                         with_reducible rfl
                        rotate_left
                        ·simp only [Act.put, List.setIfInBounds_toArray, List.set_cons_zero, List.set_cons_succ, i64_w, i32_w]
                         rfl
                        refine pure_ (i := 8) (N := some 124) (v := ?_) (a' := ?_) #[true, true, true, true, true, true, true, false, true, false, false, false, false, false, false, false, false, false, false, false, false, false, false, false, false, false, false, false, false, false, false, false, false, false, false, false] rfl rfl (any_of HT_.out (by kernel_rfl)) (fun _ _ _ h => h) (Or.inl ⟨by rfl, ?_⟩) ?_ ?_
                        rotate_left
                        ·intro w'
                         go_simp
                         with_reducible rfl
                        rotate_left
                        ·simp only [Act.put, List.setIfInBounds_toArray, List.set_cons_zero, List.set_cons_succ, i64_w, i32_w]
                         rfl
                        refine take_ (i := 7) (N := some 123) (v := ?_) (a' := ?_) #[true, true, true, true, true, true, true, true, true, false, false, false, false, false, false, false, false, false, false, false, false, false, false, false, false, false, false, false, false, false, false, false, false, false, false, false] rfl rfl (take_ofW HT_.out HW_.out (by kernel_rfl)) (fun _ _ _ h => h) (Or.inl ⟨by rfl, ?_⟩) hHeld ?_ ?_
                        rotate_left
                        ·rintro w' ⟨s0, s1, s2, s3, s4, s5, s6, s7⟩
                         go_simp
                         with_reducible rfl
                        rotate_left
                        ·simp only [Act.put, List.setIfInBounds_toArray, List.set_cons_zero, List.set_cons_succ, i64_w, i32_w]
                         rfl
                        refine take_ (i := 9) (N := some 125) (v := ?_) (a' := ?_) #[true, true, true, true, true, true, true, true, true, true, false, false, false, false, false, false, false, false, false, false, false, false, false, false, false, false, false, false, false, false, false, false, false, false, false, false] rfl rfl (take_ofW HT_.out HW_.out (by kernel_rfl)) (fun _ _ _ h => h) (Or.inl ⟨by rfl, ?_⟩) hHeld ?_ ?_
                        rotate_left
                        ·rintro w' ⟨s0, s1, s2, s3, s4, s5, s6, s7⟩
                         go_simp
                         with_reducible rfl
                        rotate_left
                        ·simp only [Act.put, List.setIfInBounds_toArray, List.set_cons_zero, List.set_cons_succ, i64_w, i32_w]
                         rfl
                        refine pure_ (i := 10) (N := some 126) (v := ?_) (a' := ?_) #[true, true, true, true, true, true, true, true, true, true, true, false, false, false, false, false, false, false, false, false, false, false, false, false, false, false, false, false, false, false, false, false, false, false, false, false] rfl rfl (any_of HT_.out (by kernel_rfl)) (fun _ _ _ h => h) (Or.inl ⟨by rfl, ?_⟩) ?_ ?_
                        rotate_left
                        ·intro w'
                         go_simp
                         with_reducible rfl
                        rotate_left
                        ·simp only [Act.put, List.setIfInBounds_toArray, List.set_cons_zero, List.set_cons_succ, i64_w, i32_w]
                         rfl
                        refine pure_ (i := 11) (N := some 127) (v := ?_) (a' := ?_) #[true, true, true, true, true, true, true, true, true, true, true, true, false, false, false, false, false, false, false, false, false, false, false, false, false, false, false, false, false, false, false, false, false, false, false, false] rfl rfl (any_of HT_.out (by kernel_rfl)) (fun _ _ _ h => h) (Or.inl ⟨by rfl, ?_⟩) ?_ ?_
                        rotate_left
                        ·intro w'
                         go_simp
                         with_reducible rfl
                        rotate_left
                        ·simp only [Act.put, List.setIfInBounds_toArray, List.set_cons_zero, List.set_cons_succ, i64_w, i32_w]
                         rfl
                        refine pure_ (i := 12) (N := some 128) (v := ?_) (a' := ?_) #[true, true, true, true, true, true, true, true, true, true, true, true, true, false, false, false, false, false, false, false, false, false, false, false, false, false, false, false, false, false, false, false, false, false, false, false] rfl rfl (any_of HT_.out (by kernel_rfl)) (fun _ _ _ h => h) (Or.inl ⟨by rfl, ?_⟩) ?_ ?_
                        rotate_left
                        ·intro w'
                         go_simp
                         with_reducible rfl
                        rotate_left
                        ·simp only [Act.put, List.setIfInBounds_toArray, List.set_cons_zero, List.set_cons_succ, i64_w, i32_w]
                         rfl
                        refine pure_ (i := 13) (N := some 129) (v := ?_) (a' := ?_) #[true, true, true, true, true, true, true, true, true, true, true, true, true, true, false, false, false, false, false, false, false, false, false, false, false, false, false, false, false, false, false, false, false, false, false, false] rfl rfl (any_of HT_.out (by kernel_rfl)) (fun _ _ _ h => h) (Or.inl ⟨by rfl, ?_⟩) ?_ ?_
                        rotate_left
                        ·intro w'
                         go_simp
                         with_reducible rfl
                        rotate_left
                        ·simp only [Act.put, List.setIfInBounds_toArray, List.set_cons_zero, List.set_cons_succ, i64_w, i32_w]
                         rfl
                        refine pure_ (i := 14) (N := some 130) (v := ?_) (a' := ?_) #[true, true, true, true, true, true, true, true, true, true, true, true, true, true, true, false, false, false, false, false, false, false, false, false, false, false, false, false, false, false, false, false, false, false, false, false] rfl rfl (any_of HT_.out (by kernel_rfl)) (fun _ _ _ h => h) (Or.inl ⟨by rfl, ?_⟩) ?_ ?_
                        rotate_left
                        ·intro w'
                         go_simp
                         with_reducible rfl
                        rotate_left
                        ·simp only [Act.put, List.setIfInBounds_toArray, List.set_cons_zero, List.set_cons_succ, i64_w, i32_w]
                         rfl
                        refine pure_ (i := 18) (N := some 134) (v := ?_) (a' := ?_) #[true, true, true, true, true, true, true, true, true, true, true, true, true, true, true, false, false, false, true, false, false, false, false, false, false, false, false, false, false, false, false, false, false, false, false, false] rfl rfl (any_of HT_.out (by kernel_rfl)) (fun _ _ _ h => h) (Or.inl ⟨by rfl, ?_⟩) ?_ ?_
                        rotate_left
                        ·intro w'
                         go_simp
                         with_reducible rfl
                        rotate_left
                        ·simp only [Act.put, List.setIfInBounds_toArray, List.set_cons_zero, List.set_cons_succ, i64_w, i32_w]
                         rfl
                        refine take_ (i := 15) (N := some 131) (v := ?_) (a' := ?_) #[true, true, true, true, true, true, true, true, true, true, true, true, true, true, true, true, false, false, true, false, false, false, false, false, false, false, false, false, false, false, false, false, false, false, false, false] rfl rfl (take_ofW HT_.out HW_.out (by kernel_rfl)) (fun _ _ _ h => h) (Or.inl ⟨by rfl, ?_⟩) hHeld ?_ ?_
                        rotate_left
                        ·rintro w' ⟨s0, s1, s2, s3, s4, s5, s6, s7⟩
                         go_simp
                         with_reducible rfl
                        rotate_left
                        ·simp only [Act.put, List.setIfInBounds_toArray, List.set_cons_zero, List.set_cons_succ, i64_w, i32_w]
                         rfl
                        refine pure_ (i := 16) (N := some 132) (v := ?_) (a' := ?_) #[true, true, true, true, true, true, true, true, true, true, true, true, true, true, true, true, true, false, true, false, false, false, false, false, false, false, false, false, false, false, false, false, false, false, false, false] rfl rfl (any_of HT_.out (by kernel_rfl)) (fun _ _ _ h => h) (Or.inl ⟨by rfl, ?_⟩) ?_ ?_
                        rotate_left
                        ·intro w'
                         go_simp
                         with_reducible rfl
                        rotate_left
                        ·simp only [Act.put, List.setIfInBounds_toArray, List.set_cons_zero, List.set_cons_succ, i64_w, i32_w]
                         rfl
                        refine take_ (i := 17) (N := some 133) (v := ?_) (a' := ?_) #[true, true, true, true, true, true, true, true, true, true, true, true, true, true, true, true, true, true, true, false, false, false, false, false, false, false, false, false, false, false, false, false, false, false, false, false] rfl rfl (take_ofW HT_.out HW_.out (by kernel_rfl)) (fun _ _ _ h => h) (Or.inl ⟨by rfl, ?_⟩) hHeld ?_ ?_
                        rotate_left
                        ·rintro w' ⟨s0, s1, s2, s3, s4, s5, s6, s7⟩
                         go_simp
                         with_reducible rfl
                        rotate_left
                        ·simp only [Act.put, List.setIfInBounds_toArray, List.set_cons_zero, List.set_cons_succ, i64_w, i32_w]
                         rfl
                        refine take_ (i := 19) (N := some 135) (v := ?_) (a' := ?_) #[true, true, true, true, true, true, true, true, true, true, true, true, true, true, true, true, true, true, true, true, false, false, false, false, false, false, false, false, false, false, false, false, false, false, false, false] rfl rfl (take_ofW HT_.out HW_.out (by kernel_rfl)) (fun _ _ _ h => h) (Or.inl ⟨by rfl, ?_⟩) hHeld ?_ ?_
                        rotate_left
                        ·rintro w' ⟨s0, s1, s2, s3, s4, s5, s6, s7⟩
                         go_simp
                         with_reducible rfl
                        rotate_left
                        ·simp only [Act.put, List.setIfInBounds_toArray, List.set_cons_zero, List.set_cons_succ, i64_w, i32_w]
                         rfl
                        refine pure_ (i := 20) (N := some 136) (v := ?_) (a' := ?_) #[true, true, true, true, true, true, true, true, true, true, true, true, true, true, true, true, true, true, true, true, true, false, false, false, false, false, false, false, false, false, false, false, false, false, false, false] rfl rfl (any_of HT_.out (by kernel_rfl)) (fun _ _ _ h => h) (Or.inl ⟨by rfl, ?_⟩) ?_ ?_
                        rotate_left
                        ·intro w'
                         go_simp
                         with_reducible rfl
                        rotate_left
                        ·simp only [Act.put, List.setIfInBounds_toArray, List.set_cons_zero, List.set_cons_succ, i64_w, i32_w]
                         rfl
                        refine take_ (i := 21) (N := some 137) (v := ?_) (a' := ?_) #[true, true, true, true, true, true, true, true, true, true, true, true, true, true, true, true, true, true, true, true, true, true, false, false, false, false, false, false, false, false, false, false, false, false, false, false] rfl rfl (take_ofW HT_.out HW_.out (by kernel_rfl)) (fun _ _ _ h => h) (Or.inl ⟨by rfl, ?_⟩) hHeld ?_ ?_
                        rotate_left
                        ·rintro w' ⟨s0, s1, s2, s3, s4, s5, s6, s7⟩
                         go_simp
                         with_reducible rfl
                        rotate_left
                        ·simp only [Act.put, List.setIfInBounds_toArray, List.set_cons_zero, List.set_cons_succ, i64_w, i32_w]
                         rfl
                        refine pure_ (i := 22) (N := some 138) (v := ?_) (a' := ?_) #[true, true, true, true, true, true, true, true, true, true, true, true, true, true, true, true, true, true, true, true, true, true, true, false, false, false, false, false, false, false, false, false, false, false, false, false] rfl rfl (any_of HT_.out (by kernel_rfl)) (fun _ _ _ h => h) (Or.inl ⟨by rfl, ?_⟩) ?_ ?_
                        rotate_left
                        ·intro w'
                         go_simp
                         with_reducible rfl
                        rotate_left
                        ·simp only [Act.put, List.setIfInBounds_toArray, List.set_cons_zero, List.set_cons_succ, i64_w, i32_w]
                         rfl
                        refine pure_ (i := 23) (N := some 139) (v := ?_) (a' := ?_) #[true, true, true, true, true, true, true, true, true, true, true, true, true, true, true, true, true, true, true, true, true, true, true, true, false, false, false, false, false, false, false, false, false, false, false, false] rfl rfl (any_of HT_.out (by kernel_rfl)) (fun _ _ _ h => h) (Or.inl ⟨by rfl, ?_⟩) ?_ ?_
                        rotate_left
                        ·intro w'
                         go_simp
                         with_reducible rfl
                        rotate_left
                        ·simp only [Act.put, List.setIfInBounds_toArray, List.set_cons_zero, List.set_cons_succ, i64_w, i32_w]
                         rfl
                        refine pure_ (i := 24) (N := some 140) (v := ?_) (a' := ?_) #[true, true, true, true, true, true, true, true, true, true, true, true, true, true, true, true, true, true, true, true, true, true, true, true, true, false, false, false, false, false, false, false, false, false, false, false] rfl rfl (any_of HT_.out (by kernel_rfl)) (fun _ _ _ h => h) (Or.inl ⟨by rfl, ?_⟩) ?_ ?_
                        rotate_left
                        ·intro w'
                         go_simp
                         with_reducible rfl
                        rotate_left
                        ·simp only [Act.put, List.setIfInBounds_toArray, List.set_cons_zero, List.set_cons_succ, i64_w, i32_w]
                         rfl
                        refine pure_ (i := 25) (N := some 141) (v := ?_) (a' := ?_) #[true, true, true, true, true, true, true, true, true, true, true, true, true, true, true, true, true, true, true, true, true, true, true, true, true, true, false, false, false, false, false, false, false, false, false, false] rfl rfl (any_of HT_.out (by kernel_rfl)) (fun _ _ _ h => h) (Or.inl ⟨by rfl, ?_⟩) ?_ ?_
                        rotate_left
                        ·intro w'
                         go_simp
                         with_reducible rfl
                        rotate_left
                        ·simp only [Act.put, List.setIfInBounds_toArray, List.set_cons_zero, List.set_cons_succ, i64_w, i32_w]
                         rfl
                        refine pure_ (i := 26) (N := some 142) (v := ?_) (a' := ?_) #[true, true, true, true, true, true, true, true, true, true, true, true, true, true, true, true, true, true, true, true, true, true, true, true, true, true, true, false, false, false, false, false, false, false, false, false] rfl rfl (any_of HT_.out (by kernel_rfl)) (fun _ _ _ h => h) (Or.inl ⟨by rfl, ?_⟩) ?_ ?_
                        rotate_left
                        ·intro w'
                         go_simp
                         with_reducible rfl
                        rotate_left
                        ·simp only [Act.put, List.setIfInBounds_toArray, List.set_cons_zero, List.set_cons_succ, i64_w, i32_w]
                         rfl
                        refine pure_ (i := 30) (N := some 146) (v := ?_) (a' := ?_) #[true, true, true, true, true, true, true, true, true, true, true, true, true, true, true, true, true, true, true, true, true, true, true, true, true, true, true, false, false, false, true, false, false, false, false, false] rfl rfl (any_of HT_.out (by kernel_rfl)) (fun _ _ _ h => h) (Or.inl ⟨by rfl, ?_⟩) ?_ ?_
                        rotate_left
                        ·intro w'
                         go_simp
                         with_reducible rfl
                        rotate_left
                        ·simp only [Act.put, List.setIfInBounds_toArray, List.set_cons_zero, List.set_cons_succ, i64_w, i32_w]
                         rfl
                        refine take_ (i := 27) (N := some 143) (v := ?_) (a' := ?_) #[true, true, true, true, true, true, true, true, true, true, true, true, true, true, true, true, true, true, true, true, true, true, true, true, true, true, true, true, false, false, true, false, false, false, false, false] rfl rfl (take_ofW HT_.out HW_.out (by kernel_rfl)) (fun _ _ _ h => h) (Or.inl ⟨by rfl, ?_⟩) hHeld ?_ ?_
                        rotate_left
                        ·rintro w' ⟨s0, s1, s2, s3, s4, s5, s6, s7⟩
                         go_simp
                         with_reducible rfl
                        rotate_left
                        ·simp only [Act.put, List.setIfInBounds_toArray, List.set_cons_zero, List.set_cons_succ, i64_w, i32_w]
                         rfl
                        refine pure_ (i := 28) (N := some 144) (v := ?_) (a' := ?_) #[true, true, true, true, true, true, true, true, true, true, true, true, true, true, true, true, true, true, true, true, true, true, true, true, true, true, true, true, true, false, true, false, false, false, false, false] rfl rfl (any_of HT_.out (by kernel_rfl)) (fun _ _ _ h => h) (Or.inl ⟨by rfl, ?_⟩) ?_ ?_
                        rotate_left
                        ·intro w'
                         go_simp
                         with_reducible rfl
                        rotate_left
                        ·simp only [Act.put, List.setIfInBounds_toArray, List.set_cons_zero, List.set_cons_succ, i64_w, i32_w]
                         rfl
                        refine take_ (i := 29) (N := some 145) (v := ?_) (a' := ?_) #[true, true, true, true, true, true, true, true, true, true, true, true, true, true, true, true, true, true, true, true, true, true, true, true, true, true, true, true, true, true, true, false, false, false, false, false] rfl rfl (take_ofW HT_.out HW_.out (by kernel_rfl)) (fun _ _ _ h => h) (Or.inl ⟨by rfl, ?_⟩) hHeld ?_ ?_
                        rotate_left
                        ·rintro w' ⟨s0, s1, s2, s3, s4, s5, s6, s7⟩
                         go_simp
                         with_reducible rfl
                        rotate_left
                        ·simp only [Act.put, List.setIfInBounds_toArray, List.set_cons_zero, List.set_cons_succ, i64_w, i32_w]
                         rfl
                        refine take_ (i := 31) (N := some 147) (v := ?_) (a' := ?_) #[true, true, true, true, true, true, true, true, true, true, true, true, true, true, true, true, true, true, true, true, true, true, true, true, true, true, true, true, true, true, true, true, false, false, false, false] rfl rfl (take_ofW HT_.out HW_.out (by kernel_rfl)) (fun _ _ _ h => h) (Or.inl ⟨by rfl, ?_⟩) hHeld ?_ ?_
                        rotate_left
                        ·rintro w' ⟨s0, s1, s2, s3, s4, s5, s6, s7⟩
                         go_simp
                         with_reducible rfl
                        rotate_left
                        ·simp only [Act.put, List.setIfInBounds_toArray, List.set_cons_zero, List.set_cons_succ, i64_w, i32_w]
                         rfl
                        refine pure_ (i := 32) (N := some 148) (v := ?_) (a' := ?_) #[true, true, true, true, true, true, true, true, true, true, true, true, true, true, true, true, true, true, true, true, true, true, true, true, true, true, true, true, true, true, true, true, true, false, false, false] rfl rfl (any_of HT_.out (by kernel_rfl)) (fun _ _ _ h => h) (Or.inl ⟨by rfl, ?_⟩) ?_ ?_
                        rotate_left
                        ·intro w'
                         go_simp
                         with_reducible rfl
                        rotate_left
                        ·simp only [Act.put, List.setIfInBounds_toArray, List.set_cons_zero, List.set_cons_succ, i64_w, i32_w]
                         rfl
                        refine take_ (i := 33) (N := some 149) (v := ?_) (a' := ?_) #[true, true, true, true, true, true, true, true, true, true, true, true, true, true, true, true, true, true, true, true, true, true, true, true, true, true, true, true, true, true, true, true, true, true, false, false] rfl rfl (take_ofW HT_.out HW_.out (by kernel_rfl)) (fun _ _ _ h => h) (Or.inl ⟨by rfl, ?_⟩) hHeld ?_ ?_
                        rotate_left
                        ·rintro w' ⟨s0, s1, s2, s3, s4, s5, s6, s7⟩
                         go_simp
                         with_reducible rfl
                        rotate_left
                        ·simp only [Act.put, List.setIfInBounds_toArray, List.set_cons_zero, List.set_cons_succ, i64_w, i32_w]
                         rfl
                        refine pure_ (i := 34) (N := some 150) (v := ?_) (a' := ?_) #[true, true, true, true, true, true, true, true, true, true, true, true, true, true, true, true, true, true, true, true, true, true, true, true, true, true, true, true, true, true, true, true, true, true, true, false] rfl rfl (any_of HT_.out (by kernel_rfl)) (fun _ _ _ h => h) (Or.inl ⟨by rfl, ?_⟩) ?_ ?_
                        rotate_left
                        ·intro w'
                         go_simp
                         with_reducible rfl
                        rotate_left
                        ·simp only [Act.put, List.setIfInBounds_toArray, List.set_cons_zero, List.set_cons_succ, i64_w, i32_w]
                         rfl
                        refine pure_ (i := 35) (N := some 151) (v := ?_) (a' := ?_) #[true, true, true, true, true, true, true, true, true, true, true, true, true, true, true, true, true, true, true, true, true, true, true, true, true, true, true, true, true, true, true, true, true, true, true, true] rfl rfl (any_of HT_.out (by kernel_rfl)) (fun _ _ _ h => h) (Or.inl ⟨by rfl, ?_⟩) ?_ ?_
                        rotate_left
                        ·intro w'
                         go_simp
                         with_reducible rfl
                        rotate_left
                        ·simp only [Act.put, List.setIfInBounds_toArray, List.set_cons_zero, List.set_cons_succ, i64_w, i32_w]
                         rfl
                        refine done_ (done_of HT_.out (by kernel_rfl)) ?_
                        try go_wp2
                        go_meet
                        case rel => exact ⟨_, H', ⟨by have := HJ9.out; have := HK2.out; first | omega | exact Nat.le_refl _⟩, ⟨by (with_reducible repeat (first | apply Kd.S_alloc | apply Kd.S_drewN | apply Kd.S_drew)); exact HO_5.out⟩, ⟨by (with_reducible repeat (first | apply Kd.S_alloc | apply Kd.S_drewN | apply Kd.S_drew)); exact HO_6.out⟩, ⟨by repeat (first | (with_reducible first | exact HB.out | apply below_alloc | apply pw_below_drewN | apply below_drew1 | refine below_set ?_ GE345.out | refine below_set ?_ GE346.out) | exact HB.out)⟩⟩
                      ·rw [if_neg c97] at H
                       exact absurd H (by simp)
                     ·rw [if_neg c96] at H
                      exact absurd H (by simp)
                    ·rw [if_neg c95] at H
                     exact absurd H (by simp)
                   ·rw [if_neg c94] at H
                    exact absurd H (by simp)
                 ·rw [if_neg c82] at H
                  exact absurd H (by simp)
                ·rw [if_neg c81] at H
                 exact absurd H (by simp)
               ·rw [if_neg c80] at H
                exact absurd H (by simp)
              ·rw [if_neg c79] at H
               exact absurd H (by simp)
           ·rw [if_neg c56] at H
            exact absurd H (by simp)
          ·rw [if_neg c55] at H
           exact absurd H (by simp)
         ·replace c54 := Bool.eq_false_iff.mpr c54
          subst c54
          have H1 : (laws_FnUncrossing.j2 k2 t319 t322 t323 t329) = some r := by rw [if_neg (show ¬ (false = true) by decide)] at H; exact H
          clear H
          have H := H1
          clear H1
          have H' := Aside0.mk H
          clear H
          go_wp2
          go_meet
          case rel => exact ⟨_, H', ⟨by have := HJ9.out; have := HK2.out; first | omega | exact Nat.le_refl _⟩, ⟨by (with_reducible repeat (first | apply Kd.S_alloc | apply Kd.S_drewN | apply Kd.S_drew)); exact HO_5.out⟩, ⟨by (with_reducible repeat (first | apply Kd.S_alloc | apply Kd.S_drewN | apply Kd.S_drew)); exact HO_6.out⟩, ⟨by repeat (first | (with_reducible first | exact HB.out | apply below_alloc | apply pw_below_drewN | apply below_drew1) | exact HB.out)⟩⟩
        case rest =>
         clear HC53
         try clear p2
         try clear c3
         try clear p3
         try clear q3
         try clear hx3
         try clear c5
         try clear c7
         try clear c8
         try clear c9
         try clear c34
         try clear p34
         try clear q34
         try clear hx34
         try clear p35
         try clear q35
         try clear hx35
         try clear c54
         try clear c55
         try clear c56
         try clear c79
         try clear c80
         try clear c81
         try clear c82
         try clear c94
         try clear c95
         try clear c96
         try clear c97
         try clear hx347_0
         try clear hx348_0
         try clear hx349_0
         try clear hx350_0
         try clear p347
         try clear p348
         try clear p349
         try clear p350
         try clear q347
         try clear q348
         try clear q349
         try clear q350
         obtain ⟨kq, HA, HJ52, HO_5, HO_6, HB⟩ := hcut
         cases kq with
         | zero => exact absurd HA.out (by simp [laws_FnUncrossing.j2])
         | succ kj52 =>
          have H := HA.out
          clear HA
          simp only [laws_FnUncrossing.j2] at H
          by_cases c119 : t329 = true
          ·subst c119
           have H1 : ((impl_PlanCost.f kj52 t319).bind fun bt351 => ((impl_PlanCost.f kj52 t322).bind fun bt353 => ((laws_pMargins.f kj52 t319).bind fun bt355 => ((laws_pMargins.f kj52 t322).bind fun bt361 => (if bt351.2 = true then (if bt353.2 = true then (if (wrap64 (bt351.1 - bt353.1)) = t323 then (if t323 < 0 then none else ((laws_pSame.f kj52 bt361.1 bt355.1).bind fun t367 => (if t367 = true then ((laws_pSame.f kj52 bt361.2 bt355.2).bind fun t368 => (laws_FnUncrossing.j3 kj52 t319 bt355.1 bt355.2 (!t368))) else none))) else none) else none) else none))))) = some r := by rw [if_pos rfl] at H; exact H
           clear H
           have H := H1
           clear H1
           replace H := Option.bind_eq_some_iff.mp H
           obtain ⟨⟨t351, t352⟩, A1200, H⟩ := H
           replace H : ((impl_PlanCost.f kj52 t322).bind fun bt353 => ((laws_pMargins.f kj52 t319).bind fun bt355 => ((laws_pMargins.f kj52 t322).bind fun bt361 => (if t352 = true then (if bt353.2 = true then (if (wrap64 (t351 - bt353.1)) = t323 then (if t323 < 0 then none else ((laws_pSame.f kj52 bt361.1 bt355.1).bind fun t367 => (if t367 = true then ((laws_pSame.f kj52 bt361.2 bt355.2).bind fun t368 => (laws_FnUncrossing.j3 kj52 t319 bt355.1 bt355.2 (!t368))) else none))) else none) else none) else none)))) = some r := H
           have A120 := Aside0.mk A1200
           clear A1200
           replace H := Option.bind_eq_some_iff.mp H
           obtain ⟨⟨t353, t354⟩, A1210, H⟩ := H
           replace H : ((laws_pMargins.f kj52 t319).bind fun bt355 => ((laws_pMargins.f kj52 t322).bind fun bt361 => (if t352 = true then (if t354 = true then (if (wrap64 (t351 - t353)) = t323 then (if t323 < 0 then none else ((laws_pSame.f kj52 bt361.1 bt355.1).bind fun t367 => (if t367 = true then ((laws_pSame.f kj52 bt361.2 bt355.2).bind fun t368 => (laws_FnUncrossing.j3 kj52 t319 bt355.1 bt355.2 (!t368))) else none))) else none) else none) else none))) = some r := H
           have A121 := Aside0.mk A1210
           clear A1210
           replace H := Option.bind_eq_some_iff.mp H
           obtain ⟨⟨t355, t356⟩, A1220, H⟩ := H
           replace H : ((laws_pMargins.f kj52 t322).bind fun bt361 => (if t352 = true then (if t354 = true then (if (wrap64 (t351 - t353)) = t323 then (if t323 < 0 then none else ((laws_pSame.f kj52 bt361.1 t355).bind fun t367 => (if t367 = true then ((laws_pSame.f kj52 bt361.2 t356).bind fun t368 => (laws_FnUncrossing.j3 kj52 t319 t355 t356 (!t368))) else none))) else none) else none) else none)) = some r := H
           have A122 := Aside0.mk A1220
           clear A1220
           replace H := Option.bind_eq_some_iff.mp H
           obtain ⟨⟨t361, t362⟩, A1230, H⟩ := H
           replace H : (if t352 = true then (if t354 = true then (if (wrap64 (t351 - t353)) = t323 then (if t323 < 0 then none else ((laws_pSame.f kj52 t361 t355).bind fun t367 => (if t367 = true then ((laws_pSame.f kj52 t362 t356).bind fun t368 => (laws_FnUncrossing.j3 kj52 t319 t355 t356 (!t368))) else none))) else none) else none) else none) = some r := H
           have A123 := Aside0.mk A1230
           clear A1230
           have HC124 := Aside0.mk H
           clear H
           go_upto_region 26 with (first | ((with_reducible refine gate_callee (f := 18) rfl ?_); refine goesL_ (some 156) rfl rfl Try.func18 (by kernel_rfl) rfl #[.slice Ao12 t319.length co12] rfl (by (try simp only [List.map_toArray, List.map_cons, List.map_nil]); first | done | rfl | (simp only [List.length_drop, List.length_take]; rfl)) ?_; (with_reducible refine (impl_PlanCost.calls kj52 _ _ t319 t351 t352 _ ?side1 ?side2 A120.out).mono ?_); (case side1 => repeat (first | exact (Kd.S_reads' HO_5.out).2.2 | (with_reducible refine Kd.C_alloc ?_ _) | (with_reducible refine Kd.C_drewN ?_ _) | (with_reducible refine Kd.C_drew ?_))); (case side2 => exact (Kd.S_reads' HO_5.out).2.1); rintro e w125 ⟨rfl, hb⟩; refine ⟨_, rfl, ?_⟩; have n0_ := Aside0.mk (Kd.S_below (by (with_reducible repeat (first | apply Kd.S_alloc | apply Kd.S_drewN | apply Kd.S_drew)); exact HO_5.out) hb); have n1_ := Aside0.mk (Kd.S_below (by (with_reducible repeat (first | apply Kd.S_alloc | apply Kd.S_drewN | apply Kd.S_drew)); exact HO_6.out) hb); have n2_ := Aside0.mk (below_step (by repeat (first | (with_reducible first | exact HB.out | apply below_alloc | apply pw_below_drewN | apply below_drew1) | exact HB.out)) hb); clear HO_5; clear HO_6; clear HB; have HO_5 := n0_; have HO_6 := n1_; have HB := n2_; clear n0_ n1_ n2_; (try clear hb); (try clear hb2); (try clear hk); (try clear hi); obtain ⟨Ao126, co126, eo126⟩ := Kd.S_slice HO_6.out; subst eo126) | ((with_reducible refine gate_callee (f := 18) rfl ?_); refine goesL_ (some 161) rfl rfl Try.func18 (by kernel_rfl) rfl #[.slice Ao126 t322.length co126] rfl (by (try simp only [List.map_toArray, List.map_cons, List.map_nil]); first | done | rfl | (simp only [List.length_drop, List.length_take]; rfl)) ?_; (with_reducible refine (impl_PlanCost.calls kj52 _ _ t322 t353 t354 _ ?side1 ?side2 A121.out).mono ?_); (case side1 => repeat (first | exact (Kd.S_reads' HO_6.out).2.2 | (with_reducible refine Kd.C_alloc ?_ _) | (with_reducible refine Kd.C_drewN ?_ _) | (with_reducible refine Kd.C_drew ?_))); (case side2 => exact (Kd.S_reads' HO_6.out).2.1); rintro e w127 ⟨rfl, hb⟩; refine ⟨_, rfl, ?_⟩; have n0_ := Aside0.mk (Kd.S_below (by (with_reducible repeat (first | apply Kd.S_alloc | apply Kd.S_drewN | apply Kd.S_drew)); exact HO_5.out) hb); have n1_ := Aside0.mk (Kd.S_below (by (with_reducible repeat (first | apply Kd.S_alloc | apply Kd.S_drewN | apply Kd.S_drew)); exact HO_6.out) hb); have n2_ := Aside0.mk (below_step (by repeat (first | (with_reducible first | exact HB.out | apply below_alloc | apply pw_below_drewN | apply below_drew1) | exact HB.out)) hb); clear HO_5; clear HO_6; clear HB; have HO_5 := n0_; have HO_6 := n1_; have HB := n2_; clear n0_ n1_ n2_; (try clear hb); (try clear hb2); (try clear hk); (try clear hi)) | ((with_reducible refine gate_callee (f := 22) rfl ?_); refine goesL_ (some 166) rfl rfl Try.func22 (by kernel_rfl) rfl #[.slice Ao12 t319.length co12] rfl (by (try simp only [List.map_toArray, List.map_cons, List.map_nil]); first | done | rfl | (simp only [List.length_drop, List.length_take]; rfl)) ?_; (with_reducible refine (laws_pMargins.calls kj52 _ _ t319 t355 t356 _ ?side1 ?side2 A122.out).mono ?_); (case side1 => repeat (first | exact (Kd.S_reads' HO_5.out).2.2 | (with_reducible refine Kd.C_alloc ?_ _) | (with_reducible refine Kd.C_drewN ?_ _) | (with_reducible refine Kd.C_drew ?_))); (case side2 => exact (Kd.S_reads' HO_5.out).2.1); rintro e w128 ⟨v357, v359, rfl, ho0, ho1, hb⟩; refine ⟨_, rfl, ?_⟩; have n0_ := Aside0.mk (Kd.S_mono (Kd.S_told (Kd.S_told (Kd.S_old (by (with_reducible repeat (first | apply Kd.S_alloc | apply Kd.S_drewN | apply Kd.S_drew)); exact HO_5.out) hb) (Kd.R_base ho0)) (Kd.R_base ho1)) (fun _ h_ => h_.1)); have n1_ := Aside0.mk (Kd.S_mono (Kd.S_told (Kd.S_told (Kd.S_old (by (with_reducible repeat (first | apply Kd.S_alloc | apply Kd.S_drewN | apply Kd.S_drew)); exact HO_6.out) hb) (Kd.R_base ho0)) (Kd.R_base ho1)) (fun _ h_ => h_.1)); have n2_ := Aside0.mk (Kd.R_lower ho0 (below_size (by repeat (first | (with_reducible first | exact HB.out | apply below_alloc | apply pw_below_drewN | apply below_drew1) | exact HB.out)))); have n3_ := Aside0.mk (Kd.R_lower ho1 (below_size (by repeat (first | (with_reducible first | exact HB.out | apply below_alloc | apply pw_below_drewN | apply below_drew1) | exact HB.out)))); have n4_ := Aside0.mk (below_step (by repeat (first | (with_reducible first | exact HB.out | apply below_alloc | apply pw_below_drewN | apply below_drew1) | exact HB.out)) hb); clear HO_5; clear HO_6; clear HB; have HO_5 := n0_; have HO_6 := n1_; have HO358 := n2_; have HO360 := n3_; have HB := n4_; clear n0_ n1_ n2_ n3_ n4_; (try clear hb); (try clear hb2); (try clear hk); (try clear hi); (try clear ho0); (try clear ho1)) | ((with_reducible refine gate_callee (f := 22) rfl ?_); refine goesL_ (some 171) rfl rfl Try.func22 (by kernel_rfl) rfl #[.slice Ao126 t322.length co126] rfl (by (try simp only [List.map_toArray, List.map_cons, List.map_nil]); first | done | rfl | (simp only [List.length_drop, List.length_take]; rfl)) ?_; (with_reducible refine (laws_pMargins.calls kj52 _ _ t322 t361 t362 _ ?side1 ?side2 A123.out).mono ?_); (case side1 => repeat (first | exact (Kd.S_reads' HO_6.out).2.2 | (with_reducible refine Kd.C_alloc ?_ _) | (with_reducible refine Kd.C_drewN ?_ _) | (with_reducible refine Kd.C_drew ?_))); (case side2 => exact (Kd.S_reads' HO_6.out).2.1); rintro e w129 ⟨v363, v365, rfl, ho0, ho1, hb⟩; refine ⟨_, rfl, ?_⟩; have n0_ := Aside0.mk (Kd.S_mono (Kd.S_told (Kd.S_told (Kd.S_old (by (with_reducible repeat (first | apply Kd.S_alloc | apply Kd.S_drewN | apply Kd.S_drew)); exact HO_5.out) hb) (Kd.R_base ho0)) (Kd.R_base ho1)) (fun _ h_ => h_.1)); have n1_ := Aside0.mk (Kd.S_mono (Kd.S_told (Kd.S_told (Kd.S_old (by (with_reducible repeat (first | apply Kd.S_alloc | apply Kd.S_drewN | apply Kd.S_drew)); exact HO_6.out) hb) (Kd.R_base ho0)) (Kd.R_base ho1)) (fun _ h_ => h_.1)); have n2_ := Aside0.mk (Kd.R_mono (Kd.R_told (Kd.R_told (Kd.R_old (by (with_reducible repeat (first | apply Kd.R_alloc | apply Kd.R_drewN | apply Kd.R_drew)); exact HO358.out) hb) (Kd.R_base ho0)) (Kd.R_base ho1)) (fun _ h_ => h_.1)); have n3_ := Aside0.mk (Kd.R_mono (Kd.R_told (Kd.R_told (Kd.R_old (by (with_reducible repeat (first | apply Kd.R_alloc | apply Kd.R_drewN | apply Kd.R_drew)); exact HO360.out) hb) (Kd.R_base ho0)) (Kd.R_base ho1)) (fun _ h_ => h_.1)); have n4_ := Aside0.mk (Kd.R_lower (Kd.R_new' (Kd.R_new' ho0 (Kd.R_lt (by (with_reducible repeat (first | apply Kd.R_alloc | apply Kd.R_drewN | apply Kd.R_drew)); exact HO358.out))) (Kd.R_lt (by (with_reducible repeat (first | apply Kd.R_alloc | apply Kd.R_drewN | apply Kd.R_drew)); exact HO360.out))) (below_size (by repeat (first | (with_reducible first | exact HB.out | apply below_alloc | apply pw_below_drewN | apply below_drew1) | exact HB.out)))); have n5_ := Aside0.mk (Kd.R_lower (Kd.R_new' (Kd.R_new' ho1 (Kd.R_lt (by (with_reducible repeat (first | apply Kd.R_alloc | apply Kd.R_drewN | apply Kd.R_drew)); exact HO358.out))) (Kd.R_lt (by (with_reducible repeat (first | apply Kd.R_alloc | apply Kd.R_drewN | apply Kd.R_drew)); exact HO360.out))) (below_size (by repeat (first | (with_reducible first | exact HB.out | apply below_alloc | apply pw_below_drewN | apply below_drew1) | exact HB.out)))); have n6_ := Aside0.mk (below_step (by repeat (first | (with_reducible first | exact HB.out | apply below_alloc | apply pw_below_drewN | apply below_drew1) | exact HB.out)) hb); clear HO_5; clear HO_6; clear HO358; clear HO360; clear HB; have HO_5 := n0_; have HO_6 := n1_; have HO358 := n2_; have HO360 := n3_; have HO364 := n4_; have HO366 := n5_; have HB := n6_; clear n0_ n1_ n2_ n3_ n4_ n5_ n6_; (try clear hb); (try clear hb2); (try clear hk); (try clear hi); (try clear ho0); (try clear ho1)))
           (try simp only [Act.put, List.setIfInBounds_toArray, List.set_cons_zero, List.set_cons_succ])
           go_cut [202] (fun v202 wc => ∃ (kq : Nat) (x202_123 : Bool), v202 = .bool x202_123 ∧ Aside0 (laws_FnUncrossing.j3 kq t319 t355 t356 x202_123 = some r) ∧ Aside0 (kq ≤ kj52) ∧ Aside0 (Kd.S (Kd.slice 3 (Kd.int .i64)) 24 wc w.heap.size (fun k_ => some k_ ≠ (v357 : Value).ownBlock ∧ some k_ ≠ (v359 : Value).ownBlock) (.slice Ao12 t319.length co12) t319) ∧ Aside0 (Kd.R (Kd.int .i64) 3 wc w.heap.size (fun k_ => some k_ ≠ (v359 : Value).ownBlock) v357 t355) ∧ Aside0 (Kd.R (Kd.int .i64) 3 wc w.heap.size (fun k_ => some k_ ≠ (v357 : Value).ownBlock) v359 t356) ∧ Aside0 (Below w.heap.size w wc))
           case first =>
            have H := HC124.out
            clear HC124
            by_cases c130 : t352 = true
            ·subst c130
             have H1 : (if t354 = true then (if (wrap64 (t351 - t353)) = t323 then (if t323 < 0 then none else ((laws_pSame.f kj52 t361 t355).bind fun t367 => (if t367 = true then ((laws_pSame.f kj52 t362 t356).bind fun t368 => (laws_FnUncrossing.j3 kj52 t319 t355 t356 (!t368))) else none))) else none) else none) = some r := by rw [if_pos rfl] at H; exact H
             clear H
             have H := H1
             clear H1
             by_cases c131 : t354 = true
             ·subst c131
              have H1 : (if (wrap64 (t351 - t353)) = t323 then (if t323 < 0 then none else ((laws_pSame.f kj52 t361 t355).bind fun t367 => (if t367 = true then ((laws_pSame.f kj52 t362 t356).bind fun t368 => (laws_FnUncrossing.j3 kj52 t319 t355 t356 (!t368))) else none))) else none) = some r := by rw [if_pos rfl] at H; exact H
              clear H
              have H := H1
              clear H1
              by_cases c132 : (wrap64 (t351 - t353)) = t323
              ·rw [if_pos c132] at H
               have c132b0 : ((wrap64 (t351 - t353)) == t323) = true := beq_iff_eq.mpr c132
               have c132b1 : ((wrap64 (t351 - t353)) != t323) = false := bne_eq_false_iff_eq.mpr c132
               clear c132
               (first | rw [c132b0] | (simp only [i64_w, i32_w]; rw [c132b0]) | skip)
               by_cases c133 : t323 < 0
               ·rw [if_pos c133] at H
                cases H
               ·rw [if_neg c133] at H
                have c133b0 : decide (t323 < 0) = false := decide_eq_false c133
                clear c133
                replace H := Option.bind_eq_some_iff.mp H
                obtain ⟨t367, A1340, H⟩ := H
                replace H : (if t367 = true then ((laws_pSame.f kj52 t362 t356).bind fun t368 => (laws_FnUncrossing.j3 kj52 t319 t355 t356 (!t368))) else none) = some r := H
                have A134 := Aside0.mk A1340
                clear A1340
                by_cases c135 : t367 = true
                ·subst c135
                 have H1 : ((laws_pSame.f kj52 t362 t356).bind fun t368 => (laws_FnUncrossing.j3 kj52 t319 t355 t356 (!t368))) = some r := by rw [if_pos rfl] at H; exact H
                 clear H
                 have H := H1
                 clear H1
                 replace H := Option.bind_eq_some_iff.mp H
                 obtain ⟨t368, A1360, H⟩ := H
                 replace H : (laws_FnUncrossing.j3 kj52 t319 t355 t356 (!t368)) = some r := H
                 have A136 := Aside0.mk A1360
                 clear A1360
                 have H' := Aside0.mk H
                 clear H
                 obtain ⟨Ao137, co137, eo137⟩ := Kd.R_slice HO364.out
                 subst eo137
                 obtain ⟨Ao138, co138, eo138⟩ := Kd.R_slice HO358.out
                 subst eo138
                 go_wp2_with (first | (go_at_call 28; (with_reducible refine (laws_pSame.calls kj52 _ _ t361 _ _ t355 true _ ?side1 ?side2 ?side3 ?side4 A134.out).mono ?_); (case side1 => repeat (first | exact (Kd.R_reads' HO364.out).2.2 | (with_reducible refine Kd.C_alloc ?_ _) | (with_reducible refine Kd.C_drewN ?_ _) | (with_reducible refine Kd.C_drew ?_))); (case side2 => exact (Kd.R_reads' HO364.out).2.1); (case side3 => repeat (first | exact (Kd.R_reads' HO358.out).2.2 | (with_reducible refine Kd.C_alloc ?_ _) | (with_reducible refine Kd.C_drewN ?_ _) | (with_reducible refine Kd.C_drew ?_))); (case side4 => exact (Kd.R_reads' HO358.out).2.1); rintro e w' ⟨rfl, ⟨nd, rfl⟩⟩; obtain ⟨Ao139, co139, eo139⟩ := Kd.R_slice HO366.out; subst eo139; obtain ⟨Ao140, co140, eo140⟩ := Kd.R_slice HO360.out; subst eo140) | (go_at_call 28; (with_reducible refine (laws_pSame.calls kj52 _ _ t362 _ _ t356 t368 _ ?side1 ?side2 ?side3 ?side4 A136.out).mono ?_); (case side1 => repeat (first | exact (Kd.R_reads' HO366.out).2.2 | (with_reducible refine Kd.C_alloc ?_ _) | (with_reducible refine Kd.C_drewN ?_ _) | (with_reducible refine Kd.C_drew ?_))); (case side2 => exact (Kd.R_reads' HO366.out).2.1); (case side3 => repeat (first | exact (Kd.R_reads' HO360.out).2.2 | (with_reducible refine Kd.C_alloc ?_ _) | (with_reducible refine Kd.C_drewN ?_ _) | (with_reducible refine Kd.C_drew ?_))); (case side4 => exact (Kd.R_reads' HO360.out).2.1); rintro e w' ⟨rfl, ⟨nd, rfl⟩⟩))
                 go_meet
                 case rel => exact ⟨_, (!t368), (by first | rfl | (simp; done) | (simp [*]; done)), H', ⟨by have := HJ9.out; have := HK2.out; have := HJ52.out; first | omega | exact Nat.le_refl _⟩, ⟨by (with_reducible repeat (first | apply Kd.S_alloc | apply Kd.S_drewN | apply Kd.S_drew)); exact Kd.S_mono HO_5.out (fun _ hk => ⟨hk.1.1.1.2, hk.1.1.2⟩)⟩, ⟨by (with_reducible repeat (first | apply Kd.R_alloc | apply Kd.R_drewN | apply Kd.R_drew)); exact Kd.R_mono HO358.out (fun _ hk => hk.1.1)⟩, ⟨by (with_reducible repeat (first | apply Kd.R_alloc | apply Kd.R_drewN | apply Kd.R_drew)); exact Kd.R_mono HO360.out (fun _ hk => hk.1.1)⟩, ⟨by repeat (first | (with_reducible first | exact HB.out | apply below_alloc | apply pw_below_drewN | apply below_drew1) | exact HB.out)⟩⟩
                ·replace c135 := Bool.eq_false_iff.mpr c135
                 subst c135
                 have H1 : none = some r := by rw [if_neg (show ¬ (false = true) by decide)] at H; exact H
                 cases H1
              ·rw [if_neg c132] at H
               cases H
             ·replace c131 := Bool.eq_false_iff.mpr c131
              subst c131
              have H1 : none = some r := by rw [if_neg (show ¬ (false = true) by decide)] at H; exact H
              cases H1
            ·replace c130 := Bool.eq_false_iff.mpr c130
             subst c130
             have H1 : none = some r := by rw [if_neg (show ¬ (false = true) by decide)] at H; exact H
             cases H1
           case rest =>
            clear HC124
            try clear c1
            try clear c2
            try clear p2
            try clear c3
            try clear p3
            try clear q3
            try clear hx3
            try clear c5
            try clear p6
            try clear c7
            try clear c8
            try clear c9
            try clear c11
            try clear c13
            try clear c18
            try clear c22
            try clear c34
            try clear p34
            try clear q34
            try clear hx34
            try clear p35
            try clear q35
            try clear hx35
            try clear c54
            try clear c55
            try clear c56
            try clear p64
            try clear c79
            try clear c80
            try clear c81
            try clear c82
            try clear c94
            try clear c95
            try clear c96
            try clear c97
            try clear c119
            try clear c130
            try clear c131
            try clear c132
            try clear c132b0
            try clear c132b1
            try clear c133
            try clear c133b0
            try clear c135
            try clear hx347_0
            try clear hx348_0
            try clear hx349_0
            try clear hx350_0
            try clear p2
            try clear p3
            try clear p34
            try clear p347
            try clear p348
            try clear p349
            try clear p35
            try clear p350
            try clear q3
            try clear q34
            try clear q347
            try clear q348
            try clear q349
            try clear q35
            try clear q350
            obtain ⟨kq, x202_123, rfl, HA, HJ123, HO_5, HO_23, HO_24, HB⟩ := hcut
            cases kq with
            | zero => exact absurd HA.out (by simp [laws_FnUncrossing.j3])
            | succ kj123 =>
             have H := HA.out
             clear HA
             simp only [laws_FnUncrossing.j3] at H
             by_cases c143 : x202_123 = true
             ·subst c143
              rw [if_pos rfl] at H
              cases H
             ·replace c143 := Bool.eq_false_iff.mpr c143
              subst c143
              have H1 : ((impl_MonotonePlan.f kj123 t355 t356).bind fun bt369 => (if bt369.2 = true then (laws_FnUncrossing.l1 kj123 bt369.1 t319 0) else (some true))) = some r := by rw [if_neg (show ¬ (false = true) by decide)] at H; exact H
              clear H
              have H := H1
              clear H1
              replace H := Option.bind_eq_some_iff.mp H
              obtain ⟨⟨t369, t370⟩, A1440, H⟩ := H
              replace H : (if t370 = true then (laws_FnUncrossing.l1 kj123 t369 t319 0) else (some true)) = some r := H
              have A144 := Aside0.mk A1440
              clear A1440
              by_cases c145 : t370 = true
              ·subst c145
               have H1 : (laws_FnUncrossing.l1 kj123 t369 t319 0) = some r := by rw [if_pos rfl] at H; exact H
               clear H
               have H := H1
               clear H1
               have H' := Aside0.mk H
               clear H
               obtain ⟨Ao146, co146, eo146⟩ := Kd.R_slice HO_23.out
               subst eo146
               obtain ⟨Ao147, co147, eo147⟩ := Kd.R_slice HO_24.out
               subst eo147
               go_wp2_with (first | ((with_reducible refine gate_callee (f := 12) rfl ?_); refine goesL_ (some 206) rfl rfl Try.func12 (by kernel_rfl) rfl #[.slice Ao146 t355.length co146, .slice Ao147 t356.length co147] rfl (by (try simp only [List.map_toArray, List.map_cons, List.map_nil]); first | done | rfl | (simp only [List.length_drop, List.length_take]; rfl)) ?_; (with_reducible refine (impl_MonotonePlan.calls kj123 _ _ t355 _ _ t356 t369 true _ ?side1 ?side2 ?side3 ?side4 A144.out).mono ?_); (case side1 => repeat (first | exact (Kd.R_reads' HO_23.out).2.2 | (with_reducible refine Kd.C_alloc ?_ _) | (with_reducible refine Kd.C_drewN ?_ _) | (with_reducible refine Kd.C_drew ?_))); (case side2 => exact (Kd.R_reads' HO_23.out).2.1); (case side3 => repeat (first | exact (Kd.R_reads' HO_24.out).2.2 | (with_reducible refine Kd.C_alloc ?_ _) | (with_reducible refine Kd.C_drewN ?_ _) | (with_reducible refine Kd.C_drew ?_))); (case side4 => exact (Kd.R_reads' HO_24.out).2.1); rintro e w148 ⟨v371, rfl, ho0, hb⟩; refine ⟨_, rfl, ?_⟩; have n0_ := Aside0.mk (Kd.S_elder' (by (with_reducible repeat (first | apply Kd.S_alloc | apply Kd.S_drewN | apply Kd.S_drew)); exact HO_5.out) (Kd.S_base ho0) hb); have n1_ := Aside0.mk (Kd.R_below (by (with_reducible repeat (first | apply Kd.R_alloc | apply Kd.R_drewN | apply Kd.R_drew)); exact HO_23.out) hb); have n2_ := Aside0.mk (Kd.R_below (by (with_reducible repeat (first | apply Kd.R_alloc | apply Kd.R_drewN | apply Kd.R_drew)); exact HO_24.out) hb); have n3_ := Aside0.mk (Kd.S_lower (Kd.S_new' (Kd.S_new' (Kd.S_new' ho0 (Kd.S_lt (by (with_reducible repeat (first | apply Kd.S_alloc | apply Kd.S_drewN | apply Kd.S_drew)); exact HO_5.out))) (Kd.R_lt (by (with_reducible repeat (first | apply Kd.R_alloc | apply Kd.R_drewN | apply Kd.R_drew)); exact HO_23.out))) (Kd.R_lt (by (with_reducible repeat (first | apply Kd.R_alloc | apply Kd.R_drewN | apply Kd.R_drew)); exact HO_24.out))) (below_size (by repeat (first | (with_reducible first | exact HB.out | apply below_alloc | apply pw_below_drewN | apply below_drew1) | exact HB.out)))); have n4_ := Aside0.mk (below_step (by repeat (first | (with_reducible first | exact HB.out | apply below_alloc | apply pw_below_drewN | apply below_drew1) | exact HB.out)) hb); clear HO_5; clear HO_23; clear HO_24; clear HB; have HO_5 := n0_; have HO_23 := n1_; have HO_24 := n2_; have HO372 := n3_; have HB := n4_; clear n0_ n1_ n2_ n3_ n4_; (try clear hb); (try clear hb2); (try clear hk); (try clear hi); (try clear ho0)))
               go_loopg [29, 30] kj123 (fun kq v29 v30 w' => ∃ (x29_5 : List (List Int)) (x30_5 : Int), v30 = .int .i64 x30_5 ∧ Aside0 (laws_FnUncrossing.l1 kq t369 x29_5 x30_5 = some r) ∧ Aside0 (kq ≤ kj123) ∧ Aside0 (Kd.S (Kd.slice 3 (Kd.int .i64)) 24 w' w.heap.size (fun k_ => some k_ ≠ (v29 : Value).ownBlock) v371 t369) ∧ Aside0 (Kd.S (Kd.slice 3 (Kd.int .i64)) 24 w' w.heap.size (fun k_ => some k_ ≠ (v371 : Value).ownBlock) v29 x29_5) ∧ Aside0 (Below w.heap.size w w'))
               case atStart => exact ⟨(t319), (0), (by first | rfl | (simp; done) | (simp [*]; done)), H', ⟨Nat.le_refl _⟩, ⟨by (with_reducible repeat (first | apply Kd.S_alloc | apply Kd.S_drewN | apply Kd.S_drew)); exact Kd.S_mono HO372.out (fun _ hk => hk.1.1.2)⟩, ⟨by (with_reducible repeat (first | apply Kd.S_alloc | apply Kd.S_drewN | apply Kd.S_drew)); exact Kd.S_mono HO_5.out (fun _ hk => hk.2)⟩, ⟨by repeat (first | (with_reducible first | exact HB.out | apply below_alloc | apply pw_below_drewN | apply below_drew1) | exact HB.out)⟩⟩
               case round =>
                clear H'
                try clear c1
                try clear c2
                try clear p2
                try clear c3
                try clear p3
                try clear q3
                try clear hx3
                try clear c5
                try clear p6
                try clear c7
                try clear c8
                try clear c9
                try clear c11
                try clear c12
                try clear c13
                try clear c14
                try clear c18
                try clear c22
                try clear c34
                try clear p34
                try clear q34
                try clear hx34
                try clear p35
                try clear q35
                try clear hx35
                try clear c54
                try clear c55
                try clear c56
                try clear p64
                try clear c79
                try clear c80
                try clear c81
                try clear c82
                try clear c94
                try clear c95
                try clear c96
                try clear c97
                try clear c119
                try clear c130
                try clear c131
                try clear c132
                try clear c132b0
                try clear c132b1
                try clear c133
                try clear c133b0
                try clear c135
                try clear c143
                try clear c145
                try clear hx347_0
                try clear hx348_0
                try clear hx349_0
                try clear hx350_0
                try clear p2
                try clear p3
                try clear p34
                try clear p347
                try clear p348
                try clear p349
                try clear p35
                try clear p350
                try clear p6
                try clear p64
                try clear q3
                try clear q34
                try clear q347
                try clear q348
                try clear q349
                try clear q35
                try clear q350
                obtain ⟨x29_5, x30_5, rfl, HA, HK5, HO_27, HO_29, HB⟩ := hrel
                cases gk with
                | zero => exact absurd HA.out (by simp [laws_FnUncrossing.l1])
                | succ k5 =>
                 have H := HA.out
                 clear HA
                 simp only [laws_FnUncrossing.l1] at H
                 by_cases c149 : x30_5 < 30000
                 ·rw [if_pos c149] at H
                  have c149b0 : decide (x30_5 < 30000) = true := decide_eq_true c149
                  clear c149
                  replace H := Option.bind_eq_some_iff.mp H
                  obtain ⟨⟨t373, t374, t375⟩, A1500, H⟩ := H
                  replace H : (if t375 = true then (laws_FnUncrossing.l1 k5 t369 t373 (wrap64 (x30_5 + 1))) else ((laws_pSameRows.f k5 x29_5 t369).bind fun t378 => (some t378))) = some r := H
                  have A150 := Aside0.mk A1500
                  clear A1500
                  by_cases c151 : t375 = true
                  ·subst c151
                   have H1 : (laws_FnUncrossing.l1 k5 t369 t373 (wrap64 (x30_5 + 1))) = some r := by rw [if_pos rfl] at H; exact H
                   clear H
                   have H := H1
                   clear H1
                   have H' := Aside0.mk H
                   clear H
                   obtain ⟨Ao152, co152, eo152⟩ := Kd.S_slice HO_29.out
                   subst eo152
                   go_wp2_with (first | ((with_reducible refine gate_callee (f := 24) rfl ?_); refine goesL_ (some 218) rfl rfl Try.func24 (by kernel_rfl) rfl #[.slice Ao152 x29_5.length co152] rfl (by (try simp only [List.map_toArray, List.map_cons, List.map_nil]); first | done | rfl | (simp only [List.length_drop, List.length_take]; rfl)) ?_; (with_reducible refine (impl_Uncross.calls k5 _ _ x29_5 t373 t374 true _ ?side1 ?side2 A150.out).mono ?_); (case side1 => repeat (first | exact (Kd.S_reads' HO_29.out).2.2 | (with_reducible refine Kd.C_alloc ?_ _) | (with_reducible refine Kd.C_drewN ?_ _) | (with_reducible refine Kd.C_drew ?_))); (case side2 => exact (Kd.S_reads' HO_29.out).2.1); rintro e w153 ⟨v376, rfl, ho0, hb⟩; refine ⟨_, rfl, ?_⟩; have n0_ := Aside0.mk (Kd.S_elder' (by (with_reducible repeat (first | apply Kd.S_alloc | apply Kd.S_drewN | apply Kd.S_drew)); exact HO_27.out) (Kd.S_base ho0) hb); have n1_ := Aside0.mk (Kd.S_elder' (by (with_reducible repeat (first | apply Kd.S_alloc | apply Kd.S_drewN | apply Kd.S_drew)); exact HO_29.out) (Kd.S_base ho0) hb); have n2_ := Aside0.mk (Kd.S_lower (Kd.S_new' (Kd.S_new' ho0 (Kd.S_lt (by (with_reducible repeat (first | apply Kd.S_alloc | apply Kd.S_drewN | apply Kd.S_drew)); exact HO_27.out))) (Kd.S_lt (by (with_reducible repeat (first | apply Kd.S_alloc | apply Kd.S_drewN | apply Kd.S_drew)); exact HO_29.out))) (below_size (by repeat (first | (with_reducible first | exact HB.out | apply below_alloc | apply pw_below_drewN | apply below_drew1) | exact HB.out)))); have n3_ := Aside0.mk (below_step (by repeat (first | (with_reducible first | exact HB.out | apply below_alloc | apply pw_below_drewN | apply below_drew1) | exact HB.out)) hb); clear HO_27; clear HO_29; clear HB; have HO_27 := n0_; have HO_29 := n1_; have HO377 := n2_; have HB := n3_; clear n0_ n1_ n2_ n3_; (try clear hb); (try clear hb2); (try clear hk); (try clear hi); (try clear ho0)))
                   go_roundg k5
                   case measure => have := HJ9.out; have := HK2.out; have := HJ52.out; have := HJ123.out; have := HK5.out; omega
                   case rel => exact ⟨(t373), (wrap64 (x30_5 + 1)), (by first | rfl | (simp; done) | (simp [*]; done)), H', ⟨by have := HJ9.out; have := HK2.out; have := HJ52.out; have := HJ123.out; have := HK5.out; omega⟩, ⟨by (with_reducible repeat (first | apply Kd.S_alloc | apply Kd.S_drewN | apply Kd.S_drew)); exact Kd.S_mono HO_27.out (fun _ hk => hk.2)⟩, ⟨by (with_reducible repeat (first | apply Kd.S_alloc | apply Kd.S_drewN | apply Kd.S_drew)); exact Kd.S_mono HO377.out (fun _ hk => hk.1.2)⟩, ⟨by repeat (first | (with_reducible first | exact HB.out | apply below_alloc | apply pw_below_drewN | apply below_drew1) | exact HB.out)⟩⟩
                  ·replace c151 := Bool.eq_false_iff.mpr c151
                   subst c151
                   have H1 : ((laws_pSameRows.f k5 x29_5 t369).bind fun t378 => (some t378)) = some r := by rw [if_neg (show ¬ (false = true) by decide)] at H; exact H
                   clear H
                   have H := H1
                   clear H1
                   replace H := Option.bind_eq_some_iff.mp H
                   obtain ⟨t378, A1540, H⟩ := H
                   replace H : (some t378) = some r := H
                   have A154 := Aside0.mk A1540
                   clear A1540
                   obtain rfl := Option.some.inj H
                   obtain ⟨Ao155, co155, eo155⟩ := Kd.S_slice HO_29.out
                   subst eo155
                   go_wp2_with (first | ((with_reducible refine gate_callee (f := 24) rfl ?_); refine goesL_ (some 218) rfl rfl Try.func24 (by kernel_rfl) rfl #[.slice Ao155 x29_5.length co155] rfl (by (try simp only [List.map_toArray, List.map_cons, List.map_nil]); first | done | rfl | (simp only [List.length_drop, List.length_take]; rfl)) ?_; (with_reducible refine (impl_Uncross.calls k5 _ _ x29_5 t373 t374 false _ ?side1 ?side2 A150.out).mono ?_); (case side1 => repeat (first | exact (Kd.S_reads' HO_29.out).2.2 | (with_reducible refine Kd.C_alloc ?_ _) | (with_reducible refine Kd.C_drewN ?_ _) | (with_reducible refine Kd.C_drew ?_))); (case side2 => exact (Kd.S_reads' HO_29.out).2.1); rintro e w156 ⟨v376, rfl, ho0, hb⟩; refine ⟨_, rfl, ?_⟩; have n0_ := Aside0.mk (Kd.S_elder' (by (with_reducible repeat (first | apply Kd.S_alloc | apply Kd.S_drewN | apply Kd.S_drew)); exact HO_27.out) (Kd.S_base ho0) hb); have n1_ := Aside0.mk (Kd.S_elder' (by (with_reducible repeat (first | apply Kd.S_alloc | apply Kd.S_drewN | apply Kd.S_drew)); exact HO_29.out) (Kd.S_base ho0) hb); have n2_ := Aside0.mk (Kd.S_lower (Kd.S_new' (Kd.S_new' ho0 (Kd.S_lt (by (with_reducible repeat (first | apply Kd.S_alloc | apply Kd.S_drewN | apply Kd.S_drew)); exact HO_27.out))) (Kd.S_lt (by (with_reducible repeat (first | apply Kd.S_alloc | apply Kd.S_drewN | apply Kd.S_drew)); exact HO_29.out))) (below_size (by repeat (first | (with_reducible first | exact HB.out | apply below_alloc | apply pw_below_drewN | apply below_drew1) | exact HB.out)))); have n3_ := Aside0.mk (below_step (by repeat (first | (with_reducible first | exact HB.out | apply below_alloc | apply pw_below_drewN | apply below_drew1) | exact HB.out)) hb); clear HO_27; clear HO_29; clear HB; have HO_27 := n0_; have HO_29 := n1_; have HO377 := n2_; have HB := n3_; clear n0_ n1_ n2_ n3_; (try clear hb); (try clear hb2); (try clear hk); (try clear hi); (try clear ho0); obtain ⟨Ao157, co157, eo157⟩ := Kd.S_slice HO_27.out; subst eo157) | ((with_reducible refine gate_callee (f := 16) rfl ?_); refine goesL_ (some 226) rfl rfl Try.func16 (by kernel_rfl) rfl #[.slice Ao155 x29_5.length co155, .slice Ao157 t369.length co157] rfl (by (try simp only [List.map_toArray, List.map_cons, List.map_nil]); first | done | rfl | (simp only [List.length_drop, List.length_take]; rfl)) ?_; (with_reducible refine (laws_pSameRows.calls k5 _ _ x29_5 _ _ t369 t378 _ ?side1 ?side2 ?side3 ?side4 A154.out).mono ?_); (case side1 => repeat (first | exact (Kd.S_reads' HO_29.out).2.2 | (with_reducible refine Kd.C_alloc ?_ _) | (with_reducible refine Kd.C_drewN ?_ _) | (with_reducible refine Kd.C_drew ?_))); (case side2 => exact (Kd.S_reads' HO_29.out).2.1); (case side3 => repeat (first | exact (Kd.S_reads' HO_27.out).2.2 | (with_reducible refine Kd.C_alloc ?_ _) | (with_reducible refine Kd.C_drewN ?_ _) | (with_reducible refine Kd.C_drew ?_))); (case side4 => exact (Kd.S_reads' HO_27.out).2.1); rintro e w' ⟨rfl, ⟨nd, rfl⟩⟩; refine ⟨_, rfl, ?_⟩))
                   go_ret
                   exact ⟨by first | rfl | (simp [errW_none, errW_some] <;> rfl) | (simp [*, errW_none, errW_some] <;> rfl), by repeat (first | (with_reducible first | exact HB.out | apply below_alloc | apply pw_below_drewN | apply below_drew1) | exact HB.out)⟩
                 ·rw [if_neg c149] at H
                  cases H
              ·replace c145 := Bool.eq_false_iff.mpr c145
               subst c145
               have H1 : (some true) = some r := by rw [if_neg (show ¬ (false = true) by decide)] at H; exact H
               clear H
               have H := H1
               clear H1
               obtain rfl := Option.some.inj H
               obtain ⟨Ao158, co158, eo158⟩ := Kd.R_slice HO_23.out
               subst eo158
               obtain ⟨Ao159, co159, eo159⟩ := Kd.R_slice HO_24.out
               subst eo159
               go_wp2_with (first | ((with_reducible refine gate_callee (f := 12) rfl ?_); refine goesL_ (some 206) rfl rfl Try.func12 (by kernel_rfl) rfl #[.slice Ao158 t355.length co158, .slice Ao159 t356.length co159] rfl (by (try simp only [List.map_toArray, List.map_cons, List.map_nil]); first | done | rfl | (simp only [List.length_drop, List.length_take]; rfl)) ?_; (with_reducible refine (impl_MonotonePlan.calls kj123 _ _ t355 _ _ t356 t369 false _ ?side1 ?side2 ?side3 ?side4 A144.out).mono ?_); (case side1 => repeat (first | exact (Kd.R_reads' HO_23.out).2.2 | (with_reducible refine Kd.C_alloc ?_ _) | (with_reducible refine Kd.C_drewN ?_ _) | (with_reducible refine Kd.C_drew ?_))); (case side2 => exact (Kd.R_reads' HO_23.out).2.1); (case side3 => repeat (first | exact (Kd.R_reads' HO_24.out).2.2 | (with_reducible refine Kd.C_alloc ?_ _) | (with_reducible refine Kd.C_drewN ?_ _) | (with_reducible refine Kd.C_drew ?_))); (case side4 => exact (Kd.R_reads' HO_24.out).2.1); rintro e w160 ⟨v371, rfl, ho0, hb⟩; refine ⟨_, rfl, ?_⟩; have n0_ := Aside0.mk (Kd.S_elder' (by (with_reducible repeat (first | apply Kd.S_alloc | apply Kd.S_drewN | apply Kd.S_drew)); exact HO_5.out) (Kd.S_base ho0) hb); have n1_ := Aside0.mk (Kd.R_below (by (with_reducible repeat (first | apply Kd.R_alloc | apply Kd.R_drewN | apply Kd.R_drew)); exact HO_23.out) hb); have n2_ := Aside0.mk (Kd.R_below (by (with_reducible repeat (first | apply Kd.R_alloc | apply Kd.R_drewN | apply Kd.R_drew)); exact HO_24.out) hb); have n3_ := Aside0.mk (Kd.S_lower (Kd.S_new' (Kd.S_new' (Kd.S_new' ho0 (Kd.S_lt (by (with_reducible repeat (first | apply Kd.S_alloc | apply Kd.S_drewN | apply Kd.S_drew)); exact HO_5.out))) (Kd.R_lt (by (with_reducible repeat (first | apply Kd.R_alloc | apply Kd.R_drewN | apply Kd.R_drew)); exact HO_23.out))) (Kd.R_lt (by (with_reducible repeat (first | apply Kd.R_alloc | apply Kd.R_drewN | apply Kd.R_drew)); exact HO_24.out))) (below_size (by repeat (first | (with_reducible first | exact HB.out | apply below_alloc | apply pw_below_drewN | apply below_drew1) | exact HB.out)))); have n4_ := Aside0.mk (below_step (by repeat (first | (with_reducible first | exact HB.out | apply below_alloc | apply pw_below_drewN | apply below_drew1) | exact HB.out)) hb); clear HO_5; clear HO_23; clear HO_24; clear HB; have HO_5 := n0_; have HO_23 := n1_; have HO_24 := n2_; have HO372 := n3_; have HB := n4_; clear n0_ n1_ n2_ n3_ n4_; (try clear hb); (try clear hb2); (try clear hk); (try clear hi); (try clear ho0)))
               go_ret
               exact ⟨by first | rfl | (simp [errW_none, errW_some] <;> rfl) | (simp [*, errW_none, errW_some] <;> rfl), by repeat (first | (with_reducible first | exact HB.out | apply below_alloc | apply pw_below_drewN | apply below_drew1) | exact HB.out)⟩
          ·replace c119 := Bool.eq_false_iff.mpr c119
           subst c119
           have H1 : (some true) = some r := by rw [if_neg (show ¬ (false = true) by decide)] at H; exact H
           clear H
           have H := H1
           clear H1
           obtain rfl := Option.some.inj H
           go_wp2
           go_ret
           exact ⟨by first | rfl | (simp [errW_none, errW_some] <;> rfl) | (simp [*, errW_none, errW_some] <;> rfl), by repeat (first | (with_reducible first | exact HB.out | apply below_alloc | apply pw_below_drewN | apply below_drew1) | exact HB.out)⟩

/-- THE ONE PURE STATEMENT of laws_FnUncrossing: yours. -/
def laws_FnUncrossing.Pure : Prop := ∀ (l0 : List Int) (l1 : List Int), l0.length ≤ maxLen → l0.length * 1 ≤ 140737488351232 → (∀ x ∈ l0, (Lit.int .u8 x).wf = true) → l1.length ≤ maxLen → l1.length * 1 ≤ 140737488351232 → (∀ x ∈ l1, (Lit.int .u8 x).wf = true) → ∃ k, laws_FnUncrossing.f k l0 l1 = some true
theorem laws_FnUncrossing.walk (P : laws_FnUncrossing.Pure) (a0 : Option Addr) (len0 cap0 : Nat) (z0 : List Int) (a1 : Option Addr) (len1 cap1 : Nat) (z1 : List Int) (w : World) (w0 : (a0 = none ∧ len0 = 0 ∧ cap0 = 0 ∧ z0 = []) ∨ ∃ x, a0 = some x ∧ len0 ≤ cap0 ∧ cap0 ≤ maxLen ∧ z0.length = cap0 ∧ (∀ i, i < z0.length → w.cell? (x.add i) = some (.int .u8 (z0.getD i 0))) ∧ ∀ n ∈ z0, (Lit.int .u8 n).wf = true) (y0 : len0 * 1 ≤ 140737488351232) (w1 : (a1 = none ∧ len1 = 0 ∧ cap1 = 0 ∧ z1 = []) ∨ ∃ x, a1 = some x ∧ len1 ≤ cap1 ∧ cap1 ≤ maxLen ∧ z1.length = cap1 ∧ (∀ i, i < z1.length → w.cell? (x.add i) = some (.int .u8 (z1.getD i 0))) ∧ ∀ n ∈ z1, (Lit.int .u8 n).wf = true) (y1 : len1 * 1 ≤ 140737488351232) :
  Calls Try.prog 4 #[.slice a0 len0 cap0, .slice a1 len1 cap1] w fun e w' => e = .returned (.bool true) ∧ Below w.heap.size w w' := by
 obtain ⟨l0, rfl, hr0, hm0, hw0, hc0⟩ := ReadsInt.ofRowC w0
 obtain ⟨l1, rfl, hr1, hm1, hw1, hc1⟩ := ReadsInt.ofRowC w1
 obtain ⟨k, h⟩ := P l0 l1 hm0 y0 hw0 hm1 y1 hw1
 refine (laws_FnUncrossing.calls k _ _ l0 _ _ l1 true w (Kd.C_of_reads (d := (0 : Int)) (h1 := fun _ => rfl) hr0) hc0 (Kd.C_of_reads (d := (0 : Int)) (h1 := fun _ => rfl) hr1) hc1 h).mono ?_
 rintro e w' ⟨rfl, hd⟩
 exact ⟨rfl, hd⟩

end Go.Proofs.Ytojklddddedoeaa.PFnUncrossing
-- SLIM
