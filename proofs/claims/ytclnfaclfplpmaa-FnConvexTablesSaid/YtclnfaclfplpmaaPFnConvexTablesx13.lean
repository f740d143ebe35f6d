/- For each Go function that the law uses, a Lean function with the same answers and a proof that its call comes to them; the conditions stand in each theorem. (Written by a program of this session, turned from the print of the kit.) -/
import Derived.Test.YtclnfaclfplpmaaPFnConvexTablesx0
import Derived.Test.YtclnfaclfplpmaaPFnConvexTablesx1
import Derived.Test.YtclnfaclfplpmaaPFnConvexTablesx3
import Derived.Test.YtclnfaclfplpmaaPFnConvexTablesx5
import Derived.Test.YtclnfaclfplpmaaPFnConvexTablesx6
import Derived.Test.YtclnfaclfplpmaaPFnConvexTablesx7
import Derived.Test.YtclnfaclfplpmaaPFnConvexTablesx8
import Derived.Test.YtclnfaclfplpmaaPFnConvexTablesx9
import Derived.Test.YtclnfaclfplpmaaPFnConvexTablesx10
import Derived.Test.YtclnfaclfplpmaaPFnConvexTablesx12
namespace Go.Proofs.Ytclnfaclfplpmaa.PFnConvexTables
open Go.RowKit Go.Proofs.YtclnfaclfplpmaaW.PrintWords Go.Proofs.YtclnfaclfplpmaaW.PrintLast Go.Proofs.YtclnfaclfplpmaaW.PrintMore
attribute [local go_sem] max2_int min2_int max_two min_two max_three min_three max_four min_four   -- for this text's walks alone
set_option linter.unusedVariables false
set_option linter.unusedSimpArgs false

/-! ### laws_FnConvexTables: function 5 -/
mutual
def laws_FnConvexTables.j0 : Nat → List Int → List Int → Bool → Option (Bool)
  | 0, _, _, _ => none
  | k + 1, x0, x1, x62 => if x62 = true then (some false) else ((spec_DrawWeightsOf.f k x1).bind fun t427 => ((impl_IsConvexTable.f k t427).bind fun bt430 => ((spec_IsConvexTable.f k t427).bind fun bt432 => ((impl_WeightsOf.f k t427).bind fun bt434 => ((spec_WeightsOf.f k t427).bind fun bt438 => (if (bt430.2 != bt432.2) = true then (laws_FnConvexTables.j1 k x0 x1 t427 bt430.1 bt430.2 bt434.1 bt434.2 true) else (if (bt430.1 != bt432.1) = true then (laws_FnConvexTables.j1 k x0 x1 t427 bt430.1 bt430.2 bt434.1 bt434.2 true) else (if (bt434.2 != bt438.2) = true then (laws_FnConvexTables.j1 k x0 x1 t427 bt430.1 bt430.2 bt434.1 bt434.2 true) else ((laws_pSame.f k bt434.1 bt438.1).bind fun t442 => (if t442 = true then (if bt434.2 = true then (laws_FnConvexTables.j1 k x0 x1 t427 bt430.1 bt430.2 bt434.1 bt434.2 (!bt430.1)) else (laws_FnConvexTables.j1 k x0 x1 t427 bt430.1 bt430.2 bt434.1 bt434.2 false)) else (laws_FnConvexTables.j1 k x0 x1 t427 bt430.1 bt430.2 bt434.1 bt434.2 true)))))))))))
def laws_FnConvexTables.j1 : Nat → List Int → List Int → List Int → Bool → Bool → List Int → Bool → Bool → Option (Bool)
  | 0, _, _, _, _, _, _, _, _ => none
  | k + 1, x0, x1, x11, x12, x13, x16, x17, x110 => if x110 = true then (some false) else (if x17 = true then ((impl_TableOfThresholds.f k x16).bind fun bt443 => (if bt443.2 = true then ((laws_pSame.f k bt443.1 x11).bind fun t447 => (if t447 = true then (laws_FnConvexTables.j2 k x0 x1 x11 x12 x13) else (some false))) else (laws_FnConvexTables.j2 k x0 x1 x11 x12 x13))) else (laws_FnConvexTables.j2 k x0 x1 x11 x12 x13))
def laws_FnConvexTables.j2 : Nat → List Int → List Int → List Int → Bool → Bool → Option (Bool)
  | 0, _, _, _, _, _ => none
  | k + 1, x0, x1, x11, x12, x13 => (spec_DrawTableOfThresholds.f k x0).bind fun t448 => ((impl_TableOfThresholds.f k t448).bind fun bt451 => ((spec_TableOfThresholds.f k t448).bind fun bt455 => (if (bt451.2 != bt455.2) = true then (laws_FnConvexTables.j3 k x1 x11 x12 x13 t448 bt451.1 bt451.2 true) else ((laws_pSame.f k bt451.1 bt455.1).bind fun t459 => (laws_FnConvexTables.j3 k x1 x11 x12 x13 t448 bt451.1 bt451.2 (!t459))))))
def laws_FnConvexTables.j3 : Nat → List Int → List Int → Bool → Bool → List Int → List Int → Bool → Bool → Option (Bool)
  | 0, _, _, _, _, _, _, _, _ => none
  | k + 1, x1, x11, x12, x13, x22, x23, x24, x144 => if x144 = true then (some false) else (if x24 = true then ((impl_WeightsOf.f k x23).bind fun bt460 => (if bt460.2 = true then ((laws_pSame.f k bt460.1 x22).bind fun t464 => (if t464 = true then (laws_FnConvexTables.j4 k x1 x11 x12 x13) else (some false))) else (some false))) else (laws_FnConvexTables.j4 k x1 x11 x12 x13))
def laws_FnConvexTables.j4 : Nat → List Int → List Int → Bool → Bool → Option (Bool)
  | 0, _, _, _, _ => none
  | k + 1, x1, x11, x12, x13 => (spec_DrawIsMajorized.f k x1).bind fun bt465 => (if x13 = true then (if x12 = true then ((laws_pBelow.f k bt465.1 bt465.2).bind fun t471 => (laws_FnConvexTables.j5 k x11 bt465.1 bt465.2 (!t471))) else (laws_FnConvexTables.j5 k x11 bt465.1 bt465.2 true)) else (laws_FnConvexTables.j5 k x11 bt465.1 bt465.2 true))
def laws_FnConvexTables.j5 : Nat → List Int → List Int → List Int → Bool → Option (Bool)
  | 0, _, _, _, _ => none
  | k + 1, x11, x29, x30, x175 => if x175 = true then (some true) else ((impl_ConvexSum.f k x11 x29).bind fun bt472 => ((impl_ConvexSum.f k x11 x30).bind fun bt474 => (if bt472.2 = true then (if bt474.2 = true then (some (decide (bt472.1 ≤ bt474.1))) else (some false)) else (some false))))
end
def laws_FnConvexTables.f (k : Nat) (l0 : List Int) (l1 : List Int) : Option (Bool) := (laws_big.f l0 l1).bind fun t416 => (if t416 = true then (some true) else ((spec_DrawConvexSum.f k l0).bind fun bt417 => ((impl_ConvexSum.f k bt417.1 bt417.2).bind fun bt423 => ((spec_ConvexSum.f k bt417.1 bt417.2).bind fun bt425 => (if (bt423.2 != bt425.2) = true then (laws_FnConvexTables.j0 k l0 l1 true) else (laws_FnConvexTables.j0 k l0 l1 (bt423.1 != bt425.1)))))))
theorem laws_FnConvexTables.mono_l : ∀ k, (∀ y0 y1 y2, LeO (laws_FnConvexTables.j0 k y0 y1 y2) (laws_FnConvexTables.j0 (k + 1) y0 y1 y2)) ∧ (∀ y0 y1 y2 y3 y4 y5 y6 y7, LeO (laws_FnConvexTables.j1 k y0 y1 y2 y3 y4 y5 y6 y7) (laws_FnConvexTables.j1 (k + 1) y0 y1 y2 y3 y4 y5 y6 y7)) ∧ (∀ y0 y1 y2 y3 y4, LeO (laws_FnConvexTables.j2 k y0 y1 y2 y3 y4) (laws_FnConvexTables.j2 (k + 1) y0 y1 y2 y3 y4)) ∧ (∀ y0 y1 y2 y3 y4 y5 y6 y7, LeO (laws_FnConvexTables.j3 k y0 y1 y2 y3 y4 y5 y6 y7) (laws_FnConvexTables.j3 (k + 1) y0 y1 y2 y3 y4 y5 y6 y7)) ∧ (∀ y0 y1 y2 y3, LeO (laws_FnConvexTables.j4 k y0 y1 y2 y3) (laws_FnConvexTables.j4 (k + 1) y0 y1 y2 y3)) ∧ (∀ y0 y1 y2 y3, LeO (laws_FnConvexTables.j5 k y0 y1 y2 y3) (laws_FnConvexTables.j5 (k + 1) y0 y1 y2 y3))
  | 0 => ⟨fun _ _ _ r h => by simp [laws_FnConvexTables.j0] at h, fun _ _ _ _ _ _ _ _ r h => by simp [laws_FnConvexTables.j1] at h, fun _ _ _ _ _ r h => by simp [laws_FnConvexTables.j2] at h, fun _ _ _ _ _ _ _ _ r h => by simp [laws_FnConvexTables.j3] at h, fun _ _ _ _ r h => by simp [laws_FnConvexTables.j4] at h, fun _ _ _ _ r h => by simp [laws_FnConvexTables.j5] at h⟩
  | k + 1 => by
    obtain ⟨ih0, ih1, ih2, ih3, ih4, ih5⟩ := laws_FnConvexTables.mono_l k
    refine ⟨?_, ?_, ?_, ?_, ?_, ?_⟩
    · intro y0 y1 y2
      unfold laws_FnConvexTables.j0
      repeat' first
      | (with_reducible exact ih0 _ _ _)
      | (with_reducible exact ih1 _ _ _ _ _ _ _ _)
      | (with_reducible exact ih2 _ _ _ _ _)
      | (with_reducible exact ih3 _ _ _ _ _ _ _ _)
      | (with_reducible exact ih4 _ _ _ _)
      | (with_reducible exact ih5 _ _ _ _)
      | (with_reducible exact impl_ConvexSum.mono _ _ _)
      | (with_reducible exact impl_IsConvexTable.mono _ _)
      | (with_reducible exact impl_TableOfThresholds.mono _ _)
      | (with_reducible exact impl_WeightsOf.mono _ _)
      | (with_reducible exact laws_pBelow.mono _ _ _)
      | (with_reducible exact laws_pSame.mono _ _ _)
      | (with_reducible exact spec_ConvexSum.mono _ _ _)
      | (with_reducible exact spec_DrawConvexSum.mono _ _)
      | (with_reducible exact spec_DrawIsMajorized.mono _ _)
      | (with_reducible exact spec_DrawTableOfThresholds.mono _ _)
      | (with_reducible exact spec_DrawWeightsOf.mono _ _)
      | (with_reducible exact spec_IsConvexTable.mono _ _)
      | (with_reducible exact spec_TableOfThresholds.mono _ _)
      | (with_reducible exact spec_WeightsOf.mono _ _)
      | (with_reducible exact LeO.refl _)
      | (with_reducible exact LeO.none _)
      | (with_reducible refine LeO.ite ?_ ?_)
      | (with_reducible refine LeO.bind ?_ (fun _ => ?_))
      | exact ih0 _ _ _
      | exact ih1 _ _ _ _ _ _ _ _
      | exact ih2 _ _ _ _ _
      | exact ih3 _ _ _ _ _ _ _ _
      | exact ih4 _ _ _ _
      | exact ih5 _ _ _ _
      | exact impl_ConvexSum.mono _ _ _
      | exact impl_IsConvexTable.mono _ _
      | exact impl_TableOfThresholds.mono _ _
      | exact impl_WeightsOf.mono _ _
      | exact laws_pBelow.mono _ _ _
      | exact laws_pSame.mono _ _ _
      | exact spec_ConvexSum.mono _ _ _
      | exact spec_DrawConvexSum.mono _ _
      | exact spec_DrawIsMajorized.mono _ _
      | exact spec_DrawTableOfThresholds.mono _ _
      | exact spec_DrawWeightsOf.mono _ _
      | exact spec_IsConvexTable.mono _ _
      | exact spec_TableOfThresholds.mono _ _
      | exact spec_WeightsOf.mono _ _
      | exact LeO.none _
      | refine LeO.ite ?_ ?_
      | refine LeO.bind ?_ (fun _ => ?_)
    · intro y0 y1 y2 y3 y4 y5 y6 y7
      unfold laws_FnConvexTables.j1
      repeat' first
      | (with_reducible exact ih0 _ _ _)
      | (with_reducible exact ih1 _ _ _ _ _ _ _ _)
      | (with_reducible exact ih2 _ _ _ _ _)
      | (with_reducible exact ih3 _ _ _ _ _ _ _ _)
      | (with_reducible exact ih4 _ _ _ _)
      | (with_reducible exact ih5 _ _ _ _)
      | (with_reducible exact impl_ConvexSum.mono _ _ _)
      | (with_reducible exact impl_IsConvexTable.mono _ _)
      | (with_reducible exact impl_TableOfThresholds.mono _ _)
      | (with_reducible exact impl_WeightsOf.mono _ _)
      | (with_reducible exact laws_pBelow.mono _ _ _)
      | (with_reducible exact laws_pSame.mono _ _ _)
      | (with_reducible exact spec_ConvexSum.mono _ _ _)
      | (with_reducible exact spec_DrawConvexSum.mono _ _)
      | (with_reducible exact spec_DrawIsMajorized.mono _ _)
      | (with_reducible exact spec_DrawTableOfThresholds.mono _ _)
      | (with_reducible exact spec_DrawWeightsOf.mono _ _)
      | (with_reducible exact spec_IsConvexTable.mono _ _)
      | (with_reducible exact spec_TableOfThresholds.mono _ _)
      | (with_reducible exact spec_WeightsOf.mono _ _)
      | (with_reducible exact LeO.refl _)
      | (with_reducible exact LeO.none _)
      | (with_reducible refine LeO.ite ?_ ?_)
      | (with_reducible refine LeO.bind ?_ (fun _ => ?_))
      | exact ih0 _ _ _
      | exact ih1 _ _ _ _ _ _ _ _
      | exact ih2 _ _ _ _ _
      | exact ih3 _ _ _ _ _ _ _ _
      | exact ih4 _ _ _ _
      | exact ih5 _ _ _ _
      | exact impl_ConvexSum.mono _ _ _
      | exact impl_IsConvexTable.mono _ _
      | exact impl_TableOfThresholds.mono _ _
      | exact impl_WeightsOf.mono _ _
      | exact laws_pBelow.mono _ _ _
      | exact laws_pSame.mono _ _ _
      | exact spec_ConvexSum.mono _ _ _
      | exact spec_DrawConvexSum.mono _ _
      | exact spec_DrawIsMajorized.mono _ _
      | exact spec_DrawTableOfThresholds.mono _ _
      | exact spec_DrawWeightsOf.mono _ _
      | exact spec_IsConvexTable.mono _ _
      | exact spec_TableOfThresholds.mono _ _
      | exact spec_WeightsOf.mono _ _
      | exact LeO.none _
      | refine LeO.ite ?_ ?_
      | refine LeO.bind ?_ (fun _ => ?_)
    · intro y0 y1 y2 y3 y4
      unfold laws_FnConvexTables.j2
      repeat' first
      | (with_reducible exact ih0 _ _ _)
      | (with_reducible exact ih1 _ _ _ _ _ _ _ _)
      | (with_reducible exact ih2 _ _ _ _ _)
      | (with_reducible exact ih3 _ _ _ _ _ _ _ _)
      | (with_reducible exact ih4 _ _ _ _)
      | (with_reducible exact ih5 _ _ _ _)
      | (with_reducible exact impl_ConvexSum.mono _ _ _)
      | (with_reducible exact impl_IsConvexTable.mono _ _)
      | (with_reducible exact impl_TableOfThresholds.mono _ _)
      | (with_reducible exact impl_WeightsOf.mono _ _)
      | (with_reducible exact laws_pBelow.mono _ _ _)
      | (with_reducible exact laws_pSame.mono _ _ _)
      | (with_reducible exact spec_ConvexSum.mono _ _ _)
      | (with_reducible exact spec_DrawConvexSum.mono _ _)
      | (with_reducible exact spec_DrawIsMajorized.mono _ _)
      | (with_reducible exact spec_DrawTableOfThresholds.mono _ _)
      | (with_reducible exact spec_DrawWeightsOf.mono _ _)
      | (with_reducible exact spec_IsConvexTable.mono _ _)
      | (with_reducible exact spec_TableOfThresholds.mono _ _)
      | (with_reducible exact spec_WeightsOf.mono _ _)
      | (with_reducible exact LeO.refl _)
      | (with_reducible exact LeO.none _)
      | (with_reducible refine LeO.ite ?_ ?_)
      | (with_reducible refine LeO.bind ?_ (fun _ => ?_))
      | exact ih0 _ _ _
      | exact ih1 _ _ _ _ _ _ _ _
      | exact ih2 _ _ _ _ _
      | exact ih3 _ _ _ _ _ _ _ _
      | exact ih4 _ _ _ _
      | exact ih5 _ _ _ _
      | exact impl_ConvexSum.mono _ _ _
      | exact impl_IsConvexTable.mono _ _
      | exact impl_TableOfThresholds.mono _ _
      | exact impl_WeightsOf.mono _ _
      | exact laws_pBelow.mono _ _ _
      | exact laws_pSame.mono _ _ _
      | exact spec_ConvexSum.mono _ _ _
      | exact spec_DrawConvexSum.mono _ _
      | exact spec_DrawIsMajorized.mono _ _
      | exact spec_DrawTableOfThresholds.mono _ _
      | exact spec_DrawWeightsOf.mono _ _
      | exact spec_IsConvexTable.mono _ _
      | exact spec_TableOfThresholds.mono _ _
      | exact spec_WeightsOf.mono _ _
      | exact LeO.none _
      | refine LeO.ite ?_ ?_
      | refine LeO.bind ?_ (fun _ => ?_)
    · intro y0 y1 y2 y3 y4 y5 y6 y7
      unfold laws_FnConvexTables.j3
      repeat' first
      | (with_reducible exact ih0 _ _ _)
      | (with_reducible exact ih1 _ _ _ _ _ _ _ _)
      | (with_reducible exact ih2 _ _ _ _ _)
      | (with_reducible exact ih3 _ _ _ _ _ _ _ _)
      | (with_reducible exact ih4 _ _ _ _)
      | (with_reducible exact ih5 _ _ _ _)
      | (with_reducible exact impl_ConvexSum.mono _ _ _)
      | (with_reducible exact impl_IsConvexTable.mono _ _)
      | (with_reducible exact impl_TableOfThresholds.mono _ _)
      | (with_reducible exact impl_WeightsOf.mono _ _)
      | (with_reducible exact laws_pBelow.mono _ _ _)
      | (with_reducible exact laws_pSame.mono _ _ _)
      | (with_reducible exact spec_ConvexSum.mono _ _ _)
      | (with_reducible exact spec_DrawConvexSum.mono _ _)
      | (with_reducible exact spec_DrawIsMajorized.mono _ _)
      | (with_reducible exact spec_DrawTableOfThresholds.mono _ _)
      | (with_reducible exact spec_DrawWeightsOf.mono _ _)
      | (with_reducible exact spec_IsConvexTable.mono _ _)
      | (with_reducible exact spec_TableOfThresholds.mono _ _)
      | (with_reducible exact spec_WeightsOf.mono _ _)
      | (with_reducible exact LeO.refl _)
      | (with_reducible exact LeO.none _)
      | (with_reducible refine LeO.ite ?_ ?_)
      | (with_reducible refine LeO.bind ?_ (fun _ => ?_))
      | exact ih0 _ _ _
      | exact ih1 _ _ _ _ _ _ _ _
      | exact ih2 _ _ _ _ _
      | exact ih3 _ _ _ _ _ _ _ _
      | exact ih4 _ _ _ _
      | exact ih5 _ _ _ _
      | exact impl_ConvexSum.mono _ _ _
      | exact impl_IsConvexTable.mono _ _
      | exact impl_TableOfThresholds.mono _ _
      | exact impl_WeightsOf.mono _ _
      | exact laws_pBelow.mono _ _ _
      | exact laws_pSame.mono _ _ _
      | exact spec_ConvexSum.mono _ _ _
      | exact spec_DrawConvexSum.mono _ _
      | exact spec_DrawIsMajorized.mono _ _
      | exact spec_DrawTableOfThresholds.mono _ _
      | exact spec_DrawWeightsOf.mono _ _
      | exact spec_IsConvexTable.mono _ _
      | exact spec_TableOfThresholds.mono _ _
      | exact spec_WeightsOf.mono _ _
      | exact LeO.none _
      | refine LeO.ite ?_ ?_
      | refine LeO.bind ?_ (fun _ => ?_)
    · intro y0 y1 y2 y3
      unfold laws_FnConvexTables.j4
      repeat' first
      | (with_reducible exact ih0 _ _ _)
      | (with_reducible exact ih1 _ _ _ _ _ _ _ _)
      | (with_reducible exact ih2 _ _ _ _ _)
      | (with_reducible exact ih3 _ _ _ _ _ _ _ _)
      | (with_reducible exact ih4 _ _ _ _)
      | (with_reducible exact ih5 _ _ _ _)
      | (with_reducible exact impl_ConvexSum.mono _ _ _)
      | (with_reducible exact impl_IsConvexTable.mono _ _)
      | (with_reducible exact impl_TableOfThresholds.mono _ _)
      | (with_reducible exact impl_WeightsOf.mono _ _)
      | (with_reducible exact laws_pBelow.mono _ _ _)
      | (with_reducible exact laws_pSame.mono _ _ _)
      | (with_reducible exact spec_ConvexSum.mono _ _ _)
      | (with_reducible exact spec_DrawConvexSum.mono _ _)
      | (with_reducible exact spec_DrawIsMajorized.mono _ _)
      | (with_reducible exact spec_DrawTableOfThresholds.mono _ _)
      | (with_reducible exact spec_DrawWeightsOf.mono _ _)
      | (with_reducible exact spec_IsConvexTable.mono _ _)
      | (with_reducible exact spec_TableOfThresholds.mono _ _)
      | (with_reducible exact spec_WeightsOf.mono _ _)
      | (with_reducible exact LeO.refl _)
      | (with_reducible exact LeO.none _)
      | (with_reducible refine LeO.ite ?_ ?_)
      | (with_reducible refine LeO.bind ?_ (fun _ => ?_))
      | exact ih0 _ _ _
      | exact ih1 _ _ _ _ _ _ _ _
      | exact ih2 _ _ _ _ _
      | exact ih3 _ _ _ _ _ _ _ _
      | exact ih4 _ _ _ _
      | exact ih5 _ _ _ _
      | exact impl_ConvexSum.mono _ _ _
      | exact impl_IsConvexTable.mono _ _
      | exact impl_TableOfThresholds.mono _ _
      | exact impl_WeightsOf.mono _ _
      | exact laws_pBelow.mono _ _ _
      | exact laws_pSame.mono _ _ _
      | exact spec_ConvexSum.mono _ _ _
      | exact spec_DrawConvexSum.mono _ _
      | exact spec_DrawIsMajorized.mono _ _
      | exact spec_DrawTableOfThresholds.mono _ _
      | exact spec_DrawWeightsOf.mono _ _
      | exact spec_IsConvexTable.mono _ _
      | exact spec_TableOfThresholds.mono _ _
      | exact spec_WeightsOf.mono _ _
      | exact LeO.none _
      | refine LeO.ite ?_ ?_
      | refine LeO.bind ?_ (fun _ => ?_)
    · intro y0 y1 y2 y3
      unfold laws_FnConvexTables.j5
      repeat' first
      | (with_reducible exact ih0 _ _ _)
      | (with_reducible exact ih1 _ _ _ _ _ _ _ _)
      | (with_reducible exact ih2 _ _ _ _ _)
      | (with_reducible exact ih3 _ _ _ _ _ _ _ _)
      | (with_reducible exact ih4 _ _ _ _)
      | (with_reducible exact ih5 _ _ _ _)
      | (with_reducible exact impl_ConvexSum.mono _ _ _)
      | (with_reducible exact impl_IsConvexTable.mono _ _)
      | (with_reducible exact impl_TableOfThresholds.mono _ _)
      | (with_reducible exact impl_WeightsOf.mono _ _)
      | (with_reducible exact laws_pBelow.mono _ _ _)
      | (with_reducible exact laws_pSame.mono _ _ _)
      | (with_reducible exact spec_ConvexSum.mono _ _ _)
      | (with_reducible exact spec_DrawConvexSum.mono _ _)
      | (with_reducible exact spec_DrawIsMajorized.mono _ _)
      | (with_reducible exact spec_DrawTableOfThresholds.mono _ _)
      | (with_reducible exact spec_DrawWeightsOf.mono _ _)
      | (with_reducible exact spec_IsConvexTable.mono _ _)
      | (with_reducible exact spec_TableOfThresholds.mono _ _)
      | (with_reducible exact spec_WeightsOf.mono _ _)
      | (with_reducible exact LeO.refl _)
      | (with_reducible exact LeO.none _)
      | (with_reducible refine LeO.ite ?_ ?_)
      | (with_reducible refine LeO.bind ?_ (fun _ => ?_))
      | exact ih0 _ _ _
      | exact ih1 _ _ _ _ _ _ _ _
      | exact ih2 _ _ _ _ _
      | exact ih3 _ _ _ _ _ _ _ _
      | exact ih4 _ _ _ _
      | exact ih5 _ _ _ _
      | exact impl_ConvexSum.mono _ _ _
      | exact impl_IsConvexTable.mono _ _
      | exact impl_TableOfThresholds.mono _ _
      | exact impl_WeightsOf.mono _ _
      | exact laws_pBelow.mono _ _ _
      | exact laws_pSame.mono _ _ _
      | exact spec_ConvexSum.mono _ _ _
      | exact spec_DrawConvexSum.mono _ _
      | exact spec_DrawIsMajorized.mono _ _
      | exact spec_DrawTableOfThresholds.mono _ _
      | exact spec_DrawWeightsOf.mono _ _
      | exact spec_IsConvexTable.mono _ _
      | exact spec_TableOfThresholds.mono _ _
      | exact spec_WeightsOf.mono _ _
      | exact LeO.none _
      | refine LeO.ite ?_ ?_
      | refine LeO.bind ?_ (fun _ => ?_)
theorem laws_FnConvexTables.mono : ∀ a0 a1 k, LeO (laws_FnConvexTables.f k a0 a1) (laws_FnConvexTables.f (k + 1) a0 a1) := by
  intro a0 a1 k
  obtain ⟨ih0, ih1, ih2, ih3, ih4, ih5⟩ := laws_FnConvexTables.mono_l k
  unfold laws_FnConvexTables.f
  repeat' first
      | (with_reducible exact ih0 _ _ _)
      | (with_reducible exact ih1 _ _ _ _ _ _ _ _)
      | (with_reducible exact ih2 _ _ _ _ _)
      | (with_reducible exact ih3 _ _ _ _ _ _ _ _)
      | (with_reducible exact ih4 _ _ _ _)
      | (with_reducible exact ih5 _ _ _ _)
      | (with_reducible exact impl_ConvexSum.mono _ _ _)
      | (with_reducible exact impl_IsConvexTable.mono _ _)
      | (with_reducible exact impl_TableOfThresholds.mono _ _)
      | (with_reducible exact impl_WeightsOf.mono _ _)
      | (with_reducible exact laws_pBelow.mono _ _ _)
      | (with_reducible exact laws_pSame.mono _ _ _)
      | (with_reducible exact spec_ConvexSum.mono _ _ _)
      | (with_reducible exact spec_DrawConvexSum.mono _ _)
      | (with_reducible exact spec_DrawIsMajorized.mono _ _)
      | (with_reducible exact spec_DrawTableOfThresholds.mono _ _)
      | (with_reducible exact spec_DrawWeightsOf.mono _ _)
      | (with_reducible exact spec_IsConvexTable.mono _ _)
      | (with_reducible exact spec_TableOfThresholds.mono _ _)
      | (with_reducible exact spec_WeightsOf.mono _ _)
      | (with_reducible exact LeO.refl _)
      | (with_reducible exact LeO.none _)
      | (with_reducible refine LeO.ite ?_ ?_)
      | (with_reducible refine LeO.bind ?_ (fun _ => ?_))
      | exact ih0 _ _ _
      | exact ih1 _ _ _ _ _ _ _ _
      | exact ih2 _ _ _ _ _
      | exact ih3 _ _ _ _ _ _ _ _
      | exact ih4 _ _ _ _
      | exact ih5 _ _ _ _
      | exact impl_ConvexSum.mono _ _ _
      | exact impl_IsConvexTable.mono _ _
      | exact impl_TableOfThresholds.mono _ _
      | exact impl_WeightsOf.mono _ _
      | exact laws_pBelow.mono _ _ _
      | exact laws_pSame.mono _ _ _
      | exact spec_ConvexSum.mono _ _ _
      | exact spec_DrawConvexSum.mono _ _
      | exact spec_DrawIsMajorized.mono _ _
      | exact spec_DrawTableOfThresholds.mono _ _
      | exact spec_DrawWeightsOf.mono _ _
      | exact spec_IsConvexTable.mono _ _
      | exact spec_TableOfThresholds.mono _ _
      | exact spec_WeightsOf.mono _ _
      | exact LeO.none _
      | refine LeO.ite ?_ ?_
      | refine LeO.bind ?_ (fun _ => ?_)
set_option maxHeartbeats 8000000 in
set_option maxRecDepth 100000 in
theorem laws_FnConvexTables.calls (k : Nat) (A0 : Option Addr) (c0 : Nat) (l0 : List Int) (A1 : Option Addr) (c1 : Nat) (l1 : List Int) (r : Bool) (w : World) (hr0 : Kd.C (Kd.int .u8) w A0 l0.length l0) (hc0 : l0.length ≤ c0) (hr1 : Kd.C (Kd.int .u8) w A1 l1.length l1) (hc1 : l1.length ≤ c1) (h : laws_FnConvexTables.f k l0 l1 = some r) :
    Calls Try.prog 5 #[.slice A0 l0.length c0, .slice A1 l1.length c1] w fun e w' => e = .returned (.bool r) ∧ Below w.heap.size w w' := by
  have HR0 := Aside0.mk hr0
  have HC0 := Aside0.mk hc0
  clear hr0 hc0
  have HR1 := Aside0.mk hr1
  have HC1 := Aside0.mk hc1
  clear hr1 hc1
  have HB := Aside0.mk (Below.refl w.heap.size w)
  have H : ((laws_big.f l0 l1).bind fun t416 => (if t416 = true then (some true) else ((spec_DrawConvexSum.f k l0).bind fun bt417 => ((impl_ConvexSum.f k bt417.1 bt417.2).bind fun bt423 => ((spec_ConvexSum.f k bt417.1 bt417.2).bind fun bt425 => (if (bt423.2 != bt425.2) = true then (laws_FnConvexTables.j0 k l0 l1 true) else (laws_FnConvexTables.j0 k l0 l1 (bt423.1 != bt425.1)))))))) = some r := h
  clear h
  replace H := Option.bind_eq_some_iff.mp H
  obtain ⟨t416, A30, H⟩ := H
  replace H : (if t416 = true then (some true) else ((spec_DrawConvexSum.f k l0).bind fun bt417 => ((impl_ConvexSum.f k bt417.1 bt417.2).bind fun bt423 => ((spec_ConvexSum.f k bt417.1 bt417.2).bind fun bt425 => (if (bt423.2 != bt425.2) = true then (laws_FnConvexTables.j0 k l0 l1 true) else (laws_FnConvexTables.j0 k l0 l1 (bt423.1 != bt425.1))))))) = some r := H
  have A3 := Aside0.mk A30
  clear A30
  by_cases c4 : t416 = true
  · subst c4
    have H1 : (some true) = some r := by rw [if_pos rfl] at H; exact H
    clear H
    have H := H1
    clear H1
    obtain rfl := Option.some.inj H
    go_enter Try.func5, Try.ntmps5
    go_wp2_with (first | ((with_reducible refine gate_callee (f := 15) rfl ?_); refine goesL_ (some 37) rfl rfl Try.func15 (by kernel_rfl) rfl #[.slice A0 l0.length c0, .slice A1 l1.length c1] rfl (by (try simp only [List.map_toArray, List.map_cons, List.map_nil]); first | done | rfl | (simp only [List.length_drop, List.length_take]; rfl)) ?_; (with_reducible refine (laws_big.calls _ _ l0 _ _ l1 true _ ?side1 ?side2 ?side3 ?side4 A3.out).mono ?_); (case side1 => repeat (first | exact HR0.out | (with_reducible refine Kd.C_alloc ?_ _) | (with_reducible refine Kd.C_drewN ?_ _) | (with_reducible refine Kd.C_drew ?_))); (case side2 => exact HC0.out); (case side3 => repeat (first | exact HR1.out | (with_reducible refine Kd.C_alloc ?_ _) | (with_reducible refine Kd.C_drewN ?_ _) | (with_reducible refine Kd.C_drew ?_))); (case side4 => exact HC1.out); rintro e w' ⟨rfl, ⟨nd, rfl⟩⟩; refine ⟨_, rfl, ?_⟩))
    go_ret
    exact ⟨by first | rfl | (simp [errW_none, errW_some] <;> rfl) | (simp [*, errW_none, errW_some] <;> rfl), by repeat (first | (with_reducible first | exact HB.out | apply below_alloc | apply pw_below_drewN | apply below_drew1) | exact HB.out)⟩
  · replace c4 := Bool.eq_false_iff.mpr c4
    subst c4
    have H1 : ((spec_DrawConvexSum.f k l0).bind fun bt417 => ((impl_ConvexSum.f k bt417.1 bt417.2).bind fun bt423 => ((spec_ConvexSum.f k bt417.1 bt417.2).bind fun bt425 => (if (bt423.2 != bt425.2) = true then (laws_FnConvexTables.j0 k l0 l1 true) else (laws_FnConvexTables.j0 k l0 l1 (bt423.1 != bt425.1)))))) = some r := by rw [if_neg (show ¬ (false = true) by decide)] at H; exact H
    clear H
    have H := H1
    clear H1
    replace H := Option.bind_eq_some_iff.mp H
    obtain ⟨⟨t417, t418⟩, A50, H⟩ := H
    replace H : ((impl_ConvexSum.f k t417 t418).bind fun bt423 => ((spec_ConvexSum.f k t417 t418).bind fun bt425 => (if (bt423.2 != bt425.2) = true then (laws_FnConvexTables.j0 k l0 l1 true) else (laws_FnConvexTables.j0 k l0 l1 (bt423.1 != bt425.1))))) = some r := H
    have A5 := Aside0.mk A50
    clear A50
    replace H := Option.bind_eq_some_iff.mp H
    obtain ⟨⟨t423, t424⟩, A60, H⟩ := H
    replace H : ((spec_ConvexSum.f k t417 t418).bind fun bt425 => (if (t424 != bt425.2) = true then (laws_FnConvexTables.j0 k l0 l1 true) else (laws_FnConvexTables.j0 k l0 l1 (t423 != bt425.1)))) = some r := H
    have A6 := Aside0.mk A60
    clear A60
    replace H := Option.bind_eq_some_iff.mp H
    obtain ⟨⟨t425, t426⟩, A70, H⟩ := H
    replace H : (if (t424 != t426) = true then (laws_FnConvexTables.j0 k l0 l1 true) else (laws_FnConvexTables.j0 k l0 l1 (t423 != t425))) = some r := H
    have A7 := Aside0.mk A70
    clear A70
    have HC8 := Aside0.mk H
    clear H
    go_enter Try.func5, Try.ntmps5
    go_upto_region 6 with (first | ((with_reducible refine gate_callee (f := 15) rfl ?_); refine goesL_ (some 37) rfl rfl Try.func15 (by kernel_rfl) rfl #[.slice A0 l0.length c0, .slice A1 l1.length c1] rfl (by (try simp only [List.map_toArray, List.map_cons, List.map_nil]); first | done | rfl | (simp only [List.length_drop, List.length_take]; rfl)) ?_; (with_reducible refine (laws_big.calls _ _ l0 _ _ l1 false _ ?side1 ?side2 ?side3 ?side4 A3.out).mono ?_); (case side1 => repeat (first | exact HR0.out | (with_reducible refine Kd.C_alloc ?_ _) | (with_reducible refine Kd.C_drewN ?_ _) | (with_reducible refine Kd.C_drew ?_))); (case side2 => exact HC0.out); (case side3 => repeat (first | exact HR1.out | (with_reducible refine Kd.C_alloc ?_ _) | (with_reducible refine Kd.C_drewN ?_ _) | (with_reducible refine Kd.C_drew ?_))); (case side4 => exact HC1.out); rintro e w' ⟨rfl, ⟨nd, rfl⟩⟩; refine ⟨_, rfl, ?_⟩) | ((with_reducible refine gate_callee (f := 29) rfl ?_); refine goesL_ (some 40) rfl rfl Try.func29 (by kernel_rfl) rfl #[.slice A0 l0.length c0] rfl (by (try simp only [List.map_toArray, List.map_cons, List.map_nil]); first | done | rfl | (simp only [List.length_drop, List.length_take]; rfl)) ?_; (with_reducible refine (spec_DrawConvexSum.calls k _ _ l0 t417 t418 _ ?side1 ?side2 A5.out).mono ?_); (case side1 => repeat (first | exact HR0.out | (with_reducible refine Kd.C_alloc ?_ _) | (with_reducible refine Kd.C_drewN ?_ _) | (with_reducible refine Kd.C_drew ?_))); (case side2 => exact HC0.out); rintro e w9 ⟨v419, v421, rfl, ho0, ho1, hb⟩; refine ⟨_, rfl, ?_⟩; have n0_ := Aside0.mk (Kd.R_lower ho0 (below_size (by repeat (first | (with_reducible first | exact HB.out | apply below_alloc | apply pw_below_drewN | apply below_drew1) | exact HB.out)))); have n1_ := Aside0.mk (Kd.R_lower ho1 (below_size (by repeat (first | (with_reducible first | exact HB.out | apply below_alloc | apply pw_below_drewN | apply below_drew1) | exact HB.out)))); have n2_ := Aside0.mk (below_step (by repeat (first | (with_reducible first | exact HB.out | apply below_alloc | apply pw_below_drewN | apply below_drew1) | exact HB.out)) hb); clear HB; have HO420 := n0_; have HO422 := n1_; have HB := n2_; clear n0_ n1_ n2_; (try clear hb); (try clear hb2); (try clear hk); (try clear hi); (try clear ho0); (try clear ho1); obtain ⟨Ao10, co10, eo10⟩ := Kd.R_slice HO420.out; subst eo10; obtain ⟨Ao11, co11, eo11⟩ := Kd.R_slice HO422.out; subst eo11) | ((with_reducible refine gate_callee (f := 30) rfl ?_); refine goesL_ (some 46) rfl rfl Try.func30 (by kernel_rfl) rfl #[.slice Ao10 t417.length co10, .slice Ao11 t418.length co11] rfl (by (try simp only [List.map_toArray, List.map_cons, List.map_nil]); first | done | rfl | (simp only [List.length_drop, List.length_take]; rfl)) ?_; (with_reducible refine (impl_ConvexSum.calls k _ _ t417 _ _ t418 t423 t424 _ ?side1 ?side2 ?side3 ?side4 A6.out).mono ?_); (case side1 => repeat (first | exact (Kd.R_reads' HO420.out).2.2 | (with_reducible refine Kd.C_alloc ?_ _) | (with_reducible refine Kd.C_drewN ?_ _) | (with_reducible refine Kd.C_drew ?_))); (case side2 => exact (Kd.R_reads' HO420.out).2.1); (case side3 => repeat (first | exact (Kd.R_reads' HO422.out).2.2 | (with_reducible refine Kd.C_alloc ?_ _) | (with_reducible refine Kd.C_drewN ?_ _) | (with_reducible refine Kd.C_drew ?_))); (case side4 => exact (Kd.R_reads' HO422.out).2.1); rintro e w' ⟨rfl, ⟨nd, rfl⟩⟩; refine ⟨_, rfl, ?_⟩) | ((with_reducible refine gate_callee (f := 31) rfl ?_); refine goesL_ (some 52) rfl rfl Try.func31 (by kernel_rfl) rfl #[.slice Ao10 t417.length co10, .slice Ao11 t418.length co11] rfl (by (try simp only [List.map_toArray, List.map_cons, List.map_nil]); first | done | rfl | (simp only [List.length_drop, List.length_take]; rfl)) ?_; (with_reducible refine (spec_ConvexSum.calls k _ _ t417 _ _ t418 t425 t426 _ ?side1 ?side2 ?side3 ?side4 A7.out).mono ?_); (case side1 => repeat (first | exact (Kd.R_reads' HO420.out).2.2 | (with_reducible refine Kd.C_alloc ?_ _) | (with_reducible refine Kd.C_drewN ?_ _) | (with_reducible refine Kd.C_drew ?_))); (case side2 => exact (Kd.R_reads' HO420.out).2.1); (case side3 => repeat (first | exact (Kd.R_reads' HO422.out).2.2 | (with_reducible refine Kd.C_alloc ?_ _) | (with_reducible refine Kd.C_drewN ?_ _) | (with_reducible refine Kd.C_drew ?_))); (case side4 => exact (Kd.R_reads' HO422.out).2.1); rintro e w' ⟨rfl, ⟨nd, rfl⟩⟩; refine ⟨_, rfl, ?_⟩))
    (try simp only [Act.put, List.setIfInBounds_toArray, List.set_cons_zero, List.set_cons_succ])
    go_cut [62] (fun v62 wc => ∃ (kq : Nat) (x62_7 : Bool), v62 = .bool x62_7 ∧ Aside0 (laws_FnConvexTables.j0 kq l0 l1 x62_7 = some r) ∧ Aside0 (kq ≤ k) ∧ Aside0 (Below w.heap.size w wc))
    case first => as_aux_lemma =>
      have H := HC8.out
      clear HC8
      by_cases c12 : (t424 != t426) = true
      · rw [if_pos c12] at H
        have c12b0 : (t424 != t426) = true := c12
        (try (have c12b1 : decide (t424 = t426) = false := by simpa using c12))
        (try (have c12b2 : (t424 == t426) = false := by simpa using c12))
        (try (have c12b3 : ¬ (t424 = t426) := by simpa using c12))
        clear c12
        (first | rw [c12b0] | (simp only [i64_w, i32_w]; rw [c12b0]) | skip)
        have H' := Aside0.mk H
        clear H
        go_wp2
        go_meet
        case rel => exact ⟨_, (true), (by first | rfl | (simp; done) | (simp [*]; done)), H', ⟨by first | omega | exact Nat.le_refl _⟩, ⟨by repeat (first | (with_reducible first | exact HB.out | apply below_alloc | apply pw_below_drewN | apply below_drew1) | exact HB.out)⟩⟩
      · rw [if_neg c12] at H
        have c12b0 : (t424 != t426) = false := by simpa using c12
        (try (have c12b1 : decide (t424 = t426) = true := by simpa using c12))
        (try (have c12b2 : (t424 == t426) = true := by simpa using c12))
        clear c12
        (first | rw [c12b0] | (simp only [i64_w, i32_w]; rw [c12b0]) | skip)
        have H' := Aside0.mk H
        clear H
        go_wp2
        go_meet
        case rel => exact ⟨_, ((t423 != t425)), (by first | rfl | (simp; done) | (simp [*]; done)), H', ⟨by first | omega | exact Nat.le_refl _⟩, ⟨by repeat (first | (with_reducible first | exact HB.out | apply below_alloc | apply pw_below_drewN | apply below_drew1) | exact HB.out)⟩⟩
    case rest => as_aux_lemma =>
      clear HC8
      try clear c1
      try clear c2
      try clear p2
      try clear c3
      try clear c4
      try clear c5
      try clear c12
      try clear c12b0
      try clear c12b1
      try clear c12b2
      obtain ⟨kq, x62_7, rfl, HA, HJ7, HB⟩ := hcut
      cases kq with
      | zero => exact absurd HA.out (by simp [laws_FnConvexTables.j0])
      | succ kj7 =>
        have H := HA.out
        clear HA
        simp only [laws_FnConvexTables.j0] at H
        by_cases c13 : x62_7 = true
        · subst c13
          have H1 : (some false) = some r := by rw [if_pos rfl] at H; exact H
          clear H
          have H := H1
          clear H1
          obtain rfl := Option.some.inj H
          go_wp2
          go_ret
          exact ⟨by first | rfl | (simp [errW_none, errW_some] <;> rfl) | (simp [*, errW_none, errW_some] <;> rfl), by repeat (first | (with_reducible first | exact HB.out | apply below_alloc | apply pw_below_drewN | apply below_drew1) | exact HB.out)⟩
        · replace c13 := Bool.eq_false_iff.mpr c13
          subst c13
          have H1 : ((spec_DrawWeightsOf.f kj7 l1).bind fun t427 => ((impl_IsConvexTable.f kj7 t427).bind fun bt430 => ((spec_IsConvexTable.f kj7 t427).bind fun bt432 => ((impl_WeightsOf.f kj7 t427).bind fun bt434 => ((spec_WeightsOf.f kj7 t427).bind fun bt438 => (if (bt430.2 != bt432.2) = true then (laws_FnConvexTables.j1 kj7 l0 l1 t427 bt430.1 bt430.2 bt434.1 bt434.2 true) else (if (bt430.1 != bt432.1) = true then (laws_FnConvexTables.j1 kj7 l0 l1 t427 bt430.1 bt430.2 bt434.1 bt434.2 true) else (if (bt434.2 != bt438.2) = true then (laws_FnConvexTables.j1 kj7 l0 l1 t427 bt430.1 bt430.2 bt434.1 bt434.2 true) else ((laws_pSame.f kj7 bt434.1 bt438.1).bind fun t442 => (if t442 = true then (if bt434.2 = true then (laws_FnConvexTables.j1 kj7 l0 l1 t427 bt430.1 bt430.2 bt434.1 bt434.2 (!bt430.1)) else (laws_FnConvexTables.j1 kj7 l0 l1 t427 bt430.1 bt430.2 bt434.1 bt434.2 false)) else (laws_FnConvexTables.j1 kj7 l0 l1 t427 bt430.1 bt430.2 bt434.1 bt434.2 true))))))))))) = some r := by rw [if_neg (show ¬ (false = true) by decide)] at H; exact H
          clear H
          have H := H1
          clear H1
          replace H := Option.bind_eq_some_iff.mp H
          obtain ⟨t427, A140, H⟩ := H
          replace H : ((impl_IsConvexTable.f kj7 t427).bind fun bt430 => ((spec_IsConvexTable.f kj7 t427).bind fun bt432 => ((impl_WeightsOf.f kj7 t427).bind fun bt434 => ((spec_WeightsOf.f kj7 t427).bind fun bt438 => (if (bt430.2 != bt432.2) = true then (laws_FnConvexTables.j1 kj7 l0 l1 t427 bt430.1 bt430.2 bt434.1 bt434.2 true) else (if (bt430.1 != bt432.1) = true then (laws_FnConvexTables.j1 kj7 l0 l1 t427 bt430.1 bt430.2 bt434.1 bt434.2 true) else (if (bt434.2 != bt438.2) = true then (laws_FnConvexTables.j1 kj7 l0 l1 t427 bt430.1 bt430.2 bt434.1 bt434.2 true) else ((laws_pSame.f kj7 bt434.1 bt438.1).bind fun t442 => (if t442 = true then (if bt434.2 = true then (laws_FnConvexTables.j1 kj7 l0 l1 t427 bt430.1 bt430.2 bt434.1 bt434.2 (!bt430.1)) else (laws_FnConvexTables.j1 kj7 l0 l1 t427 bt430.1 bt430.2 bt434.1 bt434.2 false)) else (laws_FnConvexTables.j1 kj7 l0 l1 t427 bt430.1 bt430.2 bt434.1 bt434.2 true)))))))))) = some r := H
          have A14 := Aside0.mk A140
          clear A140
          replace H := Option.bind_eq_some_iff.mp H
          obtain ⟨⟨t430, t431⟩, A150, H⟩ := H
          replace H : ((spec_IsConvexTable.f kj7 t427).bind fun bt432 => ((impl_WeightsOf.f kj7 t427).bind fun bt434 => ((spec_WeightsOf.f kj7 t427).bind fun bt438 => (if (t431 != bt432.2) = true then (laws_FnConvexTables.j1 kj7 l0 l1 t427 t430 t431 bt434.1 bt434.2 true) else (if (t430 != bt432.1) = true then (laws_FnConvexTables.j1 kj7 l0 l1 t427 t430 t431 bt434.1 bt434.2 true) else (if (bt434.2 != bt438.2) = true then (laws_FnConvexTables.j1 kj7 l0 l1 t427 t430 t431 bt434.1 bt434.2 true) else ((laws_pSame.f kj7 bt434.1 bt438.1).bind fun t442 => (if t442 = true then (if bt434.2 = true then (laws_FnConvexTables.j1 kj7 l0 l1 t427 t430 t431 bt434.1 bt434.2 (!t430)) else (laws_FnConvexTables.j1 kj7 l0 l1 t427 t430 t431 bt434.1 bt434.2 false)) else (laws_FnConvexTables.j1 kj7 l0 l1 t427 t430 t431 bt434.1 bt434.2 true))))))))) = some r := H
          have A15 := Aside0.mk A150
          clear A150
          replace H := Option.bind_eq_some_iff.mp H
          obtain ⟨⟨t432, t433⟩, A160, H⟩ := H
          replace H : ((impl_WeightsOf.f kj7 t427).bind fun bt434 => ((spec_WeightsOf.f kj7 t427).bind fun bt438 => (if (t431 != t433) = true then (laws_FnConvexTables.j1 kj7 l0 l1 t427 t430 t431 bt434.1 bt434.2 true) else (if (t430 != t432) = true then (laws_FnConvexTables.j1 kj7 l0 l1 t427 t430 t431 bt434.1 bt434.2 true) else (if (bt434.2 != bt438.2) = true then (laws_FnConvexTables.j1 kj7 l0 l1 t427 t430 t431 bt434.1 bt434.2 true) else ((laws_pSame.f kj7 bt434.1 bt438.1).bind fun t442 => (if t442 = true then (if bt434.2 = true then (laws_FnConvexTables.j1 kj7 l0 l1 t427 t430 t431 bt434.1 bt434.2 (!t430)) else (laws_FnConvexTables.j1 kj7 l0 l1 t427 t430 t431 bt434.1 bt434.2 false)) else (laws_FnConvexTables.j1 kj7 l0 l1 t427 t430 t431 bt434.1 bt434.2 true)))))))) = some r := H
          have A16 := Aside0.mk A160
          clear A160
          replace H := Option.bind_eq_some_iff.mp H
          obtain ⟨⟨t434, t435⟩, A170, H⟩ := H
          replace H : ((spec_WeightsOf.f kj7 t427).bind fun bt438 => (if (t431 != t433) = true then (laws_FnConvexTables.j1 kj7 l0 l1 t427 t430 t431 t434 t435 true) else (if (t430 != t432) = true then (laws_FnConvexTables.j1 kj7 l0 l1 t427 t430 t431 t434 t435 true) else (if (t435 != bt438.2) = true then (laws_FnConvexTables.j1 kj7 l0 l1 t427 t430 t431 t434 t435 true) else ((laws_pSame.f kj7 t434 bt438.1).bind fun t442 => (if t442 = true then (if t435 = true then (laws_FnConvexTables.j1 kj7 l0 l1 t427 t430 t431 t434 t435 (!t430)) else (laws_FnConvexTables.j1 kj7 l0 l1 t427 t430 t431 t434 t435 false)) else (laws_FnConvexTables.j1 kj7 l0 l1 t427 t430 t431 t434 t435 true))))))) = some r := H
          have A17 := Aside0.mk A170
          clear A170
          replace H := Option.bind_eq_some_iff.mp H
          obtain ⟨⟨t438, t439⟩, A180, H⟩ := H
          replace H : (if (t431 != t433) = true then (laws_FnConvexTables.j1 kj7 l0 l1 t427 t430 t431 t434 t435 true) else (if (t430 != t432) = true then (laws_FnConvexTables.j1 kj7 l0 l1 t427 t430 t431 t434 t435 true) else (if (t435 != t439) = true then (laws_FnConvexTables.j1 kj7 l0 l1 t427 t430 t431 t434 t435 true) else ((laws_pSame.f kj7 t434 t438).bind fun t442 => (if t442 = true then (if t435 = true then (laws_FnConvexTables.j1 kj7 l0 l1 t427 t430 t431 t434 t435 (!t430)) else (laws_FnConvexTables.j1 kj7 l0 l1 t427 t430 t431 t434 t435 false)) else (laws_FnConvexTables.j1 kj7 l0 l1 t427 t430 t431 t434 t435 true)))))) = some r := H
          have A18 := Aside0.mk A180
          clear A180
          have HC19 := Aside0.mk H
          clear H
          go_upto_region 13 with (first | ((with_reducible refine gate_callee (f := 32) rfl ?_); refine goesL_ (some 64) rfl rfl Try.func32 (by kernel_rfl) rfl #[.slice A1 l1.length c1] rfl (by (try simp only [List.map_toArray, List.map_cons, List.map_nil]); first | done | rfl | (simp only [List.length_drop, List.length_take]; rfl)) ?_; (with_reducible refine (spec_DrawWeightsOf.calls kj7 _ _ l1 t427 _ ?side1 ?side2 A14.out).mono ?_); (case side1 => repeat (first | exact (Kd.C_below HR1.out HB.out) | (with_reducible refine Kd.C_alloc ?_ _) | (with_reducible refine Kd.C_drewN ?_ _) | (with_reducible refine Kd.C_drew ?_))); (case side2 => exact HC1.out); rintro e w20 ⟨v428, rfl, ho0, hb⟩; refine ⟨_, rfl, ?_⟩; have n0_ := Aside0.mk (Kd.R_lower ho0 (below_size (by repeat (first | (with_reducible first | exact HB.out | apply below_alloc | apply pw_below_drewN | apply below_drew1) | exact HB.out)))); have n1_ := Aside0.mk (below_step (by repeat (first | (with_reducible first | exact HB.out | apply below_alloc | apply pw_below_drewN | apply below_drew1) | exact HB.out)) hb); clear HB; have HO429 := n0_; have HB := n1_; clear n0_ n1_; (try clear hb); (try clear hb2); (try clear hk); (try clear hi); (try clear ho0); obtain ⟨Ao21, co21, eo21⟩ := Kd.R_slice HO429.out; subst eo21) | ((with_reducible refine gate_callee (f := 33) rfl ?_); refine goesL_ (some 67) rfl rfl Try.func33 (by kernel_rfl) rfl #[.slice Ao21 t427.length co21] rfl (by (try simp only [List.map_toArray, List.map_cons, List.map_nil]); first | done | rfl | (simp only [List.length_drop, List.length_take]; rfl)) ?_; (with_reducible refine (impl_IsConvexTable.calls kj7 _ _ t427 t430 t431 _ ?side1 ?side2 A15.out).mono ?_); (case side1 => repeat (first | exact (Kd.R_reads' HO429.out).2.2 | (with_reducible refine Kd.C_alloc ?_ _) | (with_reducible refine Kd.C_drewN ?_ _) | (with_reducible refine Kd.C_drew ?_))); (case side2 => exact (Kd.R_reads' HO429.out).2.1); rintro e w' ⟨rfl, ⟨nd, rfl⟩⟩; refine ⟨_, rfl, ?_⟩) | ((with_reducible refine gate_callee (f := 34) rfl ?_); refine goesL_ (some 72) rfl rfl Try.func34 (by kernel_rfl) rfl #[.slice Ao21 t427.length co21] rfl (by (try simp only [List.map_toArray, List.map_cons, List.map_nil]); first | done | rfl | (simp only [List.length_drop, List.length_take]; rfl)) ?_; (with_reducible refine (spec_IsConvexTable.calls kj7 _ _ t427 t432 t433 _ ?side1 ?side2 A16.out).mono ?_); (case side1 => repeat (first | exact (Kd.R_reads' HO429.out).2.2 | (with_reducible refine Kd.C_alloc ?_ _) | (with_reducible refine Kd.C_drewN ?_ _) | (with_reducible refine Kd.C_drew ?_))); (case side2 => exact (Kd.R_reads' HO429.out).2.1); rintro e w' ⟨rfl, ⟨nd, rfl⟩⟩; refine ⟨_, rfl, ?_⟩) | ((with_reducible refine gate_callee (f := 35) rfl ?_); refine goesL_ (some 77) rfl rfl Try.func35 (by kernel_rfl) rfl #[.slice Ao21 t427.length co21] rfl (by (try simp only [List.map_toArray, List.map_cons, List.map_nil]); first | done | rfl | (simp only [List.length_drop, List.length_take]; rfl)) ?_; (with_reducible refine (impl_WeightsOf.calls kj7 _ _ t427 t434 t435 _ ?side1 ?side2 A17.out).mono ?_); (case side1 => repeat (first | exact (Kd.R_reads' HO429.out).2.2 | (with_reducible refine Kd.C_alloc ?_ _) | (with_reducible refine Kd.C_drewN ?_ _) | (with_reducible refine Kd.C_drew ?_))); (case side2 => exact (Kd.R_reads' HO429.out).2.1); rintro e w22 ⟨v436, rfl, ho0, hb⟩; refine ⟨_, rfl, ?_⟩; have n0_ := Aside0.mk (Kd.R_elder' (by (with_reducible repeat (first | apply Kd.R_alloc | apply Kd.R_drewN | apply Kd.R_drew)); exact HO429.out) (Kd.R_base ho0) hb); have n1_ := Aside0.mk (Kd.R_lower (Kd.R_new' ho0 (Kd.R_lt (by (with_reducible repeat (first | apply Kd.R_alloc | apply Kd.R_drewN | apply Kd.R_drew)); exact HO429.out))) (below_size (by repeat (first | (with_reducible first | exact HB.out | apply below_alloc | apply pw_below_drewN | apply below_drew1) | exact HB.out)))); have n2_ := Aside0.mk (below_step (by repeat (first | (with_reducible first | exact HB.out | apply below_alloc | apply pw_below_drewN | apply below_drew1) | exact HB.out)) hb); clear HO429; clear HB; have HO429 := n0_; have HO437 := n1_; have HB := n2_; clear n0_ n1_ n2_; (try clear hb); (try clear hb2); (try clear hk); (try clear hi); (try clear ho0)) | ((with_reducible refine gate_callee (f := 36) rfl ?_); refine goesL_ (some 82) rfl rfl Try.func36 (by kernel_rfl) rfl #[.slice Ao21 t427.length co21] rfl (by (try simp only [List.map_toArray, List.map_cons, List.map_nil]); first | done | rfl | (simp only [List.length_drop, List.length_take]; rfl)) ?_; (with_reducible refine (spec_WeightsOf.calls kj7 _ _ t427 t438 t439 _ ?side1 ?side2 A18.out).mono ?_); (case side1 => repeat (first | exact (Kd.R_reads' HO429.out).2.2 | (with_reducible refine Kd.C_alloc ?_ _) | (with_reducible refine Kd.C_drewN ?_ _) | (with_reducible refine Kd.C_drew ?_))); (case side2 => exact (Kd.R_reads' HO429.out).2.1); rintro e w23 ⟨v440, rfl, ho0, hb⟩; refine ⟨_, rfl, ?_⟩; have n0_ := Aside0.mk (Kd.R_elder' (by (with_reducible repeat (first | apply Kd.R_alloc | apply Kd.R_drewN | apply Kd.R_drew)); exact HO429.out) (Kd.R_base ho0) hb); have n1_ := Aside0.mk (Kd.R_elder' (by (with_reducible repeat (first | apply Kd.R_alloc | apply Kd.R_drewN | apply Kd.R_drew)); exact HO437.out) (Kd.R_base ho0) hb); have n2_ := Aside0.mk (Kd.R_lower (Kd.R_new' (Kd.R_new' ho0 (Kd.R_lt (by (with_reducible repeat (first | apply Kd.R_alloc | apply Kd.R_drewN | apply Kd.R_drew)); exact HO429.out))) (Kd.R_lt (by (with_reducible repeat (first | apply Kd.R_alloc | apply Kd.R_drewN | apply Kd.R_drew)); exact HO437.out))) (below_size (by repeat (first | (with_reducible first | exact HB.out | apply below_alloc | apply pw_below_drewN | apply below_drew1) | exact HB.out)))); have n3_ := Aside0.mk (below_step (by repeat (first | (with_reducible first | exact HB.out | apply below_alloc | apply pw_below_drewN | apply below_drew1) | exact HB.out)) hb); clear HO429; clear HO437; clear HB; have HO429 := n0_; have HO437 := n1_; have HO441 := n2_; have HB := n3_; clear n0_ n1_ n2_ n3_; (try clear hb); (try clear hb2); (try clear hk); (try clear hi); (try clear ho0)))
          (try simp only [Act.put, List.setIfInBounds_toArray, List.set_cons_zero, List.set_cons_succ])
          go_cut [110] (fun v110 wc => ∃ (kq : Nat) (x110_18 : Bool), v110 = .bool x110_18 ∧ Aside0 (laws_FnConvexTables.j1 kq l0 l1 t427 t430 t431 t434 t435 x110_18 = some r) ∧ Aside0 (kq ≤ kj7) ∧ Aside0 (Kd.R (Kd.int .i64) 3 wc w.heap.size (fun k_ => some k_ ≠ (v436 : Value).ownBlock) (.slice Ao21 t427.length co21) t427) ∧ Aside0 (Kd.R (Kd.int .i64) 3 wc w.heap.size (fun k_ => some k_ ≠ ((.slice Ao21 t427.length co21) : Value).ownBlock) v436 t434) ∧ Aside0 (Below w.heap.size w wc))
          case first => as_aux_lemma =>
            have H := HC19.out
            clear HC19
            by_cases c24 : (t431 != t433) = true
            · rw [if_pos c24] at H
              have c24b0 : (t431 != t433) = true := c24
              (try (have c24b1 : decide (t431 = t433) = false := by simpa using c24))
              (try (have c24b2 : (t431 == t433) = false := by simpa using c24))
              (try (have c24b3 : ¬ (t431 = t433) := by simpa using c24))
              clear c24
              (first | rw [c24b0] | (simp only [i64_w, i32_w]; rw [c24b0]) | skip)
              have H' := Aside0.mk H
              clear H
              go_wp2
              go_meet
              case rel => exact ⟨_, (true), (by first | rfl | (simp; done) | (simp [*]; done)), H', ⟨by have := HJ7.out; first | omega | exact Nat.le_refl _⟩, ⟨by (with_reducible repeat (first | apply Kd.R_alloc | apply Kd.R_drewN | apply Kd.R_drew)); exact Kd.R_mono HO429.out (fun _ hk => hk.1.2)⟩, ⟨by (with_reducible repeat (first | apply Kd.R_alloc | apply Kd.R_drewN | apply Kd.R_drew)); exact Kd.R_mono HO437.out (fun _ hk => hk.1.2)⟩, ⟨by repeat (first | (with_reducible first | exact HB.out | apply below_alloc | apply pw_below_drewN | apply below_drew1) | exact HB.out)⟩⟩
            · rw [if_neg c24] at H
              have c24b0 : (t431 != t433) = false := by simpa using c24
              (try (have c24b1 : decide (t431 = t433) = true := by simpa using c24))
              (try (have c24b2 : (t431 == t433) = true := by simpa using c24))
              clear c24
              (first | rw [c24b0] | (simp only [i64_w, i32_w]; rw [c24b0]) | skip)
              by_cases c25 : (t430 != t432) = true
              · rw [if_pos c25] at H
                have c25b0 : (t430 != t432) = true := c25
                (try (have c25b1 : decide (t430 = t432) = false := by simpa using c25))
                (try (have c25b2 : (t430 == t432) = false := by simpa using c25))
                (try (have c25b3 : ¬ (t430 = t432) := by simpa using c25))
                clear c25
                have H' := Aside0.mk H
                clear H
                go_wp2
                go_meet
                case rel => exact ⟨_, (true), (by first | rfl | (simp; done) | (simp [*]; done)), H', ⟨by have := HJ7.out; first | omega | exact Nat.le_refl _⟩, ⟨by (with_reducible repeat (first | apply Kd.R_alloc | apply Kd.R_drewN | apply Kd.R_drew)); exact Kd.R_mono HO429.out (fun _ hk => hk.1.2)⟩, ⟨by (with_reducible repeat (first | apply Kd.R_alloc | apply Kd.R_drewN | apply Kd.R_drew)); exact Kd.R_mono HO437.out (fun _ hk => hk.1.2)⟩, ⟨by repeat (first | (with_reducible first | exact HB.out | apply below_alloc | apply pw_below_drewN | apply below_drew1) | exact HB.out)⟩⟩
              · rw [if_neg c25] at H
                have c25b0 : (t430 != t432) = false := by simpa using c25
                (try (have c25b1 : decide (t430 = t432) = true := by simpa using c25))
                (try (have c25b2 : (t430 == t432) = true := by simpa using c25))
                clear c25
                by_cases c26 : (t435 != t439) = true
                · rw [if_pos c26] at H
                  have c26b0 : (t435 != t439) = true := c26
                  (try (have c26b1 : decide (t435 = t439) = false := by simpa using c26))
                  (try (have c26b2 : (t435 == t439) = false := by simpa using c26))
                  (try (have c26b3 : ¬ (t435 = t439) := by simpa using c26))
                  clear c26
                  have H' := Aside0.mk H
                  clear H
                  go_wp2
                  go_meet
                  case rel => exact ⟨_, (true), (by first | rfl | (simp; done) | (simp [*]; done)), H', ⟨by have := HJ7.out; first | omega | exact Nat.le_refl _⟩, ⟨by (with_reducible repeat (first | apply Kd.R_alloc | apply Kd.R_drewN | apply Kd.R_drew)); exact Kd.R_mono HO429.out (fun _ hk => hk.1.2)⟩, ⟨by (with_reducible repeat (first | apply Kd.R_alloc | apply Kd.R_drewN | apply Kd.R_drew)); exact Kd.R_mono HO437.out (fun _ hk => hk.1.2)⟩, ⟨by repeat (first | (with_reducible first | exact HB.out | apply below_alloc | apply pw_below_drewN | apply below_drew1) | exact HB.out)⟩⟩
                · rw [if_neg c26] at H
                  have c26b0 : (t435 != t439) = false := by simpa using c26
                  (try (have c26b1 : decide (t435 = t439) = true := by simpa using c26))
                  (try (have c26b2 : (t435 == t439) = true := by simpa using c26))
                  clear c26
                  replace H := Option.bind_eq_some_iff.mp H
                  obtain ⟨t442, A270, H⟩ := H
                  replace H : (if t442 = true then (if t435 = true then (laws_FnConvexTables.j1 kj7 l0 l1 t427 t430 t431 t434 t435 (!t430)) else (laws_FnConvexTables.j1 kj7 l0 l1 t427 t430 t431 t434 t435 false)) else (laws_FnConvexTables.j1 kj7 l0 l1 t427 t430 t431 t434 t435 true)) = some r := H
                  have A27 := Aside0.mk A270
                  clear A270
                  by_cases c28 : t442 = true
                  · subst c28
                    have H1 : (if t435 = true then (laws_FnConvexTables.j1 kj7 l0 l1 t427 t430 t431 t434 t435 (!t430)) else (laws_FnConvexTables.j1 kj7 l0 l1 t427 t430 t431 t434 t435 false)) = some r := by rw [if_pos rfl] at H; exact H
                    clear H
                    have H := H1
                    clear H1
                    by_cases c29 : t435 = true
                    · subst c29
                      have H1 : (laws_FnConvexTables.j1 kj7 l0 l1 t427 t430 t431 t434 true (!t430)) = some r := by rw [if_pos rfl] at H; exact H
                      clear H
                      have H := H1
                      clear H1
                      have H' := Aside0.mk H
                      clear H
                      obtain ⟨Ao30, co30, eo30⟩ := Kd.R_slice HO437.out
                      subst eo30
                      obtain ⟨Ao31, co31, eo31⟩ := Kd.R_slice HO441.out
                      subst eo31
                      go_wp2_with (first | (go_at_call 37; (with_reducible refine (laws_pSame.calls kj7 _ _ t434 _ _ t438 true _ ?side1 ?side2 ?side3 ?side4 A27.out).mono ?_); (case side1 => repeat (first | exact (Kd.R_reads' HO437.out).2.2 | (with_reducible refine Kd.C_alloc ?_ _) | (with_reducible refine Kd.C_drewN ?_ _) | (with_reducible refine Kd.C_drew ?_))); (case side2 => exact (Kd.R_reads' HO437.out).2.1); (case side3 => repeat (first | exact (Kd.R_reads' HO441.out).2.2 | (with_reducible refine Kd.C_alloc ?_ _) | (with_reducible refine Kd.C_drewN ?_ _) | (with_reducible refine Kd.C_drew ?_))); (case side4 => exact (Kd.R_reads' HO441.out).2.1); rintro e w' ⟨rfl, ⟨nd, rfl⟩⟩))
                      go_meet
                      case rel => exact ⟨_, (!t430), (by first | rfl | (simp; done) | (simp [*]; done)), H', ⟨by have := HJ7.out; first | omega | exact Nat.le_refl _⟩, ⟨by (with_reducible repeat (first | apply Kd.R_alloc | apply Kd.R_drewN | apply Kd.R_drew)); exact Kd.R_mono HO429.out (fun _ hk => hk.1.2)⟩, ⟨by (with_reducible repeat (first | apply Kd.R_alloc | apply Kd.R_drewN | apply Kd.R_drew)); exact Kd.R_mono HO437.out (fun _ hk => hk.1.2)⟩, ⟨by repeat (first | (with_reducible first | exact HB.out | apply below_alloc | apply pw_below_drewN | apply below_drew1) | exact HB.out)⟩⟩
                    · replace c29 := Bool.eq_false_iff.mpr c29
                      subst c29
                      have H1 : (laws_FnConvexTables.j1 kj7 l0 l1 t427 t430 t431 t434 false false) = some r := by rw [if_neg (show ¬ (false = true) by decide)] at H; exact H
                      clear H
                      have H := H1
                      clear H1
                      have H' := Aside0.mk H
                      clear H
                      obtain ⟨Ao32, co32, eo32⟩ := Kd.R_slice HO437.out
                      subst eo32
                      obtain ⟨Ao33, co33, eo33⟩ := Kd.R_slice HO441.out
                      subst eo33
                      go_wp2_with (first | (go_at_call 37; (with_reducible refine (laws_pSame.calls kj7 _ _ t434 _ _ t438 true _ ?side1 ?side2 ?side3 ?side4 A27.out).mono ?_); (case side1 => repeat (first | exact (Kd.R_reads' HO437.out).2.2 | (with_reducible refine Kd.C_alloc ?_ _) | (with_reducible refine Kd.C_drewN ?_ _) | (with_reducible refine Kd.C_drew ?_))); (case side2 => exact (Kd.R_reads' HO437.out).2.1); (case side3 => repeat (first | exact (Kd.R_reads' HO441.out).2.2 | (with_reducible refine Kd.C_alloc ?_ _) | (with_reducible refine Kd.C_drewN ?_ _) | (with_reducible refine Kd.C_drew ?_))); (case side4 => exact (Kd.R_reads' HO441.out).2.1); rintro e w' ⟨rfl, ⟨nd, rfl⟩⟩))
                      go_meet
                      case rel => exact ⟨_, (false), (by first | rfl | (simp; done) | (simp [*]; done)), H', ⟨by have := HJ7.out; first | omega | exact Nat.le_refl _⟩, ⟨by (with_reducible repeat (first | apply Kd.R_alloc | apply Kd.R_drewN | apply Kd.R_drew)); exact Kd.R_mono HO429.out (fun _ hk => hk.1.2)⟩, ⟨by (with_reducible repeat (first | apply Kd.R_alloc | apply Kd.R_drewN | apply Kd.R_drew)); exact Kd.R_mono HO437.out (fun _ hk => hk.1.2)⟩, ⟨by repeat (first | (with_reducible first | exact HB.out | apply below_alloc | apply pw_below_drewN | apply below_drew1) | exact HB.out)⟩⟩
                  · replace c28 := Bool.eq_false_iff.mpr c28
                    subst c28
                    have H1 : (laws_FnConvexTables.j1 kj7 l0 l1 t427 t430 t431 t434 t435 true) = some r := by rw [if_neg (show ¬ (false = true) by decide)] at H; exact H
                    clear H
                    have H := H1
                    clear H1
                    have H' := Aside0.mk H
                    clear H
                    obtain ⟨Ao34, co34, eo34⟩ := Kd.R_slice HO437.out
                    subst eo34
                    obtain ⟨Ao35, co35, eo35⟩ := Kd.R_slice HO441.out
                    subst eo35
                    go_wp2_with (first | (go_at_call 37; (with_reducible refine (laws_pSame.calls kj7 _ _ t434 _ _ t438 false _ ?side1 ?side2 ?side3 ?side4 A27.out).mono ?_); (case side1 => repeat (first | exact (Kd.R_reads' HO437.out).2.2 | (with_reducible refine Kd.C_alloc ?_ _) | (with_reducible refine Kd.C_drewN ?_ _) | (with_reducible refine Kd.C_drew ?_))); (case side2 => exact (Kd.R_reads' HO437.out).2.1); (case side3 => repeat (first | exact (Kd.R_reads' HO441.out).2.2 | (with_reducible refine Kd.C_alloc ?_ _) | (with_reducible refine Kd.C_drewN ?_ _) | (with_reducible refine Kd.C_drew ?_))); (case side4 => exact (Kd.R_reads' HO441.out).2.1); rintro e w' ⟨rfl, ⟨nd, rfl⟩⟩))
                    go_meet
                    case rel => exact ⟨_, (true), (by first | rfl | (simp; done) | (simp [*]; done)), H', ⟨by have := HJ7.out; first | omega | exact Nat.le_refl _⟩, ⟨by (with_reducible repeat (first | apply Kd.R_alloc | apply Kd.R_drewN | apply Kd.R_drew)); exact Kd.R_mono HO429.out (fun _ hk => hk.1.2)⟩, ⟨by (with_reducible repeat (first | apply Kd.R_alloc | apply Kd.R_drewN | apply Kd.R_drew)); exact Kd.R_mono HO437.out (fun _ hk => hk.1.2)⟩, ⟨by repeat (first | (with_reducible first | exact HB.out | apply below_alloc | apply pw_below_drewN | apply below_drew1) | exact HB.out)⟩⟩
          case rest => as_aux_lemma =>
            clear HC19
            try clear c1
            try clear c2
            try clear p2
            try clear c3
            try clear c4
            try clear c5
            try clear c12
            try clear c12b0
            try clear c12b1
            try clear c12b2
            try clear c13
            try clear c15
            try clear c24
            try clear c24b0
            try clear c24b1
            try clear c24b2
            try clear c25
            try clear c25b0
            try clear c25b1
            try clear c25b2
            try clear c26
            try clear c26b0
            try clear c26b1
            try clear c26b2
            try clear c28
            try clear c29
            try clear c30
            try clear c31
            try clear c32
            try clear c33
            try clear c34
            try clear c35
            try clear p2
            obtain ⟨kq, x110_18, rfl, HA, HJ18, HO_11, HO_16, HB⟩ := hcut
            cases kq with
            | zero => exact absurd HA.out (by simp [laws_FnConvexTables.j1])
            | succ kj18 =>
              have H := HA.out
              clear HA
              simp only [laws_FnConvexTables.j1] at H
              by_cases c36 : x110_18 = true
              · subst c36
                have H1 : (some false) = some r := by rw [if_pos rfl] at H; exact H
                clear H
                have H := H1
                clear H1
                obtain rfl := Option.some.inj H
                go_wp2
                go_ret
                exact ⟨by first | rfl | (simp [errW_none, errW_some] <;> rfl) | (simp [*, errW_none, errW_some] <;> rfl), by repeat (first | (with_reducible first | exact HB.out | apply below_alloc | apply pw_below_drewN | apply below_drew1) | exact HB.out)⟩
              · replace c36 := Bool.eq_false_iff.mpr c36
                subst c36
                have H1 : (if t435 = true then ((impl_TableOfThresholds.f kj18 t434).bind fun bt443 => (if bt443.2 = true then ((laws_pSame.f kj18 bt443.1 t427).bind fun t447 => (if t447 = true then (laws_FnConvexTables.j2 kj18 l0 l1 t427 t430 t431) else (some false))) else (laws_FnConvexTables.j2 kj18 l0 l1 t427 t430 t431))) else (laws_FnConvexTables.j2 kj18 l0 l1 t427 t430 t431)) = some r := by rw [if_neg (show ¬ (false = true) by decide)] at H; exact H
                clear H
                have H := H1
                clear H1
                have HC37 := Aside0.mk H
                clear H
                go_upto_if 111 with (fail)
                go_cut [] (fun wc => ∃ (kq : Nat), Aside0 (laws_FnConvexTables.j2 kq l0 l1 t427 t430 t431 = some r) ∧ Aside0 (kq ≤ kj18) ∧ Aside0 (Kd.R (Kd.int .i64) 3 wc w.heap.size (fun _ => True) (.slice Ao21 t427.length co21) t427) ∧ Aside0 (Below w.heap.size w wc))
                case first => as_aux_lemma =>
                  have H := HC37.out
                  clear HC37
                  by_cases c38 : t435 = true
                  · subst c38
                    have H1 : ((impl_TableOfThresholds.f kj18 t434).bind fun bt443 => (if bt443.2 = true then ((laws_pSame.f kj18 bt443.1 t427).bind fun t447 => (if t447 = true then (laws_FnConvexTables.j2 kj18 l0 l1 t427 t430 t431) else (some false))) else (laws_FnConvexTables.j2 kj18 l0 l1 t427 t430 t431))) = some r := by rw [if_pos rfl] at H; exact H
                    clear H
                    have H := H1
                    clear H1
                    replace H := Option.bind_eq_some_iff.mp H
                    obtain ⟨⟨t443, t444⟩, A390, H⟩ := H
                    replace H : (if t444 = true then ((laws_pSame.f kj18 t443 t427).bind fun t447 => (if t447 = true then (laws_FnConvexTables.j2 kj18 l0 l1 t427 t430 t431) else (some false))) else (laws_FnConvexTables.j2 kj18 l0 l1 t427 t430 t431)) = some r := H
                    have A39 := Aside0.mk A390
                    clear A390
                    by_cases c40 : t444 = true
                    · subst c40
                      have H1 : ((laws_pSame.f kj18 t443 t427).bind fun t447 => (if t447 = true then (laws_FnConvexTables.j2 kj18 l0 l1 t427 t430 t431) else (some false))) = some r := by rw [if_pos rfl] at H; exact H
                      clear H
                      have H := H1
                      clear H1
                      replace H := Option.bind_eq_some_iff.mp H
                      obtain ⟨t447, A410, H⟩ := H
                      replace H : (if t447 = true then (laws_FnConvexTables.j2 kj18 l0 l1 t427 t430 t431) else (some false)) = some r := H
                      have A41 := Aside0.mk A410
                      clear A410
                      by_cases c42 : t447 = true
                      · subst c42
                        have H1 : (laws_FnConvexTables.j2 kj18 l0 l1 t427 t430 t431) = some r := by rw [if_pos rfl] at H; exact H
                        clear H
                        have H := H1
                        clear H1
                        have H' := Aside0.mk H
                        clear H
                        obtain ⟨Ao43, co43, eo43⟩ := Kd.R_slice HO_16.out
                        subst eo43
                        go_wp2_with (first | ((with_reducible refine gate_callee (f := 38) rfl ?_); refine goesL_ (some 114) rfl rfl Try.func38 (by kernel_rfl) rfl #[.slice Ao43 t434.length co43] rfl (by (try simp only [List.map_toArray, List.map_cons, List.map_nil]); first | done | rfl | (simp only [List.length_drop, List.length_take]; rfl)) ?_; (with_reducible refine (impl_TableOfThresholds.calls kj18 _ _ t434 t443 true _ ?side1 ?side2 A39.out).mono ?_); (case side1 => repeat (first | exact (Kd.R_reads' HO_16.out).2.2 | (with_reducible refine Kd.C_alloc ?_ _) | (with_reducible refine Kd.C_drewN ?_ _) | (with_reducible refine Kd.C_drew ?_))); (case side2 => exact (Kd.R_reads' HO_16.out).2.1); rintro e w44 ⟨v445, rfl, ho0, hb⟩; refine ⟨_, rfl, ?_⟩; have n0_ := Aside0.mk (Kd.R_elder' (by (with_reducible repeat (first | apply Kd.R_alloc | apply Kd.R_drewN | apply Kd.R_drew)); exact HO_11.out) (Kd.R_base ho0) hb); have n1_ := Aside0.mk (Kd.R_elder' (by (with_reducible repeat (first | apply Kd.R_alloc | apply Kd.R_drewN | apply Kd.R_drew)); exact HO_16.out) (Kd.R_base ho0) hb); have n2_ := Aside0.mk (Kd.R_lower (Kd.R_new' (Kd.R_new' ho0 (Kd.R_lt (by (with_reducible repeat (first | apply Kd.R_alloc | apply Kd.R_drewN | apply Kd.R_drew)); exact HO_11.out))) (Kd.R_lt (by (with_reducible repeat (first | apply Kd.R_alloc | apply Kd.R_drewN | apply Kd.R_drew)); exact HO_16.out))) (below_size (by repeat (first | (with_reducible first | exact HB.out | apply below_alloc | apply pw_below_drewN | apply below_drew1) | exact HB.out)))); have n3_ := Aside0.mk (below_step (by repeat (first | (with_reducible first | exact HB.out | apply below_alloc | apply pw_below_drewN | apply below_drew1) | exact HB.out)) hb); clear HO_11; clear HO_16; clear HB; have HO_11 := n0_; have HO_16 := n1_; have HO446 := n2_; have HB := n3_; clear n0_ n1_ n2_ n3_; (try clear hb); (try clear hb2); (try clear hk); (try clear hi); (try clear ho0); obtain ⟨Ao45, co45, eo45⟩ := Kd.R_slice HO446.out; subst eo45) | (go_at_call 37; (with_reducible refine (laws_pSame.calls kj18 _ _ t443 _ _ t427 true _ ?side1 ?side2 ?side3 ?side4 A41.out).mono ?_); (case side1 => repeat (first | exact (Kd.R_reads' HO446.out).2.2 | (with_reducible refine Kd.C_alloc ?_ _) | (with_reducible refine Kd.C_drewN ?_ _) | (with_reducible refine Kd.C_drew ?_))); (case side2 => exact (Kd.R_reads' HO446.out).2.1); (case side3 => repeat (first | exact (Kd.R_reads' HO_11.out).2.2 | (with_reducible refine Kd.C_alloc ?_ _) | (with_reducible refine Kd.C_drewN ?_ _) | (with_reducible refine Kd.C_drew ?_))); (case side4 => exact (Kd.R_reads' HO_11.out).2.1); rintro e w' ⟨rfl, ⟨nd, rfl⟩⟩))
                        go_meet
                        case rel => exact ⟨_, H', ⟨by have := HJ7.out; have := HJ18.out; first | omega | exact Nat.le_refl _⟩, ⟨by (with_reducible repeat (first | apply Kd.R_alloc | apply Kd.R_drewN | apply Kd.R_drew)); exact Kd.R_mono HO_11.out (fun _ hk => trivial)⟩, ⟨by repeat (first | (with_reducible first | exact HB.out | apply below_alloc | apply pw_below_drewN | apply below_drew1) | exact HB.out)⟩⟩
                      · replace c42 := Bool.eq_false_iff.mpr c42
                        subst c42
                        have H1 : (some false) = some r := by rw [if_neg (show ¬ (false = true) by decide)] at H; exact H
                        clear H
                        have H := H1
                        clear H1
                        obtain rfl := Option.some.inj H
                        obtain ⟨Ao46, co46, eo46⟩ := Kd.R_slice HO_16.out
                        subst eo46
                        go_wp2_with (first | ((with_reducible refine gate_callee (f := 38) rfl ?_); refine goesL_ (some 114) rfl rfl Try.func38 (by kernel_rfl) rfl #[.slice Ao46 t434.length co46] rfl (by (try simp only [List.map_toArray, List.map_cons, List.map_nil]); first | done | rfl | (simp only [List.length_drop, List.length_take]; rfl)) ?_; (with_reducible refine (impl_TableOfThresholds.calls kj18 _ _ t434 t443 true _ ?side1 ?side2 A39.out).mono ?_); (case side1 => repeat (first | exact (Kd.R_reads' HO_16.out).2.2 | (with_reducible refine Kd.C_alloc ?_ _) | (with_reducible refine Kd.C_drewN ?_ _) | (with_reducible refine Kd.C_drew ?_))); (case side2 => exact (Kd.R_reads' HO_16.out).2.1); rintro e w47 ⟨v445, rfl, ho0, hb⟩; refine ⟨_, rfl, ?_⟩; have n0_ := Aside0.mk (Kd.R_elder' (by (with_reducible repeat (first | apply Kd.R_alloc | apply Kd.R_drewN | apply Kd.R_drew)); exact HO_11.out) (Kd.R_base ho0) hb); have n1_ := Aside0.mk (Kd.R_elder' (by (with_reducible repeat (first | apply Kd.R_alloc | apply Kd.R_drewN | apply Kd.R_drew)); exact HO_16.out) (Kd.R_base ho0) hb); have n2_ := Aside0.mk (Kd.R_lower (Kd.R_new' (Kd.R_new' ho0 (Kd.R_lt (by (with_reducible repeat (first | apply Kd.R_alloc | apply Kd.R_drewN | apply Kd.R_drew)); exact HO_11.out))) (Kd.R_lt (by (with_reducible repeat (first | apply Kd.R_alloc | apply Kd.R_drewN | apply Kd.R_drew)); exact HO_16.out))) (below_size (by repeat (first | (with_reducible first | exact HB.out | apply below_alloc | apply pw_below_drewN | apply below_drew1) | exact HB.out)))); have n3_ := Aside0.mk (below_step (by repeat (first | (with_reducible first | exact HB.out | apply below_alloc | apply pw_below_drewN | apply below_drew1) | exact HB.out)) hb); clear HO_11; clear HO_16; clear HB; have HO_11 := n0_; have HO_16 := n1_; have HO446 := n2_; have HB := n3_; clear n0_ n1_ n2_ n3_; (try clear hb); (try clear hb2); (try clear hk); (try clear hi); (try clear ho0); obtain ⟨Ao48, co48, eo48⟩ := Kd.R_slice HO446.out; subst eo48) | (go_at_call 37; (with_reducible refine (laws_pSame.calls kj18 _ _ t443 _ _ t427 false _ ?side1 ?side2 ?side3 ?side4 A41.out).mono ?_); (case side1 => repeat (first | exact (Kd.R_reads' HO446.out).2.2 | (with_reducible refine Kd.C_alloc ?_ _) | (with_reducible refine Kd.C_drewN ?_ _) | (with_reducible refine Kd.C_drew ?_))); (case side2 => exact (Kd.R_reads' HO446.out).2.1); (case side3 => repeat (first | exact (Kd.R_reads' HO_11.out).2.2 | (with_reducible refine Kd.C_alloc ?_ _) | (with_reducible refine Kd.C_drewN ?_ _) | (with_reducible refine Kd.C_drew ?_))); (case side4 => exact (Kd.R_reads' HO_11.out).2.1); rintro e w' ⟨rfl, ⟨nd, rfl⟩⟩))
                        go_ret
                        exact ⟨by first | rfl | (simp [errW_none, errW_some] <;> rfl) | (simp [*, errW_none, errW_some] <;> rfl), by repeat (first | (with_reducible first | exact HB.out | apply below_alloc | apply pw_below_drewN | apply below_drew1) | exact HB.out)⟩
                    · replace c40 := Bool.eq_false_iff.mpr c40
                      subst c40
                      have H1 : (laws_FnConvexTables.j2 kj18 l0 l1 t427 t430 t431) = some r := by rw [if_neg (show ¬ (false = true) by decide)] at H; exact H
                      clear H
                      have H := H1
                      clear H1
                      have H' := Aside0.mk H
                      clear H
                      obtain ⟨Ao49, co49, eo49⟩ := Kd.R_slice HO_16.out
                      subst eo49
                      go_wp2_with (first | ((with_reducible refine gate_callee (f := 38) rfl ?_); refine goesL_ (some 114) rfl rfl Try.func38 (by kernel_rfl) rfl #[.slice Ao49 t434.length co49] rfl (by (try simp only [List.map_toArray, List.map_cons, List.map_nil]); first | done | rfl | (simp only [List.length_drop, List.length_take]; rfl)) ?_; (with_reducible refine (impl_TableOfThresholds.calls kj18 _ _ t434 t443 false _ ?side1 ?side2 A39.out).mono ?_); (case side1 => repeat (first | exact (Kd.R_reads' HO_16.out).2.2 | (with_reducible refine Kd.C_alloc ?_ _) | (with_reducible refine Kd.C_drewN ?_ _) | (with_reducible refine Kd.C_drew ?_))); (case side2 => exact (Kd.R_reads' HO_16.out).2.1); rintro e w50 ⟨v445, rfl, ho0, hb⟩; refine ⟨_, rfl, ?_⟩; have n0_ := Aside0.mk (Kd.R_elder' (by (with_reducible repeat (first | apply Kd.R_alloc | apply Kd.R_drewN | apply Kd.R_drew)); exact HO_11.out) (Kd.R_base ho0) hb); have n1_ := Aside0.mk (Kd.R_elder' (by (with_reducible repeat (first | apply Kd.R_alloc | apply Kd.R_drewN | apply Kd.R_drew)); exact HO_16.out) (Kd.R_base ho0) hb); have n2_ := Aside0.mk (Kd.R_lower (Kd.R_new' (Kd.R_new' ho0 (Kd.R_lt (by (with_reducible repeat (first | apply Kd.R_alloc | apply Kd.R_drewN | apply Kd.R_drew)); exact HO_11.out))) (Kd.R_lt (by (with_reducible repeat (first | apply Kd.R_alloc | apply Kd.R_drewN | apply Kd.R_drew)); exact HO_16.out))) (below_size (by repeat (first | (with_reducible first | exact HB.out | apply below_alloc | apply pw_below_drewN | apply below_drew1) | exact HB.out)))); have n3_ := Aside0.mk (below_step (by repeat (first | (with_reducible first | exact HB.out | apply below_alloc | apply pw_below_drewN | apply below_drew1) | exact HB.out)) hb); clear HO_11; clear HO_16; clear HB; have HO_11 := n0_; have HO_16 := n1_; have HO446 := n2_; have HB := n3_; clear n0_ n1_ n2_ n3_; (try clear hb); (try clear hb2); (try clear hk); (try clear hi); (try clear ho0)))
                      go_meet
                      case rel => exact ⟨_, H', ⟨by have := HJ7.out; have := HJ18.out; first | omega | exact Nat.le_refl _⟩, ⟨by (with_reducible repeat (first | apply Kd.R_alloc | apply Kd.R_drewN | apply Kd.R_drew)); exact Kd.R_mono HO_11.out (fun _ hk => trivial)⟩, ⟨by repeat (first | (with_reducible first | exact HB.out | apply below_alloc | apply pw_below_drewN | apply below_drew1) | exact HB.out)⟩⟩
                  · replace c38 := Bool.eq_false_iff.mpr c38
                    subst c38
                    have H1 : (laws_FnConvexTables.j2 kj18 l0 l1 t427 t430 t431) = some r := by rw [if_neg (show ¬ (false = true) by decide)] at H; exact H
                    clear H
                    have H := H1
                    clear H1
                    have H' := Aside0.mk H
                    clear H
                    go_wp2
                    go_meet
                    case rel => exact ⟨_, H', ⟨by have := HJ7.out; have := HJ18.out; first | omega | exact Nat.le_refl _⟩, ⟨by (with_reducible repeat (first | apply Kd.R_alloc | apply Kd.R_drewN | apply Kd.R_drew)); exact Kd.R_mono HO_11.out (fun _ hk => trivial)⟩, ⟨by repeat (first | (with_reducible first | exact HB.out | apply below_alloc | apply pw_below_drewN | apply below_drew1) | exact HB.out)⟩⟩
                case rest => as_aux_lemma =>
                  clear HC37
                  try clear c1
                  try clear c2
                  try clear p2
                  try clear c3
                  try clear c4
                  try clear c5
                  try clear c12
                  try clear c12b0
                  try clear c12b1
                  try clear c12b2
                  try clear c13
                  try clear c15
                  try clear c24
                  try clear c24b0
                  try clear c24b1
                  try clear c24b2
                  try clear c25
                  try clear c25b0
                  try clear c25b1
                  try clear c25b2
                  try clear c26
                  try clear c26b0
                  try clear c26b1
                  try clear c26b2
                  try clear c28
                  try clear c29
                  try clear c30
                  try clear c31
                  try clear c32
                  try clear c33
                  try clear c34
                  try clear c35
                  try clear c36
                  try clear c38
                  try clear c40
                  try clear c42
                  try clear p2
                  obtain ⟨kq, HA, HJ36, HO_11, HB⟩ := hcut
                  cases kq with
                  | zero => exact absurd HA.out (by simp [laws_FnConvexTables.j2])
                  | succ kj36 =>
                    have H := HA.out
                    clear HA
                    simp only [laws_FnConvexTables.j2] at H
                    replace H := Option.bind_eq_some_iff.mp H
                    obtain ⟨t448, A510, H⟩ := H
                    replace H : ((impl_TableOfThresholds.f kj36 t448).bind fun bt451 => ((spec_TableOfThresholds.f kj36 t448).bind fun bt455 => (if (bt451.2 != bt455.2) = true then (laws_FnConvexTables.j3 kj36 l1 t427 t430 t431 t448 bt451.1 bt451.2 true) else ((laws_pSame.f kj36 bt451.1 bt455.1).bind fun t459 => (laws_FnConvexTables.j3 kj36 l1 t427 t430 t431 t448 bt451.1 bt451.2 (!t459)))))) = some r := H
                    have A51 := Aside0.mk A510
                    clear A510
                    replace H := Option.bind_eq_some_iff.mp H
                    obtain ⟨⟨t451, t452⟩, A520, H⟩ := H
                    replace H : ((spec_TableOfThresholds.f kj36 t448).bind fun bt455 => (if (t452 != bt455.2) = true then (laws_FnConvexTables.j3 kj36 l1 t427 t430 t431 t448 t451 t452 true) else ((laws_pSame.f kj36 t451 bt455.1).bind fun t459 => (laws_FnConvexTables.j3 kj36 l1 t427 t430 t431 t448 t451 t452 (!t459))))) = some r := H
                    have A52 := Aside0.mk A520
                    clear A520
                    replace H := Option.bind_eq_some_iff.mp H
                    obtain ⟨⟨t455, t456⟩, A530, H⟩ := H
                    replace H : (if (t452 != t456) = true then (laws_FnConvexTables.j3 kj36 l1 t427 t430 t431 t448 t451 t452 true) else ((laws_pSame.f kj36 t451 t455).bind fun t459 => (laws_FnConvexTables.j3 kj36 l1 t427 t430 t431 t448 t451 t452 (!t459)))) = some r := H
                    have A53 := Aside0.mk A530
                    clear A530
                    have HC54 := Aside0.mk H
                    clear H
                    go_upto_region 22 with (first | ((with_reducible refine gate_callee (f := 39) rfl ?_); refine goesL_ (some 125) rfl rfl Try.func39 (by kernel_rfl) rfl #[.slice A0 l0.length c0] rfl (by (try simp only [List.map_toArray, List.map_cons, List.map_nil]); first | done | rfl | (simp only [List.length_drop, List.length_take]; rfl)) ?_; (with_reducible refine (spec_DrawTableOfThresholds.calls kj36 _ _ l0 t448 _ ?side1 ?side2 A51.out).mono ?_); (case side1 => repeat (first | exact (Kd.C_below HR0.out HB.out) | (with_reducible refine Kd.C_alloc ?_ _) | (with_reducible refine Kd.C_drewN ?_ _) | (with_reducible refine Kd.C_drew ?_))); (case side2 => exact HC0.out); rintro e w55 ⟨v449, rfl, ho0, hb⟩; refine ⟨_, rfl, ?_⟩; have n0_ := Aside0.mk (Kd.R_elder' (by (with_reducible repeat (first | apply Kd.R_alloc | apply Kd.R_drewN | apply Kd.R_drew)); exact HO_11.out) (Kd.R_base ho0) hb); have n1_ := Aside0.mk (Kd.R_lower (Kd.R_new' ho0 (Kd.R_lt (by (with_reducible repeat (first | apply Kd.R_alloc | apply Kd.R_drewN | apply Kd.R_drew)); exact HO_11.out))) (below_size (by repeat (first | (with_reducible first | exact HB.out | apply below_alloc | apply pw_below_drewN | apply below_drew1) | exact HB.out)))); have n2_ := Aside0.mk (below_step (by repeat (first | (with_reducible first | exact HB.out | apply below_alloc | apply pw_below_drewN | apply below_drew1) | exact HB.out)) hb); clear HO_11; clear HB; have HO_11 := n0_; have HO450 := n1_; have HB := n2_; clear n0_ n1_ n2_; (try clear hb); (try clear hb2); (try clear hk); (try clear hi); (try clear ho0); obtain ⟨Ao56, co56, eo56⟩ := Kd.R_slice HO450.out; subst eo56) | ((with_reducible refine gate_callee (f := 38) rfl ?_); refine goesL_ (some 128) rfl rfl Try.func38 (by kernel_rfl) rfl #[.slice Ao56 t448.length co56] rfl (by (try simp only [List.map_toArray, List.map_cons, List.map_nil]); first | done | rfl | (simp only [List.length_drop, List.length_take]; rfl)) ?_; (with_reducible refine (impl_TableOfThresholds.calls kj36 _ _ t448 t451 t452 _ ?side1 ?side2 A52.out).mono ?_); (case side1 => repeat (first | exact (Kd.R_reads' HO450.out).2.2 | (with_reducible refine Kd.C_alloc ?_ _) | (with_reducible refine Kd.C_drewN ?_ _) | (with_reducible refine Kd.C_drew ?_))); (case side2 => exact (Kd.R_reads' HO450.out).2.1); rintro e w57 ⟨v453, rfl, ho0, hb⟩; refine ⟨_, rfl, ?_⟩; have n0_ := Aside0.mk (Kd.R_elder' (by (with_reducible repeat (first | apply Kd.R_alloc | apply Kd.R_drewN | apply Kd.R_drew)); exact HO_11.out) (Kd.R_base ho0) hb); have n1_ := Aside0.mk (Kd.R_elder' (by (with_reducible repeat (first | apply Kd.R_alloc | apply Kd.R_drewN | apply Kd.R_drew)); exact HO450.out) (Kd.R_base ho0) hb); have n2_ := Aside0.mk (Kd.R_lower (Kd.R_new' (Kd.R_new' ho0 (Kd.R_lt (by (with_reducible repeat (first | apply Kd.R_alloc | apply Kd.R_drewN | apply Kd.R_drew)); exact HO_11.out))) (Kd.R_lt (by (with_reducible repeat (first | apply Kd.R_alloc | apply Kd.R_drewN | apply Kd.R_drew)); exact HO450.out))) (below_size (by repeat (first | (with_reducible first | exact HB.out | apply below_alloc | apply pw_below_drewN | apply below_drew1) | exact HB.out)))); have n3_ := Aside0.mk (below_step (by repeat (first | (with_reducible first | exact HB.out | apply below_alloc | apply pw_below_drewN | apply below_drew1) | exact HB.out)) hb); clear HO_11; clear HO450; clear HB; have HO_11 := n0_; have HO450 := n1_; have HO454 := n2_; have HB := n3_; clear n0_ n1_ n2_ n3_; (try clear hb); (try clear hb2); (try clear hk); (try clear hi); (try clear ho0)) | ((with_reducible refine gate_callee (f := 40) rfl ?_); refine goesL_ (some 133) rfl rfl Try.func40 (by kernel_rfl) rfl #[.slice Ao56 t448.length co56] rfl (by (try simp only [List.map_toArray, List.map_cons, List.map_nil]); first | done | rfl | (simp only [List.length_drop, List.length_take]; rfl)) ?_; (with_reducible refine (spec_TableOfThresholds.calls kj36 _ _ t448 t455 t456 _ ?side1 ?side2 A53.out).mono ?_); (case side1 => repeat (first | exact (Kd.R_reads' HO450.out).2.2 | (with_reducible refine Kd.C_alloc ?_ _) | (with_reducible refine Kd.C_drewN ?_ _) | (with_reducible refine Kd.C_drew ?_))); (case side2 => exact (Kd.R_reads' HO450.out).2.1); rintro e w58 ⟨v457, rfl, ho0, hb⟩; refine ⟨_, rfl, ?_⟩; have n0_ := Aside0.mk (Kd.R_elder' (by (with_reducible repeat (first | apply Kd.R_alloc | apply Kd.R_drewN | apply Kd.R_drew)); exact HO_11.out) (Kd.R_base ho0) hb); have n1_ := Aside0.mk (Kd.R_elder' (by (with_reducible repeat (first | apply Kd.R_alloc | apply Kd.R_drewN | apply Kd.R_drew)); exact HO450.out) (Kd.R_base ho0) hb); have n2_ := Aside0.mk (Kd.R_elder' (by (with_reducible repeat (first | apply Kd.R_alloc | apply Kd.R_drewN | apply Kd.R_drew)); exact HO454.out) (Kd.R_base ho0) hb); have n3_ := Aside0.mk (Kd.R_lower (Kd.R_new' (Kd.R_new' (Kd.R_new' ho0 (Kd.R_lt (by (with_reducible repeat (first | apply Kd.R_alloc | apply Kd.R_drewN | apply Kd.R_drew)); exact HO_11.out))) (Kd.R_lt (by (with_reducible repeat (first | apply Kd.R_alloc | apply Kd.R_drewN | apply Kd.R_drew)); exact HO450.out))) (Kd.R_lt (by (with_reducible repeat (first | apply Kd.R_alloc | apply Kd.R_drewN | apply Kd.R_drew)); exact HO454.out))) (below_size (by repeat (first | (with_reducible first | exact HB.out | apply below_alloc | apply pw_below_drewN | apply below_drew1) | exact HB.out)))); have n4_ := Aside0.mk (below_step (by repeat (first | (with_reducible first | exact HB.out | apply below_alloc | apply pw_below_drewN | apply below_drew1) | exact HB.out)) hb); clear HO_11; clear HO450; clear HO454; clear HB; have HO_11 := n0_; have HO450 := n1_; have HO454 := n2_; have HO458 := n3_; have HB := n4_; clear n0_ n1_ n2_ n3_ n4_; (try clear hb); (try clear hb2); (try clear hk); (try clear hi); (try clear ho0)))
                    (try simp only [Act.put, List.setIfInBounds_toArray, List.set_cons_zero, List.set_cons_succ])
                    go_cut [144] (fun v144 wc => ∃ (kq : Nat) (x144_53 : Bool), v144 = .bool x144_53 ∧ Aside0 (laws_FnConvexTables.j3 kq l1 t427 t430 t431 t448 t451 t452 x144_53 = some r) ∧ Aside0 (kq ≤ kj36) ∧ Aside0 (Kd.R (Kd.int .i64) 3 wc w.heap.size (fun k_ => some k_ ≠ ((.slice Ao56 t448.length co56) : Value).ownBlock ∧ some k_ ≠ (v453 : Value).ownBlock) (.slice Ao21 t427.length co21) t427) ∧ Aside0 (Kd.R (Kd.int .i64) 3 wc w.heap.size (fun k_ => some k_ ≠ ((.slice Ao21 t427.length co21) : Value).ownBlock ∧ some k_ ≠ (v453 : Value).ownBlock) (.slice Ao56 t448.length co56) t448) ∧ Aside0 (Kd.R (Kd.int .i64) 3 wc w.heap.size (fun k_ => some k_ ≠ ((.slice Ao21 t427.length co21) : Value).ownBlock ∧ some k_ ≠ ((.slice Ao56 t448.length co56) : Value).ownBlock) v453 t451) ∧ Aside0 (Below w.heap.size w wc))
                    case first => as_aux_lemma =>
                      have H := HC54.out
                      clear HC54
                      by_cases c59 : (t452 != t456) = true
                      · rw [if_pos c59] at H
                        have c59b0 : (t452 != t456) = true := c59
                        (try (have c59b1 : decide (t452 = t456) = false := by simpa using c59))
                        (try (have c59b2 : (t452 == t456) = false := by simpa using c59))
                        (try (have c59b3 : ¬ (t452 = t456) := by simpa using c59))
                        clear c59
                        (first | rw [c59b0] | (simp only [i64_w, i32_w]; rw [c59b0]) | skip)
                        have H' := Aside0.mk H
                        clear H
                        go_wp2
                        go_meet
                        case rel => exact ⟨_, (true), (by first | rfl | (simp; done) | (simp [*]; done)), H', ⟨by have := HJ7.out; have := HJ18.out; have := HJ36.out; first | omega | exact Nat.le_refl _⟩, ⟨by (with_reducible repeat (first | apply Kd.R_alloc | apply Kd.R_drewN | apply Kd.R_drew)); exact Kd.R_mono HO_11.out (fun _ hk => ⟨hk.1.1.2, hk.1.2⟩)⟩, ⟨by (with_reducible repeat (first | apply Kd.R_alloc | apply Kd.R_drewN | apply Kd.R_drew)); exact Kd.R_mono HO450.out (fun _ hk => ⟨hk.1.1.2, hk.1.2⟩)⟩, ⟨by (with_reducible repeat (first | apply Kd.R_alloc | apply Kd.R_drewN | apply Kd.R_drew)); exact Kd.R_mono HO454.out (fun _ hk => ⟨hk.1.1.2, hk.1.2⟩)⟩, ⟨by repeat (first | (with_reducible first | exact HB.out | apply below_alloc | apply pw_below_drewN | apply below_drew1) | exact HB.out)⟩⟩
                      · rw [if_neg c59] at H
                        have c59b0 : (t452 != t456) = false := by simpa using c59
                        (try (have c59b1 : decide (t452 = t456) = true := by simpa using c59))
                        (try (have c59b2 : (t452 == t456) = true := by simpa using c59))
                        clear c59
                        (first | rw [c59b0] | (simp only [i64_w, i32_w]; rw [c59b0]) | skip)
                        replace H := Option.bind_eq_some_iff.mp H
                        obtain ⟨t459, A600, H⟩ := H
                        replace H : (laws_FnConvexTables.j3 kj36 l1 t427 t430 t431 t448 t451 t452 (!t459)) = some r := H
                        have A60 := Aside0.mk A600
                        clear A600
                        have H' := Aside0.mk H
                        clear H
                        obtain ⟨Ao61, co61, eo61⟩ := Kd.R_slice HO454.out
                        subst eo61
                        obtain ⟨Ao62, co62, eo62⟩ := Kd.R_slice HO458.out
                        subst eo62
                        go_wp2_with (first | (go_at_call 37; (with_reducible refine (laws_pSame.calls kj36 _ _ t451 _ _ t455 t459 _ ?side1 ?side2 ?side3 ?side4 A60.out).mono ?_); (case side1 => repeat (first | exact (Kd.R_reads' HO454.out).2.2 | (with_reducible refine Kd.C_alloc ?_ _) | (with_reducible refine Kd.C_drewN ?_ _) | (with_reducible refine Kd.C_drew ?_))); (case side2 => exact (Kd.R_reads' HO454.out).2.1); (case side3 => repeat (first | exact (Kd.R_reads' HO458.out).2.2 | (with_reducible refine Kd.C_alloc ?_ _) | (with_reducible refine Kd.C_drewN ?_ _) | (with_reducible refine Kd.C_drew ?_))); (case side4 => exact (Kd.R_reads' HO458.out).2.1); rintro e w' ⟨rfl, ⟨nd, rfl⟩⟩))
                        go_meet
                        case rel => exact ⟨_, (!t459), (by first | rfl | (simp; done) | (simp [*]; done)), H', ⟨by have := HJ7.out; have := HJ18.out; have := HJ36.out; first | omega | exact Nat.le_refl _⟩, ⟨by (with_reducible repeat (first | apply Kd.R_alloc | apply Kd.R_drewN | apply Kd.R_drew)); exact Kd.R_mono HO_11.out (fun _ hk => ⟨hk.1.1.2, hk.1.2⟩)⟩, ⟨by (with_reducible repeat (first | apply Kd.R_alloc | apply Kd.R_drewN | apply Kd.R_drew)); exact Kd.R_mono HO450.out (fun _ hk => ⟨hk.1.1.2, hk.1.2⟩)⟩, ⟨by (with_reducible repeat (first | apply Kd.R_alloc | apply Kd.R_drewN | apply Kd.R_drew)); exact Kd.R_mono HO454.out (fun _ hk => ⟨hk.1.1.2, hk.1.2⟩)⟩, ⟨by repeat (first | (with_reducible first | exact HB.out | apply below_alloc | apply pw_below_drewN | apply below_drew1) | exact HB.out)⟩⟩
                    case rest => as_aux_lemma =>
                      clear HC54
                      try clear c1
                      try clear c2
                      try clear p2
                      try clear c3
                      try clear c4
                      try clear c5
                      try clear c12
                      try clear c12b0
                      try clear c12b1
                      try clear c12b2
                      try clear c13
                      try clear c15
                      try clear c24
                      try clear c24b0
                      try clear c24b1
                      try clear c24b2
                      try clear c25
                      try clear c25b0
                      try clear c25b1
                      try clear c25b2
                      try clear c26
                      try clear c26b0
                      try clear c26b1
                      try clear c26b2
                      try clear c28
                      try clear c29
                      try clear c30
                      try clear c31
                      try clear c32
                      try clear c33
                      try clear c34
                      try clear c35
                      try clear c36
                      try clear c38
                      try clear c39
                      try clear c40
                      try clear c42
                      try clear c59
                      try clear c59b0
                      try clear c59b1
                      try clear c59b2
                      try clear p2
                      obtain ⟨kq, x144_53, rfl, HA, HJ53, HO_11, HO_22, HO_23, HB⟩ := hcut
                      cases kq with
                      | zero => exact absurd HA.out (by simp [laws_FnConvexTables.j3])
                      | succ kj53 =>
                        have H := HA.out
                        clear HA
                        simp only [laws_FnConvexTables.j3] at H
                        by_cases c63 : x144_53 = true
                        · subst c63
                          have H1 : (some false) = some r := by rw [if_pos rfl] at H; exact H
                          clear H
                          have H := H1
                          clear H1
                          obtain rfl := Option.some.inj H
                          go_wp2
                          go_ret
                          exact ⟨by first | rfl | (simp [errW_none, errW_some] <;> rfl) | (simp [*, errW_none, errW_some] <;> rfl), by repeat (first | (with_reducible first | exact HB.out | apply below_alloc | apply pw_below_drewN | apply below_drew1) | exact HB.out)⟩
                        · replace c63 := Bool.eq_false_iff.mpr c63
                          subst c63
                          have H1 : (if t452 = true then ((impl_WeightsOf.f kj53 t451).bind fun bt460 => (if bt460.2 = true then ((laws_pSame.f kj53 bt460.1 t448).bind fun t464 => (if t464 = true then (laws_FnConvexTables.j4 kj53 l1 t427 t430 t431) else (some false))) else (some false))) else (laws_FnConvexTables.j4 kj53 l1 t427 t430 t431)) = some r := by rw [if_neg (show ¬ (false = true) by decide)] at H; exact H
                          clear H
                          have H := H1
                          clear H1
                          have HC64 := Aside0.mk H
                          clear H
                          go_upto_if 145 with (fail)
                          go_cut [] (fun wc => ∃ (kq : Nat), Aside0 (laws_FnConvexTables.j4 kq l1 t427 t430 t431 = some r) ∧ Aside0 (kq ≤ kj53) ∧ Aside0 (Kd.R (Kd.int .i64) 3 wc w.heap.size (fun _ => True) (.slice Ao21 t427.length co21) t427) ∧ Aside0 (Below w.heap.size w wc))
                          case first => as_aux_lemma =>
                            have H := HC64.out
                            clear HC64
                            by_cases c65 : t452 = true
                            · subst c65
                              have H1 : ((impl_WeightsOf.f kj53 t451).bind fun bt460 => (if bt460.2 = true then ((laws_pSame.f kj53 bt460.1 t448).bind fun t464 => (if t464 = true then (laws_FnConvexTables.j4 kj53 l1 t427 t430 t431) else (some false))) else (some false))) = some r := by rw [if_pos rfl] at H; exact H
                              clear H
                              have H := H1
                              clear H1
                              replace H := Option.bind_eq_some_iff.mp H
                              obtain ⟨⟨t460, t461⟩, A660, H⟩ := H
                              replace H : (if t461 = true then ((laws_pSame.f kj53 t460 t448).bind fun t464 => (if t464 = true then (laws_FnConvexTables.j4 kj53 l1 t427 t430 t431) else (some false))) else (some false)) = some r := H
                              have A66 := Aside0.mk A660
                              clear A660
                              by_cases c67 : t461 = true
                              · subst c67
                                have H1 : ((laws_pSame.f kj53 t460 t448).bind fun t464 => (if t464 = true then (laws_FnConvexTables.j4 kj53 l1 t427 t430 t431) else (some false))) = some r := by rw [if_pos rfl] at H; exact H
                                clear H
                                have H := H1
                                clear H1
                                replace H := Option.bind_eq_some_iff.mp H
                                obtain ⟨t464, A680, H⟩ := H
                                replace H : (if t464 = true then (laws_FnConvexTables.j4 kj53 l1 t427 t430 t431) else (some false)) = some r := H
                                have A68 := Aside0.mk A680
                                clear A680
                                by_cases c69 : t464 = true
                                · subst c69
                                  have H1 : (laws_FnConvexTables.j4 kj53 l1 t427 t430 t431) = some r := by rw [if_pos rfl] at H; exact H
                                  clear H
                                  have H := H1
                                  clear H1
                                  have H' := Aside0.mk H
                                  clear H
                                  obtain ⟨Ao70, co70, eo70⟩ := Kd.R_slice HO_23.out
                                  subst eo70
                                  go_wp2_with (first | ((with_reducible refine gate_callee (f := 35) rfl ?_); refine goesL_ (some 148) rfl rfl Try.func35 (by kernel_rfl) rfl #[.slice Ao70 t451.length co70] rfl (by (try simp only [List.map_toArray, List.map_cons, List.map_nil]); first | done | rfl | (simp only [List.length_drop, List.length_take]; rfl)) ?_; (with_reducible refine (impl_WeightsOf.calls kj53 _ _ t451 t460 true _ ?side1 ?side2 A66.out).mono ?_); (case side1 => repeat (first | exact (Kd.R_reads' HO_23.out).2.2 | (with_reducible refine Kd.C_alloc ?_ _) | (with_reducible refine Kd.C_drewN ?_ _) | (with_reducible refine Kd.C_drew ?_))); (case side2 => exact (Kd.R_reads' HO_23.out).2.1); rintro e w71 ⟨v462, rfl, ho0, hb⟩; refine ⟨_, rfl, ?_⟩; have n0_ := Aside0.mk (Kd.R_elder' (by (with_reducible repeat (first | apply Kd.R_alloc | apply Kd.R_drewN | apply Kd.R_drew)); exact HO_11.out) (Kd.R_base ho0) hb); have n1_ := Aside0.mk (Kd.R_elder' (by (with_reducible repeat (first | apply Kd.R_alloc | apply Kd.R_drewN | apply Kd.R_drew)); exact HO_22.out) (Kd.R_base ho0) hb); have n2_ := Aside0.mk (Kd.R_elder' (by (with_reducible repeat (first | apply Kd.R_alloc | apply Kd.R_drewN | apply Kd.R_drew)); exact HO_23.out) (Kd.R_base ho0) hb); have n3_ := Aside0.mk (Kd.R_lower (Kd.R_new' (Kd.R_new' (Kd.R_new' ho0 (Kd.R_lt (by (with_reducible repeat (first | apply Kd.R_alloc | apply Kd.R_drewN | apply Kd.R_drew)); exact HO_11.out))) (Kd.R_lt (by (with_reducible repeat (first | apply Kd.R_alloc | apply Kd.R_drewN | apply Kd.R_drew)); exact HO_22.out))) (Kd.R_lt (by (with_reducible repeat (first | apply Kd.R_alloc | apply Kd.R_drewN | apply Kd.R_drew)); exact HO_23.out))) (below_size (by repeat (first | (with_reducible first | exact HB.out | apply below_alloc | apply pw_below_drewN | apply below_drew1) | exact HB.out)))); have n4_ := Aside0.mk (below_step (by repeat (first | (with_reducible first | exact HB.out | apply below_alloc | apply pw_below_drewN | apply below_drew1) | exact HB.out)) hb); clear HO_11; clear HO_22; clear HO_23; clear HB; have HO_11 := n0_; have HO_22 := n1_; have HO_23 := n2_; have HO463 := n3_; have HB := n4_; clear n0_ n1_ n2_ n3_ n4_; (try clear hb); (try clear hb2); (try clear hk); (try clear hi); (try clear ho0); obtain ⟨Ao72, co72, eo72⟩ := Kd.R_slice HO463.out; subst eo72) | (go_at_call 37; (with_reducible refine (laws_pSame.calls kj53 _ _ t460 _ _ t448 true _ ?side1 ?side2 ?side3 ?side4 A68.out).mono ?_); (case side1 => repeat (first | exact (Kd.R_reads' HO463.out).2.2 | (with_reducible refine Kd.C_alloc ?_ _) | (with_reducible refine Kd.C_drewN ?_ _) | (with_reducible refine Kd.C_drew ?_))); (case side2 => exact (Kd.R_reads' HO463.out).2.1); (case side3 => repeat (first | exact (Kd.R_reads' HO_22.out).2.2 | (with_reducible refine Kd.C_alloc ?_ _) | (with_reducible refine Kd.C_drewN ?_ _) | (with_reducible refine Kd.C_drew ?_))); (case side4 => exact (Kd.R_reads' HO_22.out).2.1); rintro e w' ⟨rfl, ⟨nd, rfl⟩⟩))
                                  go_meet
                                  case rel => exact ⟨_, H', ⟨by have := HJ7.out; have := HJ18.out; have := HJ36.out; have := HJ53.out; first | omega | exact Nat.le_refl _⟩, ⟨by (with_reducible repeat (first | apply Kd.R_alloc | apply Kd.R_drewN | apply Kd.R_drew)); exact Kd.R_mono HO_11.out (fun _ hk => trivial)⟩, ⟨by repeat (first | (with_reducible first | exact HB.out | apply below_alloc | apply pw_below_drewN | apply below_drew1) | exact HB.out)⟩⟩
                                · replace c69 := Bool.eq_false_iff.mpr c69
                                  subst c69
                                  have H1 : (some false) = some r := by rw [if_neg (show ¬ (false = true) by decide)] at H; exact H
                                  clear H
                                  have H := H1
                                  clear H1
                                  obtain rfl := Option.some.inj H
                                  obtain ⟨Ao73, co73, eo73⟩ := Kd.R_slice HO_23.out
                                  subst eo73
                                  go_wp2_with (first | ((with_reducible refine gate_callee (f := 35) rfl ?_); refine goesL_ (some 148) rfl rfl Try.func35 (by kernel_rfl) rfl #[.slice Ao73 t451.length co73] rfl (by (try simp only [List.map_toArray, List.map_cons, List.map_nil]); first | done | rfl | (simp only [List.length_drop, List.length_take]; rfl)) ?_; (with_reducible refine (impl_WeightsOf.calls kj53 _ _ t451 t460 true _ ?side1 ?side2 A66.out).mono ?_); (case side1 => repeat (first | exact (Kd.R_reads' HO_23.out).2.2 | (with_reducible refine Kd.C_alloc ?_ _) | (with_reducible refine Kd.C_drewN ?_ _) | (with_reducible refine Kd.C_drew ?_))); (case side2 => exact (Kd.R_reads' HO_23.out).2.1); rintro e w74 ⟨v462, rfl, ho0, hb⟩; refine ⟨_, rfl, ?_⟩; have n0_ := Aside0.mk (Kd.R_elder' (by (with_reducible repeat (first | apply Kd.R_alloc | apply Kd.R_drewN | apply Kd.R_drew)); exact HO_11.out) (Kd.R_base ho0) hb); have n1_ := Aside0.mk (Kd.R_elder' (by (with_reducible repeat (first | apply Kd.R_alloc | apply Kd.R_drewN | apply Kd.R_drew)); exact HO_22.out) (Kd.R_base ho0) hb); have n2_ := Aside0.mk (Kd.R_elder' (by (with_reducible repeat (first | apply Kd.R_alloc | apply Kd.R_drewN | apply Kd.R_drew)); exact HO_23.out) (Kd.R_base ho0) hb); have n3_ := Aside0.mk (Kd.R_lower (Kd.R_new' (Kd.R_new' (Kd.R_new' ho0 (Kd.R_lt (by (with_reducible repeat (first | apply Kd.R_alloc | apply Kd.R_drewN | apply Kd.R_drew)); exact HO_11.out))) (Kd.R_lt (by (with_reducible repeat (first | apply Kd.R_alloc | apply Kd.R_drewN | apply Kd.R_drew)); exact HO_22.out))) (Kd.R_lt (by (with_reducible repeat (first | apply Kd.R_alloc | apply Kd.R_drewN | apply Kd.R_drew)); exact HO_23.out))) (below_size (by repeat (first | (with_reducible first | exact HB.out | apply below_alloc | apply pw_below_drewN | apply below_drew1) | exact HB.out)))); have n4_ := Aside0.mk (below_step (by repeat (first | (with_reducible first | exact HB.out | apply below_alloc | apply pw_below_drewN | apply below_drew1) | exact HB.out)) hb); clear HO_11; clear HO_22; clear HO_23; clear HB; have HO_11 := n0_; have HO_22 := n1_; have HO_23 := n2_; have HO463 := n3_; have HB := n4_; clear n0_ n1_ n2_ n3_ n4_; (try clear hb); (try clear hb2); (try clear hk); (try clear hi); (try clear ho0); obtain ⟨Ao75, co75, eo75⟩ := Kd.R_slice HO463.out; subst eo75) | (go_at_call 37; (with_reducible refine (laws_pSame.calls kj53 _ _ t460 _ _ t448 false _ ?side1 ?side2 ?side3 ?side4 A68.out).mono ?_); (case side1 => repeat (first | exact (Kd.R_reads' HO463.out).2.2 | (with_reducible refine Kd.C_alloc ?_ _) | (with_reducible refine Kd.C_drewN ?_ _) | (with_reducible refine Kd.C_drew ?_))); (case side2 => exact (Kd.R_reads' HO463.out).2.1); (case side3 => repeat (first | exact (Kd.R_reads' HO_22.out).2.2 | (with_reducible refine Kd.C_alloc ?_ _) | (with_reducible refine Kd.C_drewN ?_ _) | (with_reducible refine Kd.C_drew ?_))); (case side4 => exact (Kd.R_reads' HO_22.out).2.1); rintro e w' ⟨rfl, ⟨nd, rfl⟩⟩))
                                  go_ret
                                  exact ⟨by first | rfl | (simp [errW_none, errW_some] <;> rfl) | (simp [*, errW_none, errW_some] <;> rfl), by repeat (first | (with_reducible first | exact HB.out | apply below_alloc | apply pw_below_drewN | apply below_drew1) | exact HB.out)⟩
                              · replace c67 := Bool.eq_false_iff.mpr c67
                                subst c67
                                have H1 : (some false) = some r := by rw [if_neg (show ¬ (false = true) by decide)] at H; exact H
                                clear H
                                have H := H1
                                clear H1
                                obtain rfl := Option.some.inj H
                                obtain ⟨Ao76, co76, eo76⟩ := Kd.R_slice HO_23.out
                                subst eo76
                                go_wp2_with (first | ((with_reducible refine gate_callee (f := 35) rfl ?_); refine goesL_ (some 148) rfl rfl Try.func35 (by kernel_rfl) rfl #[.slice Ao76 t451.length co76] rfl (by (try simp only [List.map_toArray, List.map_cons, List.map_nil]); first | done | rfl | (simp only [List.length_drop, List.length_take]; rfl)) ?_; (with_reducible refine (impl_WeightsOf.calls kj53 _ _ t451 t460 false _ ?side1 ?side2 A66.out).mono ?_); (case side1 => repeat (first | exact (Kd.R_reads' HO_23.out).2.2 | (with_reducible refine Kd.C_alloc ?_ _) | (with_reducible refine Kd.C_drewN ?_ _) | (with_reducible refine Kd.C_drew ?_))); (case side2 => exact (Kd.R_reads' HO_23.out).2.1); rintro e w77 ⟨v462, rfl, ho0, hb⟩; refine ⟨_, rfl, ?_⟩; have n0_ := Aside0.mk (Kd.R_elder' (by (with_reducible repeat (first | apply Kd.R_alloc | apply Kd.R_drewN | apply Kd.R_drew)); exact HO_11.out) (Kd.R_base ho0) hb); have n1_ := Aside0.mk (Kd.R_elder' (by (with_reducible repeat (first | apply Kd.R_alloc | apply Kd.R_drewN | apply Kd.R_drew)); exact HO_22.out) (Kd.R_base ho0) hb); have n2_ := Aside0.mk (Kd.R_elder' (by (with_reducible repeat (first | apply Kd.R_alloc | apply Kd.R_drewN | apply Kd.R_drew)); exact HO_23.out) (Kd.R_base ho0) hb); have n3_ := Aside0.mk (Kd.R_lower (Kd.R_new' (Kd.R_new' (Kd.R_new' ho0 (Kd.R_lt (by (with_reducible repeat (first | apply Kd.R_alloc | apply Kd.R_drewN | apply Kd.R_drew)); exact HO_11.out))) (Kd.R_lt (by (with_reducible repeat (first | apply Kd.R_alloc | apply Kd.R_drewN | apply Kd.R_drew)); exact HO_22.out))) (Kd.R_lt (by (with_reducible repeat (first | apply Kd.R_alloc | apply Kd.R_drewN | apply Kd.R_drew)); exact HO_23.out))) (below_size (by repeat (first | (with_reducible first | exact HB.out | apply below_alloc | apply pw_below_drewN | apply below_drew1) | exact HB.out)))); have n4_ := Aside0.mk (below_step (by repeat (first | (with_reducible first | exact HB.out | apply below_alloc | apply pw_below_drewN | apply below_drew1) | exact HB.out)) hb); clear HO_11; clear HO_22; clear HO_23; clear HB; have HO_11 := n0_; have HO_22 := n1_; have HO_23 := n2_; have HO463 := n3_; have HB := n4_; clear n0_ n1_ n2_ n3_ n4_; (try clear hb); (try clear hb2); (try clear hk); (try clear hi); (try clear ho0)))
                                go_ret
                                exact ⟨by first | rfl | (simp [errW_none, errW_some] <;> rfl) | (simp [*, errW_none, errW_some] <;> rfl), by repeat (first | (with_reducible first | exact HB.out | apply below_alloc | apply pw_below_drewN | apply below_drew1) | exact HB.out)⟩
                            · replace c65 := Bool.eq_false_iff.mpr c65
                              subst c65
                              have H1 : (laws_FnConvexTables.j4 kj53 l1 t427 t430 t431) = some r := by rw [if_neg (show ¬ (false = true) by decide)] at H; exact H
                              clear H
                              have H := H1
                              clear H1
                              have H' := Aside0.mk H
                              clear H
                              go_wp2
                              go_meet
                              case rel => exact ⟨_, H', ⟨by have := HJ7.out; have := HJ18.out; have := HJ36.out; have := HJ53.out; first | omega | exact Nat.le_refl _⟩, ⟨by (with_reducible repeat (first | apply Kd.R_alloc | apply Kd.R_drewN | apply Kd.R_drew)); exact Kd.R_mono HO_11.out (fun _ hk => trivial)⟩, ⟨by repeat (first | (with_reducible first | exact HB.out | apply below_alloc | apply pw_below_drewN | apply below_drew1) | exact HB.out)⟩⟩
                          case rest => as_aux_lemma =>
                            clear HC64
                            try clear c1
                            try clear c2
                            try clear p2
                            try clear c3
                            try clear c4
                            try clear c5
                            try clear c6
                            try clear c12
                            try clear c12b0
                            try clear c12b1
                            try clear c12b2
                            try clear c13
                            try clear c15
                            try clear c24
                            try clear c24b0
                            try clear c24b1
                            try clear c24b2
                            try clear c25
                            try clear c25b0
                            try clear c25b1
                            try clear c25b2
                            try clear c26
                            try clear c26b0
                            try clear c26b1
                            try clear c26b2
                            try clear c28
                            try clear c29
                            try clear c30
                            try clear c31
                            try clear c32
                            try clear c33
                            try clear c34
                            try clear c35
                            try clear c36
                            try clear c38
                            try clear c39
                            try clear c40
                            try clear c42
                            try clear c59
                            try clear c59b0
                            try clear c59b1
                            try clear c59b2
                            try clear c63
                            try clear c65
                            try clear c67
                            try clear c69
                            try clear p2
                            obtain ⟨kq, HA, HJ63, HO_11, HB⟩ := hcut
                            cases kq with
                            | zero => exact absurd HA.out (by simp [laws_FnConvexTables.j4])
                            | succ kj63 =>
                              have H := HA.out
                              clear HA
                              simp only [laws_FnConvexTables.j4] at H
                              replace H := Option.bind_eq_some_iff.mp H
                              obtain ⟨⟨t465, t466⟩, A780, H⟩ := H
                              replace H : (if t431 = true then (if t430 = true then ((laws_pBelow.f kj63 t465 t466).bind fun t471 => (laws_FnConvexTables.j5 kj63 t427 t465 t466 (!t471))) else (laws_FnConvexTables.j5 kj63 t427 t465 t466 true)) else (laws_FnConvexTables.j5 kj63 t427 t465 t466 true)) = some r := H
                              have A78 := Aside0.mk A780
                              clear A780
                              have HC79 := Aside0.mk H
                              clear H
                              go_upto_region 29 with (first | ((with_reducible refine gate_callee (f := 41) rfl ?_); refine goesL_ (some 161) rfl rfl Try.func41 (by kernel_rfl) rfl #[.slice A1 l1.length c1] rfl (by (try simp only [List.map_toArray, List.map_cons, List.map_nil]); first | done | rfl | (simp only [List.length_drop, List.length_take]; rfl)) ?_; (with_reducible refine (spec_DrawIsMajorized.calls kj63 _ _ l1 t465 t466 _ ?side1 ?side2 A78.out).mono ?_); (case side1 => repeat (first | exact (Kd.C_below HR1.out HB.out) | (with_reducible refine Kd.C_alloc ?_ _) | (with_reducible refine Kd.C_drewN ?_ _) | (with_reducible refine Kd.C_drew ?_))); (case side2 => exact HC1.out); rintro e w80 ⟨v467, v469, rfl, ho0, ho1, hb⟩; refine ⟨_, rfl, ?_⟩; have n0_ := Aside0.mk (Kd.R_mono (Kd.R_told (Kd.R_told (Kd.R_old (by (with_reducible repeat (first | apply Kd.R_alloc | apply Kd.R_drewN | apply Kd.R_drew)); exact HO_11.out) hb) (Kd.R_base ho0)) (Kd.R_base ho1)) (fun _ h_ => h_.1)); have n1_ := Aside0.mk (Kd.R_lower (Kd.R_new' ho0 (Kd.R_lt (by (with_reducible repeat (first | apply Kd.R_alloc | apply Kd.R_drewN | apply Kd.R_drew)); exact HO_11.out))) (below_size (by repeat (first | (with_reducible first | exact HB.out | apply below_alloc | apply pw_below_drewN | apply below_drew1) | exact HB.out)))); have n2_ := Aside0.mk (Kd.R_lower (Kd.R_new' ho1 (Kd.R_lt (by (with_reducible repeat (first | apply Kd.R_alloc | apply Kd.R_drewN | apply Kd.R_drew)); exact HO_11.out))) (below_size (by repeat (first | (with_reducible first | exact HB.out | apply below_alloc | apply pw_below_drewN | apply below_drew1) | exact HB.out)))); have n3_ := Aside0.mk (below_step (by repeat (first | (with_reducible first | exact HB.out | apply below_alloc | apply pw_below_drewN | apply below_drew1) | exact HB.out)) hb); clear HO_11; clear HB; have HO_11 := n0_; have HO468 := n1_; have HO470 := n2_; have HB := n3_; clear n0_ n1_ n2_ n3_; (try clear hb); (try clear hb2); (try clear hk); (try clear hi); (try clear ho0); (try clear ho1)))
                              (try simp only [Act.put, List.setIfInBounds_toArray, List.set_cons_zero, List.set_cons_succ])
                              go_cut [175] (fun v175 wc => ∃ (kq : Nat) (x175_78 : Bool), v175 = .bool x175_78 ∧ Aside0 (laws_FnConvexTables.j5 kq t427 t465 t466 x175_78 = some r) ∧ Aside0 (kq ≤ kj63) ∧ Aside0 (Kd.R (Kd.int .i64) 3 wc w.heap.size (fun k_ => some k_ ≠ (v467 : Value).ownBlock ∧ some k_ ≠ (v469 : Value).ownBlock) (.slice Ao21 t427.length co21) t427) ∧ Aside0 (Kd.R (Kd.int .i64) 3 wc w.heap.size (fun k_ => some k_ ≠ ((.slice Ao21 t427.length co21) : Value).ownBlock ∧ some k_ ≠ (v469 : Value).ownBlock) v467 t465) ∧ Aside0 (Kd.R (Kd.int .i64) 3 wc w.heap.size (fun k_ => some k_ ≠ ((.slice Ao21 t427.length co21) : Value).ownBlock ∧ some k_ ≠ (v467 : Value).ownBlock) v469 t466) ∧ Aside0 (Below w.heap.size w wc))
                              case first => as_aux_lemma =>
                                have H := HC79.out
                                clear HC79
                                by_cases c81 : t431 = true
                                · subst c81
                                  have H1 : (if t430 = true then ((laws_pBelow.f kj63 t465 t466).bind fun t471 => (laws_FnConvexTables.j5 kj63 t427 t465 t466 (!t471))) else (laws_FnConvexTables.j5 kj63 t427 t465 t466 true)) = some r := by rw [if_pos rfl] at H; exact H
                                  clear H
                                  have H := H1
                                  clear H1
                                  by_cases c82 : t430 = true
                                  · subst c82
                                    have H1 : ((laws_pBelow.f kj63 t465 t466).bind fun t471 => (laws_FnConvexTables.j5 kj63 t427 t465 t466 (!t471))) = some r := by rw [if_pos rfl] at H; exact H
                                    clear H
                                    have H := H1
                                    clear H1
                                    replace H := Option.bind_eq_some_iff.mp H
                                    obtain ⟨t471, A830, H⟩ := H
                                    replace H : (laws_FnConvexTables.j5 kj63 t427 t465 t466 (!t471)) = some r := H
                                    have A83 := Aside0.mk A830
                                    clear A830
                                    have H' := Aside0.mk H
                                    clear H
                                    obtain ⟨Ao84, co84, eo84⟩ := Kd.R_slice HO468.out
                                    subst eo84
                                    obtain ⟨Ao85, co85, eo85⟩ := Kd.R_slice HO470.out
                                    subst eo85
                                    go_wp2_with (first | (go_at_call 21; (with_reducible refine (laws_pBelow.calls kj63 _ _ t465 _ _ t466 t471 _ ?side1 ?side2 ?side3 ?side4 A83.out).mono ?_); (case side1 => repeat (first | exact (Kd.R_reads' HO468.out).2.2 | (with_reducible refine Kd.C_alloc ?_ _) | (with_reducible refine Kd.C_drewN ?_ _) | (with_reducible refine Kd.C_drew ?_))); (case side2 => exact (Kd.R_reads' HO468.out).2.1); (case side3 => repeat (first | exact (Kd.R_reads' HO470.out).2.2 | (with_reducible refine Kd.C_alloc ?_ _) | (with_reducible refine Kd.C_drewN ?_ _) | (with_reducible refine Kd.C_drew ?_))); (case side4 => exact (Kd.R_reads' HO470.out).2.1); rintro e w86 ⟨rfl, hb⟩; have n0_ := Aside0.mk (Kd.R_below (by (with_reducible repeat (first | apply Kd.R_alloc | apply Kd.R_drewN | apply Kd.R_drew)); exact HO_11.out) hb); have n1_ := Aside0.mk (Kd.R_below (by (with_reducible repeat (first | apply Kd.R_alloc | apply Kd.R_drewN | apply Kd.R_drew)); exact HO468.out) hb); have n2_ := Aside0.mk (Kd.R_below (by (with_reducible repeat (first | apply Kd.R_alloc | apply Kd.R_drewN | apply Kd.R_drew)); exact HO470.out) hb); have n3_ := Aside0.mk (below_step (by repeat (first | (with_reducible first | exact HB.out | apply below_alloc | apply pw_below_drewN | apply below_drew1) | exact HB.out)) hb); clear HO_11; clear HO468; clear HO470; clear HB; have HO_11 := n0_; have HO468 := n1_; have HO470 := n2_; have HB := n3_; clear n0_ n1_ n2_ n3_; (try clear hb); (try clear hb2); (try clear hk); (try clear hi)))
                                    go_meet
                                    case rel => exact ⟨_, (!t471), (by first | rfl | (simp; done) | (simp [*]; done)), H', ⟨by have := HJ7.out; have := HJ18.out; have := HJ36.out; have := HJ53.out; have := HJ63.out; first | omega | exact Nat.le_refl _⟩, ⟨by (with_reducible repeat (first | apply Kd.R_alloc | apply Kd.R_drewN | apply Kd.R_drew)); exact Kd.R_mono HO_11.out (fun _ hk => ⟨hk.1.2, hk.2⟩)⟩, ⟨by (with_reducible repeat (first | apply Kd.R_alloc | apply Kd.R_drewN | apply Kd.R_drew)); exact Kd.R_mono HO468.out (fun _ hk => ⟨hk.2, hk.1⟩)⟩, ⟨by (with_reducible repeat (first | apply Kd.R_alloc | apply Kd.R_drewN | apply Kd.R_drew)); exact Kd.R_mono HO470.out (fun _ hk => ⟨hk.2, hk.1⟩)⟩, ⟨by repeat (first | (with_reducible first | exact HB.out | apply below_alloc | apply pw_below_drewN | apply below_drew1) | exact HB.out)⟩⟩
                                  · replace c82 := Bool.eq_false_iff.mpr c82
                                    subst c82
                                    have H1 : (laws_FnConvexTables.j5 kj63 t427 t465 t466 true) = some r := by rw [if_neg (show ¬ (false = true) by decide)] at H; exact H
                                    clear H
                                    have H := H1
                                    clear H1
                                    have H' := Aside0.mk H
                                    clear H
                                    go_wp2
                                    go_meet
                                    case rel => exact ⟨_, (true), (by first | rfl | (simp; done) | (simp [*]; done)), H', ⟨by have := HJ7.out; have := HJ18.out; have := HJ36.out; have := HJ53.out; have := HJ63.out; first | omega | exact Nat.le_refl _⟩, ⟨by (with_reducible repeat (first | apply Kd.R_alloc | apply Kd.R_drewN | apply Kd.R_drew)); exact Kd.R_mono HO_11.out (fun _ hk => ⟨hk.1.2, hk.2⟩)⟩, ⟨by (with_reducible repeat (first | apply Kd.R_alloc | apply Kd.R_drewN | apply Kd.R_drew)); exact Kd.R_mono HO468.out (fun _ hk => ⟨hk.2, hk.1⟩)⟩, ⟨by (with_reducible repeat (first | apply Kd.R_alloc | apply Kd.R_drewN | apply Kd.R_drew)); exact Kd.R_mono HO470.out (fun _ hk => ⟨hk.2, hk.1⟩)⟩, ⟨by repeat (first | (with_reducible first | exact HB.out | apply below_alloc | apply pw_below_drewN | apply below_drew1) | exact HB.out)⟩⟩
                                · replace c81 := Bool.eq_false_iff.mpr c81
                                  subst c81
                                  have H1 : (laws_FnConvexTables.j5 kj63 t427 t465 t466 true) = some r := by rw [if_neg (show ¬ (false = true) by decide)] at H; exact H
                                  clear H
                                  have H := H1
                                  clear H1
                                  have H' := Aside0.mk H
                                  clear H
                                  go_wp2
                                  go_meet
                                  case rel => exact ⟨_, (true), (by first | rfl | (simp; done) | (simp [*]; done)), H', ⟨by have := HJ7.out; have := HJ18.out; have := HJ36.out; have := HJ53.out; have := HJ63.out; first | omega | exact Nat.le_refl _⟩, ⟨by (with_reducible repeat (first | apply Kd.R_alloc | apply Kd.R_drewN | apply Kd.R_drew)); exact Kd.R_mono HO_11.out (fun _ hk => ⟨hk.1.2, hk.2⟩)⟩, ⟨by (with_reducible repeat (first | apply Kd.R_alloc | apply Kd.R_drewN | apply Kd.R_drew)); exact Kd.R_mono HO468.out (fun _ hk => ⟨hk.2, hk.1⟩)⟩, ⟨by (with_reducible repeat (first | apply Kd.R_alloc | apply Kd.R_drewN | apply Kd.R_drew)); exact Kd.R_mono HO470.out (fun _ hk => ⟨hk.2, hk.1⟩)⟩, ⟨by repeat (first | (with_reducible first | exact HB.out | apply below_alloc | apply pw_below_drewN | apply below_drew1) | exact HB.out)⟩⟩
                              case rest => as_aux_lemma =>
                                clear HC79
                                try clear c1
                                try clear c2
                                try clear p2
                                try clear c3
                                try clear c4
                                try clear c5
                                try clear c6
                                try clear c8
                                try clear c12
                                try clear c12b0
                                try clear c12b1
                                try clear c12b2
                                try clear c13
                                try clear c15
                                try clear c24
                                try clear c24b0
                                try clear c24b1
                                try clear c24b2
                                try clear c25
                                try clear c25b0
                                try clear c25b1
                                try clear c25b2
                                try clear c26
                                try clear c26b0
                                try clear c26b1
                                try clear c26b2
                                try clear c28
                                try clear c29
                                try clear c30
                                try clear c31
                                try clear c32
                                try clear c33
                                try clear c34
                                try clear c35
                                try clear c36
                                try clear c38
                                try clear c39
                                try clear c40
                                try clear c41
                                try clear c42
                                try clear c59
                                try clear c59b0
                                try clear c59b1
                                try clear c59b2
                                try clear c63
                                try clear c65
                                try clear c67
                                try clear c69
                                try clear c81
                                try clear c82
                                try clear p2
                                obtain ⟨kq, x175_78, rfl, HA, HJ78, HO_11, HO_29, HO_30, HB⟩ := hcut
                                cases kq with
                                | zero => exact absurd HA.out (by simp [laws_FnConvexTables.j5])
                                | succ kj78 =>
                                  have H := HA.out
                                  clear HA
                                  simp only [laws_FnConvexTables.j5] at H
                                  by_cases c87 : x175_78 = true
                                  · subst c87
                                    have H1 : (some true) = some r := by rw [if_pos rfl] at H; exact H
                                    clear H
                                    have H := H1
                                    clear H1
                                    obtain rfl := Option.some.inj H
                                    go_wp2
                                    go_ret
                                    exact ⟨by first | rfl | (simp [errW_none, errW_some] <;> rfl) | (simp [*, errW_none, errW_some] <;> rfl), by repeat (first | (with_reducible first | exact HB.out | apply below_alloc | apply pw_below_drewN | apply below_drew1) | exact HB.out)⟩
                                  · replace c87 := Bool.eq_false_iff.mpr c87
                                    subst c87
                                    have H1 : ((impl_ConvexSum.f kj78 t427 t465).bind fun bt472 => ((impl_ConvexSum.f kj78 t427 t466).bind fun bt474 => (if bt472.2 = true then (if bt474.2 = true then (some (decide (bt472.1 ≤ bt474.1))) else (some false)) else (some false)))) = some r := by rw [if_neg (show ¬ (false = true) by decide)] at H; exact H
                                    clear H
                                    have H := H1
                                    clear H1
                                    replace H := Option.bind_eq_some_iff.mp H
                                    obtain ⟨⟨t472, t473⟩, A880, H⟩ := H
                                    replace H : ((impl_ConvexSum.f kj78 t427 t466).bind fun bt474 => (if t473 = true then (if bt474.2 = true then (some (decide (t472 ≤ bt474.1))) else (some false)) else (some false))) = some r := H
                                    have A88 := Aside0.mk A880
                                    clear A880
                                    replace H := Option.bind_eq_some_iff.mp H
                                    obtain ⟨⟨t474, t475⟩, A890, H⟩ := H
                                    replace H : (if t473 = true then (if t475 = true then (some (decide (t472 ≤ t474))) else (some false)) else (some false)) = some r := H
                                    have A89 := Aside0.mk A890
                                    clear A890
                                    by_cases c90 : t473 = true
                                    · subst c90
                                      have H1 : (if t475 = true then (some (decide (t472 ≤ t474))) else (some false)) = some r := by rw [if_pos rfl] at H; exact H
                                      clear H
                                      have H := H1
                                      clear H1
                                      by_cases c91 : t475 = true
                                      · subst c91
                                        have H1 : (some (decide (t472 ≤ t474))) = some r := by rw [if_pos rfl] at H; exact H
                                        clear H
                                        have H := H1
                                        clear H1
                                        obtain rfl := Option.some.inj H
                                        obtain ⟨Ao92, co92, eo92⟩ := Kd.R_slice HO_29.out
                                        subst eo92
                                        go_wp2_with (first | ((with_reducible refine gate_callee (f := 30) rfl ?_); refine goesL_ (some 179) rfl rfl Try.func30 (by kernel_rfl) rfl #[.slice Ao21 t427.length co21, .slice Ao92 t465.length co92] rfl (by (try simp only [List.map_toArray, List.map_cons, List.map_nil]); first | done | rfl | (simp only [List.length_drop, List.length_take]; rfl)) ?_; (with_reducible refine (impl_ConvexSum.calls kj78 _ _ t427 _ _ t465 t472 true _ ?side1 ?side2 ?side3 ?side4 A88.out).mono ?_); (case side1 => repeat (first | exact (Kd.R_reads' HO_11.out).2.2 | (with_reducible refine Kd.C_alloc ?_ _) | (with_reducible refine Kd.C_drewN ?_ _) | (with_reducible refine Kd.C_drew ?_))); (case side2 => exact (Kd.R_reads' HO_11.out).2.1); (case side3 => repeat (first | exact (Kd.R_reads' HO_29.out).2.2 | (with_reducible refine Kd.C_alloc ?_ _) | (with_reducible refine Kd.C_drewN ?_ _) | (with_reducible refine Kd.C_drew ?_))); (case side4 => exact (Kd.R_reads' HO_29.out).2.1); rintro e w' ⟨rfl, ⟨nd, rfl⟩⟩; refine ⟨_, rfl, ?_⟩; obtain ⟨Ao93, co93, eo93⟩ := Kd.R_slice HO_30.out; subst eo93) | ((with_reducible refine gate_callee (f := 30) rfl ?_); refine goesL_ (some 185) rfl rfl Try.func30 (by kernel_rfl) rfl #[.slice Ao21 t427.length co21, .slice Ao93 t466.length co93] rfl (by (try simp only [List.map_toArray, List.map_cons, List.map_nil]); first | done | rfl | (simp only [List.length_drop, List.length_take]; rfl)) ?_; (with_reducible refine (impl_ConvexSum.calls kj78 _ _ t427 _ _ t466 t474 true _ ?side1 ?side2 ?side3 ?side4 A89.out).mono ?_); (case side1 => repeat (first | exact (Kd.R_reads' HO_11.out).2.2 | (with_reducible refine Kd.C_alloc ?_ _) | (with_reducible refine Kd.C_drewN ?_ _) | (with_reducible refine Kd.C_drew ?_))); (case side2 => exact (Kd.R_reads' HO_11.out).2.1); (case side3 => repeat (first | exact (Kd.R_reads' HO_30.out).2.2 | (with_reducible refine Kd.C_alloc ?_ _) | (with_reducible refine Kd.C_drewN ?_ _) | (with_reducible refine Kd.C_drew ?_))); (case side4 => exact (Kd.R_reads' HO_30.out).2.1); rintro e w' ⟨rfl, ⟨nd, rfl⟩⟩; refine ⟨_, rfl, ?_⟩))
                                        go_ret
                                        exact ⟨by first | rfl | (simp [errW_none, errW_some] <;> rfl) | (simp [*, errW_none, errW_some] <;> rfl), by repeat (first | (with_reducible first | exact HB.out | apply below_alloc | apply pw_below_drewN | apply below_drew1) | exact HB.out)⟩
                                      · replace c91 := Bool.eq_false_iff.mpr c91
                                        subst c91
                                        have H1 : (some false) = some r := by rw [if_neg (show ¬ (false = true) by decide)] at H; exact H
                                        clear H
                                        have H := H1
                                        clear H1
                                        obtain rfl := Option.some.inj H
                                        obtain ⟨Ao94, co94, eo94⟩ := Kd.R_slice HO_29.out
                                        subst eo94
                                        go_wp2_with (first | ((with_reducible refine gate_callee (f := 30) rfl ?_); refine goesL_ (some 179) rfl rfl Try.func30 (by kernel_rfl) rfl #[.slice Ao21 t427.length co21, .slice Ao94 t465.length co94] rfl (by (try simp only [List.map_toArray, List.map_cons, List.map_nil]); first | done | rfl | (simp only [List.length_drop, List.length_take]; rfl)) ?_; (with_reducible refine (impl_ConvexSum.calls kj78 _ _ t427 _ _ t465 t472 true _ ?side1 ?side2 ?side3 ?side4 A88.out).mono ?_); (case side1 => repeat (first | exact (Kd.R_reads' HO_11.out).2.2 | (with_reducible refine Kd.C_alloc ?_ _) | (with_reducible refine Kd.C_drewN ?_ _) | (with_reducible refine Kd.C_drew ?_))); (case side2 => exact (Kd.R_reads' HO_11.out).2.1); (case side3 => repeat (first | exact (Kd.R_reads' HO_29.out).2.2 | (with_reducible refine Kd.C_alloc ?_ _) | (with_reducible refine Kd.C_drewN ?_ _) | (with_reducible refine Kd.C_drew ?_))); (case side4 => exact (Kd.R_reads' HO_29.out).2.1); rintro e w' ⟨rfl, ⟨nd, rfl⟩⟩; refine ⟨_, rfl, ?_⟩; obtain ⟨Ao95, co95, eo95⟩ := Kd.R_slice HO_30.out; subst eo95) | ((with_reducible refine gate_callee (f := 30) rfl ?_); refine goesL_ (some 185) rfl rfl Try.func30 (by kernel_rfl) rfl #[.slice Ao21 t427.length co21, .slice Ao95 t466.length co95] rfl (by (try simp only [List.map_toArray, List.map_cons, List.map_nil]); first | done | rfl | (simp only [List.length_drop, List.length_take]; rfl)) ?_; (with_reducible refine (impl_ConvexSum.calls kj78 _ _ t427 _ _ t466 t474 false _ ?side1 ?side2 ?side3 ?side4 A89.out).mono ?_); (case side1 => repeat (first | exact (Kd.R_reads' HO_11.out).2.2 | (with_reducible refine Kd.C_alloc ?_ _) | (with_reducible refine Kd.C_drewN ?_ _) | (with_reducible refine Kd.C_drew ?_))); (case side2 => exact (Kd.R_reads' HO_11.out).2.1); (case side3 => repeat (first | exact (Kd.R_reads' HO_30.out).2.2 | (with_reducible refine Kd.C_alloc ?_ _) | (with_reducible refine Kd.C_drewN ?_ _) | (with_reducible refine Kd.C_drew ?_))); (case side4 => exact (Kd.R_reads' HO_30.out).2.1); rintro e w' ⟨rfl, ⟨nd, rfl⟩⟩; refine ⟨_, rfl, ?_⟩))
                                        go_ret
                                        exact ⟨by first | rfl | (simp [errW_none, errW_some] <;> rfl) | (simp [*, errW_none, errW_some] <;> rfl), by repeat (first | (with_reducible first | exact HB.out | apply below_alloc | apply pw_below_drewN | apply below_drew1) | exact HB.out)⟩
                                    · replace c90 := Bool.eq_false_iff.mpr c90
                                      subst c90
                                      have H1 : (some false) = some r := by rw [if_neg (show ¬ (false = true) by decide)] at H; exact H
                                      clear H
                                      have H := H1
                                      clear H1
                                      obtain rfl := Option.some.inj H
                                      obtain ⟨Ao96, co96, eo96⟩ := Kd.R_slice HO_29.out
                                      subst eo96
                                      go_wp2_with (first | ((with_reducible refine gate_callee (f := 30) rfl ?_); refine goesL_ (some 179) rfl rfl Try.func30 (by kernel_rfl) rfl #[.slice Ao21 t427.length co21, .slice Ao96 t465.length co96] rfl (by (try simp only [List.map_toArray, List.map_cons, List.map_nil]); first | done | rfl | (simp only [List.length_drop, List.length_take]; rfl)) ?_; (with_reducible refine (impl_ConvexSum.calls kj78 _ _ t427 _ _ t465 t472 false _ ?side1 ?side2 ?side3 ?side4 A88.out).mono ?_); (case side1 => repeat (first | exact (Kd.R_reads' HO_11.out).2.2 | (with_reducible refine Kd.C_alloc ?_ _) | (with_reducible refine Kd.C_drewN ?_ _) | (with_reducible refine Kd.C_drew ?_))); (case side2 => exact (Kd.R_reads' HO_11.out).2.1); (case side3 => repeat (first | exact (Kd.R_reads' HO_29.out).2.2 | (with_reducible refine Kd.C_alloc ?_ _) | (with_reducible refine Kd.C_drewN ?_ _) | (with_reducible refine Kd.C_drew ?_))); (case side4 => exact (Kd.R_reads' HO_29.out).2.1); rintro e w' ⟨rfl, ⟨nd, rfl⟩⟩; refine ⟨_, rfl, ?_⟩; obtain ⟨Ao97, co97, eo97⟩ := Kd.R_slice HO_30.out; subst eo97) | ((with_reducible refine gate_callee (f := 30) rfl ?_); refine goesL_ (some 185) rfl rfl Try.func30 (by kernel_rfl) rfl #[.slice Ao21 t427.length co21, .slice Ao97 t466.length co97] rfl (by (try simp only [List.map_toArray, List.map_cons, List.map_nil]); first | done | rfl | (simp only [List.length_drop, List.length_take]; rfl)) ?_; (with_reducible refine (impl_ConvexSum.calls kj78 _ _ t427 _ _ t466 t474 t475 _ ?side1 ?side2 ?side3 ?side4 A89.out).mono ?_); (case side1 => repeat (first | exact (Kd.R_reads' HO_11.out).2.2 | (with_reducible refine Kd.C_alloc ?_ _) | (with_reducible refine Kd.C_drewN ?_ _) | (with_reducible refine Kd.C_drew ?_))); (case side2 => exact (Kd.R_reads' HO_11.out).2.1); (case side3 => repeat (first | exact (Kd.R_reads' HO_30.out).2.2 | (with_reducible refine Kd.C_alloc ?_ _) | (with_reducible refine Kd.C_drewN ?_ _) | (with_reducible refine Kd.C_drew ?_))); (case side4 => exact (Kd.R_reads' HO_30.out).2.1); rintro e w' ⟨rfl, ⟨nd, rfl⟩⟩; refine ⟨_, rfl, ?_⟩))
                                      go_ret
                                      exact ⟨by first | rfl | (simp [errW_none, errW_some] <;> rfl) | (simp [*, errW_none, errW_some] <;> rfl), by repeat (first | (with_reducible first | exact HB.out | apply below_alloc | apply pw_below_drewN | apply below_drew1) | exact HB.out)⟩

/-- THE ONE PURE STATEMENT of laws_FnConvexTables: yours. -/
def laws_FnConvexTables.Pure : Prop := ∀ (l0 : List Int) (l1 : List Int), l0.length ≤ maxLen → l0.length * 1 ≤ 140737488351232 → (∀ x ∈ l0, (Lit.int .u8 x).wf = true) → l1.length ≤ maxLen → l1.length * 1 ≤ 140737488351232 → (∀ x ∈ l1, (Lit.int .u8 x).wf = true) → ∃ k, laws_FnConvexTables.f k l0 l1 = some true
theorem laws_FnConvexTables.walk (P : laws_FnConvexTables.Pure) (a0 : Option Addr) (len0 cap0 : Nat) (z0 : List Int) (a1 : Option Addr) (len1 cap1 : Nat) (z1 : List Int) (w : World) (w0 : (a0 = none ∧ len0 = 0 ∧ cap0 = 0 ∧ z0 = []) ∨ ∃ x, a0 = some x ∧ len0 ≤ cap0 ∧ cap0 ≤ maxLen ∧ z0.length = cap0 ∧ (∀ i, i < z0.length → w.cell? (x.add i) = some (.int .u8 (z0.getD i 0))) ∧ ∀ n ∈ z0, (Lit.int .u8 n).wf = true) (y0 : len0 * 1 ≤ 140737488351232) (w1 : (a1 = none ∧ len1 = 0 ∧ cap1 = 0 ∧ z1 = []) ∨ ∃ x, a1 = some x ∧ len1 ≤ cap1 ∧ cap1 ≤ maxLen ∧ z1.length = cap1 ∧ (∀ i, i < z1.length → w.cell? (x.add i) = some (.int .u8 (z1.getD i 0))) ∧ ∀ n ∈ z1, (Lit.int .u8 n).wf = true) (y1 : len1 * 1 ≤ 140737488351232) :
    Calls Try.prog 5 #[.slice a0 len0 cap0, .slice a1 len1 cap1] w fun e w' => e = .returned (.bool true) ∧ Below w.heap.size w w' := by
  obtain ⟨l0, rfl, hr0, hm0, hw0, hc0⟩ := ReadsInt.ofRowC w0
  obtain ⟨l1, rfl, hr1, hm1, hw1, hc1⟩ := ReadsInt.ofRowC w1
  obtain ⟨k, h⟩ := P l0 l1 hm0 y0 hw0 hm1 y1 hw1
  refine (laws_FnConvexTables.calls k _ _ l0 _ _ l1 true w (Kd.C_of_reads (d := (0 : Int)) (h1 := fun _ => rfl) hr0) hc0 (Kd.C_of_reads (d := (0 : Int)) (h1 := fun _ => rfl) hr1) hc1 h).mono ?_
  rintro e w' ⟨rfl, hd⟩
  exact ⟨rfl, hd⟩

end Go.Proofs.Ytclnfaclfplpmaa.PFnConvexTables
