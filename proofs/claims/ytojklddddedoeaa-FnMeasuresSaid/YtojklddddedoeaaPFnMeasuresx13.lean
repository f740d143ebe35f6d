/- For each Go function that the law uses, a Lean function with the same answers and a proof that its call comes to them; the conditions stand in each theorem. (Written by a program of this session, turned from the print of the kit.) -/
import Derived.Test.YtojklddddedoeaaPFnMeasuresx0
import Derived.Test.YtojklddddedoeaaPFnMeasuresx1
import Derived.Test.YtojklddddedoeaaPFnMeasuresx2
import Derived.Test.YtojklddddedoeaaPFnMeasuresx3
import Derived.Test.YtojklddddedoeaaPFnMeasuresx4
import Derived.Test.YtojklddddedoeaaPFnMeasuresx6
import Derived.Test.YtojklddddedoeaaPFnMeasuresx8
import Derived.Test.YtojklddddedoeaaPFnMeasuresx10
import Derived.Test.YtojklddddedoeaaPFnMeasuresx11
import Derived.Test.YtojklddddedoeaaPFnMeasuresx12
namespace Go.Proofs.Ytojklddddedoeaa.PFnMeasures
open Go.RowKit Go.Proofs.YtojklddddedoeaaW.PrintWords Go.Proofs.YtojklddddedoeaaW.PrintLast Go.Proofs.YtojklddddedoeaaW.PrintMore
attribute [local go_sem] max2_int min2_int max_two min_two max_three min_three max_four min_four   -- for this text's walks alone
set_option linter.unusedVariables false
set_option linter.unusedSimpArgs false

/-! ### laws_FnMeasures: function 8 -/
mutual
def laws_FnMeasures.j0 : Nat → List Int → List Int → Int → Bool → Int → Int → Int → Int → Int → Bool → Int → Int → Bool → Bool → Option (Bool)
 | 0, _, _, _, _, _, _, _, _, _, _, _, _, _, _ => none
 | k + 1, x1, x5, x6, x7, x10, x14, x20, x24, x25, x26, x27, x28, x29, x176 => if x176 = true then none else (if x7 = true then ((impl_RankingOf.f k x5).bind fun bt477 => (laws_FnMeasures.l0 k x1 x6 x10 x14 x20 x24 x25 x26 x27 x28 x29 bt477.1 bt477.2 (bt477.1.length : Int) 0 0 0 0 bt477.1 (bt477.1.length : Int) 0)) else (laws_FnMeasures.j3 k x1))
def laws_FnMeasures.j3 : Nat → List Int → Option (Bool)
 | 0, _ => none
 | k + 1, x1 => (spec_DrawSignsOf.f k x1).bind fun bt489 => ((impl_SignsOf.f k bt489.1 bt489.2).bind fun bt495 => ((spec_SignsOf.f k bt489.1 bt489.2).bind fun bt499 => (if (bt495.2 != bt499.2) = true then none else ((laws_ySame.f k bt495.1 bt499.1).bind fun t503 => (laws_FnMeasures.j4 k bt489.1 bt489.2 bt495.1 bt495.2 (!t503))))))
def laws_FnMeasures.j4 : Nat → List Int → List Int → List Int → Bool → Bool → Option (Bool)
 | 0, _, _, _, _, _ => none
 | k + 1, x41, x42, x43, x44, x331 => if x331 = true then none else ((impl_IsMajorized.f k x41 x42).bind fun bt504 => (if x44 = true then (if bt504.2 = true then (laws_FnMeasures.j5 k x43 bt504.1) else (laws_FnMeasures.j5 k x43 false)) else (laws_FnMeasures.j5 k x43 false)))
def laws_FnMeasures.j5 : Nat → List Int → Bool → Option (Bool)
 | 0, _, _ => none
 | k + 1, x43, x344 => if x344 = true then (laws_FnMeasures.l2 k x43 (x43.length : Int) 0) else (some true)
def laws_FnMeasures.l2 : Nat → List Int → Int → Int → Option (Bool)
 | 0, _, _, _ => none
 | k + 1, x345, x346, x347 => if x347 < x346 then (if 0 ≤ x347 then (if x347 < (x345.length : Int) then (if (rd x345 x347) > 0 then none else (laws_FnMeasures.l2 k x345 x346 (wrap64 (x347 + 1)))) else (none)) else (none)) else (some true)
def laws_FnMeasures.l0 : Nat → List Int → Int → Int → Int → Int → Int → Int → Bool → Int → Int → Bool → List Int → Bool → Int → Int → Int → Int → Int → List Int → Int → Int → Option (Bool)
 | 0, _, _, _, _, _, _, _, _, _, _, _, _, _, _, _, _, _, _, _, _, _ => none
 | k + 1, x1, x6, x10, x14, x20, x24, x25, x26, x27, x28, x29, x30, x31, x32, x33, x34, x35, x36, x185, x186, x187 => if x187 < x186 then (if 0 ≤ x187 then (if x187 < (x185.length : Int) then (if x187 ≤ (x30.length : Int) then ((some (x30.take (x187 : Int).toNat : List Int)).bind fun y484 => (laws_FnMeasures.l1 k x1 x6 x10 x14 x20 x24 x25 x26 x27 x28 x29 x30 x31 x32 (wrap64 (x33 + (rd x185 x187))) (wrap64 (x34 + (wrap64 ((rd x185 x187) * (rd x185 x187))))) (wrap64 (x35 + (wrap64 ((wrap64 ((wrap64 (x32 - 1)) - (wrap64 (2 * x187)))) * (rd x185 x187))))) x36 (rd x185 x187) x185 x186 x187 y484 (y484.length : Int) 0)) else (none)) else (none)) else (none)) else (if x31 = true then (if x35 = x10 then (if x36 = x6 then (if 0 < (x30.length : Int) then (if 0 ≤ (wrap64 (x32 - 1)) then (if (wrap64 (x32 - 1)) < (x30.length : Int) then (if x14 = (wrap64 ((rd x30 0) - (rd x30 (wrap64 (x32 - 1))))) then (if (x26 != (decide (x33 > 0))) = true then none else (if (x29 != (decide (x33 > 0))) = true then none else (if x26 = true then (if x24 = x10 then (if x25 = (wrap64 (x32 * x33)) then (if x29 = true then (if x27 = x34 then (if x28 = (wrap64 (x33 * x33)) then (if x20 < 0 then none else (if ((x20 == 0) != (x14 == 0)) = true then none else (laws_FnMeasures.j3 k x1))) else none) else none) else (if x20 < 0 then none else (if ((x20 == 0) != (x14 == 0)) = true then none else (laws_FnMeasures.j3 k x1)))) else none) else none) else (if x29 = true then (if x27 = x34 then (if x28 = (wrap64 (x33 * x33)) then (if x20 < 0 then none else (if ((x20 == 0) != (x14 == 0)) = true then none else (laws_FnMeasures.j3 k x1))) else none) else none) else (if x20 < 0 then none else (if ((x20 == 0) != (x14 == 0)) = true then none else (laws_FnMeasures.j3 k x1))))))) else none) else (none)) else (none)) else (none)) else none) else none) else none)
def laws_FnMeasures.l1 : Nat → List Int → Int → Int → Int → Int → Int → Int → Bool → Int → Int → Bool → List Int → Bool → Int → Int → Int → Int → Int → Int → List Int → Int → Int → List Int → Int → Int → Option (Bool)
 | 0, _, _, _, _, _, _, _, _, _, _, _, _, _, _, _, _, _, _, _, _, _, _, _, _, _ => none
 | k + 1, x1, x6, x10, x14, x20, x24, x25, x26, x27, x28, x29, x30, x31, x32, x33, x34, x35, x36, x38, x185, x186, x187, x211, x212, x213 => if x213 < x212 then (if 0 ≤ x213 then (if x213 < (x211.length : Int) then (laws_FnMeasures.l1 k x1 x6 x10 x14 x20 x24 x25 x26 x27 x28 x29 x30 x31 x32 x33 x34 x35 (wrap64 (x36 + (wrap64 ((wrap64 (x38 - (rd x211 x213))) * (wrap64 (x38 - (rd x211 x213))))))) x38 x185 x186 x187 x211 x212 (wrap64 (x213 + 1))) else (none)) else (none)) else (laws_FnMeasures.l0 k x1 x6 x10 x14 x20 x24 x25 x26 x27 x28 x29 x30 x31 x32 x33 x34 x35 x36 x185 x186 (wrap64 (x187 + 1)))
end
def laws_FnMeasures.f (k : Nat) (l0 : List Int) (l1 : List Int) : Option (Bool) := (laws_big.f l0 l1).bind fun t448 => (if t448 = true then (some true) else ((spec_DrawSpreadOf.f k l0).bind fun t449 => ((impl_SpreadOf.f k t449).bind fun bt452 => ((spec_SpreadOf.f k t449).bind fun bt454 => ((impl_PairsOf.f k t449).bind fun bt456 => ((spec_PairsOf.f k t449).bind fun bt458 => ((impl_RangeOf.f k t449).bind fun bt460 => ((impl_TwiceMedian.f k t449).bind fun bt462 => ((spec_TwiceMedian.f k t449).bind fun bt464 => ((impl_ExcessOf.f k t449).bind fun bt466 => ((spec_ExcessOf.f k t449).bind fun bt468 => ((impl_GiniOf.f k t449).bind fun bt470 => ((impl_ConcentrationOf.f k t449).bind fun bt473 => (if (bt452.2 != bt454.2) = true then none else (if bt452.1 = bt454.1 then (if (bt456.2 != bt458.2) = true then none else (if bt456.1 = bt458.1 then (if (bt462.2 != bt464.2) = true then none else (if bt462.1 = bt464.1 then (if (bt466.2 != bt468.2) = true then none else (if bt466.1 = bt468.1 then (if (bt452.2 != bt456.2) = true then none else (if (bt452.2 != bt460.2) = true then none else (if (bt452.2 != bt462.2) = true then none else (if (bt452.2 != bt466.2) = true then none else ((impl_IsList.f k t449).bind fun t476 => (laws_FnMeasures.j0 k l1 t449 bt452.1 bt452.2 bt456.1 bt460.1 bt466.1 bt470.1 bt470.2.1 bt470.2.2 bt473.1 bt473.2.1 bt473.2.2 (bt452.2 != t476))))))) else none)) else none)) else none)) else none)))))))))))))))
theorem laws_FnMeasures.mono_l : ∀ k, (∀ y0 y1 y2 y3 y4 y5 y6 y7 y8 y9 y10 y11 y12 y13, LeO (laws_FnMeasures.j0 k y0 y1 y2 y3 y4 y5 y6 y7 y8 y9 y10 y11 y12 y13) (laws_FnMeasures.j0 (k + 1) y0 y1 y2 y3 y4 y5 y6 y7 y8 y9 y10 y11 y12 y13)) ∧ (∀ y0, LeO (laws_FnMeasures.j3 k y0) (laws_FnMeasures.j3 (k + 1) y0)) ∧ (∀ y0 y1 y2 y3 y4, LeO (laws_FnMeasures.j4 k y0 y1 y2 y3 y4) (laws_FnMeasures.j4 (k + 1) y0 y1 y2 y3 y4)) ∧ (∀ y0 y1, LeO (laws_FnMeasures.j5 k y0 y1) (laws_FnMeasures.j5 (k + 1) y0 y1)) ∧ (∀ y0 y1 y2, LeO (laws_FnMeasures.l2 k y0 y1 y2) (laws_FnMeasures.l2 (k + 1) y0 y1 y2)) ∧ (∀ y0 y1 y2 y3 y4 y5 y6 y7 y8 y9 y10 y11 y12 y13 y14 y15 y16 y17 y18 y19 y20, LeO (laws_FnMeasures.l0 k y0 y1 y2 y3 y4 y5 y6 y7 y8 y9 y10 y11 y12 y13 y14 y15 y16 y17 y18 y19 y20) (laws_FnMeasures.l0 (k + 1) y0 y1 y2 y3 y4 y5 y6 y7 y8 y9 y10 y11 y12 y13 y14 y15 y16 y17 y18 y19 y20)) ∧ (∀ y0 y1 y2 y3 y4 y5 y6 y7 y8 y9 y10 y11 y12 y13 y14 y15 y16 y17 y18 y19 y20 y21 y22 y23 y24, LeO (laws_FnMeasures.l1 k y0 y1 y2 y3 y4 y5 y6 y7 y8 y9 y10 y11 y12 y13 y14 y15 y16 y17 y18 y19 y20 y21 y22 y23 y24) (laws_FnMeasures.l1 (k + 1) y0 y1 y2 y3 y4 y5 y6 y7 y8 y9 y10 y11 y12 y13 y14 y15 y16 y17 y18 y19 y20 y21 y22 y23 y24))
 | 0 => ⟨fun _ _ _ _ _ _ _ _ _ _ _ _ _ _ r h => by simp [laws_FnMeasures.j0] at h, fun _ r h => by simp [laws_FnMeasures.j3] at h, fun _ _ _ _ _ r h => by simp [laws_FnMeasures.j4] at h, fun _ _ r h => by simp [laws_FnMeasures.j5] at h, fun _ _ _ r h => by simp [laws_FnMeasures.l2] at h, fun _ _ _ _ _ _ _ _ _ _ _ _ _ _ _ _ _ _ _ _ _ r h => by simp [laws_FnMeasures.l0] at h, fun _ _ _ _ _ _ _ _ _ _ _ _ _ _ _ _ _ _ _ _ _ _ _ _ _ r h => by simp [laws_FnMeasures.l1] at h⟩
 | k + 1 => by
  obtain ⟨ih0, ih1, ih2, ih3, ih4, ih5, ih6⟩ := laws_FnMeasures.mono_l k
  refine ⟨?_, ?_, ?_, ?_, ?_, ?_, ?_⟩
  ·intro y0 y1 y2 y3 y4 y5 y6 y7 y8 y9 y10 y11 y12 y13
   unfold laws_FnMeasures.j0
   repeat' first
   | (with_reducible exact ih0 _ _ _ _ _ _ _ _ _ _ _ _ _ _)
   | (with_reducible exact ih1 _)
   | (with_reducible exact ih2 _ _ _ _ _)
   | (with_reducible exact ih3 _ _)
   | (with_reducible exact ih4 _ _ _)
   | (with_reducible exact ih5 _ _ _ _ _ _ _ _ _ _ _ _ _ _ _ _ _ _ _ _ _)
   | (with_reducible exact ih6 _ _ _ _ _ _ _ _ _ _ _ _ _ _ _ _ _ _ _ _ _ _ _ _ _)
   | (with_reducible exact impl_ConcentrationOf.mono _ _)
   | (with_reducible exact impl_ExcessOf.mono _ _)
   | (with_reducible exact impl_GiniOf.mono _ _)
   | (with_reducible exact impl_IsList.mono _ _)
   | (with_reducible exact impl_IsMajorized.mono _ _ _)
   | (with_reducible exact impl_PairsOf.mono _ _)
   | (with_reducible exact impl_RangeOf.mono _ _)
   | (with_reducible exact impl_RankingOf.mono _ _)
   | (with_reducible exact impl_SignsOf.mono _ _ _)
   | (with_reducible exact impl_SpreadOf.mono _ _)
   | (with_reducible exact impl_TwiceMedian.mono _ _)
   | (with_reducible exact laws_ySame.mono _ _ _)
   | (with_reducible exact spec_DrawSignsOf.mono _ _)
   | (with_reducible exact spec_DrawSpreadOf.mono _ _)
   | (with_reducible exact spec_ExcessOf.mono _ _)
   | (with_reducible exact spec_PairsOf.mono _ _)
   | (with_reducible exact spec_SignsOf.mono _ _ _)
   | (with_reducible exact spec_SpreadOf.mono _ _)
   | (with_reducible exact spec_TwiceMedian.mono _ _)
   | (with_reducible exact LeO.refl _)
   | (with_reducible exact LeO.none _)
   | (with_reducible refine LeO.ite ?_ ?_)
   | (with_reducible refine LeO.bind ?_ (fun _ => ?_))
   | exact ih0 _ _ _ _ _ _ _ _ _ _ _ _ _ _
   | exact ih1 _
   | exact ih2 _ _ _ _ _
   | exact ih3 _ _
   | exact ih4 _ _ _
   | exact ih5 _ _ _ _ _ _ _ _ _ _ _ _ _ _ _ _ _ _ _ _ _
   | exact ih6 _ _ _ _ _ _ _ _ _ _ _ _ _ _ _ _ _ _ _ _ _ _ _ _ _
   | exact impl_ConcentrationOf.mono _ _
   | exact impl_ExcessOf.mono _ _
   | exact impl_GiniOf.mono _ _
   | exact impl_IsList.mono _ _
   | exact impl_IsMajorized.mono _ _ _
   | exact impl_PairsOf.mono _ _
   | exact impl_RangeOf.mono _ _
   | exact impl_RankingOf.mono _ _
   | exact impl_SignsOf.mono _ _ _
   | exact impl_SpreadOf.mono _ _
   | exact impl_TwiceMedian.mono _ _
   | exact laws_ySame.mono _ _ _
   | exact spec_DrawSignsOf.mono _ _
   | exact spec_DrawSpreadOf.mono _ _
   | exact spec_ExcessOf.mono _ _
   | exact spec_PairsOf.mono _ _
   | exact spec_SignsOf.mono _ _ _
   | exact spec_SpreadOf.mono _ _
   | exact spec_TwiceMedian.mono _ _
   | exact LeO.none _
   | refine LeO.ite ?_ ?_
   | refine LeO.bind ?_ (fun _ => ?_)
  ·intro y0
   unfold laws_FnMeasures.j3
   repeat' first
   | (with_reducible exact ih0 _ _ _ _ _ _ _ _ _ _ _ _ _ _)
   | (with_reducible exact ih1 _)
   | (with_reducible exact ih2 _ _ _ _ _)
   | (with_reducible exact ih3 _ _)
   | (with_reducible exact ih4 _ _ _)
   | (with_reducible exact ih5 _ _ _ _ _ _ _ _ _ _ _ _ _ _ _ _ _ _ _ _ _)
   | (with_reducible exact ih6 _ _ _ _ _ _ _ _ _ _ _ _ _ _ _ _ _ _ _ _ _ _ _ _ _)
   | (with_reducible exact impl_ConcentrationOf.mono _ _)
   | (with_reducible exact impl_ExcessOf.mono _ _)
   | (with_reducible exact impl_GiniOf.mono _ _)
   | (with_reducible exact impl_IsList.mono _ _)
   | (with_reducible exact impl_IsMajorized.mono _ _ _)
   | (with_reducible exact impl_PairsOf.mono _ _)
   | (with_reducible exact impl_RangeOf.mono _ _)
   | (with_reducible exact impl_RankingOf.mono _ _)
   | (with_reducible exact impl_SignsOf.mono _ _ _)
   | (with_reducible exact impl_SpreadOf.mono _ _)
   | (with_reducible exact impl_TwiceMedian.mono _ _)
   | (with_reducible exact laws_ySame.mono _ _ _)
   | (with_reducible exact spec_DrawSignsOf.mono _ _)
   | (with_reducible exact spec_DrawSpreadOf.mono _ _)
   | (with_reducible exact spec_ExcessOf.mono _ _)
   | (with_reducible exact spec_PairsOf.mono _ _)
   | (with_reducible exact spec_SignsOf.mono _ _ _)
   | (with_reducible exact spec_SpreadOf.mono _ _)
   | (with_reducible exact spec_TwiceMedian.mono _ _)
   | (with_reducible exact LeO.refl _)
   | (with_reducible exact LeO.none _)
   | (with_reducible refine LeO.ite ?_ ?_)
   | (with_reducible refine LeO.bind ?_ (fun _ => ?_))
   | exact ih0 _ _ _ _ _ _ _ _ _ _ _ _ _ _
   | exact ih1 _
   | exact ih2 _ _ _ _ _
   | exact ih3 _ _
   | exact ih4 _ _ _
   | exact ih5 _ _ _ _ _ _ _ _ _ _ _ _ _ _ _ _ _ _ _ _ _
   | exact ih6 _ _ _ _ _ _ _ _ _ _ _ _ _ _ _ _ _ _ _ _ _ _ _ _ _
   | exact impl_ConcentrationOf.mono _ _
   | exact impl_ExcessOf.mono _ _
   | exact impl_GiniOf.mono _ _
   | exact impl_IsList.mono _ _
   | exact impl_IsMajorized.mono _ _ _
   | exact impl_PairsOf.mono _ _
   | exact impl_RangeOf.mono _ _
   | exact impl_RankingOf.mono _ _
   | exact impl_SignsOf.mono _ _ _
   | exact impl_SpreadOf.mono _ _
   | exact impl_TwiceMedian.mono _ _
   | exact laws_ySame.mono _ _ _
   | exact spec_DrawSignsOf.mono _ _
   | exact spec_DrawSpreadOf.mono _ _
   | exact spec_ExcessOf.mono _ _
   | exact spec_PairsOf.mono _ _
   | exact spec_SignsOf.mono _ _ _
   | exact spec_SpreadOf.mono _ _
   | exact spec_TwiceMedian.mono _ _
   | exact LeO.none _
   | refine LeO.ite ?_ ?_
   | refine LeO.bind ?_ (fun _ => ?_)
  ·intro y0 y1 y2 y3 y4
   unfold laws_FnMeasures.j4
   repeat' first
   | (with_reducible exact ih0 _ _ _ _ _ _ _ _ _ _ _ _ _ _)
   | (with_reducible exact ih1 _)
   | (with_reducible exact ih2 _ _ _ _ _)
   | (with_reducible exact ih3 _ _)
   | (with_reducible exact ih4 _ _ _)
   | (with_reducible exact ih5 _ _ _ _ _ _ _ _ _ _ _ _ _ _ _ _ _ _ _ _ _)
   | (with_reducible exact ih6 _ _ _ _ _ _ _ _ _ _ _ _ _ _ _ _ _ _ _ _ _ _ _ _ _)
   | (with_reducible exact impl_ConcentrationOf.mono _ _)
   | (with_reducible exact impl_ExcessOf.mono _ _)
   | (with_reducible exact impl_GiniOf.mono _ _)
   | (with_reducible exact impl_IsList.mono _ _)
   | (with_reducible exact impl_IsMajorized.mono _ _ _)
   | (with_reducible exact impl_PairsOf.mono _ _)
   | (with_reducible exact impl_RangeOf.mono _ _)
   | (with_reducible exact impl_RankingOf.mono _ _)
   | (with_reducible exact impl_SignsOf.mono _ _ _)
   | (with_reducible exact impl_SpreadOf.mono _ _)
   | (with_reducible exact impl_TwiceMedian.mono _ _)
   | (with_reducible exact laws_ySame.mono _ _ _)
   | (with_reducible exact spec_DrawSignsOf.mono _ _)
   | (with_reducible exact spec_DrawSpreadOf.mono _ _)
   | (with_reducible exact spec_ExcessOf.mono _ _)
   | (with_reducible exact spec_PairsOf.mono _ _)
   | (with_reducible exact spec_SignsOf.mono _ _ _)
   | (with_reducible exact spec_SpreadOf.mono _ _)
   | (with_reducible exact spec_TwiceMedian.mono _ _)
   | (with_reducible exact LeO.refl _)
   | (with_reducible exact LeO.none _)
   | (with_reducible refine LeO.ite ?_ ?_)
   | (with_reducible refine LeO.bind ?_ (fun _ => ?_))
   | exact ih0 _ _ _ _ _ _ _ _ _ _ _ _ _ _
   | exact ih1 _
   | exact ih2 _ _ _ _ _
   | exact ih3 _ _
   | exact ih4 _ _ _
   | exact ih5 _ _ _ _ _ _ _ _ _ _ _ _ _ _ _ _ _ _ _ _ _
   | exact ih6 _ _ _ _ _ _ _ _ _ _ _ _ _ _ _ _ _ _ _ _ _ _ _ _ _
   | exact impl_ConcentrationOf.mono _ _
   | exact impl_ExcessOf.mono _ _
   | exact impl_GiniOf.mono _ _
   | exact impl_IsList.mono _ _
   | exact impl_IsMajorized.mono _ _ _
   | exact impl_PairsOf.mono _ _
   | exact impl_RangeOf.mono _ _
   | exact impl_RankingOf.mono _ _
   | exact impl_SignsOf.mono _ _ _
   | exact impl_SpreadOf.mono _ _
   | exact impl_TwiceMedian.mono _ _
   | exact laws_ySame.mono _ _ _
   | exact spec_DrawSignsOf.mono _ _
   | exact spec_DrawSpreadOf.mono _ _
   | exact spec_ExcessOf.mono _ _
   | exact spec_PairsOf.mono _ _
   | exact spec_SignsOf.mono _ _ _
   | exact spec_SpreadOf.mono _ _
   | exact spec_TwiceMedian.mono _ _
   | exact LeO.none _
   | refine LeO.ite ?_ ?_
   | refine LeO.bind ?_ (fun _ => ?_)
  ·intro y0 y1
   unfold laws_FnMeasures.j5
   repeat' first
   | (with_reducible exact ih0 _ _ _ _ _ _ _ _ _ _ _ _ _ _)
   | (with_reducible exact ih1 _)
   | (with_reducible exact ih2 _ _ _ _ _)
   | (with_reducible exact ih3 _ _)
   | (with_reducible exact ih4 _ _ _)
   | (with_reducible exact ih5 _ _ _ _ _ _ _ _ _ _ _ _ _ _ _ _ _ _ _ _ _)
   | (with_reducible exact ih6 _ _ _ _ _ _ _ _ _ _ _ _ _ _ _ _ _ _ _ _ _ _ _ _ _)
   | (with_reducible exact impl_ConcentrationOf.mono _ _)
   | (with_reducible exact impl_ExcessOf.mono _ _)
   | (with_reducible exact impl_GiniOf.mono _ _)
   | (with_reducible exact impl_IsList.mono _ _)
   | (with_reducible exact impl_IsMajorized.mono _ _ _)
   | (with_reducible exact impl_PairsOf.mono _ _)
   | (with_reducible exact impl_RangeOf.mono _ _)
   | (with_reducible exact impl_RankingOf.mono _ _)
   | (with_reducible exact impl_SignsOf.mono _ _ _)
   | (with_reducible exact impl_SpreadOf.mono _ _)
   | (with_reducible exact impl_TwiceMedian.mono _ _)
   | (with_reducible exact laws_ySame.mono _ _ _)
   | (with_reducible exact spec_DrawSignsOf.mono _ _)
   | (with_reducible exact spec_DrawSpreadOf.mono _ _)
   | (with_reducible exact spec_ExcessOf.mono _ _)
   | (with_reducible exact spec_PairsOf.mono _ _)
   | (with_reducible exact spec_SignsOf.mono _ _ _)
   | (with_reducible exact spec_SpreadOf.mono _ _)
   | (with_reducible exact spec_TwiceMedian.mono _ _)
   | (with_reducible exact LeO.refl _)
   | (with_reducible exact LeO.none _)
   | (with_reducible refine LeO.ite ?_ ?_)
   | (with_reducible refine LeO.bind ?_ (fun _ => ?_))
   | exact ih0 _ _ _ _ _ _ _ _ _ _ _ _ _ _
   | exact ih1 _
   | exact ih2 _ _ _ _ _
   | exact ih3 _ _
   | exact ih4 _ _ _
   | exact ih5 _ _ _ _ _ _ _ _ _ _ _ _ _ _ _ _ _ _ _ _ _
   | exact ih6 _ _ _ _ _ _ _ _ _ _ _ _ _ _ _ _ _ _ _ _ _ _ _ _ _
   | exact impl_ConcentrationOf.mono _ _
   | exact impl_ExcessOf.mono _ _
   | exact impl_GiniOf.mono _ _
   | exact impl_IsList.mono _ _
   | exact impl_IsMajorized.mono _ _ _
   | exact impl_PairsOf.mono _ _
   | exact impl_RangeOf.mono _ _
   | exact impl_RankingOf.mono _ _
   | exact impl_SignsOf.mono _ _ _
   | exact impl_SpreadOf.mono _ _
   | exact impl_TwiceMedian.mono _ _
   | exact laws_ySame.mono _ _ _
   | exact spec_DrawSignsOf.mono _ _
   | exact spec_DrawSpreadOf.mono _ _
   | exact spec_ExcessOf.mono _ _
   | exact spec_PairsOf.mono _ _
   | exact spec_SignsOf.mono _ _ _
   | exact spec_SpreadOf.mono _ _
   | exact spec_TwiceMedian.mono _ _
   | exact LeO.none _
   | refine LeO.ite ?_ ?_
   | refine LeO.bind ?_ (fun _ => ?_)
  ·intro y0 y1 y2
   unfold laws_FnMeasures.l2
   repeat' first
   | (with_reducible exact ih0 _ _ _ _ _ _ _ _ _ _ _ _ _ _)
   | (with_reducible exact ih1 _)
   | (with_reducible exact ih2 _ _ _ _ _)
   | (with_reducible exact ih3 _ _)
   | (with_reducible exact ih4 _ _ _)
   | (with_reducible exact ih5 _ _ _ _ _ _ _ _ _ _ _ _ _ _ _ _ _ _ _ _ _)
   | (with_reducible exact ih6 _ _ _ _ _ _ _ _ _ _ _ _ _ _ _ _ _ _ _ _ _ _ _ _ _)
   | (with_reducible exact impl_ConcentrationOf.mono _ _)
   | (with_reducible exact impl_ExcessOf.mono _ _)
   | (with_reducible exact impl_GiniOf.mono _ _)
   | (with_reducible exact impl_IsList.mono _ _)
   | (with_reducible exact impl_IsMajorized.mono _ _ _)
   | (with_reducible exact impl_PairsOf.mono _ _)
   | (with_reducible exact impl_RangeOf.mono _ _)
   | (with_reducible exact impl_RankingOf.mono _ _)
   | (with_reducible exact impl_SignsOf.mono _ _ _)
   | (with_reducible exact impl_SpreadOf.mono _ _)
   | (with_reducible exact impl_TwiceMedian.mono _ _)
   | (with_reducible exact laws_ySame.mono _ _ _)
   | (with_reducible exact spec_DrawSignsOf.mono _ _)
   | (with_reducible exact spec_DrawSpreadOf.mono _ _)
   | (with_reducible exact spec_ExcessOf.mono _ _)
   | (with_reducible exact spec_PairsOf.mono _ _)
   | (with_reducible exact spec_SignsOf.mono _ _ _)
   | (with_reducible exact spec_SpreadOf.mono _ _)
   | (with_reducible exact spec_TwiceMedian.mono _ _)
   | (with_reducible exact LeO.refl _)
   | (with_reducible exact LeO.none _)
   | (with_reducible refine LeO.ite ?_ ?_)
   | (with_reducible refine LeO.bind ?_ (fun _ => ?_))
   | exact ih0 _ _ _ _ _ _ _ _ _ _ _ _ _ _
   | exact ih1 _
   | exact ih2 _ _ _ _ _
   | exact ih3 _ _
   | exact ih4 _ _ _
   | exact ih5 _ _ _ _ _ _ _ _ _ _ _ _ _ _ _ _ _ _ _ _ _
   | exact ih6 _ _ _ _ _ _ _ _ _ _ _ _ _ _ _ _ _ _ _ _ _ _ _ _ _
   | exact impl_ConcentrationOf.mono _ _
   | exact impl_ExcessOf.mono _ _
   | exact impl_GiniOf.mono _ _
   | exact impl_IsList.mono _ _
   | exact impl_IsMajorized.mono _ _ _
   | exact impl_PairsOf.mono _ _
   | exact impl_RangeOf.mono _ _
   | exact impl_RankingOf.mono _ _
   | exact impl_SignsOf.mono _ _ _
   | exact impl_SpreadOf.mono _ _
   | exact impl_TwiceMedian.mono _ _
   | exact laws_ySame.mono _ _ _
   | exact spec_DrawSignsOf.mono _ _
   | exact spec_DrawSpreadOf.mono _ _
   | exact spec_ExcessOf.mono _ _
   | exact spec_PairsOf.mono _ _
   | exact spec_SignsOf.mono _ _ _
   | exact spec_SpreadOf.mono _ _
   | exact spec_TwiceMedian.mono _ _
   | exact LeO.none _
   | refine LeO.ite ?_ ?_
   | refine LeO.bind ?_ (fun _ => ?_)
  ·intro y0 y1 y2 y3 y4 y5 y6 y7 y8 y9 y10 y11 y12 y13 y14 y15 y16 y17 y18 y19 y20
   unfold laws_FnMeasures.l0
   repeat' first
   | (with_reducible exact ih0 _ _ _ _ _ _ _ _ _ _ _ _ _ _)
   | (with_reducible exact ih1 _)
   | (with_reducible exact ih2 _ _ _ _ _)
   | (with_reducible exact ih3 _ _)
   | (with_reducible exact ih4 _ _ _)
   | (with_reducible exact ih5 _ _ _ _ _ _ _ _ _ _ _ _ _ _ _ _ _ _ _ _ _)
   | (with_reducible exact ih6 _ _ _ _ _ _ _ _ _ _ _ _ _ _ _ _ _ _ _ _ _ _ _ _ _)
   | (with_reducible exact impl_ConcentrationOf.mono _ _)
   | (with_reducible exact impl_ExcessOf.mono _ _)
   | (with_reducible exact impl_GiniOf.mono _ _)
   | (with_reducible exact impl_IsList.mono _ _)
   | (with_reducible exact impl_IsMajorized.mono _ _ _)
   | (with_reducible exact impl_PairsOf.mono _ _)
   | (with_reducible exact impl_RangeOf.mono _ _)
   | (with_reducible exact impl_RankingOf.mono _ _)
   | (with_reducible exact impl_SignsOf.mono _ _ _)
   | (with_reducible exact impl_SpreadOf.mono _ _)
   | (with_reducible exact impl_TwiceMedian.mono _ _)
   | (with_reducible exact laws_ySame.mono _ _ _)
   | (with_reducible exact spec_DrawSignsOf.mono _ _)
   | (with_reducible exact spec_DrawSpreadOf.mono _ _)
   | (with_reducible exact spec_ExcessOf.mono _ _)
   | (with_reducible exact spec_PairsOf.mono _ _)
   | (with_reducible exact spec_SignsOf.mono _ _ _)
   | (with_reducible exact spec_SpreadOf.mono _ _)
   | (with_reducible exact spec_TwiceMedian.mono _ _)
   | (with_reducible exact LeO.refl _)
   | (with_reducible exact LeO.none _)
   | (with_reducible refine LeO.ite ?_ ?_)
   | (with_reducible refine LeO.bind ?_ (fun _ => ?_))
   | exact ih0 _ _ _ _ _ _ _ _ _ _ _ _ _ _
   | exact ih1 _
   | exact ih2 _ _ _ _ _
   | exact ih3 _ _
   | exact ih4 _ _ _
   | exact ih5 _ _ _ _ _ _ _ _ _ _ _ _ _ _ _ _ _ _ _ _ _
   | exact ih6 _ _ _ _ _ _ _ _ _ _ _ _ _ _ _ _ _ _ _ _ _ _ _ _ _
   | exact impl_ConcentrationOf.mono _ _
   | exact impl_ExcessOf.mono _ _
   | exact impl_GiniOf.mono _ _
   | exact impl_IsList.mono _ _
   | exact impl_IsMajorized.mono _ _ _
   | exact impl_PairsOf.mono _ _
   | exact impl_RangeOf.mono _ _
   | exact impl_RankingOf.mono _ _
   | exact impl_SignsOf.mono _ _ _
   | exact impl_SpreadOf.mono _ _
   | exact impl_TwiceMedian.mono _ _
   | exact laws_ySame.mono _ _ _
   | exact spec_DrawSignsOf.mono _ _
   | exact spec_DrawSpreadOf.mono _ _
   | exact spec_ExcessOf.mono _ _
   | exact spec_PairsOf.mono _ _
   | exact spec_SignsOf.mono _ _ _
   | exact spec_SpreadOf.mono _ _
   | exact spec_TwiceMedian.mono _ _
   | exact LeO.none _
   | refine LeO.ite ?_ ?_
   | refine LeO.bind ?_ (fun _ => ?_)
  ·intro y0 y1 y2 y3 y4 y5 y6 y7 y8 y9 y10 y11 y12 y13 y14 y15 y16 y17 y18 y19 y20 y21 y22 y23 y24
   unfold laws_FnMeasures.l1
   repeat' first
   | (with_reducible exact ih0 _ _ _ _ _ _ _ _ _ _ _ _ _ _)
   | (with_reducible exact ih1 _)
   | (with_reducible exact ih2 _ _ _ _ _)
   | (with_reducible exact ih3 _ _)
   | (with_reducible exact ih4 _ _ _)
   | (with_reducible exact ih5 _ _ _ _ _ _ _ _ _ _ _ _ _ _ _ _ _ _ _ _ _)
   | (with_reducible exact ih6 _ _ _ _ _ _ _ _ _ _ _ _ _ _ _ _ _ _ _ _ _ _ _ _ _)
   | (with_reducible exact impl_ConcentrationOf.mono _ _)
   | (with_reducible exact impl_ExcessOf.mono _ _)
   | (with_reducible exact impl_GiniOf.mono _ _)
   | (with_reducible exact impl_IsList.mono _ _)
   | (with_reducible exact impl_IsMajorized.mono _ _ _)
   | (with_reducible exact impl_PairsOf.mono _ _)
   | (with_reducible exact impl_RangeOf.mono _ _)
   | (with_reducible exact impl_RankingOf.mono _ _)
   | (with_reducible exact impl_SignsOf.mono _ _ _)
   | (with_reducible exact impl_SpreadOf.mono _ _)
   | (with_reducible exact impl_TwiceMedian.mono _ _)
   | (with_reducible exact laws_ySame.mono _ _ _)
   | (with_reducible exact spec_DrawSignsOf.mono _ _)
   | (with_reducible exact spec_DrawSpreadOf.mono _ _)
   | (with_reducible exact spec_ExcessOf.mono _ _)
   | (with_reducible exact spec_PairsOf.mono _ _)
   | (with_reducible exact spec_SignsOf.mono _ _ _)
   | (with_reducible exact spec_SpreadOf.mono _ _)
   | (with_reducible exact spec_TwiceMedian.mono _ _)
   | (with_reducible exact LeO.refl _)
   | (with_reducible exact LeO.none _)
   | (with_reducible refine LeO.ite ?_ ?_)
   | (with_reducible refine LeO.bind ?_ (fun _ => ?_))
   | exact ih0 _ _ _ _ _ _ _ _ _ _ _ _ _ _
   | exact ih1 _
   | exact ih2 _ _ _ _ _
   | exact ih3 _ _
   | exact ih4 _ _ _
   | exact ih5 _ _ _ _ _ _ _ _ _ _ _ _ _ _ _ _ _ _ _ _ _
   | exact ih6 _ _ _ _ _ _ _ _ _ _ _ _ _ _ _ _ _ _ _ _ _ _ _ _ _
   | exact impl_ConcentrationOf.mono _ _
   | exact impl_ExcessOf.mono _ _
   | exact impl_GiniOf.mono _ _
   | exact impl_IsList.mono _ _
   | exact impl_IsMajorized.mono _ _ _
   | exact impl_PairsOf.mono _ _
   | exact impl_RangeOf.mono _ _
   | exact impl_RankingOf.mono _ _
   | exact impl_SignsOf.mono _ _ _
   | exact impl_SpreadOf.mono _ _
   | exact impl_TwiceMedian.mono _ _
   | exact laws_ySame.mono _ _ _
   | exact spec_DrawSignsOf.mono _ _
   | exact spec_DrawSpreadOf.mono _ _
   | exact spec_ExcessOf.mono _ _
   | exact spec_PairsOf.mono _ _
   | exact spec_SignsOf.mono _ _ _
   | exact spec_SpreadOf.mono _ _
   | exact spec_TwiceMedian.mono _ _
   | exact LeO.none _
   | refine LeO.ite ?_ ?_
   | refine LeO.bind ?_ (fun _ => ?_)
theorem laws_FnMeasures.mono : ∀ a0 a1 k, LeO (laws_FnMeasures.f k a0 a1) (laws_FnMeasures.f (k + 1) a0 a1) := by
 intro a0 a1 k
 obtain ⟨ih0, ih1, ih2, ih3, ih4, ih5, ih6⟩ := laws_FnMeasures.mono_l k
 unfold laws_FnMeasures.f
 repeat' first
   | (with_reducible exact ih0 _ _ _ _ _ _ _ _ _ _ _ _ _ _)
   | (with_reducible exact ih1 _)
   | (with_reducible exact ih2 _ _ _ _ _)
   | (with_reducible exact ih3 _ _)
   | (with_reducible exact ih4 _ _ _)
   | (with_reducible exact ih5 _ _ _ _ _ _ _ _ _ _ _ _ _ _ _ _ _ _ _ _ _)
   | (with_reducible exact ih6 _ _ _ _ _ _ _ _ _ _ _ _ _ _ _ _ _ _ _ _ _ _ _ _ _)
   | (with_reducible exact impl_ConcentrationOf.mono _ _)
   | (with_reducible exact impl_ExcessOf.mono _ _)
   | (with_reducible exact impl_GiniOf.mono _ _)
   | (with_reducible exact impl_IsList.mono _ _)
   | (with_reducible exact impl_IsMajorized.mono _ _ _)
   | (with_reducible exact impl_PairsOf.mono _ _)
   | (with_reducible exact impl_RangeOf.mono _ _)
   | (with_reducible exact impl_RankingOf.mono _ _)
   | (with_reducible exact impl_SignsOf.mono _ _ _)
   | (with_reducible exact impl_SpreadOf.mono _ _)
   | (with_reducible exact impl_TwiceMedian.mono _ _)
   | (with_reducible exact laws_ySame.mono _ _ _)
   | (with_reducible exact spec_DrawSignsOf.mono _ _)
   | (with_reducible exact spec_DrawSpreadOf.mono _ _)
   | (with_reducible exact spec_ExcessOf.mono _ _)
   | (with_reducible exact spec_PairsOf.mono _ _)
   | (with_reducible exact spec_SignsOf.mono _ _ _)
   | (with_reducible exact spec_SpreadOf.mono _ _)
   | (with_reducible exact spec_TwiceMedian.mono _ _)
   | (with_reducible exact LeO.refl _)
   | (with_reducible exact LeO.none _)
   | (with_reducible refine LeO.ite ?_ ?_)
   | (with_reducible refine LeO.bind ?_ (fun _ => ?_))
   | exact ih0 _ _ _ _ _ _ _ _ _ _ _ _ _ _
   | exact ih1 _
   | exact ih2 _ _ _ _ _
   | exact ih3 _ _
   | exact ih4 _ _ _
   | exact ih5 _ _ _ _ _ _ _ _ _ _ _ _ _ _ _ _ _ _ _ _ _
   | exact ih6 _ _ _ _ _ _ _ _ _ _ _ _ _ _ _ _ _ _ _ _ _ _ _ _ _
   | exact impl_ConcentrationOf.mono _ _
   | exact impl_ExcessOf.mono _ _
   | exact impl_GiniOf.mono _ _
   | exact impl_IsList.mono _ _
   | exact impl_IsMajorized.mono _ _ _
   | exact impl_PairsOf.mono _ _
   | exact impl_RangeOf.mono _ _
   | exact impl_RankingOf.mono _ _
   | exact impl_SignsOf.mono _ _ _
   | exact impl_SpreadOf.mono _ _
   | exact impl_TwiceMedian.mono _ _
   | exact laws_ySame.mono _ _ _
   | exact spec_DrawSignsOf.mono _ _
   | exact spec_DrawSpreadOf.mono _ _
   | exact spec_ExcessOf.mono _ _
   | exact spec_PairsOf.mono _ _
   | exact spec_SignsOf.mono _ _ _
   | exact spec_SpreadOf.mono _ _
   | exact spec_TwiceMedian.mono _ _
   | exact LeO.none _
   | refine LeO.ite ?_ ?_
   | refine LeO.bind ?_ (fun _ => ?_)
set_option maxHeartbeats 8000000 in
set_option maxRecDepth 100000 in
-- NOFALSE
theorem laws_FnMeasures.calls (k : Nat) (A0 : Option Addr) (c0 : Nat) (l0 : List Int) (A1 : Option Addr) (c1 : Nat) (l1 : List Int) (r : Bool) (w : World) (hr0 : Kd.C (Kd.int .u8) w A0 l0.length l0) (hc0 : l0.length ≤ c0) (hr1 : Kd.C (Kd.int .u8) w A1 l1.length l1) (hc1 : l1.length ≤ c1) (h : laws_FnMeasures.f k l0 l1 = some r) :
  Calls Try.prog 8 #[.slice A0 l0.length c0, .slice A1 l1.length c1] w fun e w' => e = .returned (.bool r) ∧ Below w.heap.size w w' := by
 have HR0 := Aside0.mk hr0
 have HC0 := Aside0.mk hc0
 clear hr0 hc0
 have HR1 := Aside0.mk hr1
 have HC1 := Aside0.mk hc1
 clear hr1 hc1
 have HB := Aside0.mk (Below.refl w.heap.size w)
 have H : ((laws_big.f l0 l1).bind fun t448 => (if t448 = true then (some true) else ((spec_DrawSpreadOf.f k l0).bind fun t449 => ((impl_SpreadOf.f k t449).bind fun bt452 => ((spec_SpreadOf.f k t449).bind fun bt454 => ((impl_PairsOf.f k t449).bind fun bt456 => ((spec_PairsOf.f k t449).bind fun bt458 => ((impl_RangeOf.f k t449).bind fun bt460 => ((impl_TwiceMedian.f k t449).bind fun bt462 => ((spec_TwiceMedian.f k t449).bind fun bt464 => ((impl_ExcessOf.f k t449).bind fun bt466 => ((spec_ExcessOf.f k t449).bind fun bt468 => ((impl_GiniOf.f k t449).bind fun bt470 => ((impl_ConcentrationOf.f k t449).bind fun bt473 => (if (bt452.2 != bt454.2) = true then none else (if bt452.1 = bt454.1 then (if (bt456.2 != bt458.2) = true then none else (if bt456.1 = bt458.1 then (if (bt462.2 != bt464.2) = true then none else (if bt462.1 = bt464.1 then (if (bt466.2 != bt468.2) = true then none else (if bt466.1 = bt468.1 then (if (bt452.2 != bt456.2) = true then none else (if (bt452.2 != bt460.2) = true then none else (if (bt452.2 != bt462.2) = true then none else (if (bt452.2 != bt466.2) = true then none else ((impl_IsList.f k t449).bind fun t476 => (laws_FnMeasures.j0 k l1 t449 bt452.1 bt452.2 bt456.1 bt460.1 bt466.1 bt470.1 bt470.2.1 bt470.2.2 bt473.1 bt473.2.1 bt473.2.2 (bt452.2 != t476))))))) else none)) else none)) else none)) else none)))))))))))))))) = some r := h
 clear h
 replace H := Option.bind_eq_some_iff.mp H
 obtain ⟨t448, A30, H⟩ := H
 replace H : (if t448 = true then (some true) else ((spec_DrawSpreadOf.f k l0).bind fun t449 => ((impl_SpreadOf.f k t449).bind fun bt452 => ((spec_SpreadOf.f k t449).bind fun bt454 => ((impl_PairsOf.f k t449).bind fun bt456 => ((spec_PairsOf.f k t449).bind fun bt458 => ((impl_RangeOf.f k t449).bind fun bt460 => ((impl_TwiceMedian.f k t449).bind fun bt462 => ((spec_TwiceMedian.f k t449).bind fun bt464 => ((impl_ExcessOf.f k t449).bind fun bt466 => ((spec_ExcessOf.f k t449).bind fun bt468 => ((impl_GiniOf.f k t449).bind fun bt470 => ((impl_ConcentrationOf.f k t449).bind fun bt473 => (if (bt452.2 != bt454.2) = true then none else (if bt452.1 = bt454.1 then (if (bt456.2 != bt458.2) = true then none else (if bt456.1 = bt458.1 then (if (bt462.2 != bt464.2) = true then none else (if bt462.1 = bt464.1 then (if (bt466.2 != bt468.2) = true then none else (if bt466.1 = bt468.1 then (if (bt452.2 != bt456.2) = true then none else (if (bt452.2 != bt460.2) = true then none else (if (bt452.2 != bt462.2) = true then none else (if (bt452.2 != bt466.2) = true then none else ((impl_IsList.f k t449).bind fun t476 => (laws_FnMeasures.j0 k l1 t449 bt452.1 bt452.2 bt456.1 bt460.1 bt466.1 bt470.1 bt470.2.1 bt470.2.2 bt473.1 bt473.2.1 bt473.2.2 (bt452.2 != t476))))))) else none)) else none)) else none)) else none))))))))))))))) = some r := H
 have A3 := Aside0.mk A30
 clear A30
 by_cases c4 : t448 = true
 ·subst c4
  have H1 : (some true) = some r := by rw [if_pos rfl] at H; exact H
  clear H
  have H := H1
  clear H1
  obtain rfl := Option.some.inj H
  go_enter Try.func8, Try.ntmps8
  go_wp2_with (first | (go_at_call 10; (with_reducible refine (laws_big.calls _ _ l0 _ _ l1 true _ ?side1 ?side2 ?side3 ?side4 A3.out).mono ?_); (case side1 => repeat (first | exact HR0.out | (with_reducible refine Kd.C_alloc ?_ _) | (with_reducible refine Kd.C_drewN ?_ _) | (with_reducible refine Kd.C_drew ?_))); (case side2 => exact HC0.out); (case side3 => repeat (first | exact HR1.out | (with_reducible refine Kd.C_alloc ?_ _) | (with_reducible refine Kd.C_drewN ?_ _) | (with_reducible refine Kd.C_drew ?_))); (case side4 => exact HC1.out); rintro e w' ⟨rfl, ⟨nd, rfl⟩⟩; (try first | exact ⟨rfl, _, World.drewN_drewN _ _ _⟩ | exact ⟨rfl, _, Eq.trans (World.drewN_drewN _ _ _) (congrArg (World.drewN _) (Nat.add_assoc _ _ _))⟩)))
  repeat (go_quiet (first | (go_at_call 10; (with_reducible refine (laws_big.calls _ _ l0 _ _ l1 true _ ?side1 ?side2 ?side3 ?side4 A3.out).mono ?_); (case side1 => repeat (first | exact HR0.out | (with_reducible refine Kd.C_alloc ?_ _) | (with_reducible refine Kd.C_drewN ?_ _) | (with_reducible refine Kd.C_drew ?_))); (case side2 => exact HC0.out); (case side3 => repeat (first | exact HR1.out | (with_reducible refine Kd.C_alloc ?_ _) | (with_reducible refine Kd.C_drewN ?_ _) | (with_reducible refine Kd.C_drew ?_))); (case side4 => exact HC1.out); rintro e w' ⟨rfl, ⟨nd, rfl⟩⟩; (try first | exact ⟨rfl, _, World.drewN_drewN _ _ _⟩ | exact ⟨rfl, _, Eq.trans (World.drewN_drewN _ _ _) (congrArg (World.drewN _) (Nat.add_assoc _ _ _))⟩))); try go_wp2_with (first | (go_at_call 10; (with_reducible refine (laws_big.calls _ _ l0 _ _ l1 true _ ?side1 ?side2 ?side3 ?side4 A3.out).mono ?_); (case side1 => repeat (first | exact HR0.out | (with_reducible refine Kd.C_alloc ?_ _) | (with_reducible refine Kd.C_drewN ?_ _) | (with_reducible refine Kd.C_drew ?_))); (case side2 => exact HC0.out); (case side3 => repeat (first | exact HR1.out | (with_reducible refine Kd.C_alloc ?_ _) | (with_reducible refine Kd.C_drewN ?_ _) | (with_reducible refine Kd.C_drew ?_))); (case side4 => exact HC1.out); rintro e w' ⟨rfl, ⟨nd, rfl⟩⟩; (try first | exact ⟨rfl, _, World.drewN_drewN _ _ _⟩ | exact ⟨rfl, _, Eq.trans (World.drewN_drewN _ _ _) (congrArg (World.drewN _) (Nat.add_assoc _ _ _))⟩))))
  go_ret
  exact ⟨by first | rfl | (simp [errW_none, errW_some] <;> rfl) | (simp [*, errW_none, errW_some] <;> rfl), by repeat (first | (with_reducible first | exact HB.out | apply below_alloc | apply pw_below_drewN | apply below_drew1) | exact HB.out)⟩
 ·replace c4 := Bool.eq_false_iff.mpr c4
  subst c4
  have H1 : ((spec_DrawSpreadOf.f k l0).bind fun t449 => ((impl_SpreadOf.f k t449).bind fun bt452 => ((spec_SpreadOf.f k t449).bind fun bt454 => ((impl_PairsOf.f k t449).bind fun bt456 => ((spec_PairsOf.f k t449).bind fun bt458 => ((impl_RangeOf.f k t449).bind fun bt460 => ((impl_TwiceMedian.f k t449).bind fun bt462 => ((spec_TwiceMedian.f k t449).bind fun bt464 => ((impl_ExcessOf.f k t449).bind fun bt466 => ((spec_ExcessOf.f k t449).bind fun bt468 => ((impl_GiniOf.f k t449).bind fun bt470 => ((impl_ConcentrationOf.f k t449).bind fun bt473 => (if (bt452.2 != bt454.2) = true then none else (if bt452.1 = bt454.1 then (if (bt456.2 != bt458.2) = true then none else (if bt456.1 = bt458.1 then (if (bt462.2 != bt464.2) = true then none else (if bt462.1 = bt464.1 then (if (bt466.2 != bt468.2) = true then none else (if bt466.1 = bt468.1 then (if (bt452.2 != bt456.2) = true then none else (if (bt452.2 != bt460.2) = true then none else (if (bt452.2 != bt462.2) = true then none else (if (bt452.2 != bt466.2) = true then none else ((impl_IsList.f k t449).bind fun t476 => (laws_FnMeasures.j0 k l1 t449 bt452.1 bt452.2 bt456.1 bt460.1 bt466.1 bt470.1 bt470.2.1 bt470.2.2 bt473.1 bt473.2.1 bt473.2.2 (bt452.2 != t476))))))) else none)) else none)) else none)) else none)))))))))))))) = some r := by rw [if_neg (show ¬ (false = true) by decide)] at H; exact H
  clear H
  have H := H1
  clear H1
  replace H := Option.bind_eq_some_iff.mp H
  obtain ⟨t449, A50, H⟩ := H
  replace H : ((impl_SpreadOf.f k t449).bind fun bt452 => ((spec_SpreadOf.f k t449).bind fun bt454 => ((impl_PairsOf.f k t449).bind fun bt456 => ((spec_PairsOf.f k t449).bind fun bt458 => ((impl_RangeOf.f k t449).bind fun bt460 => ((impl_TwiceMedian.f k t449).bind fun bt462 => ((spec_TwiceMedian.f k t449).bind fun bt464 => ((impl_ExcessOf.f k t449).bind fun bt466 => ((spec_ExcessOf.f k t449).bind fun bt468 => ((impl_GiniOf.f k t449).bind fun bt470 => ((impl_ConcentrationOf.f k t449).bind fun bt473 => (if (bt452.2 != bt454.2) = true then none else (if bt452.1 = bt454.1 then (if (bt456.2 != bt458.2) = true then none else (if bt456.1 = bt458.1 then (if (bt462.2 != bt464.2) = true then none else (if bt462.1 = bt464.1 then (if (bt466.2 != bt468.2) = true then none else (if bt466.1 = bt468.1 then (if (bt452.2 != bt456.2) = true then none else (if (bt452.2 != bt460.2) = true then none else (if (bt452.2 != bt462.2) = true then none else (if (bt452.2 != bt466.2) = true then none else ((impl_IsList.f k t449).bind fun t476 => (laws_FnMeasures.j0 k l1 t449 bt452.1 bt452.2 bt456.1 bt460.1 bt466.1 bt470.1 bt470.2.1 bt470.2.2 bt473.1 bt473.2.1 bt473.2.2 (bt452.2 != t476))))))) else none)) else none)) else none)) else none))))))))))))) = some r := H
  have A5 := Aside0.mk A50
  clear A50
  replace H := Option.bind_eq_some_iff.mp H
  obtain ⟨⟨t452, t453⟩, A60, H⟩ := H
  replace H : ((spec_SpreadOf.f k t449).bind fun bt454 => ((impl_PairsOf.f k t449).bind fun bt456 => ((spec_PairsOf.f k t449).bind fun bt458 => ((impl_RangeOf.f k t449).bind fun bt460 => ((impl_TwiceMedian.f k t449).bind fun bt462 => ((spec_TwiceMedian.f k t449).bind fun bt464 => ((impl_ExcessOf.f k t449).bind fun bt466 => ((spec_ExcessOf.f k t449).bind fun bt468 => ((impl_GiniOf.f k t449).bind fun bt470 => ((impl_ConcentrationOf.f k t449).bind fun bt473 => (if (t453 != bt454.2) = true then none else (if t452 = bt454.1 then (if (bt456.2 != bt458.2) = true then none else (if bt456.1 = bt458.1 then (if (bt462.2 != bt464.2) = true then none else (if bt462.1 = bt464.1 then (if (bt466.2 != bt468.2) = true then none else (if bt466.1 = bt468.1 then (if (t453 != bt456.2) = true then none else (if (t453 != bt460.2) = true then none else (if (t453 != bt462.2) = true then none else (if (t453 != bt466.2) = true then none else ((impl_IsList.f k t449).bind fun t476 => (laws_FnMeasures.j0 k l1 t449 t452 t453 bt456.1 bt460.1 bt466.1 bt470.1 bt470.2.1 bt470.2.2 bt473.1 bt473.2.1 bt473.2.2 (t453 != t476))))))) else none)) else none)) else none)) else none)))))))))))) = some r := H
  have A6 := Aside0.mk A60
  clear A60
  replace H := Option.bind_eq_some_iff.mp H
  obtain ⟨⟨t454, t455⟩, A70, H⟩ := H
  replace H : ((impl_PairsOf.f k t449).bind fun bt456 => ((spec_PairsOf.f k t449).bind fun bt458 => ((impl_RangeOf.f k t449).bind fun bt460 => ((impl_TwiceMedian.f k t449).bind fun bt462 => ((spec_TwiceMedian.f k t449).bind fun bt464 => ((impl_ExcessOf.f k t449).bind fun bt466 => ((spec_ExcessOf.f k t449).bind fun bt468 => ((impl_GiniOf.f k t449).bind fun bt470 => ((impl_ConcentrationOf.f k t449).bind fun bt473 => (if (t453 != t455) = true then none else (if t452 = t454 then (if (bt456.2 != bt458.2) = true then none else (if bt456.1 = bt458.1 then (if (bt462.2 != bt464.2) = true then none else (if bt462.1 = bt464.1 then (if (bt466.2 != bt468.2) = true then none else (if bt466.1 = bt468.1 then (if (t453 != bt456.2) = true then none else (if (t453 != bt460.2) = true then none else (if (t453 != bt462.2) = true then none else (if (t453 != bt466.2) = true then none else ((impl_IsList.f k t449).bind fun t476 => (laws_FnMeasures.j0 k l1 t449 t452 t453 bt456.1 bt460.1 bt466.1 bt470.1 bt470.2.1 bt470.2.2 bt473.1 bt473.2.1 bt473.2.2 (t453 != t476))))))) else none)) else none)) else none)) else none))))))))))) = some r := H
  have A7 := Aside0.mk A70
  clear A70
  replace H := Option.bind_eq_some_iff.mp H
  obtain ⟨⟨t456, t457⟩, A80, H⟩ := H
  replace H : ((spec_PairsOf.f k t449).bind fun bt458 => ((impl_RangeOf.f k t449).bind fun bt460 => ((impl_TwiceMedian.f k t449).bind fun bt462 => ((spec_TwiceMedian.f k t449).bind fun bt464 => ((impl_ExcessOf.f k t449).bind fun bt466 => ((spec_ExcessOf.f k t449).bind fun bt468 => ((impl_GiniOf.f k t449).bind fun bt470 => ((impl_ConcentrationOf.f k t449).bind fun bt473 => (if (t453 != t455) = true then none else (if t452 = t454 then (if (t457 != bt458.2) = true then none else (if t456 = bt458.1 then (if (bt462.2 != bt464.2) = true then none else (if bt462.1 = bt464.1 then (if (bt466.2 != bt468.2) = true then none else (if bt466.1 = bt468.1 then (if (t453 != t457) = true then none else (if (t453 != bt460.2) = true then none else (if (t453 != bt462.2) = true then none else (if (t453 != bt466.2) = true then none else ((impl_IsList.f k t449).bind fun t476 => (laws_FnMeasures.j0 k l1 t449 t452 t453 t456 bt460.1 bt466.1 bt470.1 bt470.2.1 bt470.2.2 bt473.1 bt473.2.1 bt473.2.2 (t453 != t476))))))) else none)) else none)) else none)) else none)))))))))) = some r := H
  have A8 := Aside0.mk A80
  clear A80
  replace H := Option.bind_eq_some_iff.mp H
  obtain ⟨⟨t458, t459⟩, A90, H⟩ := H
  replace H : ((impl_RangeOf.f k t449).bind fun bt460 => ((impl_TwiceMedian.f k t449).bind fun bt462 => ((spec_TwiceMedian.f k t449).bind fun bt464 => ((impl_ExcessOf.f k t449).bind fun bt466 => ((spec_ExcessOf.f k t449).bind fun bt468 => ((impl_GiniOf.f k t449).bind fun bt470 => ((impl_ConcentrationOf.f k t449).bind fun bt473 => (if (t453 != t455) = true then none else (if t452 = t454 then (if (t457 != t459) = true then none else (if t456 = t458 then (if (bt462.2 != bt464.2) = true then none else (if bt462.1 = bt464.1 then (if (bt466.2 != bt468.2) = true then none else (if bt466.1 = bt468.1 then (if (t453 != t457) = true then none else (if (t453 != bt460.2) = true then none else (if (t453 != bt462.2) = true then none else (if (t453 != bt466.2) = true then none else ((impl_IsList.f k t449).bind fun t476 => (laws_FnMeasures.j0 k l1 t449 t452 t453 t456 bt460.1 bt466.1 bt470.1 bt470.2.1 bt470.2.2 bt473.1 bt473.2.1 bt473.2.2 (t453 != t476))))))) else none)) else none)) else none)) else none))))))))) = some r := H
  have A9 := Aside0.mk A90
  clear A90
  replace H := Option.bind_eq_some_iff.mp H
  obtain ⟨⟨t460, t461⟩, A100, H⟩ := H
  replace H : ((impl_TwiceMedian.f k t449).bind fun bt462 => ((spec_TwiceMedian.f k t449).bind fun bt464 => ((impl_ExcessOf.f k t449).bind fun bt466 => ((spec_ExcessOf.f k t449).bind fun bt468 => ((impl_GiniOf.f k t449).bind fun bt470 => ((impl_ConcentrationOf.f k t449).bind fun bt473 => (if (t453 != t455) = true then none else (if t452 = t454 then (if (t457 != t459) = true then none else (if t456 = t458 then (if (bt462.2 != bt464.2) = true then none else (if bt462.1 = bt464.1 then (if (bt466.2 != bt468.2) = true then none else (if bt466.1 = bt468.1 then (if (t453 != t457) = true then none else (if (t453 != t461) = true then none else (if (t453 != bt462.2) = true then none else (if (t453 != bt466.2) = true then none else ((impl_IsList.f k t449).bind fun t476 => (laws_FnMeasures.j0 k l1 t449 t452 t453 t456 t460 bt466.1 bt470.1 bt470.2.1 bt470.2.2 bt473.1 bt473.2.1 bt473.2.2 (t453 != t476))))))) else none)) else none)) else none)) else none)))))))) = some r := H
  have A10 := Aside0.mk A100
  clear A100
  replace H := Option.bind_eq_some_iff.mp H
  obtain ⟨⟨t462, t463⟩, A110, H⟩ := H
  replace H : ((spec_TwiceMedian.f k t449).bind fun bt464 => ((impl_ExcessOf.f k t449).bind fun bt466 => ((spec_ExcessOf.f k t449).bind fun bt468 => ((impl_GiniOf.f k t449).bind fun bt470 => ((impl_ConcentrationOf.f k t449).bind fun bt473 => (if (t453 != t455) = true then none else (if t452 = t454 then (if (t457 != t459) = true then none else (if t456 = t458 then (if (t463 != bt464.2) = true then none else (if t462 = bt464.1 then (if (bt466.2 != bt468.2) = true then none else (if bt466.1 = bt468.1 then (if (t453 != t457) = true then none else (if (t453 != t461) = true then none else (if (t453 != t463) = true then none else (if (t453 != bt466.2) = true then none else ((impl_IsList.f k t449).bind fun t476 => (laws_FnMeasures.j0 k l1 t449 t452 t453 t456 t460 bt466.1 bt470.1 bt470.2.1 bt470.2.2 bt473.1 bt473.2.1 bt473.2.2 (t453 != t476))))))) else none)) else none)) else none)) else none))))))) = some r := H
  have A11 := Aside0.mk A110
  clear A110
  replace H := Option.bind_eq_some_iff.mp H
  obtain ⟨⟨t464, t465⟩, A120, H⟩ := H
  replace H : ((impl_ExcessOf.f k t449).bind fun bt466 => ((spec_ExcessOf.f k t449).bind fun bt468 => ((impl_GiniOf.f k t449).bind fun bt470 => ((impl_ConcentrationOf.f k t449).bind fun bt473 => (if (t453 != t455) = true then none else (if t452 = t454 then (if (t457 != t459) = true then none else (if t456 = t458 then (if (t463 != t465) = true then none else (if t462 = t464 then (if (bt466.2 != bt468.2) = true then none else (if bt466.1 = bt468.1 then (if (t453 != t457) = true then none else (if (t453 != t461) = true then none else (if (t453 != t463) = true then none else (if (t453 != bt466.2) = true then none else ((impl_IsList.f k t449).bind fun t476 => (laws_FnMeasures.j0 k l1 t449 t452 t453 t456 t460 bt466.1 bt470.1 bt470.2.1 bt470.2.2 bt473.1 bt473.2.1 bt473.2.2 (t453 != t476))))))) else none)) else none)) else none)) else none)))))) = some r := H
  have A12 := Aside0.mk A120
  clear A120
  replace H := Option.bind_eq_some_iff.mp H
  obtain ⟨⟨t466, t467⟩, A130, H⟩ := H
  replace H : ((spec_ExcessOf.f k t449).bind fun bt468 => ((impl_GiniOf.f k t449).bind fun bt470 => ((impl_ConcentrationOf.f k t449).bind fun bt473 => (if (t453 != t455) = true then none else (if t452 = t454 then (if (t457 != t459) = true then none else (if t456 = t458 then (if (t463 != t465) = true then none else (if t462 = t464 then (if (t467 != bt468.2) = true then none else (if t466 = bt468.1 then (if (t453 != t457) = true then none else (if (t453 != t461) = true then none else (if (t453 != t463) = true then none else (if (t453 != t467) = true then none else ((impl_IsList.f k t449).bind fun t476 => (laws_FnMeasures.j0 k l1 t449 t452 t453 t456 t460 t466 bt470.1 bt470.2.1 bt470.2.2 bt473.1 bt473.2.1 bt473.2.2 (t453 != t476))))))) else none)) else none)) else none)) else none))))) = some r := H
  have A13 := Aside0.mk A130
  clear A130
  replace H := Option.bind_eq_some_iff.mp H
  obtain ⟨⟨t468, t469⟩, A140, H⟩ := H
  replace H : ((impl_GiniOf.f k t449).bind fun bt470 => ((impl_ConcentrationOf.f k t449).bind fun bt473 => (if (t453 != t455) = true then none else (if t452 = t454 then (if (t457 != t459) = true then none else (if t456 = t458 then (if (t463 != t465) = true then none else (if t462 = t464 then (if (t467 != t469) = true then none else (if t466 = t468 then (if (t453 != t457) = true then none else (if (t453 != t461) = true then none else (if (t453 != t463) = true then none else (if (t453 != t467) = true then none else ((impl_IsList.f k t449).bind fun t476 => (laws_FnMeasures.j0 k l1 t449 t452 t453 t456 t460 t466 bt470.1 bt470.2.1 bt470.2.2 bt473.1 bt473.2.1 bt473.2.2 (t453 != t476))))))) else none)) else none)) else none)) else none)))) = some r := H
  have A14 := Aside0.mk A140
  clear A140
  replace H := Option.bind_eq_some_iff.mp H
  obtain ⟨⟨t470, t471, t472⟩, A150, H⟩ := H
  replace H : ((impl_ConcentrationOf.f k t449).bind fun bt473 => (if (t453 != t455) = true then none else (if t452 = t454 then (if (t457 != t459) = true then none else (if t456 = t458 then (if (t463 != t465) = true then none else (if t462 = t464 then (if (t467 != t469) = true then none else (if t466 = t468 then (if (t453 != t457) = true then none else (if (t453 != t461) = true then none else (if (t453 != t463) = true then none else (if (t453 != t467) = true then none else ((impl_IsList.f k t449).bind fun t476 => (laws_FnMeasures.j0 k l1 t449 t452 t453 t456 t460 t466 t470 t471 t472 bt473.1 bt473.2.1 bt473.2.2 (t453 != t476))))))) else none)) else none)) else none)) else none))) = some r := H
  have A15 := Aside0.mk A150
  clear A150
  replace H := Option.bind_eq_some_iff.mp H
  obtain ⟨⟨t473, t474, t475⟩, A160, H⟩ := H
  replace H : (if (t453 != t455) = true then none else (if t452 = t454 then (if (t457 != t459) = true then none else (if t456 = t458 then (if (t463 != t465) = true then none else (if t462 = t464 then (if (t467 != t469) = true then none else (if t466 = t468 then (if (t453 != t457) = true then none else (if (t453 != t461) = true then none else (if (t453 != t463) = true then none else (if (t453 != t467) = true then none else ((impl_IsList.f k t449).bind fun t476 => (laws_FnMeasures.j0 k l1 t449 t452 t453 t456 t460 t466 t470 t471 t472 t473 t474 t475 (t453 != t476))))))) else none)) else none)) else none)) else none)) = some r := H
  have A16 := Aside0.mk A160
  clear A160
  have HC17 := Aside0.mk H
  clear H
  go_enter Try.func8, Try.ntmps8
  go_upto_region 15 with (first | (go_at_call 10; (with_reducible refine (laws_big.calls _ _ l0 _ _ l1 false _ ?side1 ?side2 ?side3 ?side4 A3.out).mono ?_); (case side1 => repeat (first | exact HR0.out | (with_reducible refine Kd.C_alloc ?_ _) | (with_reducible refine Kd.C_drewN ?_ _) | (with_reducible refine Kd.C_drew ?_))); (case side2 => exact HC0.out); (case side3 => repeat (first | exact HR1.out | (with_reducible refine Kd.C_alloc ?_ _) | (with_reducible refine Kd.C_drewN ?_ _) | (with_reducible refine Kd.C_drew ?_))); (case side4 => exact HC1.out); rintro e w' ⟨rfl, ⟨nd, rfl⟩⟩; (try first | exact ⟨rfl, _, World.drewN_drewN _ _ _⟩ | exact ⟨rfl, _, Eq.trans (World.drewN_drewN _ _ _) (congrArg (World.drewN _) (Nat.add_assoc _ _ _))⟩)) | (go_at_call 52; (with_reducible refine (spec_DrawSpreadOf.calls k _ _ l0 t449 _ ?side1 ?side2 A5.out).mono ?_); (case side1 => repeat (first | exact HR0.out | (with_reducible refine Kd.C_alloc ?_ _) | (with_reducible refine Kd.C_drewN ?_ _) | (with_reducible refine Kd.C_drew ?_))); (case side2 => exact HC0.out); rintro e w18 ⟨v450, rfl, ho0, hb⟩; have n0_ := Aside0.mk (Kd.R_lower ho0 (below_size (by repeat (first | (with_reducible first | exact HB.out | apply below_alloc | apply pw_below_drewN | apply below_drew1) | exact HB.out)))); have n1_ := Aside0.mk (below_step (by repeat (first | (with_reducible first | exact HB.out | apply below_alloc | apply pw_below_drewN | apply below_drew1) | exact HB.out)) hb); clear HB; have HO451 := n0_; have HB := n1_; clear n0_ n1_; (try clear hb); (try clear hb2); (try clear hk); (try clear hi); (try clear ho0); obtain ⟨Ao19, co19, eo19⟩ := Kd.R_slice HO451.out; subst eo19) | (go_at_call 53; (with_reducible refine (impl_SpreadOf.calls k _ _ t449 t452 t453 _ ?side1 ?side2 A6.out).mono ?_); (case side1 => repeat (first | exact (Kd.R_reads' HO451.out).2.2 | (with_reducible refine Kd.C_alloc ?_ _) | (with_reducible refine Kd.C_drewN ?_ _) | (with_reducible refine Kd.C_drew ?_))); (case side2 => exact (Kd.R_reads' HO451.out).2.1); rintro e w' ⟨rfl, ⟨nd, rfl⟩⟩; (try first | exact ⟨rfl, _, World.drewN_drewN _ _ _⟩ | exact ⟨rfl, _, Eq.trans (World.drewN_drewN _ _ _) (congrArg (World.drewN _) (Nat.add_assoc _ _ _))⟩)) | (go_at_call 54; (with_reducible refine (spec_SpreadOf.calls k _ _ t449 t454 t455 _ ?side1 ?side2 A7.out).mono ?_); (case side1 => repeat (first | exact (Kd.R_reads' HO451.out).2.2 | (with_reducible refine Kd.C_alloc ?_ _) | (with_reducible refine Kd.C_drewN ?_ _) | (with_reducible refine Kd.C_drew ?_))); (case side2 => exact (Kd.R_reads' HO451.out).2.1); rintro e w' ⟨rfl, ⟨nd, rfl⟩⟩; (try first | exact ⟨rfl, _, World.drewN_drewN _ _ _⟩ | exact ⟨rfl, _, Eq.trans (World.drewN_drewN _ _ _) (congrArg (World.drewN _) (Nat.add_assoc _ _ _))⟩)) | (go_at_call 55; (with_reducible refine (impl_PairsOf.calls k _ _ t449 t456 t457 _ ?side1 ?side2 A8.out).mono ?_); (case side1 => repeat (first | exact (Kd.R_reads' HO451.out).2.2 | (with_reducible refine Kd.C_alloc ?_ _) | (with_reducible refine Kd.C_drewN ?_ _) | (with_reducible refine Kd.C_drew ?_))); (case side2 => exact (Kd.R_reads' HO451.out).2.1); rintro e w20 ⟨rfl, hb⟩; have n0_ := Aside0.mk (Kd.R_below (by (with_reducible repeat (first | apply Kd.R_alloc | apply Kd.R_drewN | apply Kd.R_drew)); exact HO451.out) hb); have n1_ := Aside0.mk (below_step (by repeat (first | (with_reducible first | exact HB.out | apply below_alloc | apply pw_below_drewN | apply below_drew1) | exact HB.out)) hb); clear HO451; clear HB; have HO451 := n0_; have HB := n1_; clear n0_ n1_; (try clear hb); (try clear hb2); (try clear hk); (try clear hi)) | (go_at_call 56; (with_reducible refine (spec_PairsOf.calls k _ _ t449 t458 t459 _ ?side1 ?side2 A9.out).mono ?_); (case side1 => repeat (first | exact (Kd.R_reads' HO451.out).2.2 | (with_reducible refine Kd.C_alloc ?_ _) | (with_reducible refine Kd.C_drewN ?_ _) | (with_reducible refine Kd.C_drew ?_))); (case side2 => exact (Kd.R_reads' HO451.out).2.1); rintro e w' ⟨rfl, ⟨nd, rfl⟩⟩; (try first | exact ⟨rfl, _, World.drewN_drewN _ _ _⟩ | exact ⟨rfl, _, Eq.trans (World.drewN_drewN _ _ _) (congrArg (World.drewN _) (Nat.add_assoc _ _ _))⟩)) | (go_at_call 57; (with_reducible refine (impl_RangeOf.calls k _ _ t449 t460 t461 _ ?side1 ?side2 A10.out).mono ?_); (case side1 => repeat (first | exact (Kd.R_reads' HO451.out).2.2 | (with_reducible refine Kd.C_alloc ?_ _) | (with_reducible refine Kd.C_drewN ?_ _) | (with_reducible refine Kd.C_drew ?_))); (case side2 => exact (Kd.R_reads' HO451.out).2.1); rintro e w21 ⟨rfl, hb⟩; have n0_ := Aside0.mk (Kd.R_below (by (with_reducible repeat (first | apply Kd.R_alloc | apply Kd.R_drewN | apply Kd.R_drew)); exact HO451.out) hb); have n1_ := Aside0.mk (below_step (by repeat (first | (with_reducible first | exact HB.out | apply below_alloc | apply pw_below_drewN | apply below_drew1) | exact HB.out)) hb); clear HO451; clear HB; have HO451 := n0_; have HB := n1_; clear n0_ n1_; (try clear hb); (try clear hb2); (try clear hk); (try clear hi)) | (go_at_call 58; (with_reducible refine (impl_TwiceMedian.calls k _ _ t449 t462 t463 _ ?side1 ?side2 A11.out).mono ?_); (case side1 => repeat (first | exact (Kd.R_reads' HO451.out).2.2 | (with_reducible refine Kd.C_alloc ?_ _) | (with_reducible refine Kd.C_drewN ?_ _) | (with_reducible refine Kd.C_drew ?_))); (case side2 => exact (Kd.R_reads' HO451.out).2.1); rintro e w22 ⟨rfl, hb⟩; have n0_ := Aside0.mk (Kd.R_below (by (with_reducible repeat (first | apply Kd.R_alloc | apply Kd.R_drewN | apply Kd.R_drew)); exact HO451.out) hb); have n1_ := Aside0.mk (below_step (by repeat (first | (with_reducible first | exact HB.out | apply below_alloc | apply pw_below_drewN | apply below_drew1) | exact HB.out)) hb); clear HO451; clear HB; have HO451 := n0_; have HB := n1_; clear n0_ n1_; (try clear hb); (try clear hb2); (try clear hk); (try clear hi)) | (go_at_call 59; (with_reducible refine (spec_TwiceMedian.calls k _ _ t449 t464 t465 _ ?side1 ?side2 A12.out).mono ?_); (case side1 => repeat (first | exact (Kd.R_reads' HO451.out).2.2 | (with_reducible refine Kd.C_alloc ?_ _) | (with_reducible refine Kd.C_drewN ?_ _) | (with_reducible refine Kd.C_drew ?_))); (case side2 => exact (Kd.R_reads' HO451.out).2.1); rintro e w23 ⟨rfl, hb⟩; have n0_ := Aside0.mk (Kd.R_below (by (with_reducible repeat (first | apply Kd.R_alloc | apply Kd.R_drewN | apply Kd.R_drew)); exact HO451.out) hb); have n1_ := Aside0.mk (below_step (by repeat (first | (with_reducible first | exact HB.out | apply below_alloc | apply pw_below_drewN | apply below_drew1) | exact HB.out)) hb); clear HO451; clear HB; have HO451 := n0_; have HB := n1_; clear n0_ n1_; (try clear hb); (try clear hb2); (try clear hk); (try clear hi)) | (go_at_call 60; (with_reducible refine (impl_ExcessOf.calls k _ _ t449 t466 t467 _ ?side1 ?side2 A13.out).mono ?_); (case side1 => repeat (first | exact (Kd.R_reads' HO451.out).2.2 | (with_reducible refine Kd.C_alloc ?_ _) | (with_reducible refine Kd.C_drewN ?_ _) | (with_reducible refine Kd.C_drew ?_))); (case side2 => exact (Kd.R_reads' HO451.out).2.1); rintro e w24 ⟨rfl, hb⟩; have n0_ := Aside0.mk (Kd.R_below (by (with_reducible repeat (first | apply Kd.R_alloc | apply Kd.R_drewN | apply Kd.R_drew)); exact HO451.out) hb); have n1_ := Aside0.mk (below_step (by repeat (first | (with_reducible first | exact HB.out | apply below_alloc | apply pw_below_drewN | apply below_drew1) | exact HB.out)) hb); clear HO451; clear HB; have HO451 := n0_; have HB := n1_; clear n0_ n1_; (try clear hb); (try clear hb2); (try clear hk); (try clear hi)) | (go_at_call 61; (with_reducible refine (spec_ExcessOf.calls k _ _ t449 t468 t469 _ ?side1 ?side2 A14.out).mono ?_); (case side1 => repeat (first | exact (Kd.R_reads' HO451.out).2.2 | (with_reducible refine Kd.C_alloc ?_ _) | (with_reducible refine Kd.C_drewN ?_ _) | (with_reducible refine Kd.C_drew ?_))); (case side2 => exact (Kd.R_reads' HO451.out).2.1); rintro e w' ⟨rfl, ⟨nd, rfl⟩⟩; (try first | exact ⟨rfl, _, World.drewN_drewN _ _ _⟩ | exact ⟨rfl, _, Eq.trans (World.drewN_drewN _ _ _) (congrArg (World.drewN _) (Nat.add_assoc _ _ _))⟩)) | (go_at_call 62; (with_reducible refine (impl_GiniOf.calls k _ _ t449 t470 t471 t472 _ ?side1 ?side2 A15.out).mono ?_); (case side1 => repeat (first | exact (Kd.R_reads' HO451.out).2.2 | (with_reducible refine Kd.C_alloc ?_ _) | (with_reducible refine Kd.C_drewN ?_ _) | (with_reducible refine Kd.C_drew ?_))); (case side2 => exact (Kd.R_reads' HO451.out).2.1); rintro e w25 ⟨rfl, hb⟩; have n0_ := Aside0.mk (Kd.R_below (by (with_reducible repeat (first | apply Kd.R_alloc | apply Kd.R_drewN | apply Kd.R_drew)); exact HO451.out) hb); have n1_ := Aside0.mk (below_step (by repeat (first | (with_reducible first | exact HB.out | apply below_alloc | apply pw_below_drewN | apply below_drew1) | exact HB.out)) hb); clear HO451; clear HB; have HO451 := n0_; have HB := n1_; clear n0_ n1_; (try clear hb); (try clear hb2); (try clear hk); (try clear hi)) | (go_at_call 63; (with_reducible refine (impl_ConcentrationOf.calls k _ _ t449 t473 t474 t475 _ ?side1 ?side2 A16.out).mono ?_); (case side1 => repeat (first | exact (Kd.R_reads' HO451.out).2.2 | (with_reducible refine Kd.C_alloc ?_ _) | (with_reducible refine Kd.C_drewN ?_ _) | (with_reducible refine Kd.C_drew ?_))); (case side2 => exact (Kd.R_reads' HO451.out).2.1); rintro e w' ⟨rfl, ⟨nd, rfl⟩⟩; (try first | exact ⟨rfl, _, World.drewN_drewN _ _ _⟩ | exact ⟨rfl, _, Eq.trans (World.drewN_drewN _ _ _) (congrArg (World.drewN _) (Nat.add_assoc _ _ _))⟩)))
  repeat (go_quiet (first | (go_at_call 10; (with_reducible refine (laws_big.calls _ _ l0 _ _ l1 false _ ?side1 ?side2 ?side3 ?side4 A3.out).mono ?_); (case side1 => repeat (first | exact HR0.out | (with_reducible refine Kd.C_alloc ?_ _) | (with_reducible refine Kd.C_drewN ?_ _) | (with_reducible refine Kd.C_drew ?_))); (case side2 => exact HC0.out); (case side3 => repeat (first | exact HR1.out | (with_reducible refine Kd.C_alloc ?_ _) | (with_reducible refine Kd.C_drewN ?_ _) | (with_reducible refine Kd.C_drew ?_))); (case side4 => exact HC1.out); rintro e w' ⟨rfl, ⟨nd, rfl⟩⟩; (try first | exact ⟨rfl, _, World.drewN_drewN _ _ _⟩ | exact ⟨rfl, _, Eq.trans (World.drewN_drewN _ _ _) (congrArg (World.drewN _) (Nat.add_assoc _ _ _))⟩)) | (go_at_call 52; (with_reducible refine (spec_DrawSpreadOf.calls k _ _ l0 t449 _ ?side1 ?side2 A5.out).mono ?_); (case side1 => repeat (first | exact HR0.out | (with_reducible refine Kd.C_alloc ?_ _) | (with_reducible refine Kd.C_drewN ?_ _) | (with_reducible refine Kd.C_drew ?_))); (case side2 => exact HC0.out); rintro e w18 ⟨v450, rfl, ho0, hb⟩; have n0_ := Aside0.mk (Kd.R_lower ho0 (below_size (by repeat (first | (with_reducible first | exact HB.out | apply below_alloc | apply pw_below_drewN | apply below_drew1) | exact HB.out)))); have n1_ := Aside0.mk (below_step (by repeat (first | (with_reducible first | exact HB.out | apply below_alloc | apply pw_below_drewN | apply below_drew1) | exact HB.out)) hb); clear HB; have HO451 := n0_; have HB := n1_; clear n0_ n1_; (try clear hb); (try clear hb2); (try clear hk); (try clear hi); (try clear ho0); obtain ⟨Ao19, co19, eo19⟩ := Kd.R_slice HO451.out; subst eo19) | (go_at_call 53; (with_reducible refine (impl_SpreadOf.calls k _ _ t449 t452 t453 _ ?side1 ?side2 A6.out).mono ?_); (case side1 => repeat (first | exact (Kd.R_reads' HO451.out).2.2 | (with_reducible refine Kd.C_alloc ?_ _) | (with_reducible refine Kd.C_drewN ?_ _) | (with_reducible refine Kd.C_drew ?_))); (case side2 => exact (Kd.R_reads' HO451.out).2.1); rintro e w' ⟨rfl, ⟨nd, rfl⟩⟩; (try first | exact ⟨rfl, _, World.drewN_drewN _ _ _⟩ | exact ⟨rfl, _, Eq.trans (World.drewN_drewN _ _ _) (congrArg (World.drewN _) (Nat.add_assoc _ _ _))⟩)) | (go_at_call 54; (with_reducible refine (spec_SpreadOf.calls k _ _ t449 t454 t455 _ ?side1 ?side2 A7.out).mono ?_); (case side1 => repeat (first | exact (Kd.R_reads' HO451.out).2.2 | (with_reducible refine Kd.C_alloc ?_ _) | (with_reducible refine Kd.C_drewN ?_ _) | (with_reducible refine Kd.C_drew ?_))); (case side2 => exact (Kd.R_reads' HO451.out).2.1); rintro e w' ⟨rfl, ⟨nd, rfl⟩⟩; (try first | exact ⟨rfl, _, World.drewN_drewN _ _ _⟩ | exact ⟨rfl, _, Eq.trans (World.drewN_drewN _ _ _) (congrArg (World.drewN _) (Nat.add_assoc _ _ _))⟩)) | (go_at_call 55; (with_reducible refine (impl_PairsOf.calls k _ _ t449 t456 t457 _ ?side1 ?side2 A8.out).mono ?_); (case side1 => repeat (first | exact (Kd.R_reads' HO451.out).2.2 | (with_reducible refine Kd.C_alloc ?_ _) | (with_reducible refine Kd.C_drewN ?_ _) | (with_reducible refine Kd.C_drew ?_))); (case side2 => exact (Kd.R_reads' HO451.out).2.1); rintro e w20 ⟨rfl, hb⟩; have n0_ := Aside0.mk (Kd.R_below (by (with_reducible repeat (first | apply Kd.R_alloc | apply Kd.R_drewN | apply Kd.R_drew)); exact HO451.out) hb); have n1_ := Aside0.mk (below_step (by repeat (first | (with_reducible first | exact HB.out | apply below_alloc | apply pw_below_drewN | apply below_drew1) | exact HB.out)) hb); clear HO451; clear HB; have HO451 := n0_; have HB := n1_; clear n0_ n1_; (try clear hb); (try clear hb2); (try clear hk); (try clear hi)) | (go_at_call 56; (with_reducible refine (spec_PairsOf.calls k _ _ t449 t458 t459 _ ?side1 ?side2 A9.out).mono ?_); (case side1 => repeat (first | exact (Kd.R_reads' HO451.out).2.2 | (with_reducible refine Kd.C_alloc ?_ _) | (with_reducible refine Kd.C_drewN ?_ _) | (with_reducible refine Kd.C_drew ?_))); (case side2 => exact (Kd.R_reads' HO451.out).2.1); rintro e w' ⟨rfl, ⟨nd, rfl⟩⟩; (try first | exact ⟨rfl, _, World.drewN_drewN _ _ _⟩ | exact ⟨rfl, _, Eq.trans (World.drewN_drewN _ _ _) (congrArg (World.drewN _) (Nat.add_assoc _ _ _))⟩)) | (go_at_call 57; (with_reducible refine (impl_RangeOf.calls k _ _ t449 t460 t461 _ ?side1 ?side2 A10.out).mono ?_); (case side1 => repeat (first | exact (Kd.R_reads' HO451.out).2.2 | (with_reducible refine Kd.C_alloc ?_ _) | (with_reducible refine Kd.C_drewN ?_ _) | (with_reducible refine Kd.C_drew ?_))); (case side2 => exact (Kd.R_reads' HO451.out).2.1); rintro e w21 ⟨rfl, hb⟩; have n0_ := Aside0.mk (Kd.R_below (by (with_reducible repeat (first | apply Kd.R_alloc | apply Kd.R_drewN | apply Kd.R_drew)); exact HO451.out) hb); have n1_ := Aside0.mk (below_step (by repeat (first | (with_reducible first | exact HB.out | apply below_alloc | apply pw_below_drewN | apply below_drew1) | exact HB.out)) hb); clear HO451; clear HB; have HO451 := n0_; have HB := n1_; clear n0_ n1_; (try clear hb); (try clear hb2); (try clear hk); (try clear hi)) | (go_at_call 58; (with_reducible refine (impl_TwiceMedian.calls k _ _ t449 t462 t463 _ ?side1 ?side2 A11.out).mono ?_); (case side1 => repeat (first | exact (Kd.R_reads' HO451.out).2.2 | (with_reducible refine Kd.C_alloc ?_ _) | (with_reducible refine Kd.C_drewN ?_ _) | (with_reducible refine Kd.C_drew ?_))); (case side2 => exact (Kd.R_reads' HO451.out).2.1); rintro e w22 ⟨rfl, hb⟩; have n0_ := Aside0.mk (Kd.R_below (by (with_reducible repeat (first | apply Kd.R_alloc | apply Kd.R_drewN | apply Kd.R_drew)); exact HO451.out) hb); have n1_ := Aside0.mk (below_step (by repeat (first | (with_reducible first | exact HB.out | apply below_alloc | apply pw_below_drewN | apply below_drew1) | exact HB.out)) hb); clear HO451; clear HB; have HO451 := n0_; have HB := n1_; clear n0_ n1_; (try clear hb); (try clear hb2); (try clear hk); (try clear hi)) | (go_at_call 59; (with_reducible refine (spec_TwiceMedian.calls k _ _ t449 t464 t465 _ ?side1 ?side2 A12.out).mono ?_); (case side1 => repeat (first | exact (Kd.R_reads' HO451.out).2.2 | (with_reducible refine Kd.C_alloc ?_ _) | (with_reducible refine Kd.C_drewN ?_ _) | (with_reducible refine Kd.C_drew ?_))); (case side2 => exact (Kd.R_reads' HO451.out).2.1); rintro e w23 ⟨rfl, hb⟩; have n0_ := Aside0.mk (Kd.R_below (by (with_reducible repeat (first | apply Kd.R_alloc | apply Kd.R_drewN | apply Kd.R_drew)); exact HO451.out) hb); have n1_ := Aside0.mk (below_step (by repeat (first | (with_reducible first | exact HB.out | apply below_alloc | apply pw_below_drewN | apply below_drew1) | exact HB.out)) hb); clear HO451; clear HB; have HO451 := n0_; have HB := n1_; clear n0_ n1_; (try clear hb); (try clear hb2); (try clear hk); (try clear hi)) | (go_at_call 60; (with_reducible refine (impl_ExcessOf.calls k _ _ t449 t466 t467 _ ?side1 ?side2 A13.out).mono ?_); (case side1 => repeat (first | exact (Kd.R_reads' HO451.out).2.2 | (with_reducible refine Kd.C_alloc ?_ _) | (with_reducible refine Kd.C_drewN ?_ _) | (with_reducible refine Kd.C_drew ?_))); (case side2 => exact (Kd.R_reads' HO451.out).2.1); rintro e w24 ⟨rfl, hb⟩; have n0_ := Aside0.mk (Kd.R_below (by (with_reducible repeat (first | apply Kd.R_alloc | apply Kd.R_drewN | apply Kd.R_drew)); exact HO451.out) hb); have n1_ := Aside0.mk (below_step (by repeat (first | (with_reducible first | exact HB.out | apply below_alloc | apply pw_below_drewN | apply below_drew1) | exact HB.out)) hb); clear HO451; clear HB; have HO451 := n0_; have HB := n1_; clear n0_ n1_; (try clear hb); (try clear hb2); (try clear hk); (try clear hi)) | (go_at_call 61; (with_reducible refine (spec_ExcessOf.calls k _ _ t449 t468 t469 _ ?side1 ?side2 A14.out).mono ?_); (case side1 => repeat (first | exact (Kd.R_reads' HO451.out).2.2 | (with_reducible refine Kd.C_alloc ?_ _) | (with_reducible refine Kd.C_drewN ?_ _) | (with_reducible refine Kd.C_drew ?_))); (case side2 => exact (Kd.R_reads' HO451.out).2.1); rintro e w' ⟨rfl, ⟨nd, rfl⟩⟩; (try first | exact ⟨rfl, _, World.drewN_drewN _ _ _⟩ | exact ⟨rfl, _, Eq.trans (World.drewN_drewN _ _ _) (congrArg (World.drewN _) (Nat.add_assoc _ _ _))⟩)) | (go_at_call 62; (with_reducible refine (impl_GiniOf.calls k _ _ t449 t470 t471 t472 _ ?side1 ?side2 A15.out).mono ?_); (case side1 => repeat (first | exact (Kd.R_reads' HO451.out).2.2 | (with_reducible refine Kd.C_alloc ?_ _) | (with_reducible refine Kd.C_drewN ?_ _) | (with_reducible refine Kd.C_drew ?_))); (case side2 => exact (Kd.R_reads' HO451.out).2.1); rintro e w25 ⟨rfl, hb⟩; have n0_ := Aside0.mk (Kd.R_below (by (with_reducible repeat (first | apply Kd.R_alloc | apply Kd.R_drewN | apply Kd.R_drew)); exact HO451.out) hb); have n1_ := Aside0.mk (below_step (by repeat (first | (with_reducible first | exact HB.out | apply below_alloc | apply pw_below_drewN | apply below_drew1) | exact HB.out)) hb); clear HO451; clear HB; have HO451 := n0_; have HB := n1_; clear n0_ n1_; (try clear hb); (try clear hb2); (try clear hk); (try clear hi)) | (go_at_call 63; (with_reducible refine (impl_ConcentrationOf.calls k _ _ t449 t473 t474 t475 _ ?side1 ?side2 A16.out).mono ?_); (case side1 => repeat (first | exact (Kd.R_reads' HO451.out).2.2 | (with_reducible refine Kd.C_alloc ?_ _) | (with_reducible refine Kd.C_drewN ?_ _) | (with_reducible refine Kd.C_drew ?_))); (case side2 => exact (Kd.R_reads' HO451.out).2.1); rintro e w' ⟨rfl, ⟨nd, rfl⟩⟩; (try first | exact ⟨rfl, _, World.drewN_drewN _ _ _⟩ | exact ⟨rfl, _, Eq.trans (World.drewN_drewN _ _ _) (congrArg (World.drewN _) (Nat.add_assoc _ _ _))⟩))); go_upto_region 15 with (first | (go_at_call 10; (with_reducible refine (laws_big.calls _ _ l0 _ _ l1 false _ ?side1 ?side2 ?side3 ?side4 A3.out).mono ?_); (case side1 => repeat (first | exact HR0.out | (with_reducible refine Kd.C_alloc ?_ _) | (with_reducible refine Kd.C_drewN ?_ _) | (with_reducible refine Kd.C_drew ?_))); (case side2 => exact HC0.out); (case side3 => repeat (first | exact HR1.out | (with_reducible refine Kd.C_alloc ?_ _) | (with_reducible refine Kd.C_drewN ?_ _) | (with_reducible refine Kd.C_drew ?_))); (case side4 => exact HC1.out); rintro e w' ⟨rfl, ⟨nd, rfl⟩⟩; (try first | exact ⟨rfl, _, World.drewN_drewN _ _ _⟩ | exact ⟨rfl, _, Eq.trans (World.drewN_drewN _ _ _) (congrArg (World.drewN _) (Nat.add_assoc _ _ _))⟩)) | (go_at_call 52; (with_reducible refine (spec_DrawSpreadOf.calls k _ _ l0 t449 _ ?side1 ?side2 A5.out).mono ?_); (case side1 => repeat (first | exact HR0.out | (with_reducible refine Kd.C_alloc ?_ _) | (with_reducible refine Kd.C_drewN ?_ _) | (with_reducible refine Kd.C_drew ?_))); (case side2 => exact HC0.out); rintro e w18 ⟨v450, rfl, ho0, hb⟩; have n0_ := Aside0.mk (Kd.R_lower ho0 (below_size (by repeat (first | (with_reducible first | exact HB.out | apply below_alloc | apply pw_below_drewN | apply below_drew1) | exact HB.out)))); have n1_ := Aside0.mk (below_step (by repeat (first | (with_reducible first | exact HB.out | apply below_alloc | apply pw_below_drewN | apply below_drew1) | exact HB.out)) hb); clear HB; have HO451 := n0_; have HB := n1_; clear n0_ n1_; (try clear hb); (try clear hb2); (try clear hk); (try clear hi); (try clear ho0); obtain ⟨Ao19, co19, eo19⟩ := Kd.R_slice HO451.out; subst eo19) | (go_at_call 53; (with_reducible refine (impl_SpreadOf.calls k _ _ t449 t452 t453 _ ?side1 ?side2 A6.out).mono ?_); (case side1 => repeat (first | exact (Kd.R_reads' HO451.out).2.2 | (with_reducible refine Kd.C_alloc ?_ _) | (with_reducible refine Kd.C_drewN ?_ _) | (with_reducible refine Kd.C_drew ?_))); (case side2 => exact (Kd.R_reads' HO451.out).2.1); rintro e w' ⟨rfl, ⟨nd, rfl⟩⟩; (try first | exact ⟨rfl, _, World.drewN_drewN _ _ _⟩ | exact ⟨rfl, _, Eq.trans (World.drewN_drewN _ _ _) (congrArg (World.drewN _) (Nat.add_assoc _ _ _))⟩)) | (go_at_call 54; (with_reducible refine (spec_SpreadOf.calls k _ _ t449 t454 t455 _ ?side1 ?side2 A7.out).mono ?_); (case side1 => repeat (first | exact (Kd.R_reads' HO451.out).2.2 | (with_reducible refine Kd.C_alloc ?_ _) | (with_reducible refine Kd.C_drewN ?_ _) | (with_reducible refine Kd.C_drew ?_))); (case side2 => exact (Kd.R_reads' HO451.out).2.1); rintro e w' ⟨rfl, ⟨nd, rfl⟩⟩; (try first | exact ⟨rfl, _, World.drewN_drewN _ _ _⟩ | exact ⟨rfl, _, Eq.trans (World.drewN_drewN _ _ _) (congrArg (World.drewN _) (Nat.add_assoc _ _ _))⟩)) | (go_at_call 55; (with_reducible refine (impl_PairsOf.calls k _ _ t449 t456 t457 _ ?side1 ?side2 A8.out).mono ?_); (case side1 => repeat (first | exact (Kd.R_reads' HO451.out).2.2 | (with_reducible refine Kd.C_alloc ?_ _) | (with_reducible refine Kd.C_drewN ?_ _) | (with_reducible refine Kd.C_drew ?_))); (case side2 => exact (Kd.R_reads' HO451.out).2.1); rintro e w20 ⟨rfl, hb⟩; have n0_ := Aside0.mk (Kd.R_below (by (with_reducible repeat (first | apply Kd.R_alloc | apply Kd.R_drewN | apply Kd.R_drew)); exact HO451.out) hb); have n1_ := Aside0.mk (below_step (by repeat (first | (with_reducible first | exact HB.out | apply below_alloc | apply pw_below_drewN | apply below_drew1) | exact HB.out)) hb); clear HO451; clear HB; have HO451 := n0_; have HB := n1_; clear n0_ n1_; (try clear hb); (try clear hb2); (try clear hk); (try clear hi)) | (go_at_call 56; (with_reducible refine (spec_PairsOf.calls k _ _ t449 t458 t459 _ ?side1 ?side2 A9.out).mono ?_); (case side1 => repeat (first | exact (Kd.R_reads' HO451.out).2.2 | (with_reducible refine Kd.C_alloc ?_ _) | (with_reducible refine Kd.C_drewN ?_ _) | (with_reducible refine Kd.C_drew ?_))); (case side2 => exact (Kd.R_reads' HO451.out).2.1); rintro e w' ⟨rfl, ⟨nd, rfl⟩⟩; (try first | exact ⟨rfl, _, World.drewN_drewN _ _ _⟩ | exact ⟨rfl, _, Eq.trans (World.drewN_drewN _ _ _) (congrArg (World.drewN _) (Nat.add_assoc _ _ _))⟩)) | (go_at_call 57; (with_reducible refine (impl_RangeOf.calls k _ _ t449 t460 t461 _ ?side1 ?side2 A10.out).mono ?_); (case side1 => repeat (first | exact (Kd.R_reads' HO451.out).2.2 | (with_reducible refine Kd.C_alloc ?_ _) | (with_reducible refine Kd.C_drewN ?_ _) | (with_reducible refine Kd.C_drew ?_))); (case side2 => exact (Kd.R_reads' HO451.out).2.1); rintro e w21 ⟨rfl, hb⟩; have n0_ := Aside0.mk (Kd.R_below (by (with_reducible repeat (first | apply Kd.R_alloc | apply Kd.R_drewN | apply Kd.R_drew)); exact HO451.out) hb); have n1_ := Aside0.mk (below_step (by repeat (first | (with_reducible first | exact HB.out | apply below_alloc | apply pw_below_drewN | apply below_drew1) | exact HB.out)) hb); clear HO451; clear HB; have HO451 := n0_; have HB := n1_; clear n0_ n1_; (try clear hb); (try clear hb2); (try clear hk); (try clear hi)) | (go_at_call 58; (with_reducible refine (impl_TwiceMedian.calls k _ _ t449 t462 t463 _ ?side1 ?side2 A11.out).mono ?_); (case side1 => repeat (first | exact (Kd.R_reads' HO451.out).2.2 | (with_reducible refine Kd.C_alloc ?_ _) | (with_reducible refine Kd.C_drewN ?_ _) | (with_reducible refine Kd.C_drew ?_))); (case side2 => exact (Kd.R_reads' HO451.out).2.1); rintro e w22 ⟨rfl, hb⟩; have n0_ := Aside0.mk (Kd.R_below (by (with_reducible repeat (first | apply Kd.R_alloc | apply Kd.R_drewN | apply Kd.R_drew)); exact HO451.out) hb); have n1_ := Aside0.mk (below_step (by repeat (first | (with_reducible first | exact HB.out | apply below_alloc | apply pw_below_drewN | apply below_drew1) | exact HB.out)) hb); clear HO451; clear HB; have HO451 := n0_; have HB := n1_; clear n0_ n1_; (try clear hb); (try clear hb2); (try clear hk); (try clear hi)) | (go_at_call 59; (with_reducible refine (spec_TwiceMedian.calls k _ _ t449 t464 t465 _ ?side1 ?side2 A12.out).mono ?_); (case side1 => repeat (first | exact (Kd.R_reads' HO451.out).2.2 | (with_reducible refine Kd.C_alloc ?_ _) | (with_reducible refine Kd.C_drewN ?_ _) | (with_reducible refine Kd.C_drew ?_))); (case side2 => exact (Kd.R_reads' HO451.out).2.1); rintro e w23 ⟨rfl, hb⟩; have n0_ := Aside0.mk (Kd.R_below (by (with_reducible repeat (first | apply Kd.R_alloc | apply Kd.R_drewN | apply Kd.R_drew)); exact HO451.out) hb); have n1_ := Aside0.mk (below_step (by repeat (first | (with_reducible first | exact HB.out | apply below_alloc | apply pw_below_drewN | apply below_drew1) | exact HB.out)) hb); clear HO451; clear HB; have HO451 := n0_; have HB := n1_; clear n0_ n1_; (try clear hb); (try clear hb2); (try clear hk); (try clear hi)) | (go_at_call 60; (with_reducible refine (impl_ExcessOf.calls k _ _ t449 t466 t467 _ ?side1 ?side2 A13.out).mono ?_); (case side1 => repeat (first | exact (Kd.R_reads' HO451.out).2.2 | (with_reducible refine Kd.C_alloc ?_ _) | (with_reducible refine Kd.C_drewN ?_ _) | (with_reducible refine Kd.C_drew ?_))); (case side2 => exact (Kd.R_reads' HO451.out).2.1); rintro e w24 ⟨rfl, hb⟩; have n0_ := Aside0.mk (Kd.R_below (by (with_reducible repeat (first | apply Kd.R_alloc | apply Kd.R_drewN | apply Kd.R_drew)); exact HO451.out) hb); have n1_ := Aside0.mk (below_step (by repeat (first | (with_reducible first | exact HB.out | apply below_alloc | apply pw_below_drewN | apply below_drew1) | exact HB.out)) hb); clear HO451; clear HB; have HO451 := n0_; have HB := n1_; clear n0_ n1_; (try clear hb); (try clear hb2); (try clear hk); (try clear hi)) | (go_at_call 61; (with_reducible refine (spec_ExcessOf.calls k _ _ t449 t468 t469 _ ?side1 ?side2 A14.out).mono ?_); (case side1 => repeat (first | exact (Kd.R_reads' HO451.out).2.2 | (with_reducible refine Kd.C_alloc ?_ _) | (with_reducible refine Kd.C_drewN ?_ _) | (with_reducible refine Kd.C_drew ?_))); (case side2 => exact (Kd.R_reads' HO451.out).2.1); rintro e w' ⟨rfl, ⟨nd, rfl⟩⟩; (try first | exact ⟨rfl, _, World.drewN_drewN _ _ _⟩ | exact ⟨rfl, _, Eq.trans (World.drewN_drewN _ _ _) (congrArg (World.drewN _) (Nat.add_assoc _ _ _))⟩)) | (go_at_call 62; (with_reducible refine (impl_GiniOf.calls k _ _ t449 t470 t471 t472 _ ?side1 ?side2 A15.out).mono ?_); (case side1 => repeat (first | exact (Kd.R_reads' HO451.out).2.2 | (with_reducible refine Kd.C_alloc ?_ _) | (with_reducible refine Kd.C_drewN ?_ _) | (with_reducible refine Kd.C_drew ?_))); (case side2 => exact (Kd.R_reads' HO451.out).2.1); rintro e w25 ⟨rfl, hb⟩; have n0_ := Aside0.mk (Kd.R_below (by (with_reducible repeat (first | apply Kd.R_alloc | apply Kd.R_drewN | apply Kd.R_drew)); exact HO451.out) hb); have n1_ := Aside0.mk (below_step (by repeat (first | (with_reducible first | exact HB.out | apply below_alloc | apply pw_below_drewN | apply below_drew1) | exact HB.out)) hb); clear HO451; clear HB; have HO451 := n0_; have HB := n1_; clear n0_ n1_; (try clear hb); (try clear hb2); (try clear hk); (try clear hi)) | (go_at_call 63; (with_reducible refine (impl_ConcentrationOf.calls k _ _ t449 t473 t474 t475 _ ?side1 ?side2 A16.out).mono ?_); (case side1 => repeat (first | exact (Kd.R_reads' HO451.out).2.2 | (with_reducible refine Kd.C_alloc ?_ _) | (with_reducible refine Kd.C_drewN ?_ _) | (with_reducible refine Kd.C_drew ?_))); (case side2 => exact (Kd.R_reads' HO451.out).2.1); rintro e w' ⟨rfl, ⟨nd, rfl⟩⟩; (try first | exact ⟨rfl, _, World.drewN_drewN _ _ _⟩ | exact ⟨rfl, _, Eq.trans (World.drewN_drewN _ _ _) (congrArg (World.drewN _) (Nat.add_assoc _ _ _))⟩))))
  (try simp only [Act.put, List.setIfInBounds_toArray, List.set_cons_zero, List.set_cons_succ])
  go_cut [176] (fun v176 wc => ∃ (kq : Nat) (x176_16 : Bool), v176 = .bool x176_16 ∧ Aside0 (laws_FnMeasures.j0 kq l1 t449 t452 t453 t456 t460 t466 t470 t471 t472 t473 t474 t475 x176_16 = some r) ∧ Aside0 (kq ≤ k) ∧ Aside0 (Kd.R (Kd.int .i64) 3 wc w.heap.size (fun _ => True) (.slice Ao19 t449.length co19) t449) ∧ Aside0 (Below w.heap.size w wc))
  case first => as_aux_lemma =>
   have H := HC17.out
   clear HC17
   by_cases c26 : (t453 != t455) = true
   ·rw [if_pos c26] at H
    cases H
   ·rw [if_neg c26] at H
    have c26b0 : (t453 != t455) = false := by simpa using c26
    (try (have c26b1 : decide (t453 = t455) = true := by simpa using c26))
    (try (have c26b2 : (t453 == t455) = true := by simpa using c26))
    clear c26
    (first | rw [c26b0] | (simp only [i64_w, i32_w]; rw [c26b0]) | skip)
    by_cases c27 : t452 = t454
    ·rw [if_pos c27] at H
     have c27b0 : (t452 == t454) = true := beq_iff_eq.mpr c27
     have c27b1 : (t452 != t454) = false := bne_eq_false_iff_eq.mpr c27
     clear c27
     by_cases c28 : (t457 != t459) = true
     ·rw [if_pos c28] at H
      cases H
     ·rw [if_neg c28] at H
      have c28b0 : (t457 != t459) = false := by simpa using c28
      (try (have c28b1 : decide (t457 = t459) = true := by simpa using c28))
      (try (have c28b2 : (t457 == t459) = true := by simpa using c28))
      clear c28
      by_cases c29 : t456 = t458
      ·rw [if_pos c29] at H
       have c29b0 : (t456 == t458) = true := beq_iff_eq.mpr c29
       have c29b1 : (t456 != t458) = false := bne_eq_false_iff_eq.mpr c29
       clear c29
       by_cases c30 : (t463 != t465) = true
       ·rw [if_pos c30] at H
        cases H
       ·rw [if_neg c30] at H
        have c30b0 : (t463 != t465) = false := by simpa using c30
        (try (have c30b1 : decide (t463 = t465) = true := by simpa using c30))
        (try (have c30b2 : (t463 == t465) = true := by simpa using c30))
        clear c30
        by_cases c31 : t462 = t464
        ·rw [if_pos c31] at H
         have c31b0 : (t462 == t464) = true := beq_iff_eq.mpr c31
         have c31b1 : (t462 != t464) = false := bne_eq_false_iff_eq.mpr c31
         clear c31
         by_cases c32 : (t467 != t469) = true
         ·rw [if_pos c32] at H
          cases H
         ·rw [if_neg c32] at H
          have c32b0 : (t467 != t469) = false := by simpa using c32
          (try (have c32b1 : decide (t467 = t469) = true := by simpa using c32))
          (try (have c32b2 : (t467 == t469) = true := by simpa using c32))
          clear c32
          by_cases c33 : t466 = t468
          ·rw [if_pos c33] at H
           have c33b0 : (t466 == t468) = true := beq_iff_eq.mpr c33
           have c33b1 : (t466 != t468) = false := bne_eq_false_iff_eq.mpr c33
           clear c33
           by_cases c34 : (t453 != t457) = true
           ·rw [if_pos c34] at H
            cases H
           ·rw [if_neg c34] at H
            have c34b0 : (t453 != t457) = false := by simpa using c34
            (try (have c34b1 : decide (t453 = t457) = true := by simpa using c34))
            (try (have c34b2 : (t453 == t457) = true := by simpa using c34))
            clear c34
            by_cases c35 : (t453 != t461) = true
            ·rw [if_pos c35] at H
             cases H
            ·rw [if_neg c35] at H
             have c35b0 : (t453 != t461) = false := by simpa using c35
             (try (have c35b1 : decide (t453 = t461) = true := by simpa using c35))
             (try (have c35b2 : (t453 == t461) = true := by simpa using c35))
             clear c35
             by_cases c36 : (t453 != t463) = true
             ·rw [if_pos c36] at H
              cases H
             ·rw [if_neg c36] at H
              have c36b0 : (t453 != t463) = false := by simpa using c36
              (try (have c36b1 : decide (t453 = t463) = true := by simpa using c36))
              (try (have c36b2 : (t453 == t463) = true := by simpa using c36))
              clear c36
              by_cases c37 : (t453 != t467) = true
              ·rw [if_pos c37] at H
               cases H
              ·rw [if_neg c37] at H
               have c37b0 : (t453 != t467) = false := by simpa using c37
               (try (have c37b1 : decide (t453 = t467) = true := by simpa using c37))
               (try (have c37b2 : (t453 == t467) = true := by simpa using c37))
               clear c37
               replace H := Option.bind_eq_some_iff.mp H
               obtain ⟨t476, A380, H⟩ := H
               replace H : (laws_FnMeasures.j0 k l1 t449 t452 t453 t456 t460 t466 t470 t471 t472 t473 t474 t475 (t453 != t476)) = some r := H
               have A38 := Aside0.mk A380
               clear A380
               have H' := Aside0.mk H
               clear H
               go_wp2_with (first | (go_at_call 44; (with_reducible refine (impl_IsList.calls k _ _ t449 t476 _ ?side1 ?side2 A38.out).mono ?_); (case side1 => repeat (first | exact (Kd.R_reads' HO451.out).2.2 | (with_reducible refine Kd.C_alloc ?_ _) | (with_reducible refine Kd.C_drewN ?_ _) | (with_reducible refine Kd.C_drew ?_))); (case side2 => exact (Kd.R_reads' HO451.out).2.1); rintro e w' ⟨rfl, ⟨nd, rfl⟩⟩; (try first | exact ⟨rfl, _, World.drewN_drewN _ _ _⟩ | exact ⟨rfl, _, Eq.trans (World.drewN_drewN _ _ _) (congrArg (World.drewN _) (Nat.add_assoc _ _ _))⟩)))
               repeat (go_quiet (first | (go_at_call 44; (with_reducible refine (impl_IsList.calls k _ _ t449 t476 _ ?side1 ?side2 A38.out).mono ?_); (case side1 => repeat (first | exact (Kd.R_reads' HO451.out).2.2 | (with_reducible refine Kd.C_alloc ?_ _) | (with_reducible refine Kd.C_drewN ?_ _) | (with_reducible refine Kd.C_drew ?_))); (case side2 => exact (Kd.R_reads' HO451.out).2.1); rintro e w' ⟨rfl, ⟨nd, rfl⟩⟩; (try first | exact ⟨rfl, _, World.drewN_drewN _ _ _⟩ | exact ⟨rfl, _, Eq.trans (World.drewN_drewN _ _ _) (congrArg (World.drewN _) (Nat.add_assoc _ _ _))⟩))); try go_wp2_with (first | (go_at_call 44; (with_reducible refine (impl_IsList.calls k _ _ t449 t476 _ ?side1 ?side2 A38.out).mono ?_); (case side1 => repeat (first | exact (Kd.R_reads' HO451.out).2.2 | (with_reducible refine Kd.C_alloc ?_ _) | (with_reducible refine Kd.C_drewN ?_ _) | (with_reducible refine Kd.C_drew ?_))); (case side2 => exact (Kd.R_reads' HO451.out).2.1); rintro e w' ⟨rfl, ⟨nd, rfl⟩⟩; (try first | exact ⟨rfl, _, World.drewN_drewN _ _ _⟩ | exact ⟨rfl, _, Eq.trans (World.drewN_drewN _ _ _) (congrArg (World.drewN _) (Nat.add_assoc _ _ _))⟩))))
               go_meet
               case rel => exact ⟨_, ((t453 != t476)), (by first | rfl | (simp; done) | (simp [*]; done)), H', ⟨by first | omega | exact Nat.le_refl _⟩, ⟨by (with_reducible repeat (first | apply Kd.R_alloc | apply Kd.R_drewN | apply Kd.R_drew)); exact HO451.out⟩, ⟨by repeat (first | (with_reducible first | exact HB.out | apply below_alloc | apply pw_below_drewN | apply below_drew1) | exact HB.out)⟩⟩
          ·rw [if_neg c33] at H
           cases H
        ·rw [if_neg c31] at H
         cases H
      ·rw [if_neg c29] at H
       cases H
    ·rw [if_neg c27] at H
     cases H
  case rest => as_aux_lemma =>
   clear HC17
   try clear c1
   try clear c2
   try clear p2
   try clear c3
   try clear c4
   try clear c8
   try clear c26
   try clear c26b0
   try clear c26b1
   try clear c26b2
   try clear c27
   try clear c27b0
   try clear c27b1
   try clear c28
   try clear c28b0
   try clear c28b1
   try clear c28b2
   try clear c29
   try clear c29b0
   try clear c29b1
   try clear c30
   try clear c30b0
   try clear c30b1
   try clear c30b2
   try clear c31
   try clear c31b0
   try clear c31b1
   try clear c32
   try clear c32b0
   try clear c32b1
   try clear c32b2
   try clear c33
   try clear c33b0
   try clear c33b1
   try clear c34
   try clear c34b0
   try clear c34b1
   try clear c34b2
   try clear c35
   try clear c35b0
   try clear c35b1
   try clear c35b2
   try clear c36
   try clear c36b0
   try clear c36b1
   try clear c36b2
   try clear c37
   try clear c37b0
   try clear c37b1
   try clear c37b2
   obtain ⟨kq, x176_16, rfl, HA, HJ16, HO_5, HB⟩ := hcut
   cases kq with
   | zero => exact absurd HA.out (by simp [laws_FnMeasures.j0])
   | succ kj16 =>
    have H := HA.out
    clear HA
    simp only [laws_FnMeasures.j0] at H
    by_cases c39 : x176_16 = true
    ·subst c39
     rw [if_pos rfl] at H
     cases H
    ·replace c39 := Bool.eq_false_iff.mpr c39
     subst c39
     have H1 : (if t453 = true then ((impl_RankingOf.f kj16 t449).bind fun bt477 => (laws_FnMeasures.l0 kj16 l1 t452 t456 t460 t466 t470 t471 t472 t473 t474 t475 bt477.1 bt477.2 (bt477.1.length : Int) 0 0 0 0 bt477.1 (bt477.1.length : Int) 0)) else (laws_FnMeasures.j3 kj16 l1)) = some r := by rw [if_neg (show ¬ (false = true) by decide)] at H; exact H
     clear H
     have H := H1
     clear H1
     have HC40 := Aside0.mk H
     clear H
     go_upto_if 177 with (fail)
     repeat (go_quiet (fail); go_upto_if 177 with (fail))
     go_cut [] (fun wc => ∃ (kq : Nat), Aside0 (laws_FnMeasures.j3 kq l1 = some r) ∧ Aside0 (kq ≤ kj16) ∧ Aside0 (Below w.heap.size w wc))
     case first => as_aux_lemma =>
      have H := HC40.out
      clear HC40
      by_cases c41 : t453 = true
      ·subst c41
       have H1 : ((impl_RankingOf.f kj16 t449).bind fun bt477 => (laws_FnMeasures.l0 kj16 l1 t452 t456 t460 t466 t470 t471 t472 t473 t474 t475 bt477.1 bt477.2 (bt477.1.length : Int) 0 0 0 0 bt477.1 (bt477.1.length : Int) 0)) = some r := by rw [if_pos rfl] at H; exact H
       clear H
       have H := H1
       clear H1
       replace H := Option.bind_eq_some_iff.mp H
       obtain ⟨⟨t477, t478⟩, A420, H⟩ := H
       replace H : (laws_FnMeasures.l0 kj16 l1 t452 t456 t460 t466 t470 t471 t472 t473 t474 t475 t477 t478 (t477.length : Int) 0 0 0 0 t477 (t477.length : Int) 0) = some r := H
       have A42 := Aside0.mk A420
       clear A420
       have H' := Aside0.mk H
       clear H
       go_wp2_with (first | (go_at_call 64; (with_reducible refine (impl_RankingOf.calls kj16 _ _ t449 t477 t478 _ ?side1 ?side2 A42.out).mono ?_); (case side1 => repeat (first | exact (Kd.R_reads' HO_5.out).2.2 | (with_reducible refine Kd.C_alloc ?_ _) | (with_reducible refine Kd.C_drewN ?_ _) | (with_reducible refine Kd.C_drew ?_))); (case side2 => exact (Kd.R_reads' HO_5.out).2.1); rintro e w43 ⟨v479, rfl, ho0, hb⟩; have n0_ := Aside0.mk (Kd.R_elder' (by (with_reducible repeat (first | apply Kd.R_alloc | apply Kd.R_drewN | apply Kd.R_drew)); exact HO_5.out) (Kd.R_base ho0) hb); have n1_ := Aside0.mk (Kd.R_lower (Kd.R_new' ho0 (Kd.R_lt (by (with_reducible repeat (first | apply Kd.R_alloc | apply Kd.R_drewN | apply Kd.R_drew)); exact HO_5.out))) (below_size (by repeat (first | (with_reducible first | exact HB.out | apply below_alloc | apply pw_below_drewN | apply below_drew1) | exact HB.out)))); have n2_ := Aside0.mk (below_step (by repeat (first | (with_reducible first | exact HB.out | apply below_alloc | apply pw_below_drewN | apply below_drew1) | exact HB.out)) hb); clear HO_5; clear HB; have HO_5 := n0_; have HO480 := n1_; have HB := n2_; clear n0_ n1_ n2_; (try clear hb); (try clear hb2); (try clear hk); (try clear hi); (try clear ho0); obtain ⟨Ao44, co44, eo44⟩ := Kd.R_slice HO480.out; subst eo44))
       repeat (go_quiet (first | (go_at_call 64; (with_reducible refine (impl_RankingOf.calls kj16 _ _ t449 t477 t478 _ ?side1 ?side2 A42.out).mono ?_); (case side1 => repeat (first | exact (Kd.R_reads' HO_5.out).2.2 | (with_reducible refine Kd.C_alloc ?_ _) | (with_reducible refine Kd.C_drewN ?_ _) | (with_reducible refine Kd.C_drew ?_))); (case side2 => exact (Kd.R_reads' HO_5.out).2.1); rintro e w43 ⟨v479, rfl, ho0, hb⟩; have n0_ := Aside0.mk (Kd.R_elder' (by (with_reducible repeat (first | apply Kd.R_alloc | apply Kd.R_drewN | apply Kd.R_drew)); exact HO_5.out) (Kd.R_base ho0) hb); have n1_ := Aside0.mk (Kd.R_lower (Kd.R_new' ho0 (Kd.R_lt (by (with_reducible repeat (first | apply Kd.R_alloc | apply Kd.R_drewN | apply Kd.R_drew)); exact HO_5.out))) (below_size (by repeat (first | (with_reducible first | exact HB.out | apply below_alloc | apply pw_below_drewN | apply below_drew1) | exact HB.out)))); have n2_ := Aside0.mk (below_step (by repeat (first | (with_reducible first | exact HB.out | apply below_alloc | apply pw_below_drewN | apply below_drew1) | exact HB.out)) hb); clear HO_5; clear HB; have HO_5 := n0_; have HO480 := n1_; have HB := n2_; clear n0_ n1_ n2_; (try clear hb); (try clear hb2); (try clear hk); (try clear hi); (try clear ho0); obtain ⟨Ao44, co44, eo44⟩ := Kd.R_slice HO480.out; subst eo44)); try go_wp2_with (first | (go_at_call 64; (with_reducible refine (impl_RankingOf.calls kj16 _ _ t449 t477 t478 _ ?side1 ?side2 A42.out).mono ?_); (case side1 => repeat (first | exact (Kd.R_reads' HO_5.out).2.2 | (with_reducible refine Kd.C_alloc ?_ _) | (with_reducible refine Kd.C_drewN ?_ _) | (with_reducible refine Kd.C_drew ?_))); (case side2 => exact (Kd.R_reads' HO_5.out).2.1); rintro e w43 ⟨v479, rfl, ho0, hb⟩; have n0_ := Aside0.mk (Kd.R_elder' (by (with_reducible repeat (first | apply Kd.R_alloc | apply Kd.R_drewN | apply Kd.R_drew)); exact HO_5.out) (Kd.R_base ho0) hb); have n1_ := Aside0.mk (Kd.R_lower (Kd.R_new' ho0 (Kd.R_lt (by (with_reducible repeat (first | apply Kd.R_alloc | apply Kd.R_drewN | apply Kd.R_drew)); exact HO_5.out))) (below_size (by repeat (first | (with_reducible first | exact HB.out | apply below_alloc | apply pw_below_drewN | apply below_drew1) | exact HB.out)))); have n2_ := Aside0.mk (below_step (by repeat (first | (with_reducible first | exact HB.out | apply below_alloc | apply pw_below_drewN | apply below_drew1) | exact HB.out)) hb); clear HO_5; clear HB; have HO_5 := n0_; have HO480 := n1_; have HB := n2_; clear n0_ n1_ n2_; (try clear hb); (try clear hb2); (try clear hk); (try clear hi); (try clear ho0); obtain ⟨Ao44, co44, eo44⟩ := Kd.R_slice HO480.out; subst eo44)))
       go_loopg [33, 34, 35, 36, 187] kj16 (fun kq v33 v34 v35 v36 v187 w' => ∃ (x33_2 : Int) (x34_2 : Int) (x35_2 : Int) (x36_2 : Int) (x187_2 : Int), v33 = .int .i64 x33_2 ∧ v34 = .int .i64 x34_2 ∧ v35 = .int .i64 x35_2 ∧ v36 = .int .i64 x36_2 ∧ v187 = .int .i64 x187_2 ∧ Aside0 (laws_FnMeasures.l0 kq l1 t452 t456 t460 t466 t470 t471 t472 t473 t474 t475 t477 t478 (t477.length : Int) x33_2 x34_2 x35_2 x36_2 t477 (t477.length : Int) x187_2 = some r) ∧ Aside0 (kq ≤ kj16) ∧ Aside0 (Kd.R (Kd.int .i64) 3 w' w.heap.size (fun _ => True) (.slice Ao44 t477.length co44) t477) ∧ Aside0 (Kd.R (Kd.int .i64) 3 w' w.heap.size (fun _ => True) (.slice Ao44 t477.length co44) t477) ∧ Aside0 (Below w.heap.size w w'))
       case atStart => exact ⟨(0), (0), (0), (0), (0), (by first | rfl | (simp; done) | (simp [*]; done)), (by first | rfl | (simp; done) | (simp [*]; done)), (by first | rfl | (simp; done) | (simp [*]; done)), (by first | rfl | (simp; done) | (simp [*]; done)), (by first | rfl | (simp; done) | (simp [*]; done)), H', ⟨Nat.le_refl _⟩, ⟨by (with_reducible repeat (first | apply Kd.R_alloc | apply Kd.R_drewN | apply Kd.R_drew)); exact Kd.R_mono HO480.out (fun _ hk => trivial)⟩, ⟨by (with_reducible repeat (first | apply Kd.R_alloc | apply Kd.R_drewN | apply Kd.R_drew)); exact Kd.R_mono HO480.out (fun _ hk => trivial)⟩, ⟨by repeat (first | (with_reducible first | exact HB.out | apply below_alloc | apply pw_below_drewN | apply below_drew1) | exact HB.out)⟩⟩
       case round =>
        clear H'
        try clear c1
        try clear c2
        try clear p2
        try clear c3
        try clear c4
        try clear c8
        try clear c26
        try clear c26b0
        try clear c26b1
        try clear c26b2
        try clear c27
        try clear c27b0
        try clear c27b1
        try clear c28
        try clear c28b0
        try clear c28b1
        try clear c28b2
        try clear c29
        try clear c29b0
        try clear c29b1
        try clear c30
        try clear c30b0
        try clear c30b1
        try clear c30b2
        try clear c31
        try clear c31b0
        try clear c31b1
        try clear c32
        try clear c32b0
        try clear c32b1
        try clear c32b2
        try clear c33
        try clear c33b0
        try clear c33b1
        try clear c34
        try clear c34b0
        try clear c34b1
        try clear c34b2
        try clear c35
        try clear c35b0
        try clear c35b1
        try clear c35b2
        try clear c36
        try clear c36b0
        try clear c36b1
        try clear c36b2
        try clear c37
        try clear c37b0
        try clear c37b1
        try clear c37b2
        try clear c39
        try clear c41
        try clear p2
        obtain ⟨x33_2, x34_2, x35_2, x36_2, x187_2, rfl, rfl, rfl, rfl, rfl, HA, HK2, HO_30, HO_185, HB⟩ := hrel
        cases gk with
        | zero => exact absurd HA.out (by simp [laws_FnMeasures.l0])
        | succ k2 =>
         have H := HA.out
         clear HA
         simp only [laws_FnMeasures.l0] at H
         by_cases c45 : x187_2 < (t477.length : Int)
         ·rw [if_pos c45] at H
          have c45b0 : decide (x187_2 < (t477.length : Int)) = true := decide_eq_true c45
          clear c45
          (first | rw [c45b0] | (simp only [i64_w, i32_w]; rw [c45b0]) | skip)
          by_cases c46 : 0 ≤ x187_2
          ·rw [if_pos c46] at H
           have c46b0 : decide (0 ≤ x187_2) = true := decide_eq_true c46
           clear c46
           by_cases c47 : x187_2 < (t477.length : Int)
           ·rw [if_pos c47] at H
            have c47b0 : decide (x187_2 < (t477.length : Int)) = true := decide_eq_true c47
            clear c47
            have c48b0 := eq_true (of_decide_eq_true (by first | (with_reducible assumption) | assumption) : 0 ≤ x187_2)
            by_cases c49 : x187_2 ≤ (t477.length : Int)
            ·rw [if_pos c49] at H
             have c49b0 := eq_true c49
             have c49b1 : decide (x187_2 ≤ (t477.length : Int)) = true := decide_eq_true c49
             clear c49
             obtain ⟨y484, hy484⟩ : ∃ y_ : List Int, y_ = (t477.take (x187_2 : Int).toNat) := ⟨_, rfl⟩
             replace H : (laws_FnMeasures.l1 k2 l1 t452 t456 t460 t466 t470 t471 t472 t473 t474 t475 t477 t478 (t477.length : Int) (wrap64 (x33_2 + (rd t477 x187_2))) (wrap64 (x34_2 + (wrap64 ((rd t477 x187_2) * (rd t477 x187_2))))) (wrap64 (x35_2 + (wrap64 ((wrap64 ((wrap64 ((t477.length : Int) - 1)) - (wrap64 (2 * x187_2)))) * (rd t477 x187_2))))) x36_2 (rd t477 x187_2) t477 (t477.length : Int) x187_2 y484 (y484.length : Int) 0) = some r := by first | (rw [hy484]; with_reducible exact H) | (have H2_ := (Option.bind_some _ _).symm.trans H; rw [hy484]; with_reducible exact H2_) | (have H2_ := (Option.bind_some _ _).symm.trans H; with_reducible exact H2_) | with_reducible exact H | (rw [hy484]; exact H) | exact H
             have Ny484 := Aside0.mk hy484
             clear hy484
             have H' := Aside0.mk H
             clear H
             have p483 : 0 ≤ (x187_2 : Int) := of_decide_eq_true (by first | (with_reducible assumption) | assumption)
             have q483 : x187_2 < (t477.length : Int) := of_decide_eq_true (by first | (with_reducible assumption) | assumption)
             obtain ⟨ad483, e483, hx483_0⟩ := Kd.at_int (Kd.R_reads' HO_185.out).2.2 x187_2 p483 q483
             cases e483
             replace p483 := eq_true p483
             replace q483 := eq_true q483
             have q50 : (x187_2 : Int) ≤ ((t477.length : Int) : Int) := of_decide_eq_true (by first | (with_reducible assumption) | assumption)
             obtain ⟨i050, hi050, _, hsz50, _⟩ := info_parts info3
             have hroom50 : t477.length ≤ co44 := (Kd.R_reads' HO_30.out).2.1
             have hC50 : Kd.C (Kd.int .i64) _ (some ad483) t477.length t477 := (Kd.R_reads' HO_30.out).2.2
             have hcut50 := cut_to (P := Try.prog) 24 3 .i64 Try.underlying24 hi050 (some ad483) t477.length co44 x187_2 (of_decide_eq_true (by first | (with_reducible assumption) | assumption)) q50 hroom50
             have hr50 := Kd.C_take (m := (x187_2 : Int).toNat) hC50 (by omega)
             have hy50 : y484.length = (x187_2 : Int).toNat := (by rw [Ny484.out, List.length_take]; omega)
             rw [← Ny484.out] at hr50
             rw [← hy50] at hcut50
             have HR487 := Aside0.mk hr50
             have HC487 := Aside0.mk (show y484.length ≤ co44 from by omega)
             clear hr50 hC50 hroom50 hi050 hsz50
             have KY50 := Aside0.mk hy50
             clear hy50
             have KL50 := Aside0.mk (show (x187_2 : Int).toNat ≤ t477.length from by omega)
             replace q50 := eq_true q50
             go_wp2
             repeat (go_quiet (fail); try go_wp2)
             go_loopg [36, 213] k2 (fun kq v36 v213 w' => ∃ (x36_3 : Int) (x213_3 : Int), v36 = .int .i64 x36_3 ∧ v213 = .int .i64 x213_3 ∧ Aside0 (laws_FnMeasures.l1 kq l1 t452 t456 t460 t466 t470 t471 t472 t473 t474 t475 t477 t478 (t477.length : Int) (wrap64 (x33_2 + (rd t477 x187_2))) (wrap64 (x34_2 + (wrap64 ((rd t477 x187_2) * (rd t477 x187_2))))) (wrap64 (x35_2 + (wrap64 ((wrap64 ((wrap64 ((t477.length : Int) - 1)) - (wrap64 (2 * x187_2)))) * (rd t477 x187_2))))) x36_3 (rd t477 x187_2) t477 (t477.length : Int) x187_2 y484 (y484.length : Int) x213_3 = some r) ∧ Aside0 (kq ≤ k2) ∧ Aside0 (Kd.R (Kd.int .i64) 3 w' w.heap.size (fun _ => True) (.slice (some ad483) t477.length co44) t477) ∧ Aside0 (Kd.R (Kd.int .i64) 3 w' w.heap.size (fun _ => True) (.slice (some ad483) t477.length co44) t477) ∧ Aside0 (Kd.C (Kd.int .i64) w' (some ad483) y484.length y484) ∧ Aside0 (Below w.heap.size w w'))
             case atStart => exact ⟨(x36_2), (0), (by first | rfl | (simp; done) | (simp [*]; done)), (by first | rfl | (simp; done) | (simp [*]; done)), H', ⟨Nat.le_refl _⟩, ⟨by (with_reducible repeat (first | apply Kd.R_alloc | apply Kd.R_drewN | apply Kd.R_drew)); exact HO_30.out⟩, ⟨by (with_reducible repeat (first | apply Kd.R_alloc | apply Kd.R_drewN | apply Kd.R_drew)); exact HO_185.out⟩, ⟨by repeat (first | (with_reducible exact HR487.out) | (with_reducible refine Kd.C_alloc ?_ _) | (with_reducible refine Kd.C_drewN ?_ _) | (with_reducible refine Kd.C_drew ?_) | exact HR487.out)⟩, ⟨by repeat (first | (with_reducible first | exact HB.out | apply below_alloc | apply pw_below_drewN | apply below_drew1) | exact HB.out)⟩⟩
             case round =>
              clear H'
              try clear c1
              try clear c2
              try clear p2
              try clear c3
              try clear c4
              try clear p4
              try clear q4
              try clear hx4
              try clear q5
              try clear p6
              try clear c8
              try clear c26
              try clear c26b0
              try clear c26b1
              try clear c26b2
              try clear c27
              try clear c27b0
              try clear c27b1
              try clear c28
              try clear c28b0
              try clear c28b1
              try clear c28b2
              try clear c29
              try clear c29b0
              try clear c29b1
              try clear c30
              try clear c30b0
              try clear c30b1
              try clear c30b2
              try clear c31
              try clear c31b0
              try clear c31b1
              try clear c32
              try clear c32b0
              try clear c32b1
              try clear c32b2
              try clear c33
              try clear c33b0
              try clear c33b1
              try clear c34
              try clear c34b0
              try clear c34b1
              try clear c34b2
              try clear c35
              try clear c35b0
              try clear c35b1
              try clear c35b2
              try clear c36
              try clear c36b0
              try clear c36b1
              try clear c36b2
              try clear c37
              try clear c37b0
              try clear c37b1
              try clear c37b2
              try clear c39
              try clear c41
              try clear c45
              try clear c45b0
              try clear c46
              try clear c46b0
              try clear c47
              try clear c47b0
              try clear c48
              try clear c48b0
              try clear p48
              try clear q48
              try clear hx48
              try clear c49
              try clear c49b0
              try clear c49b1
              try clear q50
              try clear hx483_0
              try clear p2
              try clear p483
              try clear q483
              try clear q50
              obtain ⟨x36_3, x213_3, rfl, rfl, HA, HK3, HO_30, HO_185, HR487, HB⟩ := hrel
              cases gk with
              | zero => exact absurd HA.out (by simp [laws_FnMeasures.l1])
              | succ k3 =>
               have H := HA.out
               clear HA
               simp only [laws_FnMeasures.l1] at H
               by_cases c51 : x213_3 < (y484.length : Int)
               ·rw [if_pos c51] at H
                have c51b0 : decide (x213_3 < (y484.length : Int)) = true := decide_eq_true c51
                clear c51
                by_cases c52 : 0 ≤ x213_3
                ·rw [if_pos c52] at H
                 have c52b0 : decide (0 ≤ x213_3) = true := decide_eq_true c52
                 clear c52
                 by_cases c53 : x213_3 < (y484.length : Int)
                 ·rw [if_pos c53] at H
                  have c53b0 : decide (x213_3 < (y484.length : Int)) = true := decide_eq_true c53
                  clear c53
                  have H' := Aside0.mk H
                  clear H
                  have p488 : 0 ≤ (x213_3 : Int) := of_decide_eq_true (by first | (with_reducible assumption) | assumption)
                  have q488 : x213_3 < (y484.length : Int) := of_decide_eq_true (by first | (with_reducible assumption) | assumption)
                  obtain ⟨ad488, e488, hx488_0⟩ := Kd.at_int HR487.out x213_3 p488 q488
                  obtain rfl : ad483 = ad488 := (by injection e488)
                  try replace hx488_0 := (HB.out.cell (World.block_lt_of_cell? w _ hx488_0)).trans hx488_0
                  replace p488 := eq_true p488
                  replace q488 := eq_true q488
                  go_wp2
                  repeat (go_quiet (fail); try go_wp2)
                  go_roundg k3
                  case measure => have := HJ16.out; have := HK2.out; have := HK3.out; omega
                  case rel => exact ⟨(wrap64 (x36_3 + (wrap64 ((wrap64 ((rd t477 x187_2) - (rd y484 x213_3))) * (wrap64 ((rd t477 x187_2) - (rd y484 x213_3))))))), (wrap64 (x213_3 + 1)), (by first | rfl | (simp; done) | (simp [*]; done)), (by first | rfl | (simp; done) | (simp [*]; done)), H', ⟨by have := HJ16.out; have := HK2.out; have := HK3.out; omega⟩, ⟨by (with_reducible repeat (first | apply Kd.R_alloc | apply Kd.R_drewN | apply Kd.R_drew)); exact HO_30.out⟩, ⟨by (with_reducible repeat (first | apply Kd.R_alloc | apply Kd.R_drewN | apply Kd.R_drew)); exact HO_185.out⟩, ⟨by repeat (first | (with_reducible exact HR487.out) | (with_reducible refine Kd.C_alloc ?_ _) | (with_reducible refine Kd.C_drewN ?_ _) | (with_reducible refine Kd.C_drew ?_) | exact HR487.out)⟩, ⟨by repeat (first | (with_reducible first | exact HB.out | apply below_alloc | apply pw_below_drewN | apply below_drew1) | exact HB.out)⟩⟩
                 ·rw [if_neg c53] at H
                  exact absurd H (by simp)
                ·rw [if_neg c52] at H
                 exact absurd H (by simp)
               ·rw [if_neg c51] at H
                have c51b0 : decide (x213_3 < (y484.length : Int)) = false := decide_eq_false c51
                clear c51
                have H' := Aside0.mk H
                clear H
                go_wp2
                repeat (go_quiet (fail); try go_wp2)
                go_roundg k3
                case measure => have := HJ16.out; have := HK2.out; have := HK3.out; omega
                case rel => exact ⟨((wrap64 (x33_2 + (rd t477 x187_2)))), ((wrap64 (x34_2 + (wrap64 ((rd t477 x187_2) * (rd t477 x187_2)))))), ((wrap64 (x35_2 + (wrap64 ((wrap64 ((wrap64 ((t477.length : Int) - 1)) - (wrap64 (2 * x187_2)))) * (rd t477 x187_2)))))), (x36_3), (wrap64 (x187_2 + 1)), (by first | rfl | (simp; done) | (simp [*]; done)), (by first | rfl | (simp; done) | (simp [*]; done)), (by first | rfl | (simp; done) | (simp [*]; done)), (by first | rfl | (simp; done) | (simp [*]; done)), (by first | rfl | (simp; done) | (simp [*]; done)), H', ⟨by have := HJ16.out; have := HK2.out; have := HK3.out; omega⟩, ⟨by (with_reducible repeat (first | apply Kd.R_alloc | apply Kd.R_drewN | apply Kd.R_drew)); exact HO_30.out⟩, ⟨by (with_reducible repeat (first | apply Kd.R_alloc | apply Kd.R_drewN | apply Kd.R_drew)); exact HO_185.out⟩, ⟨by repeat (first | (with_reducible first | exact HB.out | apply below_alloc | apply pw_below_drewN | apply below_drew1) | exact HB.out)⟩⟩
            ·rw [if_neg c49] at H
             exact absurd H (by simp)
           ·rw [if_neg c47] at H
            exact absurd H (by simp)
          ·rw [if_neg c46] at H
           exact absurd H (by simp)
         ·rw [if_neg c45] at H
          have c45b0 : decide (x187_2 < (t477.length : Int)) = false := decide_eq_false c45
          clear c45
          (first | rw [c45b0] | (simp only [i64_w, i32_w]; rw [c45b0]) | skip)
          by_cases c54 : t478 = true
          ·subst c54
           have H1 : (if x35_2 = t456 then (if x36_2 = t452 then (if 0 < (t477.length : Int) then (if 0 ≤ (wrap64 ((t477.length : Int) - 1)) then (if (wrap64 ((t477.length : Int) - 1)) < (t477.length : Int) then (if t460 = (wrap64 ((rd t477 0) - (rd t477 (wrap64 ((t477.length : Int) - 1))))) then (if (t472 != (decide (x33_2 > 0))) = true then none else (if (t475 != (decide (x33_2 > 0))) = true then none else (if t472 = true then (if t470 = t456 then (if t471 = (wrap64 ((t477.length : Int) * x33_2)) then (if t475 = true then (if t473 = x34_2 then (if t474 = (wrap64 (x33_2 * x33_2)) then (if t466 < 0 then none else (if ((t466 == 0) != (t460 == 0)) = true then none else (laws_FnMeasures.j3 k2 l1))) else none) else none) else (if t466 < 0 then none else (if ((t466 == 0) != (t460 == 0)) = true then none else (laws_FnMeasures.j3 k2 l1)))) else none) else none) else (if t475 = true then (if t473 = x34_2 then (if t474 = (wrap64 (x33_2 * x33_2)) then (if t466 < 0 then none else (if ((t466 == 0) != (t460 == 0)) = true then none else (laws_FnMeasures.j3 k2 l1))) else none) else none) else (if t466 < 0 then none else (if ((t466 == 0) != (t460 == 0)) = true then none else (laws_FnMeasures.j3 k2 l1))))))) else none) else (none)) else (none)) else (none)) else none) else none) = some r := by rw [if_pos rfl] at H; exact H
           clear H
           have H := H1
           clear H1
           by_cases c55 : x35_2 = t456
           ·rw [if_pos c55] at H
            have c55b0 : (x35_2 == t456) = true := beq_iff_eq.mpr c55
            have c55b1 : (x35_2 != t456) = false := bne_eq_false_iff_eq.mpr c55
            clear c55
            by_cases c56 : x36_2 = t452
            ·rw [if_pos c56] at H
             have c56b0 : (x36_2 == t452) = true := beq_iff_eq.mpr c56
             have c56b1 : (x36_2 != t452) = false := bne_eq_false_iff_eq.mpr c56
             clear c56
             by_cases c57 : 0 < (t477.length : Int)
             ·rw [if_pos c57] at H
              have c57b0 : decide (0 < (t477.length : Int)) = true := decide_eq_true c57
              have c57b1 : decide (0 < t477.length) = true := decide_eq_true (by omega)
              clear c57
              obtain ⟨ji58, hji58⟩ : ∃ j_ : Int, (wrap64 ((t477.length : Int) - 1)) = j_ := ⟨_, rfl⟩
              replace H : (if 0 ≤ (ji58) then (if (ji58) < (t477.length : Int) then (if t460 = (wrap64 ((rd t477 0) - (rd t477 (ji58)))) then (if (t472 != (decide (x33_2 > 0))) = true then none else (if (t475 != (decide (x33_2 > 0))) = true then none else (if t472 = true then (if t470 = t456 then (if t471 = (wrap64 ((t477.length : Int) * x33_2)) then (if t475 = true then (if t473 = x34_2 then (if t474 = (wrap64 (x33_2 * x33_2)) then (if t466 < 0 then none else (if ((t466 == 0) != (t460 == 0)) = true then none else (laws_FnMeasures.j3 k2 l1))) else none) else none) else (if t466 < 0 then none else (if ((t466 == 0) != (t460 == 0)) = true then none else (laws_FnMeasures.j3 k2 l1)))) else none) else none) else (if t475 = true then (if t473 = x34_2 then (if t474 = (wrap64 (x33_2 * x33_2)) then (if t466 < 0 then none else (if ((t466 == 0) != (t460 == 0)) = true then none else (laws_FnMeasures.j3 k2 l1))) else none) else none) else (if t466 < 0 then none else (if ((t466 == 0) != (t460 == 0)) = true then none else (laws_FnMeasures.j3 k2 l1))))))) else none) else (none)) else (none)) = some r := by first | (rw [hji58] at H; exact H) | (simp only [hji58] at H ⊢; exact H)
              have hji58w : (IntKind.i64.wrap ((t477.length : Int) - 1)) = ji58 := (i64_w _).trans hji58
              by_cases c59 : 0 ≤ (ji58)
              ·rw [if_pos c59] at H
               have c59b0 : decide (0 ≤ (ji58)) = true := decide_eq_true c59
               clear c59
               by_cases c60 : (ji58) < (t477.length : Int)
               ·rw [if_pos c60] at H
                have c60b0 : decide ((ji58) < (t477.length : Int)) = true := decide_eq_true c60
                clear c60
                by_cases c61 : t460 = (wrap64 ((rd t477 0) - (rd t477 (ji58))))
                ·rw [if_pos c61] at H
                 have c61b0 : (t460 == (wrap64 ((rd t477 0) - (rd t477 (ji58))))) = true := beq_iff_eq.mpr c61
                 have c61b1 : (t460 != (wrap64 ((rd t477 0) - (rd t477 (ji58))))) = false := bne_eq_false_iff_eq.mpr c61
                 clear c61
                 by_cases c62 : (t472 != (decide (x33_2 > 0))) = true
                 ·rw [if_pos c62] at H
                  cases H
                 ·rw [if_neg c62] at H
                  have c62b0 : (t472 != (decide (x33_2 > 0))) = false := by simpa using c62
                  (try (have c62b1 : decide (t472 = (decide (x33_2 > 0))) = true := by simpa using c62))
                  (try (have c62b2 : (t472 == (decide (x33_2 > 0))) = true := by simpa using c62))
                  clear c62
                  by_cases c63 : (t475 != (decide (x33_2 > 0))) = true
                  ·rw [if_pos c63] at H
                   cases H
                  ·rw [if_neg c63] at H
                   have c63b0 : (t475 != (decide (x33_2 > 0))) = false := by simpa using c63
                   (try (have c63b1 : decide (t475 = (decide (x33_2 > 0))) = true := by simpa using c63))
                   (try (have c63b2 : (t475 == (decide (x33_2 > 0))) = true := by simpa using c63))
                   clear c63
                   by_cases c64 : t472 = true
                   ·subst c64
                    have H1 : (if t470 = t456 then (if t471 = (wrap64 ((t477.length : Int) * x33_2)) then (if t475 = true then (if t473 = x34_2 then (if t474 = (wrap64 (x33_2 * x33_2)) then (if t466 < 0 then none else (if ((t466 == 0) != (t460 == 0)) = true then none else (laws_FnMeasures.j3 k2 l1))) else none) else none) else (if t466 < 0 then none else (if ((t466 == 0) != (t460 == 0)) = true then none else (laws_FnMeasures.j3 k2 l1)))) else none) else none) = some r := by rw [if_pos rfl] at H; exact H
                    clear H
                    have H := H1
                    clear H1
                    by_cases c65 : t470 = t456
                    ·rw [if_pos c65] at H
                     have c65b0 : (t470 == t456) = true := beq_iff_eq.mpr c65
                     have c65b1 : (t470 != t456) = false := bne_eq_false_iff_eq.mpr c65
                     clear c65
                     by_cases c66 : t471 = (wrap64 ((t477.length : Int) * x33_2))
                     ·rw [if_pos c66] at H
                      have c66b0 : (t471 == (wrap64 ((t477.length : Int) * x33_2))) = true := beq_iff_eq.mpr c66
                      have c66b1 : (t471 != (wrap64 ((t477.length : Int) * x33_2))) = false := bne_eq_false_iff_eq.mpr c66
                      clear c66
                      by_cases c67 : t475 = true
                      ·subst c67
                       have H1 : (if t473 = x34_2 then (if t474 = (wrap64 (x33_2 * x33_2)) then (if t466 < 0 then none else (if ((t466 == 0) != (t460 == 0)) = true then none else (laws_FnMeasures.j3 k2 l1))) else none) else none) = some r := by rw [if_pos rfl] at H; exact H
                       clear H
                       have H := H1
                       clear H1
                       by_cases c68 : t473 = x34_2
                       ·rw [if_pos c68] at H
                        have c68b0 : (t473 == x34_2) = true := beq_iff_eq.mpr c68
                        have c68b1 : (t473 != x34_2) = false := bne_eq_false_iff_eq.mpr c68
                        clear c68
                        by_cases c69 : t474 = (wrap64 (x33_2 * x33_2))
                        ·rw [if_pos c69] at H
                         have c69b0 : (t474 == (wrap64 (x33_2 * x33_2))) = true := beq_iff_eq.mpr c69
                         have c69b1 : (t474 != (wrap64 (x33_2 * x33_2))) = false := bne_eq_false_iff_eq.mpr c69
                         clear c69
                         by_cases c70 : t466 < 0
                         ·rw [if_pos c70] at H
                          cases H
                         ·rw [if_neg c70] at H
                          have c70b0 : decide (t466 < 0) = false := decide_eq_false c70
                          clear c70
                          by_cases c71 : ((t466 == 0) != (t460 == 0)) = true
                          ·rw [if_pos c71] at H
                           cases H
                          ·rw [if_neg c71] at H
                           have c71b0 : ((t466 == 0) != (t460 == 0)) = false := by simpa using c71
                           (try (have c71b1 : decide ((t466 == 0) = (t460 == 0)) = true := by simpa using c71))
                           (try (have c71b2 : ((t466 == 0) == (t460 == 0)) = true := by simpa using c71))
                           clear c71
                           have H' := Aside0.mk H
                           clear H
                           have p481 : 0 ≤ (0 : Int) := (by omega)
                           have q481 : 0 < (t477.length : Int) := of_decide_eq_true (by first | (with_reducible assumption) | assumption)
                           obtain ⟨ad481, e481, hx481_0⟩ := Kd.at_int (Kd.R_reads' HO_30.out).2.2 0 p481 q481
                           cases e481
                           have qi481 : (0 < t477.length) = True := eq_true (by omega)
                           (try rw [show ((0 : Int)).toNat = 0 from rfl] at hx481_0)
                           (try rw [Addr.add_zero'] at hx481_0)
                           replace p481 := eq_true p481
                           replace q481 := eq_true q481
                           have p482 : 0 ≤ ((ji58) : Int) := of_decide_eq_true (by first | (with_reducible assumption) | assumption)
                           have q482 : (ji58) < (t477.length : Int) := of_decide_eq_true (by first | (with_reducible assumption) | assumption)
                           obtain ⟨ad482, e482, hx482_0⟩ := Kd.at_int (Kd.R_reads' HO_30.out).2.2 (ji58) p482 q482
                           obtain rfl : ad481 = ad482 := (by injection e482)
                           replace p482 := eq_true p482
                           replace q482 := eq_true q482
                           as_aux_lemma =>
                           go_wp2
                           refine Go.wp_region_quiet_lit (by kernel_rfl) (by kernel_rfl) ?_
                           iterate 12 (go_big_quiet_step (fail))
                           as_aux_lemma =>
                           iterate 12 (go_big_quiet_step (fail))
                           as_aux_lemma =>
                           iterate 12 (go_big_quiet_step (fail))
                           as_aux_lemma =>
                           iterate 12 (go_big_quiet_step (fail))
                           as_aux_lemma =>
                           iterate 12 (go_big_quiet_step (fail))
                           as_aux_lemma =>
                           iterate 12 (go_big_quiet_step (fail))
                           as_aux_lemma =>
                           repeat (go_big_quiet_step (fail))
                           refine Go.wpQuiet_nil ?_
                           intro _ hw'
                           obtain ⟨nq, hw''⟩ := hw'
                           subst hw''
                           try go_wp2
                           go_meet
                           case rel => exact ⟨_, H', ⟨by have := HJ16.out; have := HK2.out; first | omega | exact Nat.le_refl _⟩, ⟨by repeat (first | (with_reducible first | exact HB.out | apply below_alloc | apply pw_below_drewN | apply below_drew1) | exact HB.out)⟩⟩
                        ·rw [if_neg c69] at H
                         cases H
                       ·rw [if_neg c68] at H
                        cases H
                      ·replace c67 := Bool.eq_false_iff.mpr c67
                       subst c67
                       have H1 : (if t466 < 0 then none else (if ((t466 == 0) != (t460 == 0)) = true then none else (laws_FnMeasures.j3 k2 l1))) = some r := by rw [if_neg (show ¬ (false = true) by decide)] at H; exact H
                       clear H
                       have H := H1
                       clear H1
                       by_cases c72 : t466 < 0
                       ·rw [if_pos c72] at H
                        cases H
                       ·rw [if_neg c72] at H
                        have c72b0 : decide (t466 < 0) = false := decide_eq_false c72
                        clear c72
                        by_cases c73 : ((t466 == 0) != (t460 == 0)) = true
                        ·rw [if_pos c73] at H
                         cases H
                        ·rw [if_neg c73] at H
                         have c73b0 : ((t466 == 0) != (t460 == 0)) = false := by simpa using c73
                         (try (have c73b1 : decide ((t466 == 0) = (t460 == 0)) = true := by simpa using c73))
                         (try (have c73b2 : ((t466 == 0) == (t460 == 0)) = true := by simpa using c73))
                         clear c73
                         have H' := Aside0.mk H
                         clear H
                         have p481 : 0 ≤ (0 : Int) := (by omega)
                         have q481 : 0 < (t477.length : Int) := of_decide_eq_true (by first | (with_reducible assumption) | assumption)
                         obtain ⟨ad481, e481, hx481_0⟩ := Kd.at_int (Kd.R_reads' HO_30.out).2.2 0 p481 q481
                         cases e481
                         have qi481 : (0 < t477.length) = True := eq_true (by omega)
                         (try rw [show ((0 : Int)).toNat = 0 from rfl] at hx481_0)
                         (try rw [Addr.add_zero'] at hx481_0)
                         replace p481 := eq_true p481
                         replace q481 := eq_true q481
                         have p482 : 0 ≤ ((ji58) : Int) := of_decide_eq_true (by first | (with_reducible assumption) | assumption)
                         have q482 : (ji58) < (t477.length : Int) := of_decide_eq_true (by first | (with_reducible assumption) | assumption)
                         obtain ⟨ad482, e482, hx482_0⟩ := Kd.at_int (Kd.R_reads' HO_30.out).2.2 (ji58) p482 q482
                         obtain rfl : ad481 = ad482 := (by injection e482)
                         replace p482 := eq_true p482
                         replace q482 := eq_true q482
                         as_aux_lemma =>
                         go_wp2
                         refine Go.wp_region_quiet_lit (by kernel_rfl) (by kernel_rfl) ?_
                         iterate 12 (go_big_quiet_step (fail))
                         as_aux_lemma =>
                         iterate 12 (go_big_quiet_step (fail))
                         as_aux_lemma =>
                         iterate 12 (go_big_quiet_step (fail))
                         as_aux_lemma =>
                         iterate 12 (go_big_quiet_step (fail))
                         as_aux_lemma =>
                         iterate 12 (go_big_quiet_step (fail))
                         as_aux_lemma =>
                         iterate 12 (go_big_quiet_step (fail))
                         as_aux_lemma =>
                         repeat (go_big_quiet_step (fail))
                         refine Go.wpQuiet_nil ?_
                         intro _ hw'
                         obtain ⟨nq, hw''⟩ := hw'
                         subst hw''
                         try go_wp2
                         go_meet
                         case rel => exact ⟨_, H', ⟨by have := HJ16.out; have := HK2.out; first | omega | exact Nat.le_refl _⟩, ⟨by repeat (first | (with_reducible first | exact HB.out | apply below_alloc | apply pw_below_drewN | apply below_drew1) | exact HB.out)⟩⟩
                     ·rw [if_neg c66] at H
                      cases H
                    ·rw [if_neg c65] at H
                     cases H
                   ·replace c64 := Bool.eq_false_iff.mpr c64
                    subst c64
                    have H1 : (if t475 = true then (if t473 = x34_2 then (if t474 = (wrap64 (x33_2 * x33_2)) then (if t466 < 0 then none else (if ((t466 == 0) != (t460 == 0)) = true then none else (laws_FnMeasures.j3 k2 l1))) else none) else none) else (if t466 < 0 then none else (if ((t466 == 0) != (t460 == 0)) = true then none else (laws_FnMeasures.j3 k2 l1)))) = some r := by rw [if_neg (show ¬ (false = true) by decide)] at H; exact H
                    clear H
                    have H := H1
                    clear H1
                    by_cases c74 : t475 = true
                    ·subst c74
                     have H1 : (if t473 = x34_2 then (if t474 = (wrap64 (x33_2 * x33_2)) then (if t466 < 0 then none else (if ((t466 == 0) != (t460 == 0)) = true then none else (laws_FnMeasures.j3 k2 l1))) else none) else none) = some r := by rw [if_pos rfl] at H; exact H
                     clear H
                     have H := H1
                     clear H1
                     by_cases c75 : t473 = x34_2
                     ·rw [if_pos c75] at H
                      have c75b0 : (t473 == x34_2) = true := beq_iff_eq.mpr c75
                      have c75b1 : (t473 != x34_2) = false := bne_eq_false_iff_eq.mpr c75
                      clear c75
                      by_cases c76 : t474 = (wrap64 (x33_2 * x33_2))
                      ·rw [if_pos c76] at H
                       have c76b0 : (t474 == (wrap64 (x33_2 * x33_2))) = true := beq_iff_eq.mpr c76
                       have c76b1 : (t474 != (wrap64 (x33_2 * x33_2))) = false := bne_eq_false_iff_eq.mpr c76
                       clear c76
                       by_cases c77 : t466 < 0
                       ·rw [if_pos c77] at H
                        cases H
                       ·rw [if_neg c77] at H
                        have c77b0 : decide (t466 < 0) = false := decide_eq_false c77
                        clear c77
                        by_cases c78 : ((t466 == 0) != (t460 == 0)) = true
                        ·rw [if_pos c78] at H
                         cases H
                        ·rw [if_neg c78] at H
                         have c78b0 : ((t466 == 0) != (t460 == 0)) = false := by simpa using c78
                         (try (have c78b1 : decide ((t466 == 0) = (t460 == 0)) = true := by simpa using c78))
                         (try (have c78b2 : ((t466 == 0) == (t460 == 0)) = true := by simpa using c78))
                         clear c78
                         have H' := Aside0.mk H
                         clear H
                         have p481 : 0 ≤ (0 : Int) := (by omega)
                         have q481 : 0 < (t477.length : Int) := of_decide_eq_true (by first | (with_reducible assumption) | assumption)
                         obtain ⟨ad481, e481, hx481_0⟩ := Kd.at_int (Kd.R_reads' HO_30.out).2.2 0 p481 q481
                         cases e481
                         have qi481 : (0 < t477.length) = True := eq_true (by omega)
                         (try rw [show ((0 : Int)).toNat = 0 from rfl] at hx481_0)
                         (try rw [Addr.add_zero'] at hx481_0)
                         replace p481 := eq_true p481
                         replace q481 := eq_true q481
                         have p482 : 0 ≤ ((ji58) : Int) := of_decide_eq_true (by first | (with_reducible assumption) | assumption)
                         have q482 : (ji58) < (t477.length : Int) := of_decide_eq_true (by first | (with_reducible assumption) | assumption)
                         obtain ⟨ad482, e482, hx482_0⟩ := Kd.at_int (Kd.R_reads' HO_30.out).2.2 (ji58) p482 q482
                         obtain rfl : ad481 = ad482 := (by injection e482)
                         replace p482 := eq_true p482
                         replace q482 := eq_true q482
                         as_aux_lemma =>
                         go_wp2
                         refine Go.wp_region_quiet_lit (by kernel_rfl) (by kernel_rfl) ?_
                         iterate 12 (go_big_quiet_step (fail))
                         as_aux_lemma =>
                         iterate 12 (go_big_quiet_step (fail))
                         as_aux_lemma =>
                         iterate 12 (go_big_quiet_step (fail))
                         as_aux_lemma =>
                         iterate 12 (go_big_quiet_step (fail))
                         as_aux_lemma =>
                         iterate 12 (go_big_quiet_step (fail))
                         as_aux_lemma =>
                         iterate 12 (go_big_quiet_step (fail))
                         as_aux_lemma =>
                         repeat (go_big_quiet_step (fail))
                         refine Go.wpQuiet_nil ?_
                         intro _ hw'
                         obtain ⟨nq, hw''⟩ := hw'
                         subst hw''
                         try go_wp2
                         go_meet
                         case rel => exact ⟨_, H', ⟨by have := HJ16.out; have := HK2.out; first | omega | exact Nat.le_refl _⟩, ⟨by repeat (first | (with_reducible first | exact HB.out | apply below_alloc | apply pw_below_drewN | apply below_drew1) | exact HB.out)⟩⟩
                      ·rw [if_neg c76] at H
                       cases H
                     ·rw [if_neg c75] at H
                      cases H
                    ·replace c74 := Bool.eq_false_iff.mpr c74
                     subst c74
                     have H1 : (if t466 < 0 then none else (if ((t466 == 0) != (t460 == 0)) = true then none else (laws_FnMeasures.j3 k2 l1))) = some r := by rw [if_neg (show ¬ (false = true) by decide)] at H; exact H
                     clear H
                     have H := H1
                     clear H1
                     by_cases c79 : t466 < 0
                     ·rw [if_pos c79] at H
                      cases H
                     ·rw [if_neg c79] at H
                      have c79b0 : decide (t466 < 0) = false := decide_eq_false c79
                      clear c79
                      by_cases c80 : ((t466 == 0) != (t460 == 0)) = true
                      ·rw [if_pos c80] at H
                       cases H
                      ·rw [if_neg c80] at H
                       have c80b0 : ((t466 == 0) != (t460 == 0)) = false := by simpa using c80
                       (try (have c80b1 : decide ((t466 == 0) = (t460 == 0)) = true := by simpa using c80))
                       (try (have c80b2 : ((t466 == 0) == (t460 == 0)) = true := by simpa using c80))
                       clear c80
                       have H' := Aside0.mk H
                       clear H
                       have p481 : 0 ≤ (0 : Int) := (by omega)
                       have q481 : 0 < (t477.length : Int) := of_decide_eq_true (by first | (with_reducible assumption) | assumption)
                       obtain ⟨ad481, e481, hx481_0⟩ := Kd.at_int (Kd.R_reads' HO_30.out).2.2 0 p481 q481
                       cases e481
                       have qi481 : (0 < t477.length) = True := eq_true (by omega)
                       (try rw [show ((0 : Int)).toNat = 0 from rfl] at hx481_0)
                       (try rw [Addr.add_zero'] at hx481_0)
                       replace p481 := eq_true p481
                       replace q481 := eq_true q481
                       have p482 : 0 ≤ ((ji58) : Int) := of_decide_eq_true (by first | (with_reducible assumption) | assumption)
                       have q482 : (ji58) < (t477.length : Int) := of_decide_eq_true (by first | (with_reducible assumption) | assumption)
                       obtain ⟨ad482, e482, hx482_0⟩ := Kd.at_int (Kd.R_reads' HO_30.out).2.2 (ji58) p482 q482
                       obtain rfl : ad481 = ad482 := (by injection e482)
                       replace p482 := eq_true p482
                       replace q482 := eq_true q482
                       as_aux_lemma =>
                       go_wp2
                       refine Go.wp_region_quiet_lit (by kernel_rfl) (by kernel_rfl) ?_
                       iterate 12 (go_big_quiet_step (fail))
                       as_aux_lemma =>
                       iterate 12 (go_big_quiet_step (fail))
                       as_aux_lemma =>
                       iterate 12 (go_big_quiet_step (fail))
                       as_aux_lemma =>
                       iterate 12 (go_big_quiet_step (fail))
                       as_aux_lemma =>
                       iterate 12 (go_big_quiet_step (fail))
                       as_aux_lemma =>
                       iterate 12 (go_big_quiet_step (fail))
                       as_aux_lemma =>
                       repeat (go_big_quiet_step (fail))
                       refine Go.wpQuiet_nil ?_
                       intro _ hw'
                       obtain ⟨nq, hw''⟩ := hw'
                       subst hw''
                       try go_wp2
                       go_meet
                       case rel => exact ⟨_, H', ⟨by have := HJ16.out; have := HK2.out; first | omega | exact Nat.le_refl _⟩, ⟨by repeat (first | (with_reducible first | exact HB.out | apply below_alloc | apply pw_below_drewN | apply below_drew1) | exact HB.out)⟩⟩
                ·rw [if_neg c61] at H
                 cases H
               ·rw [if_neg c60] at H
                exact absurd H (by simp)
              ·rw [if_neg c59] at H
               exact absurd H (by simp)
             ·rw [if_neg c57] at H
              exact absurd H (by simp)
            ·rw [if_neg c56] at H
             cases H
           ·rw [if_neg c55] at H
            cases H
          ·replace c54 := Bool.eq_false_iff.mpr c54
           subst c54
           rw [if_neg (show ¬ (false = true) by decide)] at H
           cases H
      ·replace c41 := Bool.eq_false_iff.mpr c41
       subst c41
       have H1 : (laws_FnMeasures.j3 kj16 l1) = some r := by rw [if_neg (show ¬ (false = true) by decide)] at H; exact H
       clear H
       have H := H1
       clear H1
       have H' := Aside0.mk H
       clear H
       as_aux_lemma =>
       go_wp2
       repeat (go_quiet (fail); try go_wp2)
       go_meet
       case rel => exact ⟨_, H', ⟨by have := HJ16.out; first | omega | exact Nat.le_refl _⟩, ⟨by repeat (first | (with_reducible first | exact HB.out | apply below_alloc | apply pw_below_drewN | apply below_drew1) | exact HB.out)⟩⟩
     case rest => as_aux_lemma =>
      clear HC40
      try clear p2
      try clear c4
      try clear p4
      try clear q4
      try clear hx4
      try clear qi4
      try clear c5
      try clear c6
      try clear p6
      try clear c7
      try clear c8
      try clear c41
      try clear p48
      try clear q48
      try clear hx48
      try clear qi48
      try clear c54
      try clear c55
      try clear c55b0
      try clear c55b1
      try clear c56
      try clear c56b0
      try clear c56b1
      try clear c57
      try clear c59
      try clear c60
      try clear c61
      try clear c61b0
      try clear c61b1
      try clear c63
      try clear c63b0
      try clear c63b1
      try clear c63b2
      try clear c64
      try clear p64
      try clear c65
      try clear c65b0
      try clear c65b1
      try clear c66
      try clear c66b0
      try clear c66b1
      try clear c67
      try clear c68
      try clear c68b0
      try clear c68b1
      try clear c69
      try clear c69b0
      try clear c69b1
      try clear c70
      try clear c70b0
      try clear c71
      try clear c71b0
      try clear c71b1
      try clear c71b2
      try clear c72
      try clear c72b0
      try clear c73
      try clear c73b0
      try clear c73b1
      try clear c73b2
      try clear c74
      try clear c75
      try clear c75b0
      try clear c75b1
      try clear c76
      try clear c76b0
      try clear c76b1
      try clear c77
      try clear c77b0
      try clear c78
      try clear c78b0
      try clear c78b1
      try clear c78b2
      try clear c79
      try clear c79b0
      try clear c80
      try clear c80b0
      try clear c80b1
      try clear c80b2
      try clear hx481_0
      try clear hx482_0
      try clear p481
      try clear p482
      try clear q481
      try clear q482
      obtain ⟨kq, HA, HJ39, HB⟩ := hcut
      cases kq with
      | zero => exact absurd HA.out (by simp [laws_FnMeasures.j3])
      | succ kj39 =>
       have H := HA.out
       clear HA
       simp only [laws_FnMeasures.j3] at H
       replace H := Option.bind_eq_some_iff.mp H
       obtain ⟨⟨t489, t490⟩, A810, H⟩ := H
       replace H : ((impl_SignsOf.f kj39 t489 t490).bind fun bt495 => ((spec_SignsOf.f kj39 t489 t490).bind fun bt499 => (if (bt495.2 != bt499.2) = true then none else ((laws_ySame.f kj39 bt495.1 bt499.1).bind fun t503 => (laws_FnMeasures.j4 kj39 t489 t490 bt495.1 bt495.2 (!t503)))))) = some r := H
       have A81 := Aside0.mk A810
       clear A810
       replace H := Option.bind_eq_some_iff.mp H
       obtain ⟨⟨t495, t496⟩, A820, H⟩ := H
       replace H : ((spec_SignsOf.f kj39 t489 t490).bind fun bt499 => (if (t496 != bt499.2) = true then none else ((laws_ySame.f kj39 t495 bt499.1).bind fun t503 => (laws_FnMeasures.j4 kj39 t489 t490 t495 t496 (!t503))))) = some r := H
       have A82 := Aside0.mk A820
       clear A820
       replace H := Option.bind_eq_some_iff.mp H
       obtain ⟨⟨t499, t500⟩, A830, H⟩ := H
       replace H : (if (t496 != t500) = true then none else ((laws_ySame.f kj39 t495 t499).bind fun t503 => (laws_FnMeasures.j4 kj39 t489 t490 t495 t496 (!t503)))) = some r := H
       have A83 := Aside0.mk A830
       clear A830
       have HC84 := Aside0.mk H
       clear H
       go_upto_region 38 with (first | (go_at_call 65; (with_reducible refine (spec_DrawSignsOf.calls kj39 _ _ l1 t489 t490 _ ?side1 ?side2 A81.out).mono ?_); (case side1 => repeat (first | exact (Kd.C_below HR1.out HB.out) | (with_reducible refine Kd.C_alloc ?_ _) | (with_reducible refine Kd.C_drewN ?_ _) | (with_reducible refine Kd.C_drew ?_))); (case side2 => exact HC1.out); rintro e w85 ⟨v491, v493, rfl, ho0, ho1, hb⟩; have n0_ := Aside0.mk (Kd.R_lower ho0 (below_size (by repeat (first | (with_reducible first | exact HB.out | apply below_alloc | apply pw_below_drewN | apply below_drew1) | exact HB.out)))); have n1_ := Aside0.mk (Kd.R_lower ho1 (below_size (by repeat (first | (with_reducible first | exact HB.out | apply below_alloc | apply pw_below_drewN | apply below_drew1) | exact HB.out)))); have n2_ := Aside0.mk (below_step (by repeat (first | (with_reducible first | exact HB.out | apply below_alloc | apply pw_below_drewN | apply below_drew1) | exact HB.out)) hb); clear HB; have HO492 := n0_; have HO494 := n1_; have HB := n2_; clear n0_ n1_ n2_; (try clear hb); (try clear hb2); (try clear hk); (try clear hi); (try clear ho0); (try clear ho1); obtain ⟨Ao86, co86, eo86⟩ := Kd.R_slice HO492.out; subst eo86; obtain ⟨Ao87, co87, eo87⟩ := Kd.R_slice HO494.out; subst eo87) | (go_at_call 66; (with_reducible refine (impl_SignsOf.calls kj39 _ _ t489 _ _ t490 t495 t496 _ ?side1 ?side2 ?side3 ?side4 A82.out).mono ?_); (case side1 => repeat (first | exact (Kd.R_reads' HO492.out).2.2 | (with_reducible refine Kd.C_alloc ?_ _) | (with_reducible refine Kd.C_drewN ?_ _) | (with_reducible refine Kd.C_drew ?_))); (case side2 => exact (Kd.R_reads' HO492.out).2.1); (case side3 => repeat (first | exact (Kd.R_reads' HO494.out).2.2 | (with_reducible refine Kd.C_alloc ?_ _) | (with_reducible refine Kd.C_drewN ?_ _) | (with_reducible refine Kd.C_drew ?_))); (case side4 => exact (Kd.R_reads' HO494.out).2.1); rintro e w88 ⟨v497, rfl, ho0, hb⟩; have n0_ := Aside0.mk (Kd.R_elder' (by (with_reducible repeat (first | apply Kd.R_alloc | apply Kd.R_drewN | apply Kd.R_drew)); exact HO492.out) (Kd.R_base ho0) hb); have n1_ := Aside0.mk (Kd.R_elder' (by (with_reducible repeat (first | apply Kd.R_alloc | apply Kd.R_drewN | apply Kd.R_drew)); exact HO494.out) (Kd.R_base ho0) hb); have n2_ := Aside0.mk (Kd.R_lower (Kd.R_new' (Kd.R_new' ho0 (Kd.R_lt (by (with_reducible repeat (first | apply Kd.R_alloc | apply Kd.R_drewN | apply Kd.R_drew)); exact HO492.out))) (Kd.R_lt (by (with_reducible repeat (first | apply Kd.R_alloc | apply Kd.R_drewN | apply Kd.R_drew)); exact HO494.out))) (below_size (by repeat (first | (with_reducible first | exact HB.out | apply below_alloc | apply pw_below_drewN | apply below_drew1) | exact HB.out)))); have n3_ := Aside0.mk (below_step (by repeat (first | (with_reducible first | exact HB.out | apply below_alloc | apply pw_below_drewN | apply below_drew1) | exact HB.out)) hb); clear HO492; clear HO494; clear HB; have HO492 := n0_; have HO494 := n1_; have HO498 := n2_; have HB := n3_; clear n0_ n1_ n2_ n3_; (try clear hb); (try clear hb2); (try clear hk); (try clear hi); (try clear ho0)) | (go_at_call 67; (with_reducible refine (spec_SignsOf.calls kj39 _ _ t489 _ _ t490 t499 t500 _ ?side1 ?side2 ?side3 ?side4 A83.out).mono ?_); (case side1 => repeat (first | exact (Kd.R_reads' HO492.out).2.2 | (with_reducible refine Kd.C_alloc ?_ _) | (with_reducible refine Kd.C_drewN ?_ _) | (with_reducible refine Kd.C_drew ?_))); (case side2 => exact (Kd.R_reads' HO492.out).2.1); (case side3 => repeat (first | exact (Kd.R_reads' HO494.out).2.2 | (with_reducible refine Kd.C_alloc ?_ _) | (with_reducible refine Kd.C_drewN ?_ _) | (with_reducible refine Kd.C_drew ?_))); (case side4 => exact (Kd.R_reads' HO494.out).2.1); rintro e w89 ⟨v501, rfl, ho0, hb⟩; have n0_ := Aside0.mk (Kd.R_elder' (by (with_reducible repeat (first | apply Kd.R_alloc | apply Kd.R_drewN | apply Kd.R_drew)); exact HO492.out) (Kd.R_base ho0) hb); have n1_ := Aside0.mk (Kd.R_elder' (by (with_reducible repeat (first | apply Kd.R_alloc | apply Kd.R_drewN | apply Kd.R_drew)); exact HO494.out) (Kd.R_base ho0) hb); have n2_ := Aside0.mk (Kd.R_elder' (by (with_reducible repeat (first | apply Kd.R_alloc | apply Kd.R_drewN | apply Kd.R_drew)); exact HO498.out) (Kd.R_base ho0) hb); have n3_ := Aside0.mk (Kd.R_lower (Kd.R_new' (Kd.R_new' (Kd.R_new' ho0 (Kd.R_lt (by (with_reducible repeat (first | apply Kd.R_alloc | apply Kd.R_drewN | apply Kd.R_drew)); exact HO492.out))) (Kd.R_lt (by (with_reducible repeat (first | apply Kd.R_alloc | apply Kd.R_drewN | apply Kd.R_drew)); exact HO494.out))) (Kd.R_lt (by (with_reducible repeat (first | apply Kd.R_alloc | apply Kd.R_drewN | apply Kd.R_drew)); exact HO498.out))) (below_size (by repeat (first | (with_reducible first | exact HB.out | apply below_alloc | apply pw_below_drewN | apply below_drew1) | exact HB.out)))); have n4_ := Aside0.mk (below_step (by repeat (first | (with_reducible first | exact HB.out | apply below_alloc | apply pw_below_drewN | apply below_drew1) | exact HB.out)) hb); clear HO492; clear HO494; clear HO498; clear HB; have HO492 := n0_; have HO494 := n1_; have HO498 := n2_; have HO502 := n3_; have HB := n4_; clear n0_ n1_ n2_ n3_ n4_; (try clear hb); (try clear hb2); (try clear hk); (try clear hi); (try clear ho0)))
       repeat (go_quiet (first | (go_at_call 65; (with_reducible refine (spec_DrawSignsOf.calls kj39 _ _ l1 t489 t490 _ ?side1 ?side2 A81.out).mono ?_); (case side1 => repeat (first | exact (Kd.C_below HR1.out HB.out) | (with_reducible refine Kd.C_alloc ?_ _) | (with_reducible refine Kd.C_drewN ?_ _) | (with_reducible refine Kd.C_drew ?_))); (case side2 => exact HC1.out); rintro e w85 ⟨v491, v493, rfl, ho0, ho1, hb⟩; have n0_ := Aside0.mk (Kd.R_lower ho0 (below_size (by repeat (first | (with_reducible first | exact HB.out | apply below_alloc | apply pw_below_drewN | apply below_drew1) | exact HB.out)))); have n1_ := Aside0.mk (Kd.R_lower ho1 (below_size (by repeat (first | (with_reducible first | exact HB.out | apply below_alloc | apply pw_below_drewN | apply below_drew1) | exact HB.out)))); have n2_ := Aside0.mk (below_step (by repeat (first | (with_reducible first | exact HB.out | apply below_alloc | apply pw_below_drewN | apply below_drew1) | exact HB.out)) hb); clear HB; have HO492 := n0_; have HO494 := n1_; have HB := n2_; clear n0_ n1_ n2_; (try clear hb); (try clear hb2); (try clear hk); (try clear hi); (try clear ho0); (try clear ho1); obtain ⟨Ao86, co86, eo86⟩ := Kd.R_slice HO492.out; subst eo86; obtain ⟨Ao87, co87, eo87⟩ := Kd.R_slice HO494.out; subst eo87) | (go_at_call 66; (with_reducible refine (impl_SignsOf.calls kj39 _ _ t489 _ _ t490 t495 t496 _ ?side1 ?side2 ?side3 ?side4 A82.out).mono ?_); (case side1 => repeat (first | exact (Kd.R_reads' HO492.out).2.2 | (with_reducible refine Kd.C_alloc ?_ _) | (with_reducible refine Kd.C_drewN ?_ _) | (with_reducible refine Kd.C_drew ?_))); (case side2 => exact (Kd.R_reads' HO492.out).2.1); (case side3 => repeat (first | exact (Kd.R_reads' HO494.out).2.2 | (with_reducible refine Kd.C_alloc ?_ _) | (with_reducible refine Kd.C_drewN ?_ _) | (with_reducible refine Kd.C_drew ?_))); (case side4 => exact (Kd.R_reads' HO494.out).2.1); rintro e w88 ⟨v497, rfl, ho0, hb⟩; have n0_ := Aside0.mk (Kd.R_elder' (by (with_reducible repeat (first | apply Kd.R_alloc | apply Kd.R_drewN | apply Kd.R_drew)); exact HO492.out) (Kd.R_base ho0) hb); have n1_ := Aside0.mk (Kd.R_elder' (by (with_reducible repeat (first | apply Kd.R_alloc | apply Kd.R_drewN | apply Kd.R_drew)); exact HO494.out) (Kd.R_base ho0) hb); have n2_ := Aside0.mk (Kd.R_lower (Kd.R_new' (Kd.R_new' ho0 (Kd.R_lt (by (with_reducible repeat (first | apply Kd.R_alloc | apply Kd.R_drewN | apply Kd.R_drew)); exact HO492.out))) (Kd.R_lt (by (with_reducible repeat (first | apply Kd.R_alloc | apply Kd.R_drewN | apply Kd.R_drew)); exact HO494.out))) (below_size (by repeat (first | (with_reducible first | exact HB.out | apply below_alloc | apply pw_below_drewN | apply below_drew1) | exact HB.out)))); have n3_ := Aside0.mk (below_step (by repeat (first | (with_reducible first | exact HB.out | apply below_alloc | apply pw_below_drewN | apply below_drew1) | exact HB.out)) hb); clear HO492; clear HO494; clear HB; have HO492 := n0_; have HO494 := n1_; have HO498 := n2_; have HB := n3_; clear n0_ n1_ n2_ n3_; (try clear hb); (try clear hb2); (try clear hk); (try clear hi); (try clear ho0)) | (go_at_call 67; (with_reducible refine (spec_SignsOf.calls kj39 _ _ t489 _ _ t490 t499 t500 _ ?side1 ?side2 ?side3 ?side4 A83.out).mono ?_); (case side1 => repeat (first | exact (Kd.R_reads' HO492.out).2.2 | (with_reducible refine Kd.C_alloc ?_ _) | (with_reducible refine Kd.C_drewN ?_ _) | (with_reducible refine Kd.C_drew ?_))); (case side2 => exact (Kd.R_reads' HO492.out).2.1); (case side3 => repeat (first | exact (Kd.R_reads' HO494.out).2.2 | (with_reducible refine Kd.C_alloc ?_ _) | (with_reducible refine Kd.C_drewN ?_ _) | (with_reducible refine Kd.C_drew ?_))); (case side4 => exact (Kd.R_reads' HO494.out).2.1); rintro e w89 ⟨v501, rfl, ho0, hb⟩; have n0_ := Aside0.mk (Kd.R_elder' (by (with_reducible repeat (first | apply Kd.R_alloc | apply Kd.R_drewN | apply Kd.R_drew)); exact HO492.out) (Kd.R_base ho0) hb); have n1_ := Aside0.mk (Kd.R_elder' (by (with_reducible repeat (first | apply Kd.R_alloc | apply Kd.R_drewN | apply Kd.R_drew)); exact HO494.out) (Kd.R_base ho0) hb); have n2_ := Aside0.mk (Kd.R_elder' (by (with_reducible repeat (first | apply Kd.R_alloc | apply Kd.R_drewN | apply Kd.R_drew)); exact HO498.out) (Kd.R_base ho0) hb); have n3_ := Aside0.mk (Kd.R_lower (Kd.R_new' (Kd.R_new' (Kd.R_new' ho0 (Kd.R_lt (by (with_reducible repeat (first | apply Kd.R_alloc | apply Kd.R_drewN | apply Kd.R_drew)); exact HO492.out))) (Kd.R_lt (by (with_reducible repeat (first | apply Kd.R_alloc | apply Kd.R_drewN | apply Kd.R_drew)); exact HO494.out))) (Kd.R_lt (by (with_reducible repeat (first | apply Kd.R_alloc | apply Kd.R_drewN | apply Kd.R_drew)); exact HO498.out))) (below_size (by repeat (first | (with_reducible first | exact HB.out | apply below_alloc | apply pw_below_drewN | apply below_drew1) | exact HB.out)))); have n4_ := Aside0.mk (below_step (by repeat (first | (with_reducible first | exact HB.out | apply below_alloc | apply pw_below_drewN | apply below_drew1) | exact HB.out)) hb); clear HO492; clear HO494; clear HO498; clear HB; have HO492 := n0_; have HO494 := n1_; have HO498 := n2_; have HO502 := n3_; have HB := n4_; clear n0_ n1_ n2_ n3_ n4_; (try clear hb); (try clear hb2); (try clear hk); (try clear hi); (try clear ho0))); go_upto_region 38 with (first | (go_at_call 65; (with_reducible refine (spec_DrawSignsOf.calls kj39 _ _ l1 t489 t490 _ ?side1 ?side2 A81.out).mono ?_); (case side1 => repeat (first | exact (Kd.C_below HR1.out HB.out) | (with_reducible refine Kd.C_alloc ?_ _) | (with_reducible refine Kd.C_drewN ?_ _) | (with_reducible refine Kd.C_drew ?_))); (case side2 => exact HC1.out); rintro e w85 ⟨v491, v493, rfl, ho0, ho1, hb⟩; have n0_ := Aside0.mk (Kd.R_lower ho0 (below_size (by repeat (first | (with_reducible first | exact HB.out | apply below_alloc | apply pw_below_drewN | apply below_drew1) | exact HB.out)))); have n1_ := Aside0.mk (Kd.R_lower ho1 (below_size (by repeat (first | (with_reducible first | exact HB.out | apply below_alloc | apply pw_below_drewN | apply below_drew1) | exact HB.out)))); have n2_ := Aside0.mk (below_step (by repeat (first | (with_reducible first | exact HB.out | apply below_alloc | apply pw_below_drewN | apply below_drew1) | exact HB.out)) hb); clear HB; have HO492 := n0_; have HO494 := n1_; have HB := n2_; clear n0_ n1_ n2_; (try clear hb); (try clear hb2); (try clear hk); (try clear hi); (try clear ho0); (try clear ho1); obtain ⟨Ao86, co86, eo86⟩ := Kd.R_slice HO492.out; subst eo86; obtain ⟨Ao87, co87, eo87⟩ := Kd.R_slice HO494.out; subst eo87) | (go_at_call 66; (with_reducible refine (impl_SignsOf.calls kj39 _ _ t489 _ _ t490 t495 t496 _ ?side1 ?side2 ?side3 ?side4 A82.out).mono ?_); (case side1 => repeat (first | exact (Kd.R_reads' HO492.out).2.2 | (with_reducible refine Kd.C_alloc ?_ _) | (with_reducible refine Kd.C_drewN ?_ _) | (with_reducible refine Kd.C_drew ?_))); (case side2 => exact (Kd.R_reads' HO492.out).2.1); (case side3 => repeat (first | exact (Kd.R_reads' HO494.out).2.2 | (with_reducible refine Kd.C_alloc ?_ _) | (with_reducible refine Kd.C_drewN ?_ _) | (with_reducible refine Kd.C_drew ?_))); (case side4 => exact (Kd.R_reads' HO494.out).2.1); rintro e w88 ⟨v497, rfl, ho0, hb⟩; have n0_ := Aside0.mk (Kd.R_elder' (by (with_reducible repeat (first | apply Kd.R_alloc | apply Kd.R_drewN | apply Kd.R_drew)); exact HO492.out) (Kd.R_base ho0) hb); have n1_ := Aside0.mk (Kd.R_elder' (by (with_reducible repeat (first | apply Kd.R_alloc | apply Kd.R_drewN | apply Kd.R_drew)); exact HO494.out) (Kd.R_base ho0) hb); have n2_ := Aside0.mk (Kd.R_lower (Kd.R_new' (Kd.R_new' ho0 (Kd.R_lt (by (with_reducible repeat (first | apply Kd.R_alloc | apply Kd.R_drewN | apply Kd.R_drew)); exact HO492.out))) (Kd.R_lt (by (with_reducible repeat (first | apply Kd.R_alloc | apply Kd.R_drewN | apply Kd.R_drew)); exact HO494.out))) (below_size (by repeat (first | (with_reducible first | exact HB.out | apply below_alloc | apply pw_below_drewN | apply below_drew1) | exact HB.out)))); have n3_ := Aside0.mk (below_step (by repeat (first | (with_reducible first | exact HB.out | apply below_alloc | apply pw_below_drewN | apply below_drew1) | exact HB.out)) hb); clear HO492; clear HO494; clear HB; have HO492 := n0_; have HO494 := n1_; have HO498 := n2_; have HB := n3_; clear n0_ n1_ n2_ n3_; (try clear hb); (try clear hb2); (try clear hk); (try clear hi); (try clear ho0)) | (go_at_call 67; (with_reducible refine (spec_SignsOf.calls kj39 _ _ t489 _ _ t490 t499 t500 _ ?side1 ?side2 ?side3 ?side4 A83.out).mono ?_); (case side1 => repeat (first | exact (Kd.R_reads' HO492.out).2.2 | (with_reducible refine Kd.C_alloc ?_ _) | (with_reducible refine Kd.C_drewN ?_ _) | (with_reducible refine Kd.C_drew ?_))); (case side2 => exact (Kd.R_reads' HO492.out).2.1); (case side3 => repeat (first | exact (Kd.R_reads' HO494.out).2.2 | (with_reducible refine Kd.C_alloc ?_ _) | (with_reducible refine Kd.C_drewN ?_ _) | (with_reducible refine Kd.C_drew ?_))); (case side4 => exact (Kd.R_reads' HO494.out).2.1); rintro e w89 ⟨v501, rfl, ho0, hb⟩; have n0_ := Aside0.mk (Kd.R_elder' (by (with_reducible repeat (first | apply Kd.R_alloc | apply Kd.R_drewN | apply Kd.R_drew)); exact HO492.out) (Kd.R_base ho0) hb); have n1_ := Aside0.mk (Kd.R_elder' (by (with_reducible repeat (first | apply Kd.R_alloc | apply Kd.R_drewN | apply Kd.R_drew)); exact HO494.out) (Kd.R_base ho0) hb); have n2_ := Aside0.mk (Kd.R_elder' (by (with_reducible repeat (first | apply Kd.R_alloc | apply Kd.R_drewN | apply Kd.R_drew)); exact HO498.out) (Kd.R_base ho0) hb); have n3_ := Aside0.mk (Kd.R_lower (Kd.R_new' (Kd.R_new' (Kd.R_new' ho0 (Kd.R_lt (by (with_reducible repeat (first | apply Kd.R_alloc | apply Kd.R_drewN | apply Kd.R_drew)); exact HO492.out))) (Kd.R_lt (by (with_reducible repeat (first | apply Kd.R_alloc | apply Kd.R_drewN | apply Kd.R_drew)); exact HO494.out))) (Kd.R_lt (by (with_reducible repeat (first | apply Kd.R_alloc | apply Kd.R_drewN | apply Kd.R_drew)); exact HO498.out))) (below_size (by repeat (first | (with_reducible first | exact HB.out | apply below_alloc | apply pw_below_drewN | apply below_drew1) | exact HB.out)))); have n4_ := Aside0.mk (below_step (by repeat (first | (with_reducible first | exact HB.out | apply below_alloc | apply pw_below_drewN | apply below_drew1) | exact HB.out)) hb); clear HO492; clear HO494; clear HO498; clear HB; have HO492 := n0_; have HO494 := n1_; have HO498 := n2_; have HO502 := n3_; have HB := n4_; clear n0_ n1_ n2_ n3_ n4_; (try clear hb); (try clear hb2); (try clear hk); (try clear hi); (try clear ho0))))
       (try simp only [Act.put, List.setIfInBounds_toArray, List.set_cons_zero, List.set_cons_succ])
       go_cut [331] (fun v331 wc => ∃ (kq : Nat) (x331_83 : Bool), v331 = .bool x331_83 ∧ Aside0 (laws_FnMeasures.j4 kq t489 t490 t495 t496 x331_83 = some r) ∧ Aside0 (kq ≤ kj39) ∧ Aside0 (Kd.R (Kd.int .i64) 3 wc w.heap.size (fun k_ => some k_ ≠ ((.slice Ao87 t490.length co87) : Value).ownBlock ∧ some k_ ≠ (v497 : Value).ownBlock) (.slice Ao86 t489.length co86) t489) ∧ Aside0 (Kd.R (Kd.int .i64) 3 wc w.heap.size (fun k_ => some k_ ≠ ((.slice Ao86 t489.length co86) : Value).ownBlock ∧ some k_ ≠ (v497 : Value).ownBlock) (.slice Ao87 t490.length co87) t490) ∧ Aside0 (Kd.R (Kd.int .i64) 3 wc w.heap.size (fun k_ => some k_ ≠ ((.slice Ao86 t489.length co86) : Value).ownBlock ∧ some k_ ≠ ((.slice Ao87 t490.length co87) : Value).ownBlock) v497 t495) ∧ Aside0 (Below w.heap.size w wc))
       case first => as_aux_lemma =>
        have H := HC84.out
        clear HC84
        by_cases c90 : (t496 != t500) = true
        ·rw [if_pos c90] at H
         cases H
        ·rw [if_neg c90] at H
         have c90b0 : (t496 != t500) = false := by simpa using c90
         (try (have c90b1 : decide (t496 = t500) = true := by simpa using c90))
         (try (have c90b2 : (t496 == t500) = true := by simpa using c90))
         clear c90
         (first | rw [c90b0] | (simp only [i64_w, i32_w]; rw [c90b0]) | skip)
         replace H := Option.bind_eq_some_iff.mp H
         obtain ⟨t503, A910, H⟩ := H
         replace H : (laws_FnMeasures.j4 kj39 t489 t490 t495 t496 (!t503)) = some r := H
         have A91 := Aside0.mk A910
         clear A910
         have H' := Aside0.mk H
         clear H
         obtain ⟨Ao92, co92, eo92⟩ := Kd.R_slice HO498.out
         subst eo92
         obtain ⟨Ao93, co93, eo93⟩ := Kd.R_slice HO502.out
         subst eo93
         go_wp2_with (first | (go_at_call 68; (with_reducible refine (laws_ySame.calls kj39 _ _ t495 _ _ t499 t503 _ ?side1 ?side2 ?side3 ?side4 A91.out).mono ?_); (case side1 => repeat (first | exact (Kd.R_reads' HO498.out).2.2 | (with_reducible refine Kd.C_alloc ?_ _) | (with_reducible refine Kd.C_drewN ?_ _) | (with_reducible refine Kd.C_drew ?_))); (case side2 => exact (Kd.R_reads' HO498.out).2.1); (case side3 => repeat (first | exact (Kd.R_reads' HO502.out).2.2 | (with_reducible refine Kd.C_alloc ?_ _) | (with_reducible refine Kd.C_drewN ?_ _) | (with_reducible refine Kd.C_drew ?_))); (case side4 => exact (Kd.R_reads' HO502.out).2.1); rintro e w' ⟨rfl, ⟨nd, rfl⟩⟩; (try first | exact ⟨rfl, _, World.drewN_drewN _ _ _⟩ | exact ⟨rfl, _, Eq.trans (World.drewN_drewN _ _ _) (congrArg (World.drewN _) (Nat.add_assoc _ _ _))⟩)))
         repeat (go_quiet (first | (go_at_call 68; (with_reducible refine (laws_ySame.calls kj39 _ _ t495 _ _ t499 t503 _ ?side1 ?side2 ?side3 ?side4 A91.out).mono ?_); (case side1 => repeat (first | exact (Kd.R_reads' HO498.out).2.2 | (with_reducible refine Kd.C_alloc ?_ _) | (with_reducible refine Kd.C_drewN ?_ _) | (with_reducible refine Kd.C_drew ?_))); (case side2 => exact (Kd.R_reads' HO498.out).2.1); (case side3 => repeat (first | exact (Kd.R_reads' HO502.out).2.2 | (with_reducible refine Kd.C_alloc ?_ _) | (with_reducible refine Kd.C_drewN ?_ _) | (with_reducible refine Kd.C_drew ?_))); (case side4 => exact (Kd.R_reads' HO502.out).2.1); rintro e w' ⟨rfl, ⟨nd, rfl⟩⟩; (try first | exact ⟨rfl, _, World.drewN_drewN _ _ _⟩ | exact ⟨rfl, _, Eq.trans (World.drewN_drewN _ _ _) (congrArg (World.drewN _) (Nat.add_assoc _ _ _))⟩))); try go_wp2_with (first | (go_at_call 68; (with_reducible refine (laws_ySame.calls kj39 _ _ t495 _ _ t499 t503 _ ?side1 ?side2 ?side3 ?side4 A91.out).mono ?_); (case side1 => repeat (first | exact (Kd.R_reads' HO498.out).2.2 | (with_reducible refine Kd.C_alloc ?_ _) | (with_reducible refine Kd.C_drewN ?_ _) | (with_reducible refine Kd.C_drew ?_))); (case side2 => exact (Kd.R_reads' HO498.out).2.1); (case side3 => repeat (first | exact (Kd.R_reads' HO502.out).2.2 | (with_reducible refine Kd.C_alloc ?_ _) | (with_reducible refine Kd.C_drewN ?_ _) | (with_reducible refine Kd.C_drew ?_))); (case side4 => exact (Kd.R_reads' HO502.out).2.1); rintro e w' ⟨rfl, ⟨nd, rfl⟩⟩; (try first | exact ⟨rfl, _, World.drewN_drewN _ _ _⟩ | exact ⟨rfl, _, Eq.trans (World.drewN_drewN _ _ _) (congrArg (World.drewN _) (Nat.add_assoc _ _ _))⟩))))
         go_meet
         case rel => exact ⟨_, (!t503), (by first | rfl | (simp; done) | (simp [*]; done)), H', ⟨by have := HJ16.out; have := HJ39.out; first | omega | exact Nat.le_refl _⟩, ⟨by (with_reducible repeat (first | apply Kd.R_alloc | apply Kd.R_drewN | apply Kd.R_drew)); exact Kd.R_mono HO492.out (fun _ hk => ⟨hk.1.1, hk.1.2⟩)⟩, ⟨by (with_reducible repeat (first | apply Kd.R_alloc | apply Kd.R_drewN | apply Kd.R_drew)); exact Kd.R_mono HO494.out (fun _ hk => ⟨hk.1.1, hk.1.2⟩)⟩, ⟨by (with_reducible repeat (first | apply Kd.R_alloc | apply Kd.R_drewN | apply Kd.R_drew)); exact Kd.R_mono HO498.out (fun _ hk => ⟨hk.1.1.2, hk.1.2⟩)⟩, ⟨by repeat (first | (with_reducible first | exact HB.out | apply below_alloc | apply pw_below_drewN | apply below_drew1) | exact HB.out)⟩⟩
       case rest => as_aux_lemma =>
        clear HC84
        try clear p2
        try clear c4
        try clear p4
        try clear q4
        try clear hx4
        try clear qi4
        try clear c5
        try clear c6
        try clear p6
        try clear c7
        try clear c8
        try clear c9
        try clear c41
        try clear p48
        try clear q48
        try clear hx48
        try clear qi48
        try clear c54
        try clear c55
        try clear c55b0
        try clear c55b1
        try clear c56
        try clear c56b0
        try clear c56b1
        try clear c57
        try clear c59
        try clear c60
        try clear c61
        try clear c61b0
        try clear c61b1
        try clear c63
        try clear c63b0
        try clear c63b1
        try clear c63b2
        try clear c64
        try clear p64
        try clear c65
        try clear c65b0
        try clear c65b1
        try clear c66
        try clear c66b0
        try clear c66b1
        try clear c67
        try clear c68
        try clear c68b0
        try clear c68b1
        try clear c69
        try clear c69b0
        try clear c69b1
        try clear c70
        try clear c70b0
        try clear c71
        try clear c71b0
        try clear c71b1
        try clear c71b2
        try clear c72
        try clear c72b0
        try clear c73
        try clear c73b0
        try clear c73b1
        try clear c73b2
        try clear c74
        try clear c75
        try clear c75b0
        try clear c75b1
        try clear c76
        try clear c76b0
        try clear c76b1
        try clear c77
        try clear c77b0
        try clear c78
        try clear c78b0
        try clear c78b1
        try clear c78b2
        try clear c79
        try clear c79b0
        try clear c80
        try clear c80b0
        try clear c80b1
        try clear c80b2
        try clear c90
        try clear c90b0
        try clear c90b1
        try clear c90b2
        try clear hx481_0
        try clear hx482_0
        try clear p2
        try clear p4
        try clear p48
        try clear p481
        try clear p482
        try clear p6
        try clear p64
        try clear q4
        try clear q48
        try clear q481
        try clear q482
        obtain ⟨kq, x331_83, rfl, HA, HJ83, HO_41, HO_42, HO_43, HB⟩ := hcut
        cases kq with
        | zero => exact absurd HA.out (by simp [laws_FnMeasures.j4])
        | succ kj83 =>
         have H := HA.out
         clear HA
         simp only [laws_FnMeasures.j4] at H
         by_cases c94 : x331_83 = true
         ·subst c94
          rw [if_pos rfl] at H
          cases H
         ·replace c94 := Bool.eq_false_iff.mpr c94
          subst c94
          have H1 : ((impl_IsMajorized.f kj83 t489 t490).bind fun bt504 => (if t496 = true then (if bt504.2 = true then (laws_FnMeasures.j5 kj83 t495 bt504.1) else (laws_FnMeasures.j5 kj83 t495 false)) else (laws_FnMeasures.j5 kj83 t495 false))) = some r := by rw [if_neg (show ¬ (false = true) by decide)] at H; exact H
          clear H
          have H := H1
          clear H1
          replace H := Option.bind_eq_some_iff.mp H
          obtain ⟨⟨t504, t505⟩, A950, H⟩ := H
          replace H : (if t496 = true then (if t505 = true then (laws_FnMeasures.j5 kj83 t495 t504) else (laws_FnMeasures.j5 kj83 t495 false)) else (laws_FnMeasures.j5 kj83 t495 false)) = some r := H
          have A95 := Aside0.mk A950
          clear A950
          have HC96 := Aside0.mk H
          clear H
          go_upto_region 41 with (first | (go_at_call 69; (with_reducible refine (impl_IsMajorized.calls kj83 _ _ t489 _ _ t490 t504 t505 _ ?side1 ?side2 ?side3 ?side4 A95.out).mono ?_); (case side1 => repeat (first | exact (Kd.R_reads' HO_41.out).2.2 | (with_reducible refine Kd.C_alloc ?_ _) | (with_reducible refine Kd.C_drewN ?_ _) | (with_reducible refine Kd.C_drew ?_))); (case side2 => exact (Kd.R_reads' HO_41.out).2.1); (case side3 => repeat (first | exact (Kd.R_reads' HO_42.out).2.2 | (with_reducible refine Kd.C_alloc ?_ _) | (with_reducible refine Kd.C_drewN ?_ _) | (with_reducible refine Kd.C_drew ?_))); (case side4 => exact (Kd.R_reads' HO_42.out).2.1); rintro e w97 ⟨rfl, hb⟩; have n0_ := Aside0.mk (Kd.R_below (by (with_reducible repeat (first | apply Kd.R_alloc | apply Kd.R_drewN | apply Kd.R_drew)); exact HO_41.out) hb); have n1_ := Aside0.mk (Kd.R_below (by (with_reducible repeat (first | apply Kd.R_alloc | apply Kd.R_drewN | apply Kd.R_drew)); exact HO_42.out) hb); have n2_ := Aside0.mk (Kd.R_below (by (with_reducible repeat (first | apply Kd.R_alloc | apply Kd.R_drewN | apply Kd.R_drew)); exact HO_43.out) hb); have n3_ := Aside0.mk (below_step (by repeat (first | (with_reducible first | exact HB.out | apply below_alloc | apply pw_below_drewN | apply below_drew1) | exact HB.out)) hb); clear HO_41; clear HO_42; clear HO_43; clear HB; have HO_41 := n0_; have HO_42 := n1_; have HO_43 := n2_; have HB := n3_; clear n0_ n1_ n2_ n3_; (try clear hb); (try clear hb2); (try clear hk); (try clear hi)))
          repeat (go_quiet (first | (go_at_call 69; (with_reducible refine (impl_IsMajorized.calls kj83 _ _ t489 _ _ t490 t504 t505 _ ?side1 ?side2 ?side3 ?side4 A95.out).mono ?_); (case side1 => repeat (first | exact (Kd.R_reads' HO_41.out).2.2 | (with_reducible refine Kd.C_alloc ?_ _) | (with_reducible refine Kd.C_drewN ?_ _) | (with_reducible refine Kd.C_drew ?_))); (case side2 => exact (Kd.R_reads' HO_41.out).2.1); (case side3 => repeat (first | exact (Kd.R_reads' HO_42.out).2.2 | (with_reducible refine Kd.C_alloc ?_ _) | (with_reducible refine Kd.C_drewN ?_ _) | (with_reducible refine Kd.C_drew ?_))); (case side4 => exact (Kd.R_reads' HO_42.out).2.1); rintro e w97 ⟨rfl, hb⟩; have n0_ := Aside0.mk (Kd.R_below (by (with_reducible repeat (first | apply Kd.R_alloc | apply Kd.R_drewN | apply Kd.R_drew)); exact HO_41.out) hb); have n1_ := Aside0.mk (Kd.R_below (by (with_reducible repeat (first | apply Kd.R_alloc | apply Kd.R_drewN | apply Kd.R_drew)); exact HO_42.out) hb); have n2_ := Aside0.mk (Kd.R_below (by (with_reducible repeat (first | apply Kd.R_alloc | apply Kd.R_drewN | apply Kd.R_drew)); exact HO_43.out) hb); have n3_ := Aside0.mk (below_step (by repeat (first | (with_reducible first | exact HB.out | apply below_alloc | apply pw_below_drewN | apply below_drew1) | exact HB.out)) hb); clear HO_41; clear HO_42; clear HO_43; clear HB; have HO_41 := n0_; have HO_42 := n1_; have HO_43 := n2_; have HB := n3_; clear n0_ n1_ n2_ n3_; (try clear hb); (try clear hb2); (try clear hk); (try clear hi))); go_upto_region 41 with (first | (go_at_call 69; (with_reducible refine (impl_IsMajorized.calls kj83 _ _ t489 _ _ t490 t504 t505 _ ?side1 ?side2 ?side3 ?side4 A95.out).mono ?_); (case side1 => repeat (first | exact (Kd.R_reads' HO_41.out).2.2 | (with_reducible refine Kd.C_alloc ?_ _) | (with_reducible refine Kd.C_drewN ?_ _) | (with_reducible refine Kd.C_drew ?_))); (case side2 => exact (Kd.R_reads' HO_41.out).2.1); (case side3 => repeat (first | exact (Kd.R_reads' HO_42.out).2.2 | (with_reducible refine Kd.C_alloc ?_ _) | (with_reducible refine Kd.C_drewN ?_ _) | (with_reducible refine Kd.C_drew ?_))); (case side4 => exact (Kd.R_reads' HO_42.out).2.1); rintro e w97 ⟨rfl, hb⟩; have n0_ := Aside0.mk (Kd.R_below (by (with_reducible repeat (first | apply Kd.R_alloc | apply Kd.R_drewN | apply Kd.R_drew)); exact HO_41.out) hb); have n1_ := Aside0.mk (Kd.R_below (by (with_reducible repeat (first | apply Kd.R_alloc | apply Kd.R_drewN | apply Kd.R_drew)); exact HO_42.out) hb); have n2_ := Aside0.mk (Kd.R_below (by (with_reducible repeat (first | apply Kd.R_alloc | apply Kd.R_drewN | apply Kd.R_drew)); exact HO_43.out) hb); have n3_ := Aside0.mk (below_step (by repeat (first | (with_reducible first | exact HB.out | apply below_alloc | apply pw_below_drewN | apply below_drew1) | exact HB.out)) hb); clear HO_41; clear HO_42; clear HO_43; clear HB; have HO_41 := n0_; have HO_42 := n1_; have HO_43 := n2_; have HB := n3_; clear n0_ n1_ n2_ n3_; (try clear hb); (try clear hb2); (try clear hk); (try clear hi))))
          (try simp only [Act.put, List.setIfInBounds_toArray, List.set_cons_zero, List.set_cons_succ])
          go_cut [344] (fun v344 wc => ∃ (kq : Nat) (x344_95 : Bool), v344 = .bool x344_95 ∧ Aside0 (laws_FnMeasures.j5 kq t495 x344_95 = some r) ∧ Aside0 (kq ≤ kj83) ∧ Aside0 (Kd.R (Kd.int .i64) 3 wc w.heap.size (fun _ => True) v497 t495) ∧ Aside0 (Below w.heap.size w wc))
          case first => as_aux_lemma =>
           have H := HC96.out
           clear HC96
           by_cases c98 : t496 = true
           ·subst c98
            have H1 : (if t505 = true then (laws_FnMeasures.j5 kj83 t495 t504) else (laws_FnMeasures.j5 kj83 t495 false)) = some r := by rw [if_pos rfl] at H; exact H
            clear H
            have H := H1
            clear H1
            by_cases c99 : t505 = true
            ·subst c99
             have H1 : (laws_FnMeasures.j5 kj83 t495 t504) = some r := by rw [if_pos rfl] at H; exact H
             clear H
             have H := H1
             clear H1
             have H' := Aside0.mk H
             clear H
             as_aux_lemma =>
             go_wp2
             repeat (go_quiet (fail); try go_wp2)
             go_meet
             case rel => exact ⟨_, (t504), (by first | rfl | (simp; done) | (simp [*]; done)), H', ⟨by have := HJ16.out; have := HJ39.out; have := HJ83.out; first | omega | exact Nat.le_refl _⟩, ⟨by (with_reducible repeat (first | apply Kd.R_alloc | apply Kd.R_drewN | apply Kd.R_drew)); exact Kd.R_mono HO_43.out (fun _ hk => trivial)⟩, ⟨by repeat (first | (with_reducible first | exact HB.out | apply below_alloc | apply pw_below_drewN | apply below_drew1) | exact HB.out)⟩⟩
            ·replace c99 := Bool.eq_false_iff.mpr c99
             subst c99
             have H1 : (laws_FnMeasures.j5 kj83 t495 false) = some r := by rw [if_neg (show ¬ (false = true) by decide)] at H; exact H
             clear H
             have H := H1
             clear H1
             have H' := Aside0.mk H
             clear H
             as_aux_lemma =>
             go_wp2
             repeat (go_quiet (fail); try go_wp2)
             go_meet
             case rel => exact ⟨_, (false), (by first | rfl | (simp; done) | (simp [*]; done)), H', ⟨by have := HJ16.out; have := HJ39.out; have := HJ83.out; first | omega | exact Nat.le_refl _⟩, ⟨by (with_reducible repeat (first | apply Kd.R_alloc | apply Kd.R_drewN | apply Kd.R_drew)); exact Kd.R_mono HO_43.out (fun _ hk => trivial)⟩, ⟨by repeat (first | (with_reducible first | exact HB.out | apply below_alloc | apply pw_below_drewN | apply below_drew1) | exact HB.out)⟩⟩
           ·replace c98 := Bool.eq_false_iff.mpr c98
            subst c98
            have H1 : (laws_FnMeasures.j5 kj83 t495 false) = some r := by rw [if_neg (show ¬ (false = true) by decide)] at H; exact H
            clear H
            have H := H1
            clear H1
            have H' := Aside0.mk H
            clear H
            as_aux_lemma =>
            go_wp2
            repeat (go_quiet (fail); try go_wp2)
            go_meet
            case rel => exact ⟨_, (false), (by first | rfl | (simp; done) | (simp [*]; done)), H', ⟨by have := HJ16.out; have := HJ39.out; have := HJ83.out; first | omega | exact Nat.le_refl _⟩, ⟨by (with_reducible repeat (first | apply Kd.R_alloc | apply Kd.R_drewN | apply Kd.R_drew)); exact Kd.R_mono HO_43.out (fun _ hk => trivial)⟩, ⟨by repeat (first | (with_reducible first | exact HB.out | apply below_alloc | apply pw_below_drewN | apply below_drew1) | exact HB.out)⟩⟩
          case rest => as_aux_lemma =>
           clear HC96
           try clear p2
           try clear c4
           try clear p4
           try clear q4
           try clear hx4
           try clear qi4
           try clear c5
           try clear c6
           try clear p6
           try clear c7
           try clear c8
           try clear c9
           try clear c41
           try clear p48
           try clear q48
           try clear hx48
           try clear qi48
           try clear c54
           try clear c55
           try clear c55b0
           try clear c55b1
           try clear c56
           try clear c56b0
           try clear c56b1
           try clear c57
           try clear c59
           try clear c60
           try clear c61
           try clear c61b0
           try clear c61b1
           try clear c63
           try clear c63b0
           try clear c63b1
           try clear c63b2
           try clear c64
           try clear p64
           try clear c65
           try clear c65b0
           try clear c65b1
           try clear c66
           try clear c66b0
           try clear c66b1
           try clear c67
           try clear c68
           try clear c68b0
           try clear c68b1
           try clear c69
           try clear c69b0
           try clear c69b1
           try clear c70
           try clear c70b0
           try clear c71
           try clear c71b0
           try clear c71b1
           try clear c71b2
           try clear c72
           try clear c72b0
           try clear c73
           try clear c73b0
           try clear c73b1
           try clear c73b2
           try clear c74
           try clear c75
           try clear c75b0
           try clear c75b1
           try clear c76
           try clear c76b0
           try clear c76b1
           try clear c77
           try clear c77b0
           try clear c78
           try clear c78b0
           try clear c78b1
           try clear c78b2
           try clear c79
           try clear c79b0
           try clear c80
           try clear c80b0
           try clear c80b1
           try clear c80b2
           try clear c90
           try clear c90b0
           try clear c90b1
           try clear c90b2
           try clear c94
           try clear c98
           try clear c99
           try clear hx481_0
           try clear hx482_0
           try clear p2
           try clear p4
           try clear p48
           try clear p481
           try clear p482
           try clear p6
           try clear p64
           try clear q4
           try clear q48
           try clear q481
           try clear q482
           obtain ⟨kq, x344_95, rfl, HA, HJ95, HO_43, HB⟩ := hcut
           cases kq with
           | zero => exact absurd HA.out (by simp [laws_FnMeasures.j5])
           | succ kj95 =>
            have H := HA.out
            clear HA
            simp only [laws_FnMeasures.j5] at H
            by_cases c100 : x344_95 = true
            ·subst c100
             have H1 : (laws_FnMeasures.l2 kj95 t495 (t495.length : Int) 0) = some r := by rw [if_pos rfl] at H; exact H
             clear H
             have H := H1
             clear H1
             have H' := Aside0.mk H
             clear H
             obtain ⟨Ao101, co101, eo101⟩ := Kd.R_slice HO_43.out
             subst eo101
             go_wp2
             repeat (go_quiet (fail); try go_wp2)
             go_loopg [347] kj95 (fun kq v347 w' => ∃ (x347_5 : Int), v347 = .int .i64 x347_5 ∧ Aside0 (laws_FnMeasures.l2 kq t495 (t495.length : Int) x347_5 = some r) ∧ Aside0 (kq ≤ kj95) ∧ Aside0 (Kd.R (Kd.int .i64) 3 w' w.heap.size (fun _ => True) (.slice Ao101 t495.length co101) t495) ∧ Aside0 (Below w.heap.size w w'))
             case atStart => exact ⟨(0), (by first | rfl | (simp; done) | (simp [*]; done)), H', ⟨Nat.le_refl _⟩, ⟨by (with_reducible repeat (first | apply Kd.R_alloc | apply Kd.R_drewN | apply Kd.R_drew)); exact HO_43.out⟩, ⟨by repeat (first | (with_reducible first | exact HB.out | apply below_alloc | apply pw_below_drewN | apply below_drew1) | exact HB.out)⟩⟩
             case round =>
              clear H'
              try clear c1
              try clear p2
              try clear c4
              try clear p4
              try clear q4
              try clear hx4
              try clear qi4
              try clear c5
              try clear c6
              try clear p6
              try clear c7
              try clear c8
              try clear c9
              try clear c10
              try clear c41
              try clear p48
              try clear q48
              try clear hx48
              try clear qi48
              try clear c54
              try clear c55
              try clear c55b0
              try clear c55b1
              try clear c56
              try clear c56b0
              try clear c56b1
              try clear c57
              try clear c59
              try clear c60
              try clear c61
              try clear c61b0
              try clear c61b1
              try clear c63
              try clear c63b0
              try clear c63b1
              try clear c63b2
              try clear c64
              try clear p64
              try clear c65
              try clear c65b0
              try clear c65b1
              try clear c66
              try clear c66b0
              try clear c66b1
              try clear c67
              try clear c68
              try clear c68b0
              try clear c68b1
              try clear c69
              try clear c69b0
              try clear c69b1
              try clear c70
              try clear c70b0
              try clear c71
              try clear c71b0
              try clear c71b1
              try clear c71b2
              try clear c72
              try clear c72b0
              try clear c73
              try clear c73b0
              try clear c73b1
              try clear c73b2
              try clear c74
              try clear c75
              try clear c75b0
              try clear c75b1
              try clear c76
              try clear c76b0
              try clear c76b1
              try clear c77
              try clear c77b0
              try clear c78
              try clear c78b0
              try clear c78b1
              try clear c78b2
              try clear c79
              try clear c79b0
              try clear c80
              try clear c80b0
              try clear c80b1
              try clear c80b2
              try clear c90
              try clear c90b0
              try clear c90b1
              try clear c90b2
              try clear c94
              try clear c98
              try clear c99
              try clear c100
              try clear hx481_0
              try clear hx482_0
              try clear p2
              try clear p4
              try clear p48
              try clear p481
              try clear p482
              try clear p6
              try clear p64
              try clear q4
              try clear q48
              try clear q481
              try clear q482
              obtain ⟨x347_5, rfl, HA, HK5, HO_345, HB⟩ := hrel
              cases gk with
              | zero => exact absurd HA.out (by simp [laws_FnMeasures.l2])
              | succ k5 =>
               have H := HA.out
               clear HA
               simp only [laws_FnMeasures.l2] at H
               by_cases c102 : x347_5 < (t495.length : Int)
               ·rw [if_pos c102] at H
                have c102b0 : decide (x347_5 < (t495.length : Int)) = true := decide_eq_true c102
                clear c102
                by_cases c103 : 0 ≤ x347_5
                ·rw [if_pos c103] at H
                 have c103b0 : decide (0 ≤ x347_5) = true := decide_eq_true c103
                 clear c103
                 by_cases c104 : x347_5 < (t495.length : Int)
                 ·rw [if_pos c104] at H
                  have c104b0 : decide (x347_5 < (t495.length : Int)) = true := decide_eq_true c104
                  clear c104
                  by_cases c105 : (rd t495 x347_5) > 0
                  ·rw [if_pos c105] at H
                   cases H
                  ·rw [if_neg c105] at H
                   have c105b0 : decide (0 < (rd t495 x347_5)) = false := decide_eq_false c105
                   clear c105
                   have H' := Aside0.mk H
                   clear H
                   have p506 : 0 ≤ (x347_5 : Int) := of_decide_eq_true (by first | (with_reducible assumption) | assumption)
                   have q506 : x347_5 < (t495.length : Int) := of_decide_eq_true (by first | (with_reducible assumption) | assumption)
                   obtain ⟨ad506, e506, hx506_0⟩ := Kd.at_int (Kd.R_reads' HO_345.out).2.2 x347_5 p506 q506
                   cases e506
                   replace p506 := eq_true p506
                   replace q506 := eq_true q506
                   go_wp2
                   repeat (go_quiet (fail); try go_wp2)
                   go_roundg k5
                   case measure => have := HJ16.out; have := HJ39.out; have := HJ83.out; have := HJ95.out; have := HK5.out; omega
                   case rel => exact ⟨(wrap64 (x347_5 + 1)), (by first | rfl | (simp; done) | (simp [*]; done)), H', ⟨by have := HJ16.out; have := HJ39.out; have := HJ83.out; have := HJ95.out; have := HK5.out; omega⟩, ⟨by (with_reducible repeat (first | apply Kd.R_alloc | apply Kd.R_drewN | apply Kd.R_drew)); exact HO_345.out⟩, ⟨by repeat (first | (with_reducible first | exact HB.out | apply below_alloc | apply pw_below_drewN | apply below_drew1) | exact HB.out)⟩⟩
                 ·rw [if_neg c104] at H
                  exact absurd H (by simp)
                ·rw [if_neg c103] at H
                 exact absurd H (by simp)
               ·rw [if_neg c102] at H
                have c102b0 : decide (x347_5 < (t495.length : Int)) = false := decide_eq_false c102
                clear c102
                obtain rfl := Option.some.inj H
                go_wp2
                repeat (go_quiet (fail); try go_wp2)
                go_ret
                exact ⟨by first | rfl | (simp [errW_none, errW_some] <;> rfl) | (simp [*, errW_none, errW_some] <;> rfl), by repeat (first | (with_reducible first | exact HB.out | apply below_alloc | apply pw_below_drewN | apply below_drew1) | exact HB.out)⟩
            ·replace c100 := Bool.eq_false_iff.mpr c100
             subst c100
             have H1 : (some true) = some r := by rw [if_neg (show ¬ (false = true) by decide)] at H; exact H
             clear H
             have H := H1
             clear H1
             obtain rfl := Option.some.inj H
             go_wp2
             repeat (go_quiet (fail); try go_wp2)
             go_ret
             exact ⟨by first | rfl | (simp [errW_none, errW_some] <;> rfl) | (simp [*, errW_none, errW_some] <;> rfl), by repeat (first | (with_reducible first | exact HB.out | apply below_alloc | apply pw_below_drewN | apply below_drew1) | exact HB.out)⟩

/-- THE ONE PURE STATEMENT of laws_FnMeasures: yours. -/
def laws_FnMeasures.Pure : Prop := ∀ (l0 : List Int) (l1 : List Int), l0.length ≤ maxLen → l0.length * 1 ≤ 140737488351232 → (∀ x ∈ l0, (Lit.int .u8 x).wf = true) → l1.length ≤ maxLen → l1.length * 1 ≤ 140737488351232 → (∀ x ∈ l1, (Lit.int .u8 x).wf = true) → ∃ k, laws_FnMeasures.f k l0 l1 = some true
theorem laws_FnMeasures.walk (P : laws_FnMeasures.Pure) (a0 : Option Addr) (len0 cap0 : Nat) (z0 : List Int) (a1 : Option Addr) (len1 cap1 : Nat) (z1 : List Int) (w : World) (w0 : (a0 = none ∧ len0 = 0 ∧ cap0 = 0 ∧ z0 = []) ∨ ∃ x, a0 = some x ∧ len0 ≤ cap0 ∧ cap0 ≤ maxLen ∧ z0.length = cap0 ∧ (∀ i, i < z0.length → w.cell? (x.add i) = some (.int .u8 (z0.getD i 0))) ∧ ∀ n ∈ z0, (Lit.int .u8 n).wf = true) (y0 : len0 * 1 ≤ 140737488351232) (w1 : (a1 = none ∧ len1 = 0 ∧ cap1 = 0 ∧ z1 = []) ∨ ∃ x, a1 = some x ∧ len1 ≤ cap1 ∧ cap1 ≤ maxLen ∧ z1.length = cap1 ∧ (∀ i, i < z1.length → w.cell? (x.add i) = some (.int .u8 (z1.getD i 0))) ∧ ∀ n ∈ z1, (Lit.int .u8 n).wf = true) (y1 : len1 * 1 ≤ 140737488351232) :
  Calls Try.prog 8 #[.slice a0 len0 cap0, .slice a1 len1 cap1] w fun e w' => e = .returned (.bool true) ∧ Below w.heap.size w w' := by
 obtain ⟨l0, rfl, hr0, hm0, hw0, hc0⟩ := ReadsInt.ofRowC w0
 obtain ⟨l1, rfl, hr1, hm1, hw1, hc1⟩ := ReadsInt.ofRowC w1
 obtain ⟨k, h⟩ := P l0 l1 hm0 y0 hw0 hm1 y1 hw1
 refine (laws_FnMeasures.calls k _ _ l0 _ _ l1 true w (Kd.C_of_reads (d := (0 : Int)) (h1 := fun _ => rfl) hr0) hc0 (Kd.C_of_reads (d := (0 : Int)) (h1 := fun _ => rfl) hr1) hc1 h).mono ?_
 rintro e w' ⟨rfl, hd⟩
 exact ⟨rfl, hd⟩

end Go.Proofs.Ytojklddddedoeaa.PFnMeasures
-- SLIM
