/- For each Go function that the law uses, a Lean function with the same answers and a proof that its call comes to them; the conditions stand in each theorem. (Written by a program of this session, turned from the print of the kit.) -/
import Derived.Test.YtojklddddedoeaaPFnTopx0
import Derived.Test.YtojklddddedoeaaPFnTopx1
import Derived.Test.YtojklddddedoeaaPFnTopx2
import Derived.Test.YtojklddddedoeaaPFnTopx3
import Derived.Test.YtojklddddedoeaaPFnTopx4
import Derived.Test.YtojklddddedoeaaPFnTopx7
import Derived.Test.YtojklddddedoeaaPFnTopx9
import Derived.Test.YtojklddddedoeaaPFnTopx12
import Derived.Test.YtojklddddedoeaaPFnTopx14
import Derived.Test.YtojklddddedoeaaPFnTopx15
namespace Go.Proofs.Ytojklddddedoeaa.PFnTop
open Go.RowKit Go.Proofs.YtojklddddedoeaaW.PrintWords Go.Proofs.YtojklddddedoeaaW.PrintLast Go.Proofs.YtojklddddedoeaaW.PrintMore
attribute [local go_sem] max2_int min2_int max_two min_two max_three min_three max_four min_four   -- for this text's walks alone
set_option linter.unusedVariables false
set_option linter.unusedSimpArgs false

/-! ### laws_FnTop: function 9 -/
mutual
def laws_FnTop.j0 : Nat → List Int → List Int → Bool → Bool → Bool → Option (Bool)
 | 0, _, _, _, _, _ => none
 | k + 1, x5, x6, x7, x10, x60 => if x60 = true then none else (if x10 = true then ((laws_pFit.f k x5 x6).bind fun t494 => (laws_FnTop.j1 k x5 x6 x7 (!t494))) else (laws_FnTop.j1 k x5 x6 x7 true))
def laws_FnTop.j1 : Nat → List Int → List Int → Bool → Bool → Option (Bool)
 | 0, _, _, _, _ => none
 | k + 1, x5, x6, x7, x68 => if x68 = true then (some (!x7)) else ((impl_RefusalOf.f k x5 x6).bind fun bt495 => ((impl_GiftPath.f k x5 x6).bind fun bt497 => ((impl_ThresholdRefusal.f k x5 x6).bind fun bt501 => ((impl_RankingOf.f k x5).bind fun bt503 => ((impl_RankingOf.f k x6).bind fun bt507 => ((impl_LoweringPlan.f k bt503.1 bt507.1).bind fun bt511 => (if bt503.2 = true then (if bt507.2 = true then (if (bt495.2 == x7) = true then none else (if (bt497.2 != x7) = true then none else (if (bt501.2 == x7) = true then none else (laws_FnTop.j2 k x5 x6 x7 bt497.1 bt503.1 bt507.1 bt511.1 (bt511.2 != x7))))) else none) else none)))))))
def laws_FnTop.j2 : Nat → List Int → List Int → Bool → List (S107) → List Int → List Int → List (List Int) → Bool → Option (Bool)
 | 0, _, _, _, _, _, _, _, _ => none
 | k + 1, x5, x6, x7, x13, x17, x19, x21, x130 => if x130 = true then none else (if x7 = true then ((impl_FollowGifts.f k x6 x13).bind fun bt515 => ((impl_PlanCost.f k x21).bind fun bt519 => ((impl_LineDistance.f k x17 x19).bind fun bt521 => ((impl_MeetOf.f k x5 x6).bind fun bt523 => ((impl_JoinOf.f k x5 x6).bind fun bt527 => (if bt515.2 = true then (if bt519.2 = true then (if bt521.2 = true then (if bt523.2 = true then (if bt527.2 = true then (if 0 ≤ (wrap64 ((bt515.1.length : Int) - 1)) then (if (wrap64 ((bt515.1.length : Int) - 1)) < (bt515.1.length : Int) then ((laws_pSame.f k (rd_L2 bt515.1 (wrap64 ((bt515.1.length : Int) - 1))) x17).bind fun t532 => (if t532 = true then (if bt519.1 = bt521.1 then ((laws_pSame.f k bt523.1 x17).bind fun t533 => (if t533 = true then ((laws_pSame.f k bt527.1 x19).bind fun t534 => (some t534)) else none)) else none) else none)) else (none)) else (none)) else none) else none) else none) else none) else none)))))) else (some true))
end
def laws_FnTop.f (k : Nat) (l0 : List Int) (l1 : List Int) : Option (Bool) := (laws_big.f l0 l1).bind fun t483 => (if t483 = true then (some true) else ((spec_DrawIsMajorized.f k l0).bind fun bt484 => ((impl_IsMajorized.f k bt484.1 bt484.2).bind fun bt490 => ((spec_IsMajorized.f k bt484.1 bt484.2).bind fun bt492 => (if (bt490.2 != bt492.2) = true then none else (laws_FnTop.j0 k bt484.1 bt484.2 bt490.1 bt492.2 (bt490.1 != bt492.1)))))))
theorem laws_FnTop.mono_l : ∀ k, (∀ y0 y1 y2 y3 y4, LeO (laws_FnTop.j0 k y0 y1 y2 y3 y4) (laws_FnTop.j0 (k + 1) y0 y1 y2 y3 y4)) ∧ (∀ y0 y1 y2 y3, LeO (laws_FnTop.j1 k y0 y1 y2 y3) (laws_FnTop.j1 (k + 1) y0 y1 y2 y3)) ∧ (∀ y0 y1 y2 y3 y4 y5 y6 y7, LeO (laws_FnTop.j2 k y0 y1 y2 y3 y4 y5 y6 y7) (laws_FnTop.j2 (k + 1) y0 y1 y2 y3 y4 y5 y6 y7))
 | 0 => ⟨fun _ _ _ _ _ r h => by simp [laws_FnTop.j0] at h, fun _ _ _ _ r h => by simp [laws_FnTop.j1] at h, fun _ _ _ _ _ _ _ _ r h => by simp [laws_FnTop.j2] at h⟩
 | k + 1 => by
  obtain ⟨ih0, ih1, ih2⟩ := laws_FnTop.mono_l k
  refine ⟨?_, ?_, ?_⟩
  ·intro y0 y1 y2 y3 y4
   unfold laws_FnTop.j0
   repeat' first
   | (with_reducible exact ih0 _ _ _ _ _)
   | (with_reducible exact ih1 _ _ _ _)
   | (with_reducible exact ih2 _ _ _ _ _ _ _ _)
   | (with_reducible exact impl_FollowGifts.mono _ _ _)
   | (with_reducible exact impl_GiftPath.mono _ _ _)
   | (with_reducible exact impl_IsMajorized.mono _ _ _)
   | (with_reducible exact impl_JoinOf.mono _ _ _)
   | (with_reducible exact impl_LineDistance.mono _ _ _)
   | (with_reducible exact impl_LoweringPlan.mono _ _ _)
   | (with_reducible exact impl_MeetOf.mono _ _ _)
   | (with_reducible exact impl_PlanCost.mono _ _)
   | (with_reducible exact impl_RankingOf.mono _ _)
   | (with_reducible exact impl_RefusalOf.mono _ _ _)
   | (with_reducible exact impl_ThresholdRefusal.mono _ _ _)
   | (with_reducible exact laws_pFit.mono _ _ _)
   | (with_reducible exact laws_pSame.mono _ _ _)
   | (with_reducible exact spec_DrawIsMajorized.mono _ _)
   | (with_reducible exact spec_IsMajorized.mono _ _ _)
   | (with_reducible exact LeO.refl _)
   | (with_reducible exact LeO.none _)
   | (with_reducible refine LeO.ite ?_ ?_)
   | (with_reducible refine LeO.bind ?_ (fun _ => ?_))
   | exact ih0 _ _ _ _ _
   | exact ih1 _ _ _ _
   | exact ih2 _ _ _ _ _ _ _ _
   | exact impl_FollowGifts.mono _ _ _
   | exact impl_GiftPath.mono _ _ _
   | exact impl_IsMajorized.mono _ _ _
   | exact impl_JoinOf.mono _ _ _
   | exact impl_LineDistance.mono _ _ _
   | exact impl_LoweringPlan.mono _ _ _
   | exact impl_MeetOf.mono _ _ _
   | exact impl_PlanCost.mono _ _
   | exact impl_RankingOf.mono _ _
   | exact impl_RefusalOf.mono _ _ _
   | exact impl_ThresholdRefusal.mono _ _ _
   | exact laws_pFit.mono _ _ _
   | exact laws_pSame.mono _ _ _
   | exact spec_DrawIsMajorized.mono _ _
   | exact spec_IsMajorized.mono _ _ _
   | exact LeO.none _
   | refine LeO.ite ?_ ?_
   | refine LeO.bind ?_ (fun _ => ?_)
  ·intro y0 y1 y2 y3
   unfold laws_FnTop.j1
   repeat' first
   | (with_reducible exact ih0 _ _ _ _ _)
   | (with_reducible exact ih1 _ _ _ _)
   | (with_reducible exact ih2 _ _ _ _ _ _ _ _)
   | (with_reducible exact impl_FollowGifts.mono _ _ _)
   | (with_reducible exact impl_GiftPath.mono _ _ _)
   | (with_reducible exact impl_IsMajorized.mono _ _ _)
   | (with_reducible exact impl_JoinOf.mono _ _ _)
   | (with_reducible exact impl_LineDistance.mono _ _ _)
   | (with_reducible exact impl_LoweringPlan.mono _ _ _)
   | (with_reducible exact impl_MeetOf.mono _ _ _)
   | (with_reducible exact impl_PlanCost.mono _ _)
   | (with_reducible exact impl_RankingOf.mono _ _)
   | (with_reducible exact impl_RefusalOf.mono _ _ _)
   | (with_reducible exact impl_ThresholdRefusal.mono _ _ _)
   | (with_reducible exact laws_pFit.mono _ _ _)
   | (with_reducible exact laws_pSame.mono _ _ _)
   | (with_reducible exact spec_DrawIsMajorized.mono _ _)
   | (with_reducible exact spec_IsMajorized.mono _ _ _)
   | (with_reducible exact LeO.refl _)
   | (with_reducible exact LeO.none _)
   | (with_reducible refine LeO.ite ?_ ?_)
   | (with_reducible refine LeO.bind ?_ (fun _ => ?_))
   | exact ih0 _ _ _ _ _
   | exact ih1 _ _ _ _
   | exact ih2 _ _ _ _ _ _ _ _
   | exact impl_FollowGifts.mono _ _ _
   | exact impl_GiftPath.mono _ _ _
   | exact impl_IsMajorized.mono _ _ _
   | exact impl_JoinOf.mono _ _ _
   | exact impl_LineDistance.mono _ _ _
   | exact impl_LoweringPlan.mono _ _ _
   | exact impl_MeetOf.mono _ _ _
   | exact impl_PlanCost.mono _ _
   | exact impl_RankingOf.mono _ _
   | exact impl_RefusalOf.mono _ _ _
   | exact impl_ThresholdRefusal.mono _ _ _
   | exact laws_pFit.mono _ _ _
   | exact laws_pSame.mono _ _ _
   | exact spec_DrawIsMajorized.mono _ _
   | exact spec_IsMajorized.mono _ _ _
   | exact LeO.none _
   | refine LeO.ite ?_ ?_
   | refine LeO.bind ?_ (fun _ => ?_)
  ·intro y0 y1 y2 y3 y4 y5 y6 y7
   unfold laws_FnTop.j2
   repeat' first
   | (with_reducible exact ih0 _ _ _ _ _)
   | (with_reducible exact ih1 _ _ _ _)
   | (with_reducible exact ih2 _ _ _ _ _ _ _ _)
   | (with_reducible exact impl_FollowGifts.mono _ _ _)
   | (with_reducible exact impl_GiftPath.mono _ _ _)
   | (with_reducible exact impl_IsMajorized.mono _ _ _)
   | (with_reducible exact impl_JoinOf.mono _ _ _)
   | (with_reducible exact impl_LineDistance.mono _ _ _)
   | (with_reducible exact impl_LoweringPlan.mono _ _ _)
   | (with_reducible exact impl_MeetOf.mono _ _ _)
   | (with_reducible exact impl_PlanCost.mono _ _)
   | (with_reducible exact impl_RankingOf.mono _ _)
   | (with_reducible exact impl_RefusalOf.mono _ _ _)
   | (with_reducible exact impl_ThresholdRefusal.mono _ _ _)
   | (with_reducible exact laws_pFit.mono _ _ _)
   | (with_reducible exact laws_pSame.mono _ _ _)
   | (with_reducible exact spec_DrawIsMajorized.mono _ _)
   | (with_reducible exact spec_IsMajorized.mono _ _ _)
   | (with_reducible exact LeO.refl _)
   | (with_reducible exact LeO.none _)
   | (with_reducible refine LeO.ite ?_ ?_)
   | (with_reducible refine LeO.bind ?_ (fun _ => ?_))
   | exact ih0 _ _ _ _ _
   | exact ih1 _ _ _ _
   | exact ih2 _ _ _ _ _ _ _ _
   | exact impl_FollowGifts.mono _ _ _
   | exact impl_GiftPath.mono _ _ _
   | exact impl_IsMajorized.mono _ _ _
   | exact impl_JoinOf.mono _ _ _
   | exact impl_LineDistance.mono _ _ _
   | exact impl_LoweringPlan.mono _ _ _
   | exact impl_MeetOf.mono _ _ _
   | exact impl_PlanCost.mono _ _
   | exact impl_RankingOf.mono _ _
   | exact impl_RefusalOf.mono _ _ _
   | exact impl_ThresholdRefusal.mono _ _ _
   | exact laws_pFit.mono _ _ _
   | exact laws_pSame.mono _ _ _
   | exact spec_DrawIsMajorized.mono _ _
   | exact spec_IsMajorized.mono _ _ _
   | exact LeO.none _
   | refine LeO.ite ?_ ?_
   | refine LeO.bind ?_ (fun _ => ?_)
theorem laws_FnTop.mono : ∀ a0 a1 k, LeO (laws_FnTop.f k a0 a1) (laws_FnTop.f (k + 1) a0 a1) := by
 intro a0 a1 k
 obtain ⟨ih0, ih1, ih2⟩ := laws_FnTop.mono_l k
 unfold laws_FnTop.f
 repeat' first
   | (with_reducible exact ih0 _ _ _ _ _)
   | (with_reducible exact ih1 _ _ _ _)
   | (with_reducible exact ih2 _ _ _ _ _ _ _ _)
   | (with_reducible exact impl_FollowGifts.mono _ _ _)
   | (with_reducible exact impl_GiftPath.mono _ _ _)
   | (with_reducible exact impl_IsMajorized.mono _ _ _)
   | (with_reducible exact impl_JoinOf.mono _ _ _)
   | (with_reducible exact impl_LineDistance.mono _ _ _)
   | (with_reducible exact impl_LoweringPlan.mono _ _ _)
   | (with_reducible exact impl_MeetOf.mono _ _ _)
   | (with_reducible exact impl_PlanCost.mono _ _)
   | (with_reducible exact impl_RankingOf.mono _ _)
   | (with_reducible exact impl_RefusalOf.mono _ _ _)
   | (with_reducible exact impl_ThresholdRefusal.mono _ _ _)
   | (with_reducible exact laws_pFit.mono _ _ _)
   | (with_reducible exact laws_pSame.mono _ _ _)
   | (with_reducible exact spec_DrawIsMajorized.mono _ _)
   | (with_reducible exact spec_IsMajorized.mono _ _ _)
   | (with_reducible exact LeO.refl _)
   | (with_reducible exact LeO.none _)
   | (with_reducible refine LeO.ite ?_ ?_)
   | (with_reducible refine LeO.bind ?_ (fun _ => ?_))
   | exact ih0 _ _ _ _ _
   | exact ih1 _ _ _ _
   | exact ih2 _ _ _ _ _ _ _ _
   | exact impl_FollowGifts.mono _ _ _
   | exact impl_GiftPath.mono _ _ _
   | exact impl_IsMajorized.mono _ _ _
   | exact impl_JoinOf.mono _ _ _
   | exact impl_LineDistance.mono _ _ _
   | exact impl_LoweringPlan.mono _ _ _
   | exact impl_MeetOf.mono _ _ _
   | exact impl_PlanCost.mono _ _
   | exact impl_RankingOf.mono _ _
   | exact impl_RefusalOf.mono _ _ _
   | exact impl_ThresholdRefusal.mono _ _ _
   | exact laws_pFit.mono _ _ _
   | exact laws_pSame.mono _ _ _
   | exact spec_DrawIsMajorized.mono _ _
   | exact spec_IsMajorized.mono _ _ _
   | exact LeO.none _
   | refine LeO.ite ?_ ?_
   | refine LeO.bind ?_ (fun _ => ?_)
set_option maxHeartbeats 8000000 in
set_option maxRecDepth 100000 in
-- NOFALSE
theorem laws_FnTop.calls (k : Nat) (A0 : Option Addr) (c0 : Nat) (l0 : List Int) (A1 : Option Addr) (c1 : Nat) (l1 : List Int) (r : Bool) (w : World) (hr0 : Kd.C (Kd.int .u8) w A0 l0.length l0) (hc0 : l0.length ≤ c0) (hr1 : Kd.C (Kd.int .u8) w A1 l1.length l1) (hc1 : l1.length ≤ c1) (h : laws_FnTop.f k l0 l1 = some r) :
  Calls Try.prog 9 #[.slice A0 l0.length c0, .slice A1 l1.length c1] w fun e w' => e = .returned (.bool r) ∧ Below w.heap.size w w' := by
 have HR0 := Aside0.mk hr0
 have HC0 := Aside0.mk hc0
 clear hr0 hc0
 have HR1 := Aside0.mk hr1
 have HC1 := Aside0.mk hc1
 clear hr1 hc1
 have HB := Aside0.mk (Below.refl w.heap.size w)
 have H : ((laws_big.f l0 l1).bind fun t483 => (if t483 = true then (some true) else ((spec_DrawIsMajorized.f k l0).bind fun bt484 => ((impl_IsMajorized.f k bt484.1 bt484.2).bind fun bt490 => ((spec_IsMajorized.f k bt484.1 bt484.2).bind fun bt492 => (if (bt490.2 != bt492.2) = true then none else (laws_FnTop.j0 k bt484.1 bt484.2 bt490.1 bt492.2 (bt490.1 != bt492.1)))))))) = some r := h
 clear h
 replace H := Option.bind_eq_some_iff.mp H
 obtain ⟨t483, A30, H⟩ := H
 replace H : (if t483 = true then (some true) else ((spec_DrawIsMajorized.f k l0).bind fun bt484 => ((impl_IsMajorized.f k bt484.1 bt484.2).bind fun bt490 => ((spec_IsMajorized.f k bt484.1 bt484.2).bind fun bt492 => (if (bt490.2 != bt492.2) = true then none else (laws_FnTop.j0 k bt484.1 bt484.2 bt490.1 bt492.2 (bt490.1 != bt492.1))))))) = some r := H
 have A3 := Aside0.mk A30
 clear A30
 by_cases c4 : t483 = true
 ·subst c4
  have H1 : (some true) = some r := by rw [if_pos rfl] at H; exact H
  clear H
  have H := H1
  clear H1
  obtain rfl := Option.some.inj H
  go_enter Try.func9, Try.ntmps9
  go_wp2_with (first | ((with_reducible refine gate_callee (f := 10) rfl ?_); refine goesL_ (some 35) rfl rfl Try.func10 (by kernel_rfl) rfl #[.slice A0 l0.length c0, .slice A1 l1.length c1] rfl (by (try simp only [List.map_toArray, List.map_cons, List.map_nil]); first | done | rfl | (simp only [List.length_drop, List.length_take]; rfl)) ?_; (with_reducible refine (laws_big.calls _ _ l0 _ _ l1 true _ ?side1 ?side2 ?side3 ?side4 A3.out).mono ?_); (case side1 => repeat (first | exact HR0.out | (with_reducible refine Kd.C_alloc ?_ _) | (with_reducible refine Kd.C_drewN ?_ _) | (with_reducible refine Kd.C_drew ?_))); (case side2 => exact HC0.out); (case side3 => repeat (first | exact HR1.out | (with_reducible refine Kd.C_alloc ?_ _) | (with_reducible refine Kd.C_drewN ?_ _) | (with_reducible refine Kd.C_drew ?_))); (case side4 => exact HC1.out); rintro e w' ⟨rfl, ⟨nd, rfl⟩⟩; refine ⟨_, rfl, ?_⟩))
  go_ret
  exact ⟨by first | rfl | (simp [errW_none, errW_some] <;> rfl) | (simp [*, errW_none, errW_some] <;> rfl), by repeat (first | (with_reducible first | exact HB.out | apply below_alloc | apply pw_below_drewN | apply below_drew1) | exact HB.out)⟩
 ·replace c4 := Bool.eq_false_iff.mpr c4
  subst c4
  have H1 : ((spec_DrawIsMajorized.f k l0).bind fun bt484 => ((impl_IsMajorized.f k bt484.1 bt484.2).bind fun bt490 => ((spec_IsMajorized.f k bt484.1 bt484.2).bind fun bt492 => (if (bt490.2 != bt492.2) = true then none else (laws_FnTop.j0 k bt484.1 bt484.2 bt490.1 bt492.2 (bt490.1 != bt492.1)))))) = some r := by rw [if_neg (show ¬ (false = true) by decide)] at H; exact H
  clear H
  have H := H1
  clear H1
  replace H := Option.bind_eq_some_iff.mp H
  obtain ⟨⟨t484, t485⟩, A50, H⟩ := H
  replace H : ((impl_IsMajorized.f k t484 t485).bind fun bt490 => ((spec_IsMajorized.f k t484 t485).bind fun bt492 => (if (bt490.2 != bt492.2) = true then none else (laws_FnTop.j0 k t484 t485 bt490.1 bt492.2 (bt490.1 != bt492.1))))) = some r := H
  have A5 := Aside0.mk A50
  clear A50
  replace H := Option.bind_eq_some_iff.mp H
  obtain ⟨⟨t490, t491⟩, A60, H⟩ := H
  replace H : ((spec_IsMajorized.f k t484 t485).bind fun bt492 => (if (t491 != bt492.2) = true then none else (laws_FnTop.j0 k t484 t485 t490 bt492.2 (t490 != bt492.1)))) = some r := H
  have A6 := Aside0.mk A60
  clear A60
  replace H := Option.bind_eq_some_iff.mp H
  obtain ⟨⟨t492, t493⟩, A70, H⟩ := H
  replace H : (if (t491 != t493) = true then none else (laws_FnTop.j0 k t484 t485 t490 t493 (t490 != t492))) = some r := H
  have A7 := Aside0.mk A70
  clear A70
  have HC8 := Aside0.mk H
  clear H
  go_enter Try.func9, Try.ntmps9
  go_upto_region 6 with (first | ((with_reducible refine gate_callee (f := 10) rfl ?_); refine goesL_ (some 35) rfl rfl Try.func10 (by kernel_rfl) rfl #[.slice A0 l0.length c0, .slice A1 l1.length c1] rfl (by (try simp only [List.map_toArray, List.map_cons, List.map_nil]); first | done | rfl | (simp only [List.length_drop, List.length_take]; rfl)) ?_; (with_reducible refine (laws_big.calls _ _ l0 _ _ l1 false _ ?side1 ?side2 ?side3 ?side4 A3.out).mono ?_); (case side1 => repeat (first | exact HR0.out | (with_reducible refine Kd.C_alloc ?_ _) | (with_reducible refine Kd.C_drewN ?_ _) | (with_reducible refine Kd.C_drew ?_))); (case side2 => exact HC0.out); (case side3 => repeat (first | exact HR1.out | (with_reducible refine Kd.C_alloc ?_ _) | (with_reducible refine Kd.C_drewN ?_ _) | (with_reducible refine Kd.C_drew ?_))); (case side4 => exact HC1.out); rintro e w' ⟨rfl, ⟨nd, rfl⟩⟩; refine ⟨_, rfl, ?_⟩) | ((with_reducible refine gate_callee (f := 70) rfl ?_); refine goesL_ (some 38) rfl rfl Try.func70 (by kernel_rfl) rfl #[.slice A0 l0.length c0] rfl (by (try simp only [List.map_toArray, List.map_cons, List.map_nil]); first | done | rfl | (simp only [List.length_drop, List.length_take]; rfl)) ?_; (with_reducible refine (spec_DrawIsMajorized.calls k _ _ l0 t484 t485 _ ?side1 ?side2 A5.out).mono ?_); (case side1 => repeat (first | exact HR0.out | (with_reducible refine Kd.C_alloc ?_ _) | (with_reducible refine Kd.C_drewN ?_ _) | (with_reducible refine Kd.C_drew ?_))); (case side2 => exact HC0.out); rintro e w9 ⟨v486, v488, rfl, ho0, ho1, hb⟩; refine ⟨_, rfl, ?_⟩; have n0_ := Aside0.mk (Kd.R_lower ho0 (below_size (by repeat (first | (with_reducible first | exact HB.out | apply below_alloc | apply pw_below_drewN | apply below_drew1) | exact HB.out)))); have n1_ := Aside0.mk (Kd.R_lower ho1 (below_size (by repeat (first | (with_reducible first | exact HB.out | apply below_alloc | apply pw_below_drewN | apply below_drew1) | exact HB.out)))); have n2_ := Aside0.mk (below_step (by repeat (first | (with_reducible first | exact HB.out | apply below_alloc | apply pw_below_drewN | apply below_drew1) | exact HB.out)) hb); clear HB; have HO487 := n0_; have HO489 := n1_; have HB := n2_; clear n0_ n1_ n2_; (try clear hb); (try clear hb2); (try clear hk); (try clear hi); (try clear ho0); (try clear ho1); obtain ⟨Ao10, co10, eo10⟩ := Kd.R_slice HO487.out; subst eo10; obtain ⟨Ao11, co11, eo11⟩ := Kd.R_slice HO489.out; subst eo11) | ((with_reducible refine gate_callee (f := 69) rfl ?_); refine goesL_ (some 44) rfl rfl Try.func69 (by kernel_rfl) rfl #[.slice Ao10 t484.length co10, .slice Ao11 t485.length co11] rfl (by (try simp only [List.map_toArray, List.map_cons, List.map_nil]); first | done | rfl | (simp only [List.length_drop, List.length_take]; rfl)) ?_; (with_reducible refine (impl_IsMajorized.calls k _ _ t484 _ _ t485 t490 t491 _ ?side1 ?side2 ?side3 ?side4 A6.out).mono ?_); (case side1 => repeat (first | exact (Kd.R_reads' HO487.out).2.2 | (with_reducible refine Kd.C_alloc ?_ _) | (with_reducible refine Kd.C_drewN ?_ _) | (with_reducible refine Kd.C_drew ?_))); (case side2 => exact (Kd.R_reads' HO487.out).2.1); (case side3 => repeat (first | exact (Kd.R_reads' HO489.out).2.2 | (with_reducible refine Kd.C_alloc ?_ _) | (with_reducible refine Kd.C_drewN ?_ _) | (with_reducible refine Kd.C_drew ?_))); (case side4 => exact (Kd.R_reads' HO489.out).2.1); rintro e w12 ⟨rfl, hb⟩; refine ⟨_, rfl, ?_⟩; have n0_ := Aside0.mk (Kd.R_below (by (with_reducible repeat (first | apply Kd.R_alloc | apply Kd.R_drewN | apply Kd.R_drew)); exact HO487.out) hb); have n1_ := Aside0.mk (Kd.R_below (by (with_reducible repeat (first | apply Kd.R_alloc | apply Kd.R_drewN | apply Kd.R_drew)); exact HO489.out) hb); have n2_ := Aside0.mk (below_step (by repeat (first | (with_reducible first | exact HB.out | apply below_alloc | apply pw_below_drewN | apply below_drew1) | exact HB.out)) hb); clear HO487; clear HO489; clear HB; have HO487 := n0_; have HO489 := n1_; have HB := n2_; clear n0_ n1_ n2_; (try clear hb); (try clear hb2); (try clear hk); (try clear hi)) | ((with_reducible refine gate_callee (f := 71) rfl ?_); refine goesL_ (some 50) rfl rfl Try.func71 (by kernel_rfl) rfl #[.slice Ao10 t484.length co10, .slice Ao11 t485.length co11] rfl (by (try simp only [List.map_toArray, List.map_cons, List.map_nil]); first | done | rfl | (simp only [List.length_drop, List.length_take]; rfl)) ?_; (with_reducible refine (spec_IsMajorized.calls k _ _ t484 _ _ t485 t492 t493 _ ?side1 ?side2 ?side3 ?side4 A7.out).mono ?_); (case side1 => repeat (first | exact (Kd.R_reads' HO487.out).2.2 | (with_reducible refine Kd.C_alloc ?_ _) | (with_reducible refine Kd.C_drewN ?_ _) | (with_reducible refine Kd.C_drew ?_))); (case side2 => exact (Kd.R_reads' HO487.out).2.1); (case side3 => repeat (first | exact (Kd.R_reads' HO489.out).2.2 | (with_reducible refine Kd.C_alloc ?_ _) | (with_reducible refine Kd.C_drewN ?_ _) | (with_reducible refine Kd.C_drew ?_))); (case side4 => exact (Kd.R_reads' HO489.out).2.1); rintro e w13 ⟨rfl, hb⟩; refine ⟨_, rfl, ?_⟩; have n0_ := Aside0.mk (Kd.R_below (by (with_reducible repeat (first | apply Kd.R_alloc | apply Kd.R_drewN | apply Kd.R_drew)); exact HO487.out) hb); have n1_ := Aside0.mk (Kd.R_below (by (with_reducible repeat (first | apply Kd.R_alloc | apply Kd.R_drewN | apply Kd.R_drew)); exact HO489.out) hb); have n2_ := Aside0.mk (below_step (by repeat (first | (with_reducible first | exact HB.out | apply below_alloc | apply pw_below_drewN | apply below_drew1) | exact HB.out)) hb); clear HO487; clear HO489; clear HB; have HO487 := n0_; have HO489 := n1_; have HB := n2_; clear n0_ n1_ n2_; (try clear hb); (try clear hb2); (try clear hk); (try clear hi)))
  (try simp only [Act.put, List.setIfInBounds_toArray, List.set_cons_zero, List.set_cons_succ])
  go_cut [60] (fun v60 wc => ∃ (kq : Nat) (x60_7 : Bool), v60 = .bool x60_7 ∧ Aside0 (laws_FnTop.j0 kq t484 t485 t490 t493 x60_7 = some r) ∧ Aside0 (kq ≤ k) ∧ Aside0 (Kd.R (Kd.int .i64) 3 wc w.heap.size (fun k_ => some k_ ≠ ((.slice Ao11 t485.length co11) : Value).ownBlock) (.slice Ao10 t484.length co10) t484) ∧ Aside0 (Kd.R (Kd.int .i64) 3 wc w.heap.size (fun k_ => some k_ ≠ ((.slice Ao10 t484.length co10) : Value).ownBlock) (.slice Ao11 t485.length co11) t485) ∧ Aside0 (Below w.heap.size w wc))
  case first => as_aux_lemma =>
   have H := HC8.out
   clear HC8
   by_cases c14 : (t491 != t493) = true
   ·rw [if_pos c14] at H
    cases H
   ·rw [if_neg c14] at H
    have c14b0 : (t491 != t493) = false := by simpa using c14
    (try (have c14b1 : decide (t491 = t493) = true := by simpa using c14))
    (try (have c14b2 : (t491 == t493) = true := by simpa using c14))
    clear c14
    (first | rw [c14b0] | (simp only [i64_w, i32_w]; rw [c14b0]) | skip)
    have H' := Aside0.mk H
    clear H
    go_wp2
    go_meet
    case rel => exact ⟨_, ((t490 != t492)), (by first | rfl | (simp; done) | (simp [*]; done)), H', ⟨by first | omega | exact Nat.le_refl _⟩, ⟨by (with_reducible repeat (first | apply Kd.R_alloc | apply Kd.R_drewN | apply Kd.R_drew)); exact HO487.out⟩, ⟨by (with_reducible repeat (first | apply Kd.R_alloc | apply Kd.R_drewN | apply Kd.R_drew)); exact HO489.out⟩, ⟨by repeat (first | (with_reducible first | exact HB.out | apply below_alloc | apply pw_below_drewN | apply below_drew1) | exact HB.out)⟩⟩
  case rest => as_aux_lemma =>
   clear HC8
   try clear c1
   try clear p2
   try clear c4
   try clear c6
   try clear c7
   try clear c9
   try clear c10
   try clear c14
   try clear c14b0
   try clear c14b1
   try clear c14b2
   obtain ⟨kq, x60_7, rfl, HA, HJ7, HO_5, HO_6, HB⟩ := hcut
   cases kq with
   | zero => exact absurd HA.out (by simp [laws_FnTop.j0])
   | succ kj7 =>
    have H := HA.out
    clear HA
    simp only [laws_FnTop.j0] at H
    by_cases c15 : x60_7 = true
    ·subst c15
     rw [if_pos rfl] at H
     cases H
    ·replace c15 := Bool.eq_false_iff.mpr c15
     subst c15
     have H1 : (if t493 = true then ((laws_pFit.f kj7 t484 t485).bind fun t494 => (laws_FnTop.j1 kj7 t484 t485 t490 (!t494))) else (laws_FnTop.j1 kj7 t484 t485 t490 true)) = some r := by rw [if_neg (show ¬ (false = true) by decide)] at H; exact H
     clear H
     have H := H1
     clear H1
     have HC16 := Aside0.mk H
     clear H
     go_upto_region 8 with (fail)
     go_cut [68] (fun v68 wc => ∃ (kq : Nat) (x68_15 : Bool), v68 = .bool x68_15 ∧ Aside0 (laws_FnTop.j1 kq t484 t485 t490 x68_15 = some r) ∧ Aside0 (kq ≤ kj7) ∧ Aside0 (Kd.R (Kd.int .i64) 3 wc w.heap.size (fun k_ => some k_ ≠ ((.slice Ao11 t485.length co11) : Value).ownBlock) (.slice Ao10 t484.length co10) t484) ∧ Aside0 (Kd.R (Kd.int .i64) 3 wc w.heap.size (fun k_ => some k_ ≠ ((.slice Ao10 t484.length co10) : Value).ownBlock) (.slice Ao11 t485.length co11) t485) ∧ Aside0 (Below w.heap.size w wc))
     case first => as_aux_lemma =>
      have H := HC16.out
      clear HC16
      by_cases c17 : t493 = true
      ·subst c17
       have H1 : ((laws_pFit.f kj7 t484 t485).bind fun t494 => (laws_FnTop.j1 kj7 t484 t485 t490 (!t494))) = some r := by rw [if_pos rfl] at H; exact H
       clear H
       have H := H1
       clear H1
       replace H := Option.bind_eq_some_iff.mp H
       obtain ⟨t494, A180, H⟩ := H
       replace H : (laws_FnTop.j1 kj7 t484 t485 t490 (!t494)) = some r := H
       have A18 := Aside0.mk A180
       clear A180
       have H' := Aside0.mk H
       clear H
       go_wp2_with (first | (go_at_call 45; (with_reducible refine (laws_pFit.calls kj7 _ _ t484 _ _ t485 t494 _ ?side1 ?side2 ?side3 ?side4 A18.out).mono ?_); (case side1 => repeat (first | exact (Kd.R_reads' HO_5.out).2.2 | (with_reducible refine Kd.C_alloc ?_ _) | (with_reducible refine Kd.C_drewN ?_ _) | (with_reducible refine Kd.C_drew ?_))); (case side2 => exact (Kd.R_reads' HO_5.out).2.1); (case side3 => repeat (first | exact (Kd.R_reads' HO_6.out).2.2 | (with_reducible refine Kd.C_alloc ?_ _) | (with_reducible refine Kd.C_drewN ?_ _) | (with_reducible refine Kd.C_drew ?_))); (case side4 => exact (Kd.R_reads' HO_6.out).2.1); rintro e w' ⟨rfl, ⟨nd, rfl⟩⟩))
       go_meet
       case rel => exact ⟨_, (!t494), (by first | rfl | (simp; done) | (simp [*]; done)), H', ⟨by have := HJ7.out; first | omega | exact Nat.le_refl _⟩, ⟨by (with_reducible repeat (first | apply Kd.R_alloc | apply Kd.R_drewN | apply Kd.R_drew)); exact HO_5.out⟩, ⟨by (with_reducible repeat (first | apply Kd.R_alloc | apply Kd.R_drewN | apply Kd.R_drew)); exact HO_6.out⟩, ⟨by repeat (first | (with_reducible first | exact HB.out | apply below_alloc | apply pw_below_drewN | apply below_drew1) | exact HB.out)⟩⟩
      ·replace c17 := Bool.eq_false_iff.mpr c17
       subst c17
       have H1 : (laws_FnTop.j1 kj7 t484 t485 t490 true) = some r := by rw [if_neg (show ¬ (false = true) by decide)] at H; exact H
       clear H
       have H := H1
       clear H1
       have H' := Aside0.mk H
       clear H
       go_wp2
       go_meet
       case rel => exact ⟨_, (true), (by first | rfl | (simp; done) | (simp [*]; done)), H', ⟨by have := HJ7.out; first | omega | exact Nat.le_refl _⟩, ⟨by (with_reducible repeat (first | apply Kd.R_alloc | apply Kd.R_drewN | apply Kd.R_drew)); exact HO_5.out⟩, ⟨by (with_reducible repeat (first | apply Kd.R_alloc | apply Kd.R_drewN | apply Kd.R_drew)); exact HO_6.out⟩, ⟨by repeat (first | (with_reducible first | exact HB.out | apply below_alloc | apply pw_below_drewN | apply below_drew1) | exact HB.out)⟩⟩
     case rest => as_aux_lemma =>
      clear HC16
      try clear c1
      try clear p2
      try clear c4
      try clear c6
      try clear c7
      try clear c9
      try clear c10
      try clear c14
      try clear c14b0
      try clear c14b1
      try clear c14b2
      try clear c15
      try clear c17
      try clear p2
      obtain ⟨kq, x68_15, rfl, HA, HJ15, HO_5, HO_6, HB⟩ := hcut
      cases kq with
      | zero => exact absurd HA.out (by simp [laws_FnTop.j1])
      | succ kj15 =>
       have H := HA.out
       clear HA
       simp only [laws_FnTop.j1] at H
       by_cases c19 : x68_15 = true
       ·subst c19
        have H1 : (some (!t490)) = some r := by rw [if_pos rfl] at H; exact H
        clear H
        have H := H1
        clear H1
        obtain rfl := Option.some.inj H
        go_wp2
        go_ret
        exact ⟨by first | rfl | (simp [errW_none, errW_some] <;> rfl) | (simp [*, errW_none, errW_some] <;> rfl), by repeat (first | (with_reducible first | exact HB.out | apply below_alloc | apply pw_below_drewN | apply below_drew1) | exact HB.out)⟩
       ·replace c19 := Bool.eq_false_iff.mpr c19
        subst c19
        have H1 : ((impl_RefusalOf.f kj15 t484 t485).bind fun bt495 => ((impl_GiftPath.f kj15 t484 t485).bind fun bt497 => ((impl_ThresholdRefusal.f kj15 t484 t485).bind fun bt501 => ((impl_RankingOf.f kj15 t484).bind fun bt503 => ((impl_RankingOf.f kj15 t485).bind fun bt507 => ((impl_LoweringPlan.f kj15 bt503.1 bt507.1).bind fun bt511 => (if bt503.2 = true then (if bt507.2 = true then (if (bt495.2 == t490) = true then none else (if (bt497.2 != t490) = true then none else (if (bt501.2 == t490) = true then none else (laws_FnTop.j2 kj15 t484 t485 t490 bt497.1 bt503.1 bt507.1 bt511.1 (bt511.2 != t490))))) else none) else none))))))) = some r := by rw [if_neg (show ¬ (false = true) by decide)] at H; exact H
        clear H
        have H := H1
        clear H1
        replace H := Option.bind_eq_some_iff.mp H
        obtain ⟨⟨t495, t496⟩, A200, H⟩ := H
        replace H : ((impl_GiftPath.f kj15 t484 t485).bind fun bt497 => ((impl_ThresholdRefusal.f kj15 t484 t485).bind fun bt501 => ((impl_RankingOf.f kj15 t484).bind fun bt503 => ((impl_RankingOf.f kj15 t485).bind fun bt507 => ((impl_LoweringPlan.f kj15 bt503.1 bt507.1).bind fun bt511 => (if bt503.2 = true then (if bt507.2 = true then (if (t496 == t490) = true then none else (if (bt497.2 != t490) = true then none else (if (bt501.2 == t490) = true then none else (laws_FnTop.j2 kj15 t484 t485 t490 bt497.1 bt503.1 bt507.1 bt511.1 (bt511.2 != t490))))) else none) else none)))))) = some r := H
        have A20 := Aside0.mk A200
        clear A200
        replace H := Option.bind_eq_some_iff.mp H
        obtain ⟨⟨t497, t498⟩, A210, H⟩ := H
        replace H : ((impl_ThresholdRefusal.f kj15 t484 t485).bind fun bt501 => ((impl_RankingOf.f kj15 t484).bind fun bt503 => ((impl_RankingOf.f kj15 t485).bind fun bt507 => ((impl_LoweringPlan.f kj15 bt503.1 bt507.1).bind fun bt511 => (if bt503.2 = true then (if bt507.2 = true then (if (t496 == t490) = true then none else (if (t498 != t490) = true then none else (if (bt501.2 == t490) = true then none else (laws_FnTop.j2 kj15 t484 t485 t490 t497 bt503.1 bt507.1 bt511.1 (bt511.2 != t490))))) else none) else none))))) = some r := H
        have A21 := Aside0.mk A210
        clear A210
        replace H := Option.bind_eq_some_iff.mp H
        obtain ⟨⟨t501, t502⟩, A220, H⟩ := H
        replace H : ((impl_RankingOf.f kj15 t484).bind fun bt503 => ((impl_RankingOf.f kj15 t485).bind fun bt507 => ((impl_LoweringPlan.f kj15 bt503.1 bt507.1).bind fun bt511 => (if bt503.2 = true then (if bt507.2 = true then (if (t496 == t490) = true then none else (if (t498 != t490) = true then none else (if (t502 == t490) = true then none else (laws_FnTop.j2 kj15 t484 t485 t490 t497 bt503.1 bt507.1 bt511.1 (bt511.2 != t490))))) else none) else none)))) = some r := H
        have A22 := Aside0.mk A220
        clear A220
        replace H := Option.bind_eq_some_iff.mp H
        obtain ⟨⟨t503, t504⟩, A230, H⟩ := H
        replace H : ((impl_RankingOf.f kj15 t485).bind fun bt507 => ((impl_LoweringPlan.f kj15 t503 bt507.1).bind fun bt511 => (if t504 = true then (if bt507.2 = true then (if (t496 == t490) = true then none else (if (t498 != t490) = true then none else (if (t502 == t490) = true then none else (laws_FnTop.j2 kj15 t484 t485 t490 t497 t503 bt507.1 bt511.1 (bt511.2 != t490))))) else none) else none))) = some r := H
        have A23 := Aside0.mk A230
        clear A230
        replace H := Option.bind_eq_some_iff.mp H
        obtain ⟨⟨t507, t508⟩, A240, H⟩ := H
        replace H : ((impl_LoweringPlan.f kj15 t503 t507).bind fun bt511 => (if t504 = true then (if t508 = true then (if (t496 == t490) = true then none else (if (t498 != t490) = true then none else (if (t502 == t490) = true then none else (laws_FnTop.j2 kj15 t484 t485 t490 t497 t503 t507 bt511.1 (bt511.2 != t490))))) else none) else none)) = some r := H
        have A24 := Aside0.mk A240
        clear A240
        replace H := Option.bind_eq_some_iff.mp H
        obtain ⟨⟨t511, t512⟩, A250, H⟩ := H
        replace H : (if t504 = true then (if t508 = true then (if (t496 == t490) = true then none else (if (t498 != t490) = true then none else (if (t502 == t490) = true then none else (laws_FnTop.j2 kj15 t484 t485 t490 t497 t503 t507 t511 (t512 != t490))))) else none) else none) = some r := H
        have A25 := Aside0.mk A250
        clear A250
        have HC26 := Aside0.mk H
        clear H
        go_upto_region 16 with (first | ((with_reducible refine gate_callee (f := 72) rfl ?_); refine goesL_ (some 74) rfl rfl Try.func72 (by kernel_rfl) rfl #[.slice Ao10 t484.length co10, .slice Ao11 t485.length co11] rfl (by (try simp only [List.map_toArray, List.map_cons, List.map_nil]); first | done | rfl | (simp only [List.length_drop, List.length_take]; rfl)) ?_; (with_reducible refine (impl_RefusalOf.calls kj15 _ _ t484 _ _ t485 t495 t496 _ ?side1 ?side2 ?side3 ?side4 A20.out).mono ?_); (case side1 => repeat (first | exact (Kd.R_reads' HO_5.out).2.2 | (with_reducible refine Kd.C_alloc ?_ _) | (with_reducible refine Kd.C_drewN ?_ _) | (with_reducible refine Kd.C_drew ?_))); (case side2 => exact (Kd.R_reads' HO_5.out).2.1); (case side3 => repeat (first | exact (Kd.R_reads' HO_6.out).2.2 | (with_reducible refine Kd.C_alloc ?_ _) | (with_reducible refine Kd.C_drewN ?_ _) | (with_reducible refine Kd.C_drew ?_))); (case side4 => exact (Kd.R_reads' HO_6.out).2.1); rintro e w27 ⟨rfl, hb⟩; refine ⟨_, rfl, ?_⟩; have n0_ := Aside0.mk (Kd.R_below (by (with_reducible repeat (first | apply Kd.R_alloc | apply Kd.R_drewN | apply Kd.R_drew)); exact HO_5.out) hb); have n1_ := Aside0.mk (Kd.R_below (by (with_reducible repeat (first | apply Kd.R_alloc | apply Kd.R_drewN | apply Kd.R_drew)); exact HO_6.out) hb); have n2_ := Aside0.mk (below_step (by repeat (first | (with_reducible first | exact HB.out | apply below_alloc | apply pw_below_drewN | apply below_drew1) | exact HB.out)) hb); clear HO_5; clear HO_6; clear HB; have HO_5 := n0_; have HO_6 := n1_; have HB := n2_; clear n0_ n1_ n2_; (try clear hb); (try clear hb2); (try clear hk); (try clear hi)) | ((with_reducible refine gate_callee (f := 73) rfl ?_); refine goesL_ (some 80) rfl rfl Try.func73 (by kernel_rfl) rfl #[.slice Ao10 t484.length co10, .slice Ao11 t485.length co11] rfl (by (try simp only [List.map_toArray, List.map_cons, List.map_nil]); first | done | rfl | (simp only [List.length_drop, List.length_take]; rfl)) ?_; (with_reducible refine (impl_GiftPath.calls kj15 _ _ t484 _ _ t485 t497 t498 _ ?side1 ?side2 ?side3 ?side4 A21.out).mono ?_); (case side1 => repeat (first | exact (Kd.R_reads' HO_5.out).2.2 | (with_reducible refine Kd.C_alloc ?_ _) | (with_reducible refine Kd.C_drewN ?_ _) | (with_reducible refine Kd.C_drew ?_))); (case side2 => exact (Kd.R_reads' HO_5.out).2.1); (case side3 => repeat (first | exact (Kd.R_reads' HO_6.out).2.2 | (with_reducible refine Kd.C_alloc ?_ _) | (with_reducible refine Kd.C_drewN ?_ _) | (with_reducible refine Kd.C_drew ?_))); (case side4 => exact (Kd.R_reads' HO_6.out).2.1); rintro e w28 ⟨v499, rfl, ho0, hb⟩; refine ⟨_, rfl, ?_⟩; have n0_ := Aside0.mk (Kd.R_below (by (with_reducible repeat (first | apply Kd.R_alloc | apply Kd.R_drewN | apply Kd.R_drew)); exact HO_5.out) hb); have n1_ := Aside0.mk (Kd.R_below (by (with_reducible repeat (first | apply Kd.R_alloc | apply Kd.R_drewN | apply Kd.R_drew)); exact HO_6.out) hb); have n2_ := Aside0.mk (Kd.R_lower ho0 (below_size (by repeat (first | (with_reducible first | exact HB.out | apply below_alloc | apply pw_below_drewN | apply below_drew1) | exact HB.out)))); have n3_ := Aside0.mk (below_step (by repeat (first | (with_reducible first | exact HB.out | apply below_alloc | apply pw_below_drewN | apply below_drew1) | exact HB.out)) hb); clear HO_5; clear HO_6; clear HB; have HO_5 := n0_; have HO_6 := n1_; have HO500 := n2_; have HB := n3_; clear n0_ n1_ n2_ n3_; (try clear hb); (try clear hb2); (try clear hk); (try clear hi); (try clear ho0)) | ((with_reducible refine gate_callee (f := 74) rfl ?_); refine goesL_ (some 86) rfl rfl Try.func74 (by kernel_rfl) rfl #[.slice Ao10 t484.length co10, .slice Ao11 t485.length co11] rfl (by (try simp only [List.map_toArray, List.map_cons, List.map_nil]); first | done | rfl | (simp only [List.length_drop, List.length_take]; rfl)) ?_; (with_reducible refine (impl_ThresholdRefusal.calls kj15 _ _ t484 _ _ t485 t501 t502 _ ?side1 ?side2 ?side3 ?side4 A22.out).mono ?_); (case side1 => repeat (first | exact (Kd.R_reads' HO_5.out).2.2 | (with_reducible refine Kd.C_alloc ?_ _) | (with_reducible refine Kd.C_drewN ?_ _) | (with_reducible refine Kd.C_drew ?_))); (case side2 => exact (Kd.R_reads' HO_5.out).2.1); (case side3 => repeat (first | exact (Kd.R_reads' HO_6.out).2.2 | (with_reducible refine Kd.C_alloc ?_ _) | (with_reducible refine Kd.C_drewN ?_ _) | (with_reducible refine Kd.C_drew ?_))); (case side4 => exact (Kd.R_reads' HO_6.out).2.1); rintro e w29 ⟨rfl, hb⟩; refine ⟨_, rfl, ?_⟩; have n0_ := Aside0.mk (Kd.R_below (by (with_reducible repeat (first | apply Kd.R_alloc | apply Kd.R_drewN | apply Kd.R_drew)); exact HO_5.out) hb); have n1_ := Aside0.mk (Kd.R_below (by (with_reducible repeat (first | apply Kd.R_alloc | apply Kd.R_drewN | apply Kd.R_drew)); exact HO_6.out) hb); have n2_ := Aside0.mk (Kd.R_below (by (with_reducible repeat (first | apply Kd.R_alloc | apply Kd.R_drewN | apply Kd.R_drew)); exact HO500.out) hb); have n3_ := Aside0.mk (below_step (by repeat (first | (with_reducible first | exact HB.out | apply below_alloc | apply pw_below_drewN | apply below_drew1) | exact HB.out)) hb); clear HO_5; clear HO_6; clear HO500; clear HB; have HO_5 := n0_; have HO_6 := n1_; have HO500 := n2_; have HB := n3_; clear n0_ n1_ n2_ n3_; (try clear hb); (try clear hb2); (try clear hk); (try clear hi)) | ((with_reducible refine gate_callee (f := 64) rfl ?_); refine goesL_ (some 91) rfl rfl Try.func64 (by kernel_rfl) rfl #[.slice Ao10 t484.length co10] rfl (by (try simp only [List.map_toArray, List.map_cons, List.map_nil]); first | done | rfl | (simp only [List.length_drop, List.length_take]; rfl)) ?_; (with_reducible refine (impl_RankingOf.calls kj15 _ _ t484 t503 t504 _ ?side1 ?side2 A23.out).mono ?_); (case side1 => repeat (first | exact (Kd.R_reads' HO_5.out).2.2 | (with_reducible refine Kd.C_alloc ?_ _) | (with_reducible refine Kd.C_drewN ?_ _) | (with_reducible refine Kd.C_drew ?_))); (case side2 => exact (Kd.R_reads' HO_5.out).2.1); rintro e w30 ⟨v505, rfl, ho0, hb⟩; refine ⟨_, rfl, ?_⟩; have n0_ := Aside0.mk (Kd.R_elder' (by (with_reducible repeat (first | apply Kd.R_alloc | apply Kd.R_drewN | apply Kd.R_drew)); exact HO_5.out) (Kd.R_base ho0) hb); have n1_ := Aside0.mk (Kd.R_elder' (by (with_reducible repeat (first | apply Kd.R_alloc | apply Kd.R_drewN | apply Kd.R_drew)); exact HO_6.out) (Kd.R_base ho0) hb); have n2_ := Aside0.mk (Kd.R_below (by (with_reducible repeat (first | apply Kd.R_alloc | apply Kd.R_drewN | apply Kd.R_drew)); exact HO500.out) hb); have n3_ := Aside0.mk (Kd.R_lower (Kd.R_new' (Kd.R_new' ho0 (Kd.R_lt (by (with_reducible repeat (first | apply Kd.R_alloc | apply Kd.R_drewN | apply Kd.R_drew)); exact HO_5.out))) (Kd.R_lt (by (with_reducible repeat (first | apply Kd.R_alloc | apply Kd.R_drewN | apply Kd.R_drew)); exact HO_6.out))) (below_size (by repeat (first | (with_reducible first | exact HB.out | apply below_alloc | apply pw_below_drewN | apply below_drew1) | exact HB.out)))); have n4_ := Aside0.mk (below_step (by repeat (first | (with_reducible first | exact HB.out | apply below_alloc | apply pw_below_drewN | apply below_drew1) | exact HB.out)) hb); clear HO_5; clear HO_6; clear HO500; clear HB; have HO_5 := n0_; have HO_6 := n1_; have HO500 := n2_; have HO506 := n3_; have HB := n4_; clear n0_ n1_ n2_ n3_ n4_; (try clear hb); (try clear hb2); (try clear hk); (try clear hi); (try clear ho0)) | ((with_reducible refine gate_callee (f := 64) rfl ?_); refine goesL_ (some 96) rfl rfl Try.func64 (by kernel_rfl) rfl #[.slice Ao11 t485.length co11] rfl (by (try simp only [List.map_toArray, List.map_cons, List.map_nil]); first | done | rfl | (simp only [List.length_drop, List.length_take]; rfl)) ?_; (with_reducible refine (impl_RankingOf.calls kj15 _ _ t485 t507 t508 _ ?side1 ?side2 A24.out).mono ?_); (case side1 => repeat (first | exact (Kd.R_reads' HO_6.out).2.2 | (with_reducible refine Kd.C_alloc ?_ _) | (with_reducible refine Kd.C_drewN ?_ _) | (with_reducible refine Kd.C_drew ?_))); (case side2 => exact (Kd.R_reads' HO_6.out).2.1); rintro e w31 ⟨v509, rfl, ho0, hb⟩; refine ⟨_, rfl, ?_⟩; have n0_ := Aside0.mk (Kd.R_elder' (by (with_reducible repeat (first | apply Kd.R_alloc | apply Kd.R_drewN | apply Kd.R_drew)); exact HO_5.out) (Kd.R_base ho0) hb); have n1_ := Aside0.mk (Kd.R_elder' (by (with_reducible repeat (first | apply Kd.R_alloc | apply Kd.R_drewN | apply Kd.R_drew)); exact HO_6.out) (Kd.R_base ho0) hb); have n2_ := Aside0.mk (Kd.R_below (by (with_reducible repeat (first | apply Kd.R_alloc | apply Kd.R_drewN | apply Kd.R_drew)); exact HO500.out) hb); have n3_ := Aside0.mk (Kd.R_elder' (by (with_reducible repeat (first | apply Kd.R_alloc | apply Kd.R_drewN | apply Kd.R_drew)); exact HO506.out) (Kd.R_base ho0) hb); have n4_ := Aside0.mk (Kd.R_lower (Kd.R_new' (Kd.R_new' (Kd.R_new' ho0 (Kd.R_lt (by (with_reducible repeat (first | apply Kd.R_alloc | apply Kd.R_drewN | apply Kd.R_drew)); exact HO_5.out))) (Kd.R_lt (by (with_reducible repeat (first | apply Kd.R_alloc | apply Kd.R_drewN | apply Kd.R_drew)); exact HO_6.out))) (Kd.R_lt (by (with_reducible repeat (first | apply Kd.R_alloc | apply Kd.R_drewN | apply Kd.R_drew)); exact HO506.out))) (below_size (by repeat (first | (with_reducible first | exact HB.out | apply below_alloc | apply pw_below_drewN | apply below_drew1) | exact HB.out)))); have n5_ := Aside0.mk (below_step (by repeat (first | (with_reducible first | exact HB.out | apply below_alloc | apply pw_below_drewN | apply below_drew1) | exact HB.out)) hb); clear HO_5; clear HO_6; clear HO500; clear HO506; clear HB; have HO_5 := n0_; have HO_6 := n1_; have HO500 := n2_; have HO506 := n3_; have HO510 := n4_; have HB := n5_; clear n0_ n1_ n2_ n3_ n4_ n5_; (try clear hb); (try clear hb2); (try clear hk); (try clear hi); (try clear ho0); obtain ⟨Ao32, co32, eo32⟩ := Kd.R_slice HO506.out; subst eo32; obtain ⟨Ao33, co33, eo33⟩ := Kd.R_slice HO510.out; subst eo33) | ((with_reducible refine gate_callee (f := 36) rfl ?_); refine goesL_ (some 102) rfl rfl Try.func36 (by kernel_rfl) rfl #[.slice Ao32 t503.length co32, .slice Ao33 t507.length co33] rfl (by (try simp only [List.map_toArray, List.map_cons, List.map_nil]); first | done | rfl | (simp only [List.length_drop, List.length_take]; rfl)) ?_; (with_reducible refine (impl_LoweringPlan.calls kj15 _ _ t503 _ _ t507 t511 t512 _ ?side1 ?side2 ?side3 ?side4 A25.out).mono ?_); (case side1 => repeat (first | exact (Kd.R_reads' HO506.out).2.2 | (with_reducible refine Kd.C_alloc ?_ _) | (with_reducible refine Kd.C_drewN ?_ _) | (with_reducible refine Kd.C_drew ?_))); (case side2 => exact (Kd.R_reads' HO506.out).2.1); (case side3 => repeat (first | exact (Kd.R_reads' HO510.out).2.2 | (with_reducible refine Kd.C_alloc ?_ _) | (with_reducible refine Kd.C_drewN ?_ _) | (with_reducible refine Kd.C_drew ?_))); (case side4 => exact (Kd.R_reads' HO510.out).2.1); rintro e w34 ⟨v513, rfl, ho0, hb⟩; refine ⟨_, rfl, ?_⟩; have n0_ := Aside0.mk (Kd.R_below (by (with_reducible repeat (first | apply Kd.R_alloc | apply Kd.R_drewN | apply Kd.R_drew)); exact HO_5.out) hb); have n1_ := Aside0.mk (Kd.R_below (by (with_reducible repeat (first | apply Kd.R_alloc | apply Kd.R_drewN | apply Kd.R_drew)); exact HO_6.out) hb); have n2_ := Aside0.mk (Kd.R_below (by (with_reducible repeat (first | apply Kd.R_alloc | apply Kd.R_drewN | apply Kd.R_drew)); exact HO500.out) hb); have n3_ := Aside0.mk (Kd.R_below (by (with_reducible repeat (first | apply Kd.R_alloc | apply Kd.R_drewN | apply Kd.R_drew)); exact HO506.out) hb); have n4_ := Aside0.mk (Kd.R_below (by (with_reducible repeat (first | apply Kd.R_alloc | apply Kd.R_drewN | apply Kd.R_drew)); exact HO510.out) hb); have n5_ := Aside0.mk (Kd.S_lower (Kd.S_new' (Kd.S_new' (Kd.S_new' (Kd.S_new' ho0 (Kd.R_lt (by (with_reducible repeat (first | apply Kd.R_alloc | apply Kd.R_drewN | apply Kd.R_drew)); exact HO_5.out))) (Kd.R_lt (by (with_reducible repeat (first | apply Kd.R_alloc | apply Kd.R_drewN | apply Kd.R_drew)); exact HO_6.out))) (Kd.R_lt (by (with_reducible repeat (first | apply Kd.R_alloc | apply Kd.R_drewN | apply Kd.R_drew)); exact HO506.out))) (Kd.R_lt (by (with_reducible repeat (first | apply Kd.R_alloc | apply Kd.R_drewN | apply Kd.R_drew)); exact HO510.out))) (below_size (by repeat (first | (with_reducible first | exact HB.out | apply below_alloc | apply pw_below_drewN | apply below_drew1) | exact HB.out)))); have n6_ := Aside0.mk (below_step (by repeat (first | (with_reducible first | exact HB.out | apply below_alloc | apply pw_below_drewN | apply below_drew1) | exact HB.out)) hb); clear HO_5; clear HO_6; clear HO500; clear HO506; clear HO510; clear HB; have HO_5 := n0_; have HO_6 := n1_; have HO500 := n2_; have HO506 := n3_; have HO510 := n4_; have HO514 := n5_; have HB := n6_; clear n0_ n1_ n2_ n3_ n4_ n5_ n6_; (try clear hb); (try clear hb2); (try clear hk); (try clear hi); (try clear ho0)))
        (try simp only [Act.put, List.setIfInBounds_toArray, List.set_cons_zero, List.set_cons_succ])
        go_cut [130] (fun v130 wc => ∃ (kq : Nat) (x130_25 : Bool), v130 = .bool x130_25 ∧ Aside0 (laws_FnTop.j2 kq t484 t485 t490 t497 t503 t507 t511 x130_25 = some r) ∧ Aside0 (kq ≤ kj15) ∧ Aside0 (Kd.R (Kd.int .i64) 3 wc w.heap.size (fun k_ => some k_ ≠ ((.slice Ao11 t485.length co11) : Value).ownBlock ∧ some k_ ≠ ((.slice Ao32 t503.length co32) : Value).ownBlock ∧ some k_ ≠ ((.slice Ao33 t507.length co33) : Value).ownBlock) (.slice Ao10 t484.length co10) t484) ∧ Aside0 (Kd.R (Kd.int .i64) 3 wc w.heap.size (fun k_ => some k_ ≠ ((.slice Ao10 t484.length co10) : Value).ownBlock ∧ some k_ ≠ ((.slice Ao32 t503.length co32) : Value).ownBlock ∧ some k_ ≠ ((.slice Ao33 t507.length co33) : Value).ownBlock) (.slice Ao11 t485.length co11) t485) ∧ Aside0 (Kd.R k107 107 wc w.heap.size (fun _ => True) v499 t497) ∧ Aside0 (Kd.R (Kd.int .i64) 3 wc w.heap.size (fun k_ => some k_ ≠ ((.slice Ao10 t484.length co10) : Value).ownBlock ∧ some k_ ≠ ((.slice Ao11 t485.length co11) : Value).ownBlock ∧ some k_ ≠ ((.slice Ao33 t507.length co33) : Value).ownBlock) (.slice Ao32 t503.length co32) t503) ∧ Aside0 (Kd.R (Kd.int .i64) 3 wc w.heap.size (fun k_ => some k_ ≠ ((.slice Ao10 t484.length co10) : Value).ownBlock ∧ some k_ ≠ ((.slice Ao11 t485.length co11) : Value).ownBlock ∧ some k_ ≠ ((.slice Ao32 t503.length co32) : Value).ownBlock) (.slice Ao33 t507.length co33) t507) ∧ Aside0 (Kd.S (Kd.slice 3 (Kd.int .i64)) 24 wc w.heap.size (fun k_ => some k_ ≠ ((.slice Ao10 t484.length co10) : Value).ownBlock ∧ some k_ ≠ ((.slice Ao11 t485.length co11) : Value).ownBlock ∧ some k_ ≠ ((.slice Ao32 t503.length co32) : Value).ownBlock ∧ some k_ ≠ ((.slice Ao33 t507.length co33) : Value).ownBlock) v513 t511) ∧ Aside0 (Below w.heap.size w wc))
        case first => as_aux_lemma =>
         have H := HC26.out
         clear HC26
         by_cases c35 : t504 = true
         ·subst c35
          have H1 : (if t508 = true then (if (t496 == t490) = true then none else (if (t498 != t490) = true then none else (if (t502 == t490) = true then none else (laws_FnTop.j2 kj15 t484 t485 t490 t497 t503 t507 t511 (t512 != t490))))) else none) = some r := by rw [if_pos rfl] at H; exact H
          clear H
          have H := H1
          clear H1
          by_cases c36 : t508 = true
          ·subst c36
           have H1 : (if (t496 == t490) = true then none else (if (t498 != t490) = true then none else (if (t502 == t490) = true then none else (laws_FnTop.j2 kj15 t484 t485 t490 t497 t503 t507 t511 (t512 != t490))))) = some r := by rw [if_pos rfl] at H; exact H
           clear H
           have H := H1
           clear H1
           by_cases c37 : (t496 == t490) = true
           ·rw [if_pos c37] at H
            cases H
           ·rw [if_neg c37] at H
            have c37b0 : (t496 == t490) = false := by simpa using c37
            (try (have c37b1 : decide (t496 = t490) = false := by simpa using c37))
            (try (have c37b2 : (t496 == t490) = false := by simpa using c37))
            (try (have c37b3 : ¬ (t496 = t490) := by simpa using c37))
            clear c37
            (first | rw [c37b0] | (simp only [i64_w, i32_w]; rw [c37b0]) | skip)
            by_cases c38 : (t498 != t490) = true
            ·rw [if_pos c38] at H
             cases H
            ·rw [if_neg c38] at H
             have c38b0 : (t498 != t490) = false := by simpa using c38
             (try (have c38b1 : decide (t498 = t490) = true := by simpa using c38))
             (try (have c38b2 : (t498 == t490) = true := by simpa using c38))
             clear c38
             by_cases c39 : (t502 == t490) = true
             ·rw [if_pos c39] at H
              cases H
             ·rw [if_neg c39] at H
              have c39b0 : (t502 == t490) = false := by simpa using c39
              (try (have c39b1 : decide (t502 = t490) = false := by simpa using c39))
              (try (have c39b2 : (t502 == t490) = false := by simpa using c39))
              (try (have c39b3 : ¬ (t502 = t490) := by simpa using c39))
              clear c39
              have H' := Aside0.mk H
              clear H
              go_wp2
              go_meet
              case rel => exact ⟨_, ((t512 != t490)), (by first | rfl | (simp; done) | (simp [*]; done)), H', ⟨by have := HJ7.out; have := HJ15.out; first | omega | exact Nat.le_refl _⟩, ⟨by (with_reducible repeat (first | apply Kd.R_alloc | apply Kd.R_drewN | apply Kd.R_drew)); exact Kd.R_mono HO_5.out (fun _ hk => ⟨hk.1.1, ⟨hk.1.2, hk.2⟩⟩)⟩, ⟨by (with_reducible repeat (first | apply Kd.R_alloc | apply Kd.R_drewN | apply Kd.R_drew)); exact Kd.R_mono HO_6.out (fun _ hk => ⟨hk.1.1, ⟨hk.1.2, hk.2⟩⟩)⟩, ⟨by (with_reducible repeat (first | apply Kd.R_alloc | apply Kd.R_drewN | apply Kd.R_drew)); exact HO500.out⟩, ⟨by (with_reducible repeat (first | apply Kd.R_alloc | apply Kd.R_drewN | apply Kd.R_drew)); exact Kd.R_mono HO506.out (fun _ hk => ⟨hk.1.1.2, ⟨hk.1.2, hk.2⟩⟩)⟩, ⟨by (with_reducible repeat (first | apply Kd.R_alloc | apply Kd.R_drewN | apply Kd.R_drew)); exact Kd.R_mono HO510.out (fun _ hk => ⟨hk.1.1.2, ⟨hk.1.2, hk.2⟩⟩)⟩, ⟨by (with_reducible repeat (first | apply Kd.S_alloc | apply Kd.S_drewN | apply Kd.S_drew)); exact Kd.S_mono HO514.out (fun _ hk => ⟨hk.1.1.1.2, ⟨hk.1.1.2, ⟨hk.1.2, hk.2⟩⟩⟩)⟩, ⟨by repeat (first | (with_reducible first | exact HB.out | apply below_alloc | apply pw_below_drewN | apply below_drew1) | exact HB.out)⟩⟩
          ·replace c36 := Bool.eq_false_iff.mpr c36
           subst c36
           have H1 : none = some r := by rw [if_neg (show ¬ (false = true) by decide)] at H; exact H
           cases H1
         ·replace c35 := Bool.eq_false_iff.mpr c35
          subst c35
          have H1 : none = some r := by rw [if_neg (show ¬ (false = true) by decide)] at H; exact H
          cases H1
        case rest => as_aux_lemma =>
         clear HC26
         try clear c1
         try clear p2
         try clear c3
         try clear c4
         try clear c6
         try clear c7
         try clear c9
         try clear c10
         try clear c14
         try clear c14b0
         try clear c14b1
         try clear c14b2
         try clear c15
         try clear c17
         try clear c19
         try clear c35
         try clear c36
         try clear c37
         try clear c37b0
         try clear c37b1
         try clear c37b2
         try clear c38
         try clear c38b0
         try clear c38b1
         try clear c38b2
         try clear c39
         try clear c39b0
         try clear c39b1
         try clear c39b2
         try clear p2
         obtain ⟨kq, x130_25, rfl, HA, HJ25, HO_5, HO_6, HO_13, HO_17, HO_19, HO_21, HB⟩ := hcut
         cases kq with
         | zero => exact absurd HA.out (by simp [laws_FnTop.j2])
         | succ kj25 =>
          have H := HA.out
          clear HA
          simp only [laws_FnTop.j2] at H
          by_cases c40 : x130_25 = true
          ·subst c40
           rw [if_pos rfl] at H
           cases H
          ·replace c40 := Bool.eq_false_iff.mpr c40
           subst c40
           have H1 : (if t490 = true then ((impl_FollowGifts.f kj25 t485 t497).bind fun bt515 => ((impl_PlanCost.f kj25 t511).bind fun bt519 => ((impl_LineDistance.f kj25 t503 t507).bind fun bt521 => ((impl_MeetOf.f kj25 t484 t485).bind fun bt523 => ((impl_JoinOf.f kj25 t484 t485).bind fun bt527 => (if bt515.2 = true then (if bt519.2 = true then (if bt521.2 = true then (if bt523.2 = true then (if bt527.2 = true then (if 0 ≤ (wrap64 ((bt515.1.length : Int) - 1)) then (if (wrap64 ((bt515.1.length : Int) - 1)) < (bt515.1.length : Int) then ((laws_pSame.f kj25 (rd_L2 bt515.1 (wrap64 ((bt515.1.length : Int) - 1))) t503).bind fun t532 => (if t532 = true then (if bt519.1 = bt521.1 then ((laws_pSame.f kj25 bt523.1 t503).bind fun t533 => (if t533 = true then ((laws_pSame.f kj25 bt527.1 t507).bind fun t534 => (some t534)) else none)) else none) else none)) else (none)) else (none)) else none) else none) else none) else none) else none)))))) else (some true)) = some r := by rw [if_neg (show ¬ (false = true) by decide)] at H; exact H
           clear H
           have H := H1
           clear H1
           by_cases c41 : t490 = true
           ·subst c41
            have H1 : ((impl_FollowGifts.f kj25 t485 t497).bind fun bt515 => ((impl_PlanCost.f kj25 t511).bind fun bt519 => ((impl_LineDistance.f kj25 t503 t507).bind fun bt521 => ((impl_MeetOf.f kj25 t484 t485).bind fun bt523 => ((impl_JoinOf.f kj25 t484 t485).bind fun bt527 => (if bt515.2 = true then (if bt519.2 = true then (if bt521.2 = true then (if bt523.2 = true then (if bt527.2 = true then (if 0 ≤ (wrap64 ((bt515.1.length : Int) - 1)) then (if (wrap64 ((bt515.1.length : Int) - 1)) < (bt515.1.length : Int) then ((laws_pSame.f kj25 (rd_L2 bt515.1 (wrap64 ((bt515.1.length : Int) - 1))) t503).bind fun t532 => (if t532 = true then (if bt519.1 = bt521.1 then ((laws_pSame.f kj25 bt523.1 t503).bind fun t533 => (if t533 = true then ((laws_pSame.f kj25 bt527.1 t507).bind fun t534 => (some t534)) else none)) else none) else none)) else (none)) else (none)) else none) else none) else none) else none) else none)))))) = some r := by rw [if_pos rfl] at H; exact H
            clear H
            have H := H1
            clear H1
            replace H := Option.bind_eq_some_iff.mp H
            obtain ⟨⟨t515, t516⟩, A420, H⟩ := H
            replace H : ((impl_PlanCost.f kj25 t511).bind fun bt519 => ((impl_LineDistance.f kj25 t503 t507).bind fun bt521 => ((impl_MeetOf.f kj25 t484 t485).bind fun bt523 => ((impl_JoinOf.f kj25 t484 t485).bind fun bt527 => (if t516 = true then (if bt519.2 = true then (if bt521.2 = true then (if bt523.2 = true then (if bt527.2 = true then (if 0 ≤ (wrap64 ((t515.length : Int) - 1)) then (if (wrap64 ((t515.length : Int) - 1)) < (t515.length : Int) then ((laws_pSame.f kj25 (rd_L2 t515 (wrap64 ((t515.length : Int) - 1))) t503).bind fun t532 => (if t532 = true then (if bt519.1 = bt521.1 then ((laws_pSame.f kj25 bt523.1 t503).bind fun t533 => (if t533 = true then ((laws_pSame.f kj25 bt527.1 t507).bind fun t534 => (some t534)) else none)) else none) else none)) else (none)) else (none)) else none) else none) else none) else none) else none))))) = some r := H
            have A42 := Aside0.mk A420
            clear A420
            replace H := Option.bind_eq_some_iff.mp H
            obtain ⟨⟨t519, t520⟩, A430, H⟩ := H
            replace H : ((impl_LineDistance.f kj25 t503 t507).bind fun bt521 => ((impl_MeetOf.f kj25 t484 t485).bind fun bt523 => ((impl_JoinOf.f kj25 t484 t485).bind fun bt527 => (if t516 = true then (if t520 = true then (if bt521.2 = true then (if bt523.2 = true then (if bt527.2 = true then (if 0 ≤ (wrap64 ((t515.length : Int) - 1)) then (if (wrap64 ((t515.length : Int) - 1)) < (t515.length : Int) then ((laws_pSame.f kj25 (rd_L2 t515 (wrap64 ((t515.length : Int) - 1))) t503).bind fun t532 => (if t532 = true then (if t519 = bt521.1 then ((laws_pSame.f kj25 bt523.1 t503).bind fun t533 => (if t533 = true then ((laws_pSame.f kj25 bt527.1 t507).bind fun t534 => (some t534)) else none)) else none) else none)) else (none)) else (none)) else none) else none) else none) else none) else none)))) = some r := H
            have A43 := Aside0.mk A430
            clear A430
            replace H := Option.bind_eq_some_iff.mp H
            obtain ⟨⟨t521, t522⟩, A440, H⟩ := H
            replace H : ((impl_MeetOf.f kj25 t484 t485).bind fun bt523 => ((impl_JoinOf.f kj25 t484 t485).bind fun bt527 => (if t516 = true then (if t520 = true then (if t522 = true then (if bt523.2 = true then (if bt527.2 = true then (if 0 ≤ (wrap64 ((t515.length : Int) - 1)) then (if (wrap64 ((t515.length : Int) - 1)) < (t515.length : Int) then ((laws_pSame.f kj25 (rd_L2 t515 (wrap64 ((t515.length : Int) - 1))) t503).bind fun t532 => (if t532 = true then (if t519 = t521 then ((laws_pSame.f kj25 bt523.1 t503).bind fun t533 => (if t533 = true then ((laws_pSame.f kj25 bt527.1 t507).bind fun t534 => (some t534)) else none)) else none) else none)) else (none)) else (none)) else none) else none) else none) else none) else none))) = some r := H
            have A44 := Aside0.mk A440
            clear A440
            replace H := Option.bind_eq_some_iff.mp H
            obtain ⟨⟨t523, t524⟩, A450, H⟩ := H
            replace H : ((impl_JoinOf.f kj25 t484 t485).bind fun bt527 => (if t516 = true then (if t520 = true then (if t522 = true then (if t524 = true then (if bt527.2 = true then (if 0 ≤ (wrap64 ((t515.length : Int) - 1)) then (if (wrap64 ((t515.length : Int) - 1)) < (t515.length : Int) then ((laws_pSame.f kj25 (rd_L2 t515 (wrap64 ((t515.length : Int) - 1))) t503).bind fun t532 => (if t532 = true then (if t519 = t521 then ((laws_pSame.f kj25 t523 t503).bind fun t533 => (if t533 = true then ((laws_pSame.f kj25 bt527.1 t507).bind fun t534 => (some t534)) else none)) else none) else none)) else (none)) else (none)) else none) else none) else none) else none) else none)) = some r := H
            have A45 := Aside0.mk A450
            clear A450
            replace H := Option.bind_eq_some_iff.mp H
            obtain ⟨⟨t527, t528⟩, A460, H⟩ := H
            replace H : (if t516 = true then (if t520 = true then (if t522 = true then (if t524 = true then (if t528 = true then (if 0 ≤ (wrap64 ((t515.length : Int) - 1)) then (if (wrap64 ((t515.length : Int) - 1)) < (t515.length : Int) then ((laws_pSame.f kj25 (rd_L2 t515 (wrap64 ((t515.length : Int) - 1))) t503).bind fun t532 => (if t532 = true then (if t519 = t521 then ((laws_pSame.f kj25 t523 t503).bind fun t533 => (if t533 = true then ((laws_pSame.f kj25 t527 t507).bind fun t534 => (some t534)) else none)) else none) else none)) else (none)) else (none)) else none) else none) else none) else none) else none) = some r := H
            have A46 := Aside0.mk A460
            clear A460
            by_cases c47 : t516 = true
            ·subst c47
             have H1 : (if t520 = true then (if t522 = true then (if t524 = true then (if t528 = true then (if 0 ≤ (wrap64 ((t515.length : Int) - 1)) then (if (wrap64 ((t515.length : Int) - 1)) < (t515.length : Int) then ((laws_pSame.f kj25 (rd_L2 t515 (wrap64 ((t515.length : Int) - 1))) t503).bind fun t532 => (if t532 = true then (if t519 = t521 then ((laws_pSame.f kj25 t523 t503).bind fun t533 => (if t533 = true then ((laws_pSame.f kj25 t527 t507).bind fun t534 => (some t534)) else none)) else none) else none)) else (none)) else (none)) else none) else none) else none) else none) = some r := by rw [if_pos rfl] at H; exact H
             clear H
             have H := H1
             clear H1
             by_cases c48 : t520 = true
             ·subst c48
              have H1 : (if t522 = true then (if t524 = true then (if t528 = true then (if 0 ≤ (wrap64 ((t515.length : Int) - 1)) then (if (wrap64 ((t515.length : Int) - 1)) < (t515.length : Int) then ((laws_pSame.f kj25 (rd_L2 t515 (wrap64 ((t515.length : Int) - 1))) t503).bind fun t532 => (if t532 = true then (if t519 = t521 then ((laws_pSame.f kj25 t523 t503).bind fun t533 => (if t533 = true then ((laws_pSame.f kj25 t527 t507).bind fun t534 => (some t534)) else none)) else none) else none)) else (none)) else (none)) else none) else none) else none) = some r := by rw [if_pos rfl] at H; exact H
              clear H
              have H := H1
              clear H1
              by_cases c49 : t522 = true
              ·subst c49
               have H1 : (if t524 = true then (if t528 = true then (if 0 ≤ (wrap64 ((t515.length : Int) - 1)) then (if (wrap64 ((t515.length : Int) - 1)) < (t515.length : Int) then ((laws_pSame.f kj25 (rd_L2 t515 (wrap64 ((t515.length : Int) - 1))) t503).bind fun t532 => (if t532 = true then (if t519 = t521 then ((laws_pSame.f kj25 t523 t503).bind fun t533 => (if t533 = true then ((laws_pSame.f kj25 t527 t507).bind fun t534 => (some t534)) else none)) else none) else none)) else (none)) else (none)) else none) else none) = some r := by rw [if_pos rfl] at H; exact H
               clear H
               have H := H1
               clear H1
               by_cases c50 : t524 = true
               ·subst c50
                have H1 : (if t528 = true then (if 0 ≤ (wrap64 ((t515.length : Int) - 1)) then (if (wrap64 ((t515.length : Int) - 1)) < (t515.length : Int) then ((laws_pSame.f kj25 (rd_L2 t515 (wrap64 ((t515.length : Int) - 1))) t503).bind fun t532 => (if t532 = true then (if t519 = t521 then ((laws_pSame.f kj25 t523 t503).bind fun t533 => (if t533 = true then ((laws_pSame.f kj25 t527 t507).bind fun t534 => (some t534)) else none)) else none) else none)) else (none)) else (none)) else none) = some r := by rw [if_pos rfl] at H; exact H
                clear H
                have H := H1
                clear H1
                by_cases c51 : t528 = true
                ·subst c51
                 have H1 : (if 0 ≤ (wrap64 ((t515.length : Int) - 1)) then (if (wrap64 ((t515.length : Int) - 1)) < (t515.length : Int) then ((laws_pSame.f kj25 (rd_L2 t515 (wrap64 ((t515.length : Int) - 1))) t503).bind fun t532 => (if t532 = true then (if t519 = t521 then ((laws_pSame.f kj25 t523 t503).bind fun t533 => (if t533 = true then ((laws_pSame.f kj25 t527 t507).bind fun t534 => (some t534)) else none)) else none) else none)) else (none)) else (none)) = some r := by rw [if_pos rfl] at H; exact H
                 clear H
                 have H := H1
                 clear H1
                 obtain ⟨ji52, hji52⟩ : ∃ j_ : Int, (wrap64 ((t515.length : Int) - 1)) = j_ := ⟨_, rfl⟩
                 replace H : (if 0 ≤ (ji52) then (if (ji52) < (t515.length : Int) then ((laws_pSame.f kj25 (rd_L2 t515 (ji52)) t503).bind fun t532 => (if t532 = true then (if t519 = t521 then ((laws_pSame.f kj25 t523 t503).bind fun t533 => (if t533 = true then ((laws_pSame.f kj25 t527 t507).bind fun t534 => (some t534)) else none)) else none) else none)) else (none)) else (none)) = some r := by first | (rw [hji52] at H; exact H) | (simp only [hji52] at H ⊢; exact H)
                 (try rw [hji52] at A42)
                 (try rw [hji52] at A43)
                 (try rw [hji52] at A44)
                 (try rw [hji52] at A45)
                 (try rw [hji52] at A46)
                 have hji52w : (IntKind.i64.wrap ((t515.length : Int) - 1)) = ji52 := (i64_w _).trans hji52
                 by_cases c53 : 0 ≤ (ji52)
                 ·rw [if_pos c53] at H
                  have c53b0 : decide (0 ≤ (ji52)) = true := decide_eq_true c53
                  clear c53
                  by_cases c54 : (ji52) < (t515.length : Int)
                  ·rw [if_pos c54] at H
                   have c54b0 : decide ((ji52) < (t515.length : Int)) = true := decide_eq_true c54
                   clear c54
                   replace H := Option.bind_eq_some_iff.mp H
                   obtain ⟨t532, A550, H⟩ := H
                   replace H : (if t532 = true then (if t519 = t521 then ((laws_pSame.f kj25 t523 t503).bind fun t533 => (if t533 = true then ((laws_pSame.f kj25 t527 t507).bind fun t534 => (some t534)) else none)) else none) else none) = some r := H
                   have A55 := Aside0.mk A550
                   clear A550
                   by_cases c56 : t532 = true
                   ·subst c56
                    have H1 : (if t519 = t521 then ((laws_pSame.f kj25 t523 t503).bind fun t533 => (if t533 = true then ((laws_pSame.f kj25 t527 t507).bind fun t534 => (some t534)) else none)) else none) = some r := by rw [if_pos rfl] at H; exact H
                    clear H
                    have H := H1
                    clear H1
                    by_cases c57 : t519 = t521
                    ·rw [if_pos c57] at H
                     have c57b0 : (t519 == t521) = true := beq_iff_eq.mpr c57
                     have c57b1 : (t519 != t521) = false := bne_eq_false_iff_eq.mpr c57
                     clear c57
                     replace H := Option.bind_eq_some_iff.mp H
                     obtain ⟨t533, A580, H⟩ := H
                     replace H : (if t533 = true then ((laws_pSame.f kj25 t527 t507).bind fun t534 => (some t534)) else none) = some r := H
                     have A58 := Aside0.mk A580
                     clear A580
                     by_cases c59 : t533 = true
                     ·subst c59
                      have H1 : ((laws_pSame.f kj25 t527 t507).bind fun t534 => (some t534)) = some r := by rw [if_pos rfl] at H; exact H
                      clear H
                      have H := H1
                      clear H1
                      replace H := Option.bind_eq_some_iff.mp H
                      obtain ⟨t534, A600, H⟩ := H
                      replace H : (some t534) = some r := H
                      have A60 := Aside0.mk A600
                      clear A600
                      obtain rfl := Option.some.inj H
                      obtain ⟨Ao61, co61, eo61⟩ := Kd.R_slice HO_13.out
                      subst eo61
                      go_wp2_with (first | ((with_reducible refine gate_callee (f := 75) rfl ?_); refine goesL_ (some 136) rfl rfl Try.func75 (by kernel_rfl) rfl #[.slice Ao11 t485.length co11, .slice Ao61 t497.length co61] rfl (by (try simp only [List.map_toArray, List.map_cons, List.map_nil]); first | done | rfl | (simp only [List.length_drop, List.length_take]; rfl)) ?_; (with_reducible refine (impl_FollowGifts.calls kj25 _ _ t485 _ _ t497 t515 true _ ?side1 ?side2 ?side3 ?side4 A42.out).mono ?_); (case side1 => repeat (first | exact (Kd.R_reads' HO_6.out).2.2 | (with_reducible refine Kd.C_alloc ?_ _) | (with_reducible refine Kd.C_drewN ?_ _) | (with_reducible refine Kd.C_drew ?_))); (case side2 => exact (Kd.R_reads' HO_6.out).2.1); (case side3 => repeat (first | exact (Kd.R_reads' HO_13.out).2.2 | (with_reducible refine Kd.C_alloc ?_ _) | (with_reducible refine Kd.C_drewN ?_ _) | (with_reducible refine Kd.C_drew ?_))); (case side4 => exact (Kd.R_reads' HO_13.out).2.1); rintro e w62 ⟨v517, rfl, ho0, hb⟩; refine ⟨_, rfl, ?_⟩; have n0_ := Aside0.mk (Kd.R_below (by (with_reducible repeat (first | apply Kd.R_alloc | apply Kd.R_drewN | apply Kd.R_drew)); exact HO_5.out) hb); have n1_ := Aside0.mk (Kd.R_below (by (with_reducible repeat (first | apply Kd.R_alloc | apply Kd.R_drewN | apply Kd.R_drew)); exact HO_6.out) hb); have n2_ := Aside0.mk (Kd.R_below (by (with_reducible repeat (first | apply Kd.R_alloc | apply Kd.R_drewN | apply Kd.R_drew)); exact HO_13.out) hb); have n3_ := Aside0.mk (Kd.R_below (by (with_reducible repeat (first | apply Kd.R_alloc | apply Kd.R_drewN | apply Kd.R_drew)); exact HO_17.out) hb); have n4_ := Aside0.mk (Kd.R_below (by (with_reducible repeat (first | apply Kd.R_alloc | apply Kd.R_drewN | apply Kd.R_drew)); exact HO_19.out) hb); have n5_ := Aside0.mk (Kd.S_elder' (by (with_reducible repeat (first | apply Kd.S_alloc | apply Kd.S_drewN | apply Kd.S_drew)); exact HO_21.out) (Kd.S_base ho0) hb); have n6_ := Aside0.mk (Kd.S_lower (Kd.S_new' (Kd.S_new' (Kd.S_new' (Kd.S_new' (Kd.S_new' ho0 (Kd.R_lt (by (with_reducible repeat (first | apply Kd.R_alloc | apply Kd.R_drewN | apply Kd.R_drew)); exact HO_5.out))) (Kd.R_lt (by (with_reducible repeat (first | apply Kd.R_alloc | apply Kd.R_drewN | apply Kd.R_drew)); exact HO_6.out))) (Kd.R_lt (by (with_reducible repeat (first | apply Kd.R_alloc | apply Kd.R_drewN | apply Kd.R_drew)); exact HO_17.out))) (Kd.R_lt (by (with_reducible repeat (first | apply Kd.R_alloc | apply Kd.R_drewN | apply Kd.R_drew)); exact HO_19.out))) (Kd.S_lt (by (with_reducible repeat (first | apply Kd.S_alloc | apply Kd.S_drewN | apply Kd.S_drew)); exact HO_21.out))) (below_size (by repeat (first | (with_reducible first | exact HB.out | apply below_alloc | apply pw_below_drewN | apply below_drew1) | exact HB.out)))); have n7_ := Aside0.mk (below_step (by repeat (first | (with_reducible first | exact HB.out | apply below_alloc | apply pw_below_drewN | apply below_drew1) | exact HB.out)) hb); clear HO_5; clear HO_6; clear HO_13; clear HO_17; clear HO_19; clear HO_21; clear HB; have HO_5 := n0_; have HO_6 := n1_; have HO_13 := n2_; have HO_17 := n3_; have HO_19 := n4_; have HO_21 := n5_; have HO518 := n6_; have HB := n7_; clear n0_ n1_ n2_ n3_ n4_ n5_ n6_ n7_; (try clear hb); (try clear hb2); (try clear hk); (try clear hi); (try clear ho0); obtain ⟨Ao63, co63, eo63⟩ := Kd.S_slice HO_21.out; subst eo63) | ((with_reducible refine gate_callee (f := 18) rfl ?_); refine goesL_ (some 141) rfl rfl Try.func18 (by kernel_rfl) rfl #[.slice Ao63 t511.length co63] rfl (by (try simp only [List.map_toArray, List.map_cons, List.map_nil]); first | done | rfl | (simp only [List.length_drop, List.length_take]; rfl)) ?_; (with_reducible refine (impl_PlanCost.calls kj25 _ _ t511 t519 true _ ?side1 ?side2 A43.out).mono ?_); (case side1 => repeat (first | exact (Kd.S_reads' HO_21.out).2.2 | (with_reducible refine Kd.C_alloc ?_ _) | (with_reducible refine Kd.C_drewN ?_ _) | (with_reducible refine Kd.C_drew ?_))); (case side2 => exact (Kd.S_reads' HO_21.out).2.1); rintro e w64 ⟨rfl, hb⟩; refine ⟨_, rfl, ?_⟩; have n0_ := Aside0.mk (Kd.R_below (by (with_reducible repeat (first | apply Kd.R_alloc | apply Kd.R_drewN | apply Kd.R_drew)); exact HO_5.out) hb); have n1_ := Aside0.mk (Kd.R_below (by (with_reducible repeat (first | apply Kd.R_alloc | apply Kd.R_drewN | apply Kd.R_drew)); exact HO_6.out) hb); have n2_ := Aside0.mk (Kd.R_below (by (with_reducible repeat (first | apply Kd.R_alloc | apply Kd.R_drewN | apply Kd.R_drew)); exact HO_13.out) hb); have n3_ := Aside0.mk (Kd.R_below (by (with_reducible repeat (first | apply Kd.R_alloc | apply Kd.R_drewN | apply Kd.R_drew)); exact HO_17.out) hb); have n4_ := Aside0.mk (Kd.R_below (by (with_reducible repeat (first | apply Kd.R_alloc | apply Kd.R_drewN | apply Kd.R_drew)); exact HO_19.out) hb); have n5_ := Aside0.mk (Kd.S_below (by (with_reducible repeat (first | apply Kd.S_alloc | apply Kd.S_drewN | apply Kd.S_drew)); exact HO_21.out) hb); have n6_ := Aside0.mk (Kd.S_below (by (with_reducible repeat (first | apply Kd.S_alloc | apply Kd.S_drewN | apply Kd.S_drew)); exact HO518.out) hb); have n7_ := Aside0.mk (below_step (by repeat (first | (with_reducible first | exact HB.out | apply below_alloc | apply pw_below_drewN | apply below_drew1) | exact HB.out)) hb); clear HO_5; clear HO_6; clear HO_13; clear HO_17; clear HO_19; clear HO_21; clear HO518; clear HB; have HO_5 := n0_; have HO_6 := n1_; have HO_13 := n2_; have HO_17 := n3_; have HO_19 := n4_; have HO_21 := n5_; have HO518 := n6_; have HB := n7_; clear n0_ n1_ n2_ n3_ n4_ n5_ n6_ n7_; (try clear hb); (try clear hb2); (try clear hk); (try clear hi)) | ((with_reducible refine gate_callee (f := 14) rfl ?_); refine goesL_ (some 147) rfl rfl Try.func14 (by kernel_rfl) rfl #[.slice Ao32 t503.length co32, .slice Ao33 t507.length co33] rfl (by (try simp only [List.map_toArray, List.map_cons, List.map_nil]); first | done | rfl | (simp only [List.length_drop, List.length_take]; rfl)) ?_; (with_reducible refine (impl_LineDistance.calls kj25 _ _ t503 _ _ t507 t521 true _ ?side1 ?side2 ?side3 ?side4 A44.out).mono ?_); (case side1 => repeat (first | exact (Kd.R_reads' HO_17.out).2.2 | (with_reducible refine Kd.C_alloc ?_ _) | (with_reducible refine Kd.C_drewN ?_ _) | (with_reducible refine Kd.C_drew ?_))); (case side2 => exact (Kd.R_reads' HO_17.out).2.1); (case side3 => repeat (first | exact (Kd.R_reads' HO_19.out).2.2 | (with_reducible refine Kd.C_alloc ?_ _) | (with_reducible refine Kd.C_drewN ?_ _) | (with_reducible refine Kd.C_drew ?_))); (case side4 => exact (Kd.R_reads' HO_19.out).2.1); rintro e w65 ⟨rfl, hb⟩; refine ⟨_, rfl, ?_⟩; have n0_ := Aside0.mk (Kd.R_below (by (with_reducible repeat (first | apply Kd.R_alloc | apply Kd.R_drewN | apply Kd.R_drew)); exact HO_5.out) hb); have n1_ := Aside0.mk (Kd.R_below (by (with_reducible repeat (first | apply Kd.R_alloc | apply Kd.R_drewN | apply Kd.R_drew)); exact HO_6.out) hb); have n2_ := Aside0.mk (Kd.R_below (by (with_reducible repeat (first | apply Kd.R_alloc | apply Kd.R_drewN | apply Kd.R_drew)); exact HO_13.out) hb); have n3_ := Aside0.mk (Kd.R_below (by (with_reducible repeat (first | apply Kd.R_alloc | apply Kd.R_drewN | apply Kd.R_drew)); exact HO_17.out) hb); have n4_ := Aside0.mk (Kd.R_below (by (with_reducible repeat (first | apply Kd.R_alloc | apply Kd.R_drewN | apply Kd.R_drew)); exact HO_19.out) hb); have n5_ := Aside0.mk (Kd.S_below (by (with_reducible repeat (first | apply Kd.S_alloc | apply Kd.S_drewN | apply Kd.S_drew)); exact HO_21.out) hb); have n6_ := Aside0.mk (Kd.S_below (by (with_reducible repeat (first | apply Kd.S_alloc | apply Kd.S_drewN | apply Kd.S_drew)); exact HO518.out) hb); have n7_ := Aside0.mk (below_step (by repeat (first | (with_reducible first | exact HB.out | apply below_alloc | apply pw_below_drewN | apply below_drew1) | exact HB.out)) hb); clear HO_5; clear HO_6; clear HO_13; clear HO_17; clear HO_19; clear HO_21; clear HO518; clear HB; have HO_5 := n0_; have HO_6 := n1_; have HO_13 := n2_; have HO_17 := n3_; have HO_19 := n4_; have HO_21 := n5_; have HO518 := n6_; have HB := n7_; clear n0_ n1_ n2_ n3_ n4_ n5_ n6_ n7_; (try clear hb); (try clear hb2); (try clear hk); (try clear hi)) | ((with_reducible refine gate_callee (f := 76) rfl ?_); refine goesL_ (some 153) rfl rfl Try.func76 (by kernel_rfl) rfl #[.slice Ao10 t484.length co10, .slice Ao11 t485.length co11] rfl (by (try simp only [List.map_toArray, List.map_cons, List.map_nil]); first | done | rfl | (simp only [List.length_drop, List.length_take]; rfl)) ?_; (with_reducible refine (impl_MeetOf.calls kj25 _ _ t484 _ _ t485 t523 true _ ?side1 ?side2 ?side3 ?side4 A45.out).mono ?_); (case side1 => repeat (first | exact (Kd.R_reads' HO_5.out).2.2 | (with_reducible refine Kd.C_alloc ?_ _) | (with_reducible refine Kd.C_drewN ?_ _) | (with_reducible refine Kd.C_drew ?_))); (case side2 => exact (Kd.R_reads' HO_5.out).2.1); (case side3 => repeat (first | exact (Kd.R_reads' HO_6.out).2.2 | (with_reducible refine Kd.C_alloc ?_ _) | (with_reducible refine Kd.C_drewN ?_ _) | (with_reducible refine Kd.C_drew ?_))); (case side4 => exact (Kd.R_reads' HO_6.out).2.1); rintro e w66 ⟨v525, rfl, ho0, hb⟩; refine ⟨_, rfl, ?_⟩; have n0_ := Aside0.mk (Kd.R_elder' (by (with_reducible repeat (first | apply Kd.R_alloc | apply Kd.R_drewN | apply Kd.R_drew)); exact HO_5.out) (Kd.R_base ho0) hb); have n1_ := Aside0.mk (Kd.R_elder' (by (with_reducible repeat (first | apply Kd.R_alloc | apply Kd.R_drewN | apply Kd.R_drew)); exact HO_6.out) (Kd.R_base ho0) hb); have n2_ := Aside0.mk (Kd.R_below (by (with_reducible repeat (first | apply Kd.R_alloc | apply Kd.R_drewN | apply Kd.R_drew)); exact HO_13.out) hb); have n3_ := Aside0.mk (Kd.R_elder' (by (with_reducible repeat (first | apply Kd.R_alloc | apply Kd.R_drewN | apply Kd.R_drew)); exact HO_17.out) (Kd.R_base ho0) hb); have n4_ := Aside0.mk (Kd.R_elder' (by (with_reducible repeat (first | apply Kd.R_alloc | apply Kd.R_drewN | apply Kd.R_drew)); exact HO_19.out) (Kd.R_base ho0) hb); have n5_ := Aside0.mk (Kd.S_elder' (by (with_reducible repeat (first | apply Kd.S_alloc | apply Kd.S_drewN | apply Kd.S_drew)); exact HO_21.out) (Kd.R_base ho0) hb); have n6_ := Aside0.mk (Kd.S_elder' (by (with_reducible repeat (first | apply Kd.S_alloc | apply Kd.S_drewN | apply Kd.S_drew)); exact HO518.out) (Kd.R_base ho0) hb); have n7_ := Aside0.mk (Kd.R_lower (Kd.R_new' (Kd.R_new' (Kd.R_new' (Kd.R_new' ho0 (Kd.R_lt (by (with_reducible repeat (first | apply Kd.R_alloc | apply Kd.R_drewN | apply Kd.R_drew)); exact HO_5.out))) (Kd.R_lt (by (with_reducible repeat (first | apply Kd.R_alloc | apply Kd.R_drewN | apply Kd.R_drew)); exact HO_6.out))) (Kd.R_lt (by (with_reducible repeat (first | apply Kd.R_alloc | apply Kd.R_drewN | apply Kd.R_drew)); exact HO_17.out))) (Kd.R_lt (by (with_reducible repeat (first | apply Kd.R_alloc | apply Kd.R_drewN | apply Kd.R_drew)); exact HO_19.out))) (below_size (by repeat (first | (with_reducible first | exact HB.out | apply below_alloc | apply pw_below_drewN | apply below_drew1) | exact HB.out)))); have n8_ := Aside0.mk (below_step (by repeat (first | (with_reducible first | exact HB.out | apply below_alloc | apply pw_below_drewN | apply below_drew1) | exact HB.out)) hb); clear HO_5; clear HO_6; clear HO_13; clear HO_17; clear HO_19; clear HO_21; clear HO518; clear HB; have HO_5 := n0_; have HO_6 := n1_; have HO_13 := n2_; have HO_17 := n3_; have HO_19 := n4_; have HO_21 := n5_; have HO518 := n6_; have HO526 := n7_; have HB := n8_; clear n0_ n1_ n2_ n3_ n4_ n5_ n6_ n7_ n8_; (try clear hb); (try clear hb2); (try clear hk); (try clear hi); (try clear ho0)) | ((with_reducible refine gate_callee (f := 77) rfl ?_); refine goesL_ (some 159) rfl rfl Try.func77 (by kernel_rfl) rfl #[.slice Ao10 t484.length co10, .slice Ao11 t485.length co11] rfl (by (try simp only [List.map_toArray, List.map_cons, List.map_nil]); first | done | rfl | (simp only [List.length_drop, List.length_take]; rfl)) ?_; (with_reducible refine (impl_JoinOf.calls kj25 _ _ t484 _ _ t485 t527 true _ ?side1 ?side2 ?side3 ?side4 A46.out).mono ?_); (case side1 => repeat (first | exact (Kd.R_reads' HO_5.out).2.2 | (with_reducible refine Kd.C_alloc ?_ _) | (with_reducible refine Kd.C_drewN ?_ _) | (with_reducible refine Kd.C_drew ?_))); (case side2 => exact (Kd.R_reads' HO_5.out).2.1); (case side3 => repeat (first | exact (Kd.R_reads' HO_6.out).2.2 | (with_reducible refine Kd.C_alloc ?_ _) | (with_reducible refine Kd.C_drewN ?_ _) | (with_reducible refine Kd.C_drew ?_))); (case side4 => exact (Kd.R_reads' HO_6.out).2.1); rintro e w67 ⟨v529, rfl, ho0, hb⟩; refine ⟨_, rfl, ?_⟩; have n0_ := Aside0.mk (Kd.R_elder' (by (with_reducible repeat (first | apply Kd.R_alloc | apply Kd.R_drewN | apply Kd.R_drew)); exact HO_5.out) (Kd.R_base ho0) hb); have n1_ := Aside0.mk (Kd.R_elder' (by (with_reducible repeat (first | apply Kd.R_alloc | apply Kd.R_drewN | apply Kd.R_drew)); exact HO_6.out) (Kd.R_base ho0) hb); have n2_ := Aside0.mk (Kd.R_below (by (with_reducible repeat (first | apply Kd.R_alloc | apply Kd.R_drewN | apply Kd.R_drew)); exact HO_13.out) hb); have n3_ := Aside0.mk (Kd.R_elder' (by (with_reducible repeat (first | apply Kd.R_alloc | apply Kd.R_drewN | apply Kd.R_drew)); exact HO_17.out) (Kd.R_base ho0) hb); have n4_ := Aside0.mk (Kd.R_elder' (by (with_reducible repeat (first | apply Kd.R_alloc | apply Kd.R_drewN | apply Kd.R_drew)); exact HO_19.out) (Kd.R_base ho0) hb); have n5_ := Aside0.mk (Kd.S_elder' (by (with_reducible repeat (first | apply Kd.S_alloc | apply Kd.S_drewN | apply Kd.S_drew)); exact HO_21.out) (Kd.R_base ho0) hb); have n6_ := Aside0.mk (Kd.S_elder' (by (with_reducible repeat (first | apply Kd.S_alloc | apply Kd.S_drewN | apply Kd.S_drew)); exact HO518.out) (Kd.R_base ho0) hb); have n7_ := Aside0.mk (Kd.R_elder' (by (with_reducible repeat (first | apply Kd.R_alloc | apply Kd.R_drewN | apply Kd.R_drew)); exact HO526.out) (Kd.R_base ho0) hb); have n8_ := Aside0.mk (Kd.R_lower (Kd.R_new' (Kd.R_new' (Kd.R_new' (Kd.R_new' (Kd.R_new' ho0 (Kd.R_lt (by (with_reducible repeat (first | apply Kd.R_alloc | apply Kd.R_drewN | apply Kd.R_drew)); exact HO_5.out))) (Kd.R_lt (by (with_reducible repeat (first | apply Kd.R_alloc | apply Kd.R_drewN | apply Kd.R_drew)); exact HO_6.out))) (Kd.R_lt (by (with_reducible repeat (first | apply Kd.R_alloc | apply Kd.R_drewN | apply Kd.R_drew)); exact HO_17.out))) (Kd.R_lt (by (with_reducible repeat (first | apply Kd.R_alloc | apply Kd.R_drewN | apply Kd.R_drew)); exact HO_19.out))) (Kd.R_lt (by (with_reducible repeat (first | apply Kd.R_alloc | apply Kd.R_drewN | apply Kd.R_drew)); exact HO526.out))) (below_size (by repeat (first | (with_reducible first | exact HB.out | apply below_alloc | apply pw_below_drewN | apply below_drew1) | exact HB.out)))); have n9_ := Aside0.mk (below_step (by repeat (first | (with_reducible first | exact HB.out | apply below_alloc | apply pw_below_drewN | apply below_drew1) | exact HB.out)) hb); clear HO_5; clear HO_6; clear HO_13; clear HO_17; clear HO_19; clear HO_21; clear HO518; clear HO526; clear HB; have HO_5 := n0_; have HO_6 := n1_; have HO_13 := n2_; have HO_17 := n3_; have HO_19 := n4_; have HO_21 := n5_; have HO518 := n6_; have HO526 := n7_; have HO530 := n8_; have HB := n9_; clear n0_ n1_ n2_ n3_ n4_ n5_ n6_ n7_ n8_ n9_; (try clear hb); (try clear hb2); (try clear hk); (try clear hi); (try clear ho0); obtain ⟨Ao68, co68, eo68⟩ := Kd.S_slice HO518.out; subst eo68; have p531 : 0 ≤ ((ji52) : Int) := of_decide_eq_true (by first | (with_reducible assumption) | assumption); have q531 : (ji52) < (t515.length : Int) := of_decide_eq_true (by first | (with_reducible assumption) | assumption); obtain ⟨ad531, A531_0, c531_0, e531, hx531_0, hl531_0, hi531_0⟩ := at_L2 (Kd.S_reads' HO518.out).2.2 (ji52) p531 q531; cases e531; obtain ⟨ce531, hce531, hMe531, hcc531⟩ := Kd.S_get HO518.out [] (ji52) p531 (by first | exact q531 | exact of_decide_eq_true (by first | (with_reducible assumption) | assumption) | (have e_ := (Kd.S_reads' HO518.out).1; omega)); obtain ⟨ve531_0, rfl, ge531_0⟩ := hMe531; have hv531_0 := hcc531 0 _ rfl; rw [Nat.add_zero, show ((Kd.slice 3 (Kd.int .i64))).sz = 1 from rfl, Nat.mul_one] at hv531_0; replace hv531_0 := Option.some.inj (hv531_0.symm.trans hx531_0); rw [hv531_0] at ge531_0; have HL531_0 := Aside0.mk (show Kd.R (Kd.int .i64) 3 _ _ _ _ (rd_L2 t515 (ji52)) from ge531_0); clear hv531_0 ge531_0; clear hcc531 hce531; have HR531_0 := Aside0.mk hi531_0; have HC531_0 := Aside0.mk hl531_0; clear hi531_0 hl531_0; replace p531 := eq_true p531; replace q531 := eq_true q531) | (go_at_call 28; (with_reducible refine (laws_pSame.calls kj25 _ _ (rd_L2 t515 (ji52)) _ _ t503 true _ ?side1 ?side2 ?side3 ?side4 A55.out).mono ?_); (case side1 => repeat (first | exact (by repeat (first | (with_reducible exact HR531_0.out) | (with_reducible refine Kd.C_alloc ?_ _) | (with_reducible refine Kd.C_drewN ?_ _) | (with_reducible refine Kd.C_drew ?_) | exact HR531_0.out)) | (with_reducible refine Kd.C_alloc ?_ _) | (with_reducible refine Kd.C_drewN ?_ _) | (with_reducible refine Kd.C_drew ?_))); (case side2 => exact HC531_0.out); (case side3 => repeat (first | exact (Kd.R_reads' HO_17.out).2.2 | (with_reducible refine Kd.C_alloc ?_ _) | (with_reducible refine Kd.C_drewN ?_ _) | (with_reducible refine Kd.C_drew ?_))); (case side4 => exact (Kd.R_reads' HO_17.out).2.1); rintro e w' ⟨rfl, ⟨nd, rfl⟩⟩; obtain ⟨Ao69, co69, eo69⟩ := Kd.R_slice HO526.out; subst eo69) | (go_at_call 28; (with_reducible refine (laws_pSame.calls kj25 _ _ t523 _ _ t503 true _ ?side1 ?side2 ?side3 ?side4 A58.out).mono ?_); (case side1 => repeat (first | exact (Kd.R_reads' HO526.out).2.2 | (with_reducible refine Kd.C_alloc ?_ _) | (with_reducible refine Kd.C_drewN ?_ _) | (with_reducible refine Kd.C_drew ?_))); (case side2 => exact (Kd.R_reads' HO526.out).2.1); (case side3 => repeat (first | exact (Kd.R_reads' HO_17.out).2.2 | (with_reducible refine Kd.C_alloc ?_ _) | (with_reducible refine Kd.C_drewN ?_ _) | (with_reducible refine Kd.C_drew ?_))); (case side4 => exact (Kd.R_reads' HO_17.out).2.1); rintro e w' ⟨rfl, ⟨nd, rfl⟩⟩; obtain ⟨Ao70, co70, eo70⟩ := Kd.R_slice HO530.out; subst eo70) | (go_at_call 28; (with_reducible refine (laws_pSame.calls kj25 _ _ t527 _ _ t507 t534 _ ?side1 ?side2 ?side3 ?side4 A60.out).mono ?_); (case side1 => repeat (first | exact (Kd.R_reads' HO530.out).2.2 | (with_reducible refine Kd.C_alloc ?_ _) | (with_reducible refine Kd.C_drewN ?_ _) | (with_reducible refine Kd.C_drew ?_))); (case side2 => exact (Kd.R_reads' HO530.out).2.1); (case side3 => repeat (first | exact (Kd.R_reads' HO_19.out).2.2 | (with_reducible refine Kd.C_alloc ?_ _) | (with_reducible refine Kd.C_drewN ?_ _) | (with_reducible refine Kd.C_drew ?_))); (case side4 => exact (Kd.R_reads' HO_19.out).2.1); rintro e w' ⟨rfl, ⟨nd, rfl⟩⟩))
                      go_ret
                      exact ⟨by first | rfl | (simp [errW_none, errW_some] <;> rfl) | (simp only [← hji52]; first | rfl | (simp [errW_none, errW_some] <;> rfl)) | (simp [*, errW_none, errW_some] <;> rfl), by repeat (first | (with_reducible first | exact HB.out | apply below_alloc | apply pw_below_drewN | apply below_drew1) | exact HB.out)⟩
                     ·replace c59 := Bool.eq_false_iff.mpr c59
                      subst c59
                      rw [if_neg (show ¬ (false = true) by decide)] at H
                      cases H
                    ·rw [if_neg c57] at H
                     cases H
                   ·replace c56 := Bool.eq_false_iff.mpr c56
                    subst c56
                    rw [if_neg (show ¬ (false = true) by decide)] at H
                    cases H
                  ·rw [if_neg c54] at H
                   exact absurd H (by simp)
                 ·rw [if_neg c53] at H
                  exact absurd H (by simp)
                ·replace c51 := Bool.eq_false_iff.mpr c51
                 subst c51
                 rw [if_neg (show ¬ (false = true) by decide)] at H
                 cases H
               ·replace c50 := Bool.eq_false_iff.mpr c50
                subst c50
                rw [if_neg (show ¬ (false = true) by decide)] at H
                cases H
              ·replace c49 := Bool.eq_false_iff.mpr c49
               subst c49
               rw [if_neg (show ¬ (false = true) by decide)] at H
               cases H
             ·replace c48 := Bool.eq_false_iff.mpr c48
              subst c48
              rw [if_neg (show ¬ (false = true) by decide)] at H
              cases H
            ·replace c47 := Bool.eq_false_iff.mpr c47
             subst c47
             rw [if_neg (show ¬ (false = true) by decide)] at H
             cases H
           ·replace c41 := Bool.eq_false_iff.mpr c41
            subst c41
            have H1 : (some true) = some r := by rw [if_neg (show ¬ (false = true) by decide)] at H; exact H
            clear H
            have H := H1
            clear H1
            obtain rfl := Option.some.inj H
            go_wp2
            go_ret
            exact ⟨by first | rfl | (simp [errW_none, errW_some] <;> rfl) | (simp [*, errW_none, errW_some] <;> rfl), by repeat (first | (with_reducible first | exact HB.out | apply below_alloc | apply pw_below_drewN | apply below_drew1) | exact HB.out)⟩

/-- THE ONE PURE STATEMENT of laws_FnTop: yours. -/
def laws_FnTop.Pure : Prop := ∀ (l0 : List Int) (l1 : List Int), l0.length ≤ maxLen → l0.length * 1 ≤ 140737488351232 → (∀ x ∈ l0, (Lit.int .u8 x).wf = true) → l1.length ≤ maxLen → l1.length * 1 ≤ 140737488351232 → (∀ x ∈ l1, (Lit.int .u8 x).wf = true) → ∃ k, laws_FnTop.f k l0 l1 = some true
theorem laws_FnTop.walk (P : laws_FnTop.Pure) (a0 : Option Addr) (len0 cap0 : Nat) (z0 : List Int) (a1 : Option Addr) (len1 cap1 : Nat) (z1 : List Int) (w : World) (w0 : (a0 = none ∧ len0 = 0 ∧ cap0 = 0 ∧ z0 = []) ∨ ∃ x, a0 = some x ∧ len0 ≤ cap0 ∧ cap0 ≤ maxLen ∧ z0.length = cap0 ∧ (∀ i, i < z0.length → w.cell? (x.add i) = some (.int .u8 (z0.getD i 0))) ∧ ∀ n ∈ z0, (Lit.int .u8 n).wf = true) (y0 : len0 * 1 ≤ 140737488351232) (w1 : (a1 = none ∧ len1 = 0 ∧ cap1 = 0 ∧ z1 = []) ∨ ∃ x, a1 = some x ∧ len1 ≤ cap1 ∧ cap1 ≤ maxLen ∧ z1.length = cap1 ∧ (∀ i, i < z1.length → w.cell? (x.add i) = some (.int .u8 (z1.getD i 0))) ∧ ∀ n ∈ z1, (Lit.int .u8 n).wf = true) (y1 : len1 * 1 ≤ 140737488351232) :
  Calls Try.prog 9 #[.slice a0 len0 cap0, .slice a1 len1 cap1] w fun e w' => e = .returned (.bool true) ∧ Below w.heap.size w w' := by
 obtain ⟨l0, rfl, hr0, hm0, hw0, hc0⟩ := ReadsInt.ofRowC w0
 obtain ⟨l1, rfl, hr1, hm1, hw1, hc1⟩ := ReadsInt.ofRowC w1
 obtain ⟨k, h⟩ := P l0 l1 hm0 y0 hw0 hm1 y1 hw1
 refine (laws_FnTop.calls k _ _ l0 _ _ l1 true w (Kd.C_of_reads (d := (0 : Int)) (h1 := fun _ => rfl) hr0) hc0 (Kd.C_of_reads (d := (0 : Int)) (h1 := fun _ => rfl) hr1) hc1 h).mono ?_
 rintro e w' ⟨rfl, hd⟩
 exact ⟨rfl, hd⟩

end Go.Proofs.Ytojklddddedoeaa.PFnTop
-- SLIM
