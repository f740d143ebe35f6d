/- For each Go function that the law uses, a Lean function with the same answers and a proof that its call comes to them; the conditions stand in each theorem. (Written by a program of this session, turned from the print of the kit.) -/
import Derived.Test.YtclnfaclfplpmaaPFnGiftEffectsx0
import Derived.Test.YtclnfaclfplpmaaPFnGiftEffectsx1
import Derived.Test.YtclnfaclfplpmaaPFnGiftEffectsx3
import Derived.Test.YtclnfaclfplpmaaPFnGiftEffectsx4
import Derived.Test.YtclnfaclfplpmaaPFnGiftEffectsx6
import Derived.Test.YtclnfaclfplpmaaPFnGiftEffectsx10
import Derived.Test.YtclnfaclfplpmaaPFnGiftEffectsx11
namespace Go.Proofs.Ytclnfaclfplpmaa.PFnGiftEffects
open Go.RowKit Go.Proofs.YtclnfaclfplpmaaW.PrintWords Go.Proofs.YtclnfaclfplpmaaW.PrintLast Go.Proofs.YtclnfaclfplpmaaW.PrintMore
attribute [local go_sem] max2_int min2_int max_two min_two max_three min_three max_four min_four   -- for this text's walks alone
set_option linter.unusedVariables false
set_option linter.unusedSimpArgs false

/-! ### laws_FnGiftEffects: function 11 -/
mutual
def laws_FnGiftEffects.j0 : Nat → List Int → Int → Int → List Int → Bool → Bool → Option (Bool)
  | 0, _, _, _, _, _, _ => none
  | k + 1, x5, x6, x7, x8, x9, x53 => if x53 = true then (some false) else (if x9 = true then ((impl_DoGift.f k x5 x6 x7 1).bind fun bt391 => ((impl_IsMajorized.f k bt391.1 x5).bind fun bt395 => ((impl_SpreadOf.f k x5).bind fun bt397 => ((impl_SpreadOf.f k bt391.1).bind fun bt399 => (laws_FnGiftEffects.l0 k x8 bt391.2 bt395.1 bt395.2 bt397.1 bt397.2 bt399.1 bt399.2 x8 (x8.length : Int) 0))))) else (some true))
def laws_FnGiftEffects.l0 : Nat → List Int → Bool → Bool → Bool → Int → Bool → Int → Bool → List Int → Int → Int → Option (Bool)
  | 0, _, _, _, _, _, _, _, _, _, _, _ => none
  | k + 1, x8, x13, x14, x15, x16, x17, x18, x19, x80, x81, x82 => if x82 < x81 then (if 0 ≤ x82 then (if x82 < (x80.length : Int) then (if (rd x80 x82) > 0 then (some false) else (laws_FnGiftEffects.l0 k x8 x13 x14 x15 x16 x17 x18 x19 x80 x81 (wrap64 (x82 + 1)))) else (none)) else (none)) else (if x13 = true then (if x15 = true then (if x14 = true then (if x17 = true then (if x19 = true then (if 0 < (x8.length : Int) then (if (rd x8 0) = (wrap64 (x18 - x16)) then (if (rd x8 0) < 0 then (if 1 < (x8.length : Int) then (some (decide ((rd x8 1) < 0))) else (none)) else (some false)) else (some false)) else (none)) else (some false)) else (some false)) else (some false)) else (some false)) else (some false))
end
def laws_FnGiftEffects.f (k : Nat) (l0 : List Int) (l1 : List Int) : Option (Bool) := (laws_big.f l0 l1).bind fun t376 => (if t376 = true then (some true) else ((spec_DrawGiftEffects.f k l0).bind fun bt377 => ((impl_GiftEffects.f k bt377.1 bt377.2.1 bt377.2.2).bind fun bt382 => ((spec_GiftEffects.f k bt377.1 bt377.2.1 bt377.2.2).bind fun bt386 => (if (bt382.2 != bt386.2) = true then (laws_FnGiftEffects.j0 k bt377.1 bt377.2.1 bt377.2.2 bt382.1 bt382.2 true) else ((laws_ySame.f k bt382.1 bt386.1).bind fun t390 => (laws_FnGiftEffects.j0 k bt377.1 bt377.2.1 bt377.2.2 bt382.1 bt382.2 (!t390))))))))
theorem laws_FnGiftEffects.mono_l : ∀ k, (∀ y0 y1 y2 y3 y4 y5, LeO (laws_FnGiftEffects.j0 k y0 y1 y2 y3 y4 y5) (laws_FnGiftEffects.j0 (k + 1) y0 y1 y2 y3 y4 y5)) ∧ (∀ y0 y1 y2 y3 y4 y5 y6 y7 y8 y9 y10, LeO (laws_FnGiftEffects.l0 k y0 y1 y2 y3 y4 y5 y6 y7 y8 y9 y10) (laws_FnGiftEffects.l0 (k + 1) y0 y1 y2 y3 y4 y5 y6 y7 y8 y9 y10))
  | 0 => ⟨fun _ _ _ _ _ _ r h => by simp [laws_FnGiftEffects.j0] at h, fun _ _ _ _ _ _ _ _ _ _ _ r h => by simp [laws_FnGiftEffects.l0] at h⟩
  | k + 1 => by
    obtain ⟨ih0, ih1⟩ := laws_FnGiftEffects.mono_l k
    refine ⟨?_, ?_⟩
    · intro y0 y1 y2 y3 y4 y5
      unfold laws_FnGiftEffects.j0
      repeat' first
      | (with_reducible exact ih0 _ _ _ _ _ _)
      | (with_reducible exact ih1 _ _ _ _ _ _ _ _ _ _ _)
      | (with_reducible exact impl_DoGift.mono _ _ _ _ _)
      | (with_reducible exact impl_GiftEffects.mono _ _ _ _)
      | (with_reducible exact impl_IsMajorized.mono _ _ _)
      | (with_reducible exact impl_SpreadOf.mono _ _)
      | (with_reducible exact laws_ySame.mono _ _ _)
      | (with_reducible exact spec_DrawGiftEffects.mono _ _)
      | (with_reducible exact spec_GiftEffects.mono _ _ _ _)
      | (with_reducible exact LeO.refl _)
      | (with_reducible exact LeO.none _)
      | (with_reducible refine LeO.ite ?_ ?_)
      | (with_reducible refine LeO.bind ?_ (fun _ => ?_))
      | exact ih0 _ _ _ _ _ _
      | exact ih1 _ _ _ _ _ _ _ _ _ _ _
      | exact impl_DoGift.mono _ _ _ _ _
      | exact impl_GiftEffects.mono _ _ _ _
      | exact impl_IsMajorized.mono _ _ _
      | exact impl_SpreadOf.mono _ _
      | exact laws_ySame.mono _ _ _
      | exact spec_DrawGiftEffects.mono _ _
      | exact spec_GiftEffects.mono _ _ _ _
      | exact LeO.none _
      | refine LeO.ite ?_ ?_
      | refine LeO.bind ?_ (fun _ => ?_)
    · intro y0 y1 y2 y3 y4 y5 y6 y7 y8 y9 y10
      unfold laws_FnGiftEffects.l0
      repeat' first
      | (with_reducible exact ih0 _ _ _ _ _ _)
      | (with_reducible exact ih1 _ _ _ _ _ _ _ _ _ _ _)
      | (with_reducible exact impl_DoGift.mono _ _ _ _ _)
      | (with_reducible exact impl_GiftEffects.mono _ _ _ _)
      | (with_reducible exact impl_IsMajorized.mono _ _ _)
      | (with_reducible exact impl_SpreadOf.mono _ _)
      | (with_reducible exact laws_ySame.mono _ _ _)
      | (with_reducible exact spec_DrawGiftEffects.mono _ _)
      | (with_reducible exact spec_GiftEffects.mono _ _ _ _)
      | (with_reducible exact LeO.refl _)
      | (with_reducible exact LeO.none _)
      | (with_reducible refine LeO.ite ?_ ?_)
      | (with_reducible refine LeO.bind ?_ (fun _ => ?_))
      | exact ih0 _ _ _ _ _ _
      | exact ih1 _ _ _ _ _ _ _ _ _ _ _
      | exact impl_DoGift.mono _ _ _ _ _
      | exact impl_GiftEffects.mono _ _ _ _
      | exact impl_IsMajorized.mono _ _ _
      | exact impl_SpreadOf.mono _ _
      | exact laws_ySame.mono _ _ _
      | exact spec_DrawGiftEffects.mono _ _
      | exact spec_GiftEffects.mono _ _ _ _
      | exact LeO.none _
      | refine LeO.ite ?_ ?_
      | refine LeO.bind ?_ (fun _ => ?_)
theorem laws_FnGiftEffects.mono : ∀ a0 a1 k, LeO (laws_FnGiftEffects.f k a0 a1) (laws_FnGiftEffects.f (k + 1) a0 a1) := by
  intro a0 a1 k
  obtain ⟨ih0, ih1⟩ := laws_FnGiftEffects.mono_l k
  unfold laws_FnGiftEffects.f
  repeat' first
      | (with_reducible exact ih0 _ _ _ _ _ _)
      | (with_reducible exact ih1 _ _ _ _ _ _ _ _ _ _ _)
      | (with_reducible exact impl_DoGift.mono _ _ _ _ _)
      | (with_reducible exact impl_GiftEffects.mono _ _ _ _)
      | (with_reducible exact impl_IsMajorized.mono _ _ _)
      | (with_reducible exact impl_SpreadOf.mono _ _)
      | (with_reducible exact laws_ySame.mono _ _ _)
      | (with_reducible exact spec_DrawGiftEffects.mono _ _)
      | (with_reducible exact spec_GiftEffects.mono _ _ _ _)
      | (with_reducible exact LeO.refl _)
      | (with_reducible exact LeO.none _)
      | (with_reducible refine LeO.ite ?_ ?_)
      | (with_reducible refine LeO.bind ?_ (fun _ => ?_))
      | exact ih0 _ _ _ _ _ _
      | exact ih1 _ _ _ _ _ _ _ _ _ _ _
      | exact impl_DoGift.mono _ _ _ _ _
      | exact impl_GiftEffects.mono _ _ _ _
      | exact impl_IsMajorized.mono _ _ _
      | exact impl_SpreadOf.mono _ _
      | exact laws_ySame.mono _ _ _
      | exact spec_DrawGiftEffects.mono _ _
      | exact spec_GiftEffects.mono _ _ _ _
      | exact LeO.none _
      | refine LeO.ite ?_ ?_
      | refine LeO.bind ?_ (fun _ => ?_)
set_option maxHeartbeats 8000000 in
set_option maxRecDepth 100000 in
theorem laws_FnGiftEffects.calls (k : Nat) (A0 : Option Addr) (c0 : Nat) (l0 : List Int) (A1 : Option Addr) (c1 : Nat) (l1 : List Int) (r : Bool) (w : World) (hr0 : Kd.C (Kd.int .u8) w A0 l0.length l0) (hc0 : l0.length ≤ c0) (hr1 : Kd.C (Kd.int .u8) w A1 l1.length l1) (hc1 : l1.length ≤ c1) (h : laws_FnGiftEffects.f k l0 l1 = some r) :
    Calls Try.prog 11 #[.slice A0 l0.length c0, .slice A1 l1.length c1] w fun e w' => e = .returned (.bool r) ∧ Below w.heap.size w w' := by
  have hu54 := Try.underlying54
  have HR0 := Aside0.mk hr0
  have HC0 := Aside0.mk hc0
  clear hr0 hc0
  have HR1 := Aside0.mk hr1
  have HC1 := Aside0.mk hc1
  clear hr1 hc1
  have HB := Aside0.mk (Below.refl w.heap.size w)
  have H : ((laws_big.f l0 l1).bind fun t376 => (if t376 = true then (some true) else ((spec_DrawGiftEffects.f k l0).bind fun bt377 => ((impl_GiftEffects.f k bt377.1 bt377.2.1 bt377.2.2).bind fun bt382 => ((spec_GiftEffects.f k bt377.1 bt377.2.1 bt377.2.2).bind fun bt386 => (if (bt382.2 != bt386.2) = true then (laws_FnGiftEffects.j0 k bt377.1 bt377.2.1 bt377.2.2 bt382.1 bt382.2 true) else ((laws_ySame.f k bt382.1 bt386.1).bind fun t390 => (laws_FnGiftEffects.j0 k bt377.1 bt377.2.1 bt377.2.2 bt382.1 bt382.2 (!t390))))))))) = some r := h
  clear h
  replace H := Option.bind_eq_some_iff.mp H
  obtain ⟨t376, A30, H⟩ := H
  replace H : (if t376 = true then (some true) else ((spec_DrawGiftEffects.f k l0).bind fun bt377 => ((impl_GiftEffects.f k bt377.1 bt377.2.1 bt377.2.2).bind fun bt382 => ((spec_GiftEffects.f k bt377.1 bt377.2.1 bt377.2.2).bind fun bt386 => (if (bt382.2 != bt386.2) = true then (laws_FnGiftEffects.j0 k bt377.1 bt377.2.1 bt377.2.2 bt382.1 bt382.2 true) else ((laws_ySame.f k bt382.1 bt386.1).bind fun t390 => (laws_FnGiftEffects.j0 k bt377.1 bt377.2.1 bt377.2.2 bt382.1 bt382.2 (!t390)))))))) = some r := H
  have A3 := Aside0.mk A30
  clear A30
  by_cases c4 : t376 = true
  · subst c4
    have H1 : (some true) = some r := by rw [if_pos rfl] at H; exact H
    clear H
    have H := H1
    clear H1
    obtain rfl := Option.some.inj H
    go_enter Try.func11, Try.ntmps11
    go_wp2_with (first | ((with_reducible refine gate_callee (f := 15) rfl ?_); refine goesL_ (some 24) rfl rfl Try.func15 (by kernel_rfl) rfl #[.slice A0 l0.length c0, .slice A1 l1.length c1] rfl (by (try simp only [List.map_toArray, List.map_cons, List.map_nil]); first | done | rfl | (simp only [List.length_drop, List.length_take]; rfl)) ?_; (with_reducible refine (laws_big.calls _ _ l0 _ _ l1 true _ ?side1 ?side2 ?side3 ?side4 A3.out).mono ?_); (case side1 => repeat (first | exact HR0.out | (with_reducible refine Kd.C_alloc ?_ _) | (with_reducible refine Kd.C_drewN ?_ _) | (with_reducible refine Kd.C_drew ?_))); (case side2 => exact HC0.out); (case side3 => repeat (first | exact HR1.out | (with_reducible refine Kd.C_alloc ?_ _) | (with_reducible refine Kd.C_drewN ?_ _) | (with_reducible refine Kd.C_drew ?_))); (case side4 => exact HC1.out); rintro e w' ⟨rfl, ⟨nd, rfl⟩⟩; refine ⟨_, rfl, ?_⟩))
    go_ret
    exact ⟨by first | rfl | (simp [errW_none, errW_some] <;> rfl) | (simp [*, errW_none, errW_some] <;> rfl), by repeat (first | (with_reducible first | exact HB.out | apply below_alloc | apply pw_below_drewN | apply below_drew1) | exact HB.out)⟩
  · replace c4 := Bool.eq_false_iff.mpr c4
    subst c4
    have H1 : ((spec_DrawGiftEffects.f k l0).bind fun bt377 => ((impl_GiftEffects.f k bt377.1 bt377.2.1 bt377.2.2).bind fun bt382 => ((spec_GiftEffects.f k bt377.1 bt377.2.1 bt377.2.2).bind fun bt386 => (if (bt382.2 != bt386.2) = true then (laws_FnGiftEffects.j0 k bt377.1 bt377.2.1 bt377.2.2 bt382.1 bt382.2 true) else ((laws_ySame.f k bt382.1 bt386.1).bind fun t390 => (laws_FnGiftEffects.j0 k bt377.1 bt377.2.1 bt377.2.2 bt382.1 bt382.2 (!t390))))))) = some r := by rw [if_neg (show ¬ (false = true) by decide)] at H; exact H
    clear H
    have H := H1
    clear H1
    replace H := Option.bind_eq_some_iff.mp H
    obtain ⟨⟨t377, t378, t379⟩, A50, H⟩ := H
    replace H : ((impl_GiftEffects.f k t377 t378 t379).bind fun bt382 => ((spec_GiftEffects.f k t377 t378 t379).bind fun bt386 => (if (bt382.2 != bt386.2) = true then (laws_FnGiftEffects.j0 k t377 t378 t379 bt382.1 bt382.2 true) else ((laws_ySame.f k bt382.1 bt386.1).bind fun t390 => (laws_FnGiftEffects.j0 k t377 t378 t379 bt382.1 bt382.2 (!t390)))))) = some r := H
    have A5 := Aside0.mk A50
    clear A50
    replace H := Option.bind_eq_some_iff.mp H
    obtain ⟨⟨t382, t383⟩, A60, H⟩ := H
    replace H : ((spec_GiftEffects.f k t377 t378 t379).bind fun bt386 => (if (t383 != bt386.2) = true then (laws_FnGiftEffects.j0 k t377 t378 t379 t382 t383 true) else ((laws_ySame.f k t382 bt386.1).bind fun t390 => (laws_FnGiftEffects.j0 k t377 t378 t379 t382 t383 (!t390))))) = some r := H
    have A6 := Aside0.mk A60
    clear A60
    replace H := Option.bind_eq_some_iff.mp H
    obtain ⟨⟨t386, t387⟩, A70, H⟩ := H
    replace H : (if (t383 != t387) = true then (laws_FnGiftEffects.j0 k t377 t378 t379 t382 t383 true) else ((laws_ySame.f k t382 t386).bind fun t390 => (laws_FnGiftEffects.j0 k t377 t378 t379 t382 t383 (!t390)))) = some r := H
    have A7 := Aside0.mk A70
    clear A70
    have HC8 := Aside0.mk H
    clear H
    go_enter Try.func11, Try.ntmps11
    go_upto_region 6 with (first | ((with_reducible refine gate_callee (f := 15) rfl ?_); refine goesL_ (some 24) rfl rfl Try.func15 (by kernel_rfl) rfl #[.slice A0 l0.length c0, .slice A1 l1.length c1] rfl (by (try simp only [List.map_toArray, List.map_cons, List.map_nil]); first | done | rfl | (simp only [List.length_drop, List.length_take]; rfl)) ?_; (with_reducible refine (laws_big.calls _ _ l0 _ _ l1 false _ ?side1 ?side2 ?side3 ?side4 A3.out).mono ?_); (case side1 => repeat (first | exact HR0.out | (with_reducible refine Kd.C_alloc ?_ _) | (with_reducible refine Kd.C_drewN ?_ _) | (with_reducible refine Kd.C_drew ?_))); (case side2 => exact HC0.out); (case side3 => repeat (first | exact HR1.out | (with_reducible refine Kd.C_alloc ?_ _) | (with_reducible refine Kd.C_drewN ?_ _) | (with_reducible refine Kd.C_drew ?_))); (case side4 => exact HC1.out); rintro e w' ⟨rfl, ⟨nd, rfl⟩⟩; refine ⟨_, rfl, ?_⟩) | ((with_reducible refine gate_callee (f := 89) rfl ?_); refine goesL_ (some 27) rfl rfl Try.func89 (by kernel_rfl) rfl #[.slice A0 l0.length c0] rfl (by (try simp only [List.map_toArray, List.map_cons, List.map_nil]); first | done | rfl | (simp only [List.length_drop, List.length_take]; rfl)) ?_; (with_reducible refine (spec_DrawGiftEffects.calls k _ _ l0 t377 t378 t379 _ ?side1 ?side2 A5.out).mono ?_); (case side1 => repeat (first | exact HR0.out | (with_reducible refine Kd.C_alloc ?_ _) | (with_reducible refine Kd.C_drewN ?_ _) | (with_reducible refine Kd.C_drew ?_))); (case side2 => exact HC0.out); rintro e w9 ⟨v380, rfl, ho0, hb⟩; refine ⟨_, rfl, ?_⟩; have n0_ := Aside0.mk (Kd.R_lower ho0 (below_size (by repeat (first | (with_reducible first | exact HB.out | apply below_alloc | apply pw_below_drewN | apply below_drew1) | exact HB.out)))); have n1_ := Aside0.mk (below_step (by repeat (first | (with_reducible first | exact HB.out | apply below_alloc | apply pw_below_drewN | apply below_drew1) | exact HB.out)) hb); clear HB; have HO381 := n0_; have HB := n1_; clear n0_ n1_; (try clear hb); (try clear hb2); (try clear hk); (try clear hi); (try clear ho0); obtain ⟨Ao10, co10, eo10⟩ := Kd.R_slice HO381.out; subst eo10) | ((with_reducible refine gate_callee (f := 90) rfl ?_); refine goesL_ (some 35) rfl rfl Try.func90 (by kernel_rfl) rfl #[.slice Ao10 t377.length co10, .int .i64 t378, .int .i64 t379] rfl (by (try simp only [List.map_toArray, List.map_cons, List.map_nil]); first | done | rfl | (simp only [List.length_drop, List.length_take]; rfl)) ?_; (with_reducible refine (impl_GiftEffects.calls k _ _ t377 t378 t379 t382 t383 _ ?side1 ?side2 A6.out).mono ?_); (case side1 => repeat (first | exact (Kd.R_reads' HO381.out).2.2 | (with_reducible refine Kd.C_alloc ?_ _) | (with_reducible refine Kd.C_drewN ?_ _) | (with_reducible refine Kd.C_drew ?_))); (case side2 => exact (Kd.R_reads' HO381.out).2.1); rintro e w11 ⟨v384, rfl, ho0, hb⟩; refine ⟨_, rfl, ?_⟩; have n0_ := Aside0.mk (Kd.R_elder' (by (with_reducible repeat (first | apply Kd.R_alloc | apply Kd.R_drewN | apply Kd.R_drew)); exact HO381.out) (Kd.R_base ho0) hb); have n1_ := Aside0.mk (Kd.R_lower (Kd.R_new' ho0 (Kd.R_lt (by (with_reducible repeat (first | apply Kd.R_alloc | apply Kd.R_drewN | apply Kd.R_drew)); exact HO381.out))) (below_size (by repeat (first | (with_reducible first | exact HB.out | apply below_alloc | apply pw_below_drewN | apply below_drew1) | exact HB.out)))); have n2_ := Aside0.mk (below_step (by repeat (first | (with_reducible first | exact HB.out | apply below_alloc | apply pw_below_drewN | apply below_drew1) | exact HB.out)) hb); clear HO381; clear HB; have HO381 := n0_; have HO385 := n1_; have HB := n2_; clear n0_ n1_ n2_; (try clear hb); (try clear hb2); (try clear hk); (try clear hi); (try clear ho0)) | ((with_reducible refine gate_callee (f := 91) rfl ?_); refine goesL_ (some 42) rfl rfl Try.func91 (by kernel_rfl) rfl #[.slice Ao10 t377.length co10, .int .i64 t378, .int .i64 t379] rfl (by (try simp only [List.map_toArray, List.map_cons, List.map_nil]); first | done | rfl | (simp only [List.length_drop, List.length_take]; rfl)) ?_; (with_reducible refine (spec_GiftEffects.calls k _ _ t377 t378 t379 t386 t387 _ ?side1 ?side2 A7.out).mono ?_); (case side1 => repeat (first | exact (Kd.R_reads' HO381.out).2.2 | (with_reducible refine Kd.C_alloc ?_ _) | (with_reducible refine Kd.C_drewN ?_ _) | (with_reducible refine Kd.C_drew ?_))); (case side2 => exact (Kd.R_reads' HO381.out).2.1); rintro e w12 ⟨v388, rfl, ho0, hb⟩; refine ⟨_, rfl, ?_⟩; have n0_ := Aside0.mk (Kd.R_elder' (by (with_reducible repeat (first | apply Kd.R_alloc | apply Kd.R_drewN | apply Kd.R_drew)); exact HO381.out) (Kd.R_base ho0) hb); have n1_ := Aside0.mk (Kd.R_elder' (by (with_reducible repeat (first | apply Kd.R_alloc | apply Kd.R_drewN | apply Kd.R_drew)); exact HO385.out) (Kd.R_base ho0) hb); have n2_ := Aside0.mk (Kd.R_lower (Kd.R_new' (Kd.R_new' ho0 (Kd.R_lt (by (with_reducible repeat (first | apply Kd.R_alloc | apply Kd.R_drewN | apply Kd.R_drew)); exact HO381.out))) (Kd.R_lt (by (with_reducible repeat (first | apply Kd.R_alloc | apply Kd.R_drewN | apply Kd.R_drew)); exact HO385.out))) (below_size (by repeat (first | (with_reducible first | exact HB.out | apply below_alloc | apply pw_below_drewN | apply below_drew1) | exact HB.out)))); have n3_ := Aside0.mk (below_step (by repeat (first | (with_reducible first | exact HB.out | apply below_alloc | apply pw_below_drewN | apply below_drew1) | exact HB.out)) hb); clear HO381; clear HO385; clear HB; have HO381 := n0_; have HO385 := n1_; have HO389 := n2_; have HB := n3_; clear n0_ n1_ n2_ n3_; (try clear hb); (try clear hb2); (try clear hk); (try clear hi); (try clear ho0)))
    (try simp only [Act.put, List.setIfInBounds_toArray, List.set_cons_zero, List.set_cons_succ])
    go_cut [53] (fun v53 wc => ∃ (kq : Nat) (x53_7 : Bool), v53 = .bool x53_7 ∧ Aside0 (laws_FnGiftEffects.j0 kq t377 t378 t379 t382 t383 x53_7 = some r) ∧ Aside0 (kq ≤ k) ∧ Aside0 (Kd.R (Kd.int .i64) 3 wc w.heap.size (fun k_ => some k_ ≠ (v384 : Value).ownBlock) (.slice Ao10 t377.length co10) t377) ∧ Aside0 (Kd.R (Kd.int .i64) 3 wc w.heap.size (fun k_ => some k_ ≠ ((.slice Ao10 t377.length co10) : Value).ownBlock) v384 t382) ∧ Aside0 (Below w.heap.size w wc))
    case first =>
      have H := HC8.out
      clear HC8
      by_cases c13 : (t383 != t387) = true
      · rw [if_pos c13] at H
        have c13b0 : (t383 != t387) = true := c13
        (try (have c13b1 : decide (t383 = t387) = false := by simpa using c13))
        (try (have c13b2 : (t383 == t387) = false := by simpa using c13))
        (try (have c13b3 : ¬ (t383 = t387) := by simpa using c13))
        clear c13
        (first | rw [c13b0] | (simp only [i64_w, i32_w]; rw [c13b0]) | skip)
        have H' := Aside0.mk H
        clear H
        go_wp2
        go_meet
        case rel => exact ⟨_, (true), (by first | rfl | (simp; done) | (simp [*]; done)), H', ⟨by first | omega | exact Nat.le_refl _⟩, ⟨by (with_reducible repeat (first | apply Kd.R_alloc | apply Kd.R_drewN | apply Kd.R_drew)); exact Kd.R_mono HO381.out (fun _ hk => hk.1.2)⟩, ⟨by (with_reducible repeat (first | apply Kd.R_alloc | apply Kd.R_drewN | apply Kd.R_drew)); exact Kd.R_mono HO385.out (fun _ hk => hk.1.2)⟩, ⟨by repeat (first | (with_reducible first | exact HB.out | apply below_alloc | apply pw_below_drewN | apply below_drew1) | exact HB.out)⟩⟩
      · rw [if_neg c13] at H
        have c13b0 : (t383 != t387) = false := by simpa using c13
        (try (have c13b1 : decide (t383 = t387) = true := by simpa using c13))
        (try (have c13b2 : (t383 == t387) = true := by simpa using c13))
        clear c13
        (first | rw [c13b0] | (simp only [i64_w, i32_w]; rw [c13b0]) | skip)
        replace H := Option.bind_eq_some_iff.mp H
        obtain ⟨t390, A140, H⟩ := H
        replace H : (laws_FnGiftEffects.j0 k t377 t378 t379 t382 t383 (!t390)) = some r := H
        have A14 := Aside0.mk A140
        clear A140
        have H' := Aside0.mk H
        clear H
        obtain ⟨Ao15, co15, eo15⟩ := Kd.R_slice HO385.out
        subst eo15
        obtain ⟨Ao16, co16, eo16⟩ := Kd.R_slice HO389.out
        subst eo16
        go_wp2_with (first | (go_at_call 71; (with_reducible refine (laws_ySame.calls k _ _ t382 _ _ t386 t390 _ ?side1 ?side2 ?side3 ?side4 A14.out).mono ?_); (case side1 => repeat (first | exact (Kd.R_reads' HO385.out).2.2 | (with_reducible refine Kd.C_alloc ?_ _) | (with_reducible refine Kd.C_drewN ?_ _) | (with_reducible refine Kd.C_drew ?_))); (case side2 => exact (Kd.R_reads' HO385.out).2.1); (case side3 => repeat (first | exact (Kd.R_reads' HO389.out).2.2 | (with_reducible refine Kd.C_alloc ?_ _) | (with_reducible refine Kd.C_drewN ?_ _) | (with_reducible refine Kd.C_drew ?_))); (case side4 => exact (Kd.R_reads' HO389.out).2.1); rintro e w' ⟨rfl, ⟨nd, rfl⟩⟩))
        go_meet
        case rel => exact ⟨_, (!t390), (by first | rfl | (simp; done) | (simp [*]; done)), H', ⟨by first | omega | exact Nat.le_refl _⟩, ⟨by (with_reducible repeat (first | apply Kd.R_alloc | apply Kd.R_drewN | apply Kd.R_drew)); exact Kd.R_mono HO381.out (fun _ hk => hk.1.2)⟩, ⟨by (with_reducible repeat (first | apply Kd.R_alloc | apply Kd.R_drewN | apply Kd.R_drew)); exact Kd.R_mono HO385.out (fun _ hk => hk.1.2)⟩, ⟨by repeat (first | (with_reducible first | exact HB.out | apply below_alloc | apply pw_below_drewN | apply below_drew1) | exact HB.out)⟩⟩
    case rest =>
      clear HC8
      try clear c1
      try clear p2
      try clear c4
      try clear c8
      try clear c9
      try clear c11
      try clear c13
      try clear c13b0
      try clear c13b1
      try clear c13b2
      try clear c15
      obtain ⟨kq, x53_7, rfl, HA, HJ7, HO_5, HO_8, HB⟩ := hcut
      cases kq with
      | zero => exact absurd HA.out (by simp [laws_FnGiftEffects.j0])
      | succ kj7 =>
        have H := HA.out
        clear HA
        simp only [laws_FnGiftEffects.j0] at H
        by_cases c17 : x53_7 = true
        · subst c17
          have H1 : (some false) = some r := by rw [if_pos rfl] at H; exact H
          clear H
          have H := H1
          clear H1
          obtain rfl := Option.some.inj H
          go_wp2
          go_ret
          exact ⟨by first | rfl | (simp [errW_none, errW_some] <;> rfl) | (simp [*, errW_none, errW_some] <;> rfl), by repeat (first | (with_reducible first | exact HB.out | apply below_alloc | apply pw_below_drewN | apply below_drew1) | exact HB.out)⟩
        · replace c17 := Bool.eq_false_iff.mpr c17
          subst c17
          have H1 : (if t383 = true then ((impl_DoGift.f kj7 t377 t378 t379 1).bind fun bt391 => ((impl_IsMajorized.f kj7 bt391.1 t377).bind fun bt395 => ((impl_SpreadOf.f kj7 t377).bind fun bt397 => ((impl_SpreadOf.f kj7 bt391.1).bind fun bt399 => (laws_FnGiftEffects.l0 kj7 t382 bt391.2 bt395.1 bt395.2 bt397.1 bt397.2 bt399.1 bt399.2 t382 (t382.length : Int) 0))))) else (some true)) = some r := by rw [if_neg (show ¬ (false = true) by decide)] at H; exact H
          clear H
          have H := H1
          clear H1
          by_cases c18 : t383 = true
          · subst c18
            have H1 : ((impl_DoGift.f kj7 t377 t378 t379 1).bind fun bt391 => ((impl_IsMajorized.f kj7 bt391.1 t377).bind fun bt395 => ((impl_SpreadOf.f kj7 t377).bind fun bt397 => ((impl_SpreadOf.f kj7 bt391.1).bind fun bt399 => (laws_FnGiftEffects.l0 kj7 t382 bt391.2 bt395.1 bt395.2 bt397.1 bt397.2 bt399.1 bt399.2 t382 (t382.length : Int) 0))))) = some r := by rw [if_pos rfl] at H; exact H
            clear H
            have H := H1
            clear H1
            replace H := Option.bind_eq_some_iff.mp H
            obtain ⟨⟨t391, t394⟩, A190, H⟩ := H
            replace H : ((impl_IsMajorized.f kj7 t391 t377).bind fun bt395 => ((impl_SpreadOf.f kj7 t377).bind fun bt397 => ((impl_SpreadOf.f kj7 t391).bind fun bt399 => (laws_FnGiftEffects.l0 kj7 t382 t394 bt395.1 bt395.2 bt397.1 bt397.2 bt399.1 bt399.2 t382 (t382.length : Int) 0)))) = some r := H
            have A19 := Aside0.mk A190
            clear A190
            replace H := Option.bind_eq_some_iff.mp H
            obtain ⟨⟨t395, t396⟩, A200, H⟩ := H
            replace H : ((impl_SpreadOf.f kj7 t377).bind fun bt397 => ((impl_SpreadOf.f kj7 t391).bind fun bt399 => (laws_FnGiftEffects.l0 kj7 t382 t394 t395 t396 bt397.1 bt397.2 bt399.1 bt399.2 t382 (t382.length : Int) 0))) = some r := H
            have A20 := Aside0.mk A200
            clear A200
            replace H := Option.bind_eq_some_iff.mp H
            obtain ⟨⟨t397, t398⟩, A210, H⟩ := H
            replace H : ((impl_SpreadOf.f kj7 t391).bind fun bt399 => (laws_FnGiftEffects.l0 kj7 t382 t394 t395 t396 t397 t398 bt399.1 bt399.2 t382 (t382.length : Int) 0)) = some r := H
            have A21 := Aside0.mk A210
            clear A210
            replace H := Option.bind_eq_some_iff.mp H
            obtain ⟨⟨t399, t400⟩, A220, H⟩ := H
            replace H : (laws_FnGiftEffects.l0 kj7 t382 t394 t395 t396 t397 t398 t399 t400 t382 (t382.length : Int) 0) = some r := H
            have A22 := Aside0.mk A220
            clear A220
            have H' := Aside0.mk H
            clear H
            go_wp2_with (first | ((with_reducible refine gate_callee (f := 92) rfl ?_); refine goesL_ (some 61) rfl rfl Try.func92 (by kernel_rfl) rfl #[.slice Ao10 t377.length co10, .agg #[.int .i64 t378, .int .i64 t379, .int .i64 1]] rfl (by (try simp only [List.map_toArray, List.map_cons, List.map_nil]); first | done | rfl | (simp only [List.length_drop, List.length_take]; rfl)) ?_; (with_reducible refine (impl_DoGift.calls kj7 _ _ t377 t378 t379 1 t391 t394 _ ?side1 ?side2 A19.out).mono ?_); (case side1 => repeat (first | exact (Kd.R_reads' HO_5.out).2.2 | (with_reducible refine Kd.C_alloc ?_ _) | (with_reducible refine Kd.C_drewN ?_ _) | (with_reducible refine Kd.C_drew ?_))); (case side2 => exact (Kd.R_reads' HO_5.out).2.1); rintro e w23 ⟨v392, rfl, ho0, hb⟩; refine ⟨_, rfl, ?_⟩; have n0_ := Aside0.mk (Kd.R_elder' (by (with_reducible repeat (first | apply Kd.R_alloc | apply Kd.R_drewN | apply Kd.R_drew)); exact HO_5.out) (Kd.R_base ho0) hb); have n1_ := Aside0.mk (Kd.R_elder' (by (with_reducible repeat (first | apply Kd.R_alloc | apply Kd.R_drewN | apply Kd.R_drew)); exact HO_8.out) (Kd.R_base ho0) hb); have n2_ := Aside0.mk (Kd.R_lower (Kd.R_new' (Kd.R_new' ho0 (Kd.R_lt (by (with_reducible repeat (first | apply Kd.R_alloc | apply Kd.R_drewN | apply Kd.R_drew)); exact HO_5.out))) (Kd.R_lt (by (with_reducible repeat (first | apply Kd.R_alloc | apply Kd.R_drewN | apply Kd.R_drew)); exact HO_8.out))) (below_size (by repeat (first | (with_reducible first | exact HB.out | apply below_alloc | apply pw_below_drewN | apply below_drew1) | exact HB.out)))); have n3_ := Aside0.mk (below_step (by repeat (first | (with_reducible first | exact HB.out | apply below_alloc | apply pw_below_drewN | apply below_drew1) | exact HB.out)) hb); clear HO_5; clear HO_8; clear HB; have HO_5 := n0_; have HO_8 := n1_; have HO393 := n2_; have HB := n3_; clear n0_ n1_ n2_ n3_; (try clear hb); (try clear hb2); (try clear hk); (try clear hi); (try clear ho0); obtain ⟨Ao24, co24, eo24⟩ := Kd.R_slice HO393.out; subst eo24) | ((with_reducible refine gate_callee (f := 72) rfl ?_); refine goesL_ (some 67) rfl rfl Try.func72 (by kernel_rfl) rfl #[.slice Ao24 t391.length co24, .slice Ao10 t377.length co10] rfl (by (try simp only [List.map_toArray, List.map_cons, List.map_nil]); first | done | rfl | (simp only [List.length_drop, List.length_take]; rfl)) ?_; (with_reducible refine (impl_IsMajorized.calls kj7 _ _ t391 _ _ t377 t395 t396 _ ?side1 ?side2 ?side3 ?side4 A20.out).mono ?_); (case side1 => repeat (first | exact (Kd.R_reads' HO393.out).2.2 | (with_reducible refine Kd.C_alloc ?_ _) | (with_reducible refine Kd.C_drewN ?_ _) | (with_reducible refine Kd.C_drew ?_))); (case side2 => exact (Kd.R_reads' HO393.out).2.1); (case side3 => repeat (first | exact (Kd.R_reads' HO_5.out).2.2 | (with_reducible refine Kd.C_alloc ?_ _) | (with_reducible refine Kd.C_drewN ?_ _) | (with_reducible refine Kd.C_drew ?_))); (case side4 => exact (Kd.R_reads' HO_5.out).2.1); rintro e w25 ⟨rfl, hb⟩; refine ⟨_, rfl, ?_⟩; have n0_ := Aside0.mk (Kd.R_below (by (with_reducible repeat (first | apply Kd.R_alloc | apply Kd.R_drewN | apply Kd.R_drew)); exact HO_5.out) hb); have n1_ := Aside0.mk (Kd.R_below (by (with_reducible repeat (first | apply Kd.R_alloc | apply Kd.R_drewN | apply Kd.R_drew)); exact HO_8.out) hb); have n2_ := Aside0.mk (Kd.R_below (by (with_reducible repeat (first | apply Kd.R_alloc | apply Kd.R_drewN | apply Kd.R_drew)); exact HO393.out) hb); have n3_ := Aside0.mk (below_step (by repeat (first | (with_reducible first | exact HB.out | apply below_alloc | apply pw_below_drewN | apply below_drew1) | exact HB.out)) hb); clear HO_5; clear HO_8; clear HO393; clear HB; have HO_5 := n0_; have HO_8 := n1_; have HO393 := n2_; have HB := n3_; clear n0_ n1_ n2_ n3_; (try clear hb); (try clear hb2); (try clear hk); (try clear hi)) | ((with_reducible refine gate_callee (f := 56) rfl ?_); refine goesL_ (some 72) rfl rfl Try.func56 (by kernel_rfl) rfl #[.slice Ao10 t377.length co10] rfl (by (try simp only [List.map_toArray, List.map_cons, List.map_nil]); first | done | rfl | (simp only [List.length_drop, List.length_take]; rfl)) ?_; (with_reducible refine (impl_SpreadOf.calls kj7 _ _ t377 t397 t398 _ ?side1 ?side2 A21.out).mono ?_); (case side1 => repeat (first | exact (Kd.R_reads' HO_5.out).2.2 | (with_reducible refine Kd.C_alloc ?_ _) | (with_reducible refine Kd.C_drewN ?_ _) | (with_reducible refine Kd.C_drew ?_))); (case side2 => exact (Kd.R_reads' HO_5.out).2.1); rintro e w' ⟨rfl, ⟨nd, rfl⟩⟩; refine ⟨_, rfl, ?_⟩) | ((with_reducible refine gate_callee (f := 56) rfl ?_); refine goesL_ (some 77) rfl rfl Try.func56 (by kernel_rfl) rfl #[.slice Ao24 t391.length co24] rfl (by (try simp only [List.map_toArray, List.map_cons, List.map_nil]); first | done | rfl | (simp only [List.length_drop, List.length_take]; rfl)) ?_; (with_reducible refine (impl_SpreadOf.calls kj7 _ _ t391 t399 t400 _ ?side1 ?side2 A22.out).mono ?_); (case side1 => repeat (first | exact (Kd.R_reads' HO393.out).2.2 | (with_reducible refine Kd.C_alloc ?_ _) | (with_reducible refine Kd.C_drewN ?_ _) | (with_reducible refine Kd.C_drew ?_))); (case side2 => exact (Kd.R_reads' HO393.out).2.1); rintro e w' ⟨rfl, ⟨nd, rfl⟩⟩; refine ⟨_, rfl, ?_⟩; obtain ⟨Ao26, co26, eo26⟩ := Kd.R_slice HO_8.out; subst eo26))
            go_loopg [82] kj7 (fun kq v82 w' => ∃ (x82_2 : Int), v82 = .int .i64 x82_2 ∧ Aside0 (laws_FnGiftEffects.l0 kq t382 t394 t395 t396 t397 t398 t399 t400 t382 (t382.length : Int) x82_2 = some r) ∧ Aside0 (kq ≤ kj7) ∧ Aside0 (Kd.R (Kd.int .i64) 3 w' w.heap.size (fun _ => True) (.slice Ao26 t382.length co26) t382) ∧ Aside0 (Kd.R (Kd.int .i64) 3 w' w.heap.size (fun _ => True) (.slice Ao26 t382.length co26) t382) ∧ Aside0 (Below w.heap.size w w'))
            case atStart => exact ⟨(0), (by first | rfl | (simp; done) | (simp [*]; done)), H', ⟨Nat.le_refl _⟩, ⟨by (with_reducible repeat (first | apply Kd.R_alloc | apply Kd.R_drewN | apply Kd.R_drew)); exact Kd.R_mono HO_8.out (fun _ hk => trivial)⟩, ⟨by (with_reducible repeat (first | apply Kd.R_alloc | apply Kd.R_drewN | apply Kd.R_drew)); exact Kd.R_mono HO_8.out (fun _ hk => trivial)⟩, ⟨by repeat (first | (with_reducible first | exact HB.out | apply below_alloc | apply pw_below_drewN | apply below_drew1) | exact HB.out)⟩⟩
            case round =>
              clear H'
              try clear c1
              try clear p2
              try clear c4
              try clear c5
              try clear c7
              try clear c8
              try clear c9
              try clear c11
              try clear c13
              try clear c13b0
              try clear c13b1
              try clear c13b2
              try clear c15
              try clear c17
              try clear c18
              try clear p2
              obtain ⟨x82_2, rfl, HA, HK2, HO_8, HO_80, HB⟩ := hrel
              cases gk with
              | zero => exact absurd HA.out (by simp [laws_FnGiftEffects.l0])
              | succ k2 =>
                have H := HA.out
                clear HA
                simp only [laws_FnGiftEffects.l0] at H
                by_cases c27 : x82_2 < (t382.length : Int)
                · rw [if_pos c27] at H
                  have c27b0 : decide (x82_2 < (t382.length : Int)) = true := decide_eq_true c27
                  clear c27
                  by_cases c28 : 0 ≤ x82_2
                  · rw [if_pos c28] at H
                    have c28b0 : decide (0 ≤ x82_2) = true := decide_eq_true c28
                    clear c28
                    by_cases c29 : x82_2 < (t382.length : Int)
                    · rw [if_pos c29] at H
                      have c29b0 : decide (x82_2 < (t382.length : Int)) = true := decide_eq_true c29
                      clear c29
                      by_cases c30 : (rd t382 x82_2) > 0
                      · rw [if_pos c30] at H
                        have c30b0 : decide (0 < (rd t382 x82_2)) = true := decide_eq_true c30
                        clear c30
                        obtain rfl := Option.some.inj H
                        have p401 : 0 ≤ (x82_2 : Int) := of_decide_eq_true (by first | (with_reducible assumption) | assumption)
                        have q401 : x82_2 < (t382.length : Int) := of_decide_eq_true (by first | (with_reducible assumption) | assumption)
                        obtain ⟨ad401, e401, hx401_0⟩ := Kd.at_int (Kd.R_reads' HO_80.out).2.2 x82_2 p401 q401
                        cases e401
                        replace p401 := eq_true p401
                        replace q401 := eq_true q401
                        go_wp2
                        go_ret
                        exact ⟨by first | rfl | (simp [errW_none, errW_some] <;> rfl) | (simp [*, errW_none, errW_some] <;> rfl), by repeat (first | (with_reducible first | exact HB.out | apply below_alloc | apply pw_below_drewN | apply below_drew1) | exact HB.out)⟩
                      · rw [if_neg c30] at H
                        have c30b0 : decide (0 < (rd t382 x82_2)) = false := decide_eq_false c30
                        clear c30
                        have H' := Aside0.mk H
                        clear H
                        have p401 : 0 ≤ (x82_2 : Int) := of_decide_eq_true (by first | (with_reducible assumption) | assumption)
                        have q401 : x82_2 < (t382.length : Int) := of_decide_eq_true (by first | (with_reducible assumption) | assumption)
                        obtain ⟨ad401, e401, hx401_0⟩ := Kd.at_int (Kd.R_reads' HO_80.out).2.2 x82_2 p401 q401
                        cases e401
                        replace p401 := eq_true p401
                        replace q401 := eq_true q401
                        go_wp2
                        go_roundg k2
                        case measure => have := HJ7.out; have := HK2.out; omega
                        case rel => exact ⟨(wrap64 (x82_2 + 1)), (by first | rfl | (simp; done) | (simp [*]; done)), H', ⟨by have := HJ7.out; have := HK2.out; omega⟩, ⟨by (with_reducible repeat (first | apply Kd.R_alloc | apply Kd.R_drewN | apply Kd.R_drew)); exact HO_8.out⟩, ⟨by (with_reducible repeat (first | apply Kd.R_alloc | apply Kd.R_drewN | apply Kd.R_drew)); exact HO_80.out⟩, ⟨by repeat (first | (with_reducible first | exact HB.out | apply below_alloc | apply pw_below_drewN | apply below_drew1) | exact HB.out)⟩⟩
                    · rw [if_neg c29] at H
                      exact absurd H (by simp)
                  · rw [if_neg c28] at H
                    exact absurd H (by simp)
                · rw [if_neg c27] at H
                  have c27b0 : decide (x82_2 < (t382.length : Int)) = false := decide_eq_false c27
                  clear c27
                  by_cases c31 : t394 = true
                  · subst c31
                    have H1 : (if t396 = true then (if t395 = true then (if t398 = true then (if t400 = true then (if 0 < (t382.length : Int) then (if (rd t382 0) = (wrap64 (t399 - t397)) then (if (rd t382 0) < 0 then (if 1 < (t382.length : Int) then (some (decide ((rd t382 1) < 0))) else (none)) else (some false)) else (some false)) else (none)) else (some false)) else (some false)) else (some false)) else (some false)) = some r := by rw [if_pos rfl] at H; exact H
                    clear H
                    have H := H1
                    clear H1
                    by_cases c32 : t396 = true
                    · subst c32
                      have H1 : (if t395 = true then (if t398 = true then (if t400 = true then (if 0 < (t382.length : Int) then (if (rd t382 0) = (wrap64 (t399 - t397)) then (if (rd t382 0) < 0 then (if 1 < (t382.length : Int) then (some (decide ((rd t382 1) < 0))) else (none)) else (some false)) else (some false)) else (none)) else (some false)) else (some false)) else (some false)) = some r := by rw [if_pos rfl] at H; exact H
                      clear H
                      have H := H1
                      clear H1
                      by_cases c33 : t395 = true
                      · subst c33
                        have H1 : (if t398 = true then (if t400 = true then (if 0 < (t382.length : Int) then (if (rd t382 0) = (wrap64 (t399 - t397)) then (if (rd t382 0) < 0 then (if 1 < (t382.length : Int) then (some (decide ((rd t382 1) < 0))) else (none)) else (some false)) else (some false)) else (none)) else (some false)) else (some false)) = some r := by rw [if_pos rfl] at H; exact H
                        clear H
                        have H := H1
                        clear H1
                        by_cases c34 : t398 = true
                        · subst c34
                          have H1 : (if t400 = true then (if 0 < (t382.length : Int) then (if (rd t382 0) = (wrap64 (t399 - t397)) then (if (rd t382 0) < 0 then (if 1 < (t382.length : Int) then (some (decide ((rd t382 1) < 0))) else (none)) else (some false)) else (some false)) else (none)) else (some false)) = some r := by rw [if_pos rfl] at H; exact H
                          clear H
                          have H := H1
                          clear H1
                          by_cases c35 : t400 = true
                          · subst c35
                            have H1 : (if 0 < (t382.length : Int) then (if (rd t382 0) = (wrap64 (t399 - t397)) then (if (rd t382 0) < 0 then (if 1 < (t382.length : Int) then (some (decide ((rd t382 1) < 0))) else (none)) else (some false)) else (some false)) else (none)) = some r := by rw [if_pos rfl] at H; exact H
                            clear H
                            have H := H1
                            clear H1
                            by_cases c36 : 0 < (t382.length : Int)
                            · rw [if_pos c36] at H
                              have c36b0 : decide (0 < (t382.length : Int)) = true := decide_eq_true c36
                              have c36b1 : decide (0 < t382.length) = true := decide_eq_true (by omega)
                              clear c36
                              by_cases c37 : (rd t382 0) = (wrap64 (t399 - t397))
                              · rw [if_pos c37] at H
                                have c37b0 : ((rd t382 0) == (wrap64 (t399 - t397))) = true := beq_iff_eq.mpr c37
                                have c37b1 : ((rd t382 0) != (wrap64 (t399 - t397))) = false := bne_eq_false_iff_eq.mpr c37
                                clear c37
                                by_cases c38 : (rd t382 0) < 0
                                · rw [if_pos c38] at H
                                  have c38b0 : decide ((rd t382 0) < 0) = true := decide_eq_true c38
                                  clear c38
                                  by_cases c39 : 1 < (t382.length : Int)
                                  · rw [if_pos c39] at H
                                    have c39b0 : decide (1 < (t382.length : Int)) = true := decide_eq_true c39
                                    have c39b1 : decide (1 < t382.length) = true := decide_eq_true (by omega)
                                    clear c39
                                    obtain rfl := Option.some.inj H
                                    have p402 : 0 ≤ (0 : Int) := (by omega)
                                    have q402 : 0 < (t382.length : Int) := of_decide_eq_true (by first | (with_reducible assumption) | assumption)
                                    obtain ⟨ad402, e402, hx402_0⟩ := Kd.at_int (Kd.R_reads' HO_8.out).2.2 0 p402 q402
                                    cases e402
                                    have qi402 : (0 < t382.length) = True := eq_true (by omega)
                                    (try rw [show ((0 : Int)).toNat = 0 from rfl] at hx402_0)
                                    (try rw [Addr.add_zero'] at hx402_0)
                                    replace p402 := eq_true p402
                                    replace q402 := eq_true q402
                                    have p403 : 0 ≤ (0 : Int) := (by omega)
                                    have q403 : 0 < (t382.length : Int) := of_decide_eq_true (by first | (with_reducible assumption) | assumption)
                                    obtain ⟨ad403, e403, hx403_0⟩ := Kd.at_int (Kd.R_reads' HO_8.out).2.2 0 p403 q403
                                    obtain rfl : ad402 = ad403 := (by injection e403)
                                    have qi403 : (0 < t382.length) = True := eq_true (by omega)
                                    (try rw [show ((0 : Int)).toNat = 0 from rfl] at hx403_0)
                                    (try rw [Addr.add_zero'] at hx403_0)
                                    replace p403 := eq_true p403
                                    replace q403 := eq_true q403
                                    have p404 : 0 ≤ (1 : Int) := (by omega)
                                    have q404 : 1 < (t382.length : Int) := of_decide_eq_true (by first | (with_reducible assumption) | assumption)
                                    obtain ⟨ad404, e404, hx404_0⟩ := Kd.at_int (Kd.R_reads' HO_8.out).2.2 1 p404 q404
                                    obtain rfl : ad402 = ad404 := (by injection e404)
                                    (try simp only [show (1 : Int).toNat = 1 from rfl, Nat.reduceMul, Nat.reduceEqDiff, Go.Addr.add, ↓reduceIte] at hx404_0)
                                    have qi404 : (1 < t382.length) = True := eq_true (by omega)
                                    (try rw [show ((1 : Int)).toNat = 1 from rfl] at hx404_0)
                                    replace p404 := eq_true p404
                                    replace q404 := eq_true q404
                                    go_wp2
                                    go_ret
                                    exact ⟨by first | rfl | (simp [errW_none, errW_some] <;> rfl) | (simp [*, errW_none, errW_some] <;> rfl), by repeat (first | (with_reducible first | exact HB.out | apply below_alloc | apply pw_below_drewN | apply below_drew1) | exact HB.out)⟩
                                  · rw [if_neg c39] at H
                                    exact absurd H (by simp)
                                · rw [if_neg c38] at H
                                  have c38b0 : decide ((rd t382 0) < 0) = false := decide_eq_false c38
                                  clear c38
                                  obtain rfl := Option.some.inj H
                                  have p402 : 0 ≤ (0 : Int) := (by omega)
                                  have q402 : 0 < (t382.length : Int) := of_decide_eq_true (by first | (with_reducible assumption) | assumption)
                                  obtain ⟨ad402, e402, hx402_0⟩ := Kd.at_int (Kd.R_reads' HO_8.out).2.2 0 p402 q402
                                  cases e402
                                  have qi402 : (0 < t382.length) = True := eq_true (by omega)
                                  (try rw [show ((0 : Int)).toNat = 0 from rfl] at hx402_0)
                                  (try rw [Addr.add_zero'] at hx402_0)
                                  replace p402 := eq_true p402
                                  replace q402 := eq_true q402
                                  have p403 : 0 ≤ (0 : Int) := (by omega)
                                  have q403 : 0 < (t382.length : Int) := of_decide_eq_true (by first | (with_reducible assumption) | assumption)
                                  obtain ⟨ad403, e403, hx403_0⟩ := Kd.at_int (Kd.R_reads' HO_8.out).2.2 0 p403 q403
                                  obtain rfl : ad402 = ad403 := (by injection e403)
                                  have qi403 : (0 < t382.length) = True := eq_true (by omega)
                                  (try rw [show ((0 : Int)).toNat = 0 from rfl] at hx403_0)
                                  (try rw [Addr.add_zero'] at hx403_0)
                                  replace p403 := eq_true p403
                                  replace q403 := eq_true q403
                                  go_wp2
                                  go_ret
                                  exact ⟨by first | rfl | (simp [errW_none, errW_some] <;> rfl) | (simp [*, errW_none, errW_some] <;> rfl), by repeat (first | (with_reducible first | exact HB.out | apply below_alloc | apply pw_below_drewN | apply below_drew1) | exact HB.out)⟩
                              · rw [if_neg c37] at H
                                have c37b0 : ((rd t382 0) == (wrap64 (t399 - t397))) = false := beq_eq_false_iff_ne.mpr c37
                                have c37b1 : ((rd t382 0) != (wrap64 (t399 - t397))) = true := bne_iff_ne.mpr c37
                                obtain rfl := Option.some.inj H
                                have p402 : 0 ≤ (0 : Int) := (by omega)
                                have q402 : 0 < (t382.length : Int) := of_decide_eq_true (by first | (with_reducible assumption) | assumption)
                                obtain ⟨ad402, e402, hx402_0⟩ := Kd.at_int (Kd.R_reads' HO_8.out).2.2 0 p402 q402
                                cases e402
                                have qi402 : (0 < t382.length) = True := eq_true (by omega)
                                (try rw [show ((0 : Int)).toNat = 0 from rfl] at hx402_0)
                                (try rw [Addr.add_zero'] at hx402_0)
                                replace p402 := eq_true p402
                                replace q402 := eq_true q402
                                go_wp2
                                go_ret
                                exact ⟨by first | rfl | (simp [errW_none, errW_some] <;> rfl) | (simp [*, errW_none, errW_some] <;> rfl), by repeat (first | (with_reducible first | exact HB.out | apply below_alloc | apply pw_below_drewN | apply below_drew1) | exact HB.out)⟩
                            · rw [if_neg c36] at H
                              exact absurd H (by simp)
                          · replace c35 := Bool.eq_false_iff.mpr c35
                            subst c35
                            have H1 : (some false) = some r := by rw [if_neg (show ¬ (false = true) by decide)] at H; exact H
                            clear H
                            have H := H1
                            clear H1
                            obtain rfl := Option.some.inj H
                            go_wp2
                            go_ret
                            exact ⟨by first | rfl | (simp [errW_none, errW_some] <;> rfl) | (simp [*, errW_none, errW_some] <;> rfl), by repeat (first | (with_reducible first | exact HB.out | apply below_alloc | apply pw_below_drewN | apply below_drew1) | exact HB.out)⟩
                        · replace c34 := Bool.eq_false_iff.mpr c34
                          subst c34
                          have H1 : (some false) = some r := by rw [if_neg (show ¬ (false = true) by decide)] at H; exact H
                          clear H
                          have H := H1
                          clear H1
                          obtain rfl := Option.some.inj H
                          go_wp2
                          go_ret
                          exact ⟨by first | rfl | (simp [errW_none, errW_some] <;> rfl) | (simp [*, errW_none, errW_some] <;> rfl), by repeat (first | (with_reducible first | exact HB.out | apply below_alloc | apply pw_below_drewN | apply below_drew1) | exact HB.out)⟩
                      · replace c33 := Bool.eq_false_iff.mpr c33
                        subst c33
                        have H1 : (some false) = some r := by rw [if_neg (show ¬ (false = true) by decide)] at H; exact H
                        clear H
                        have H := H1
                        clear H1
                        obtain rfl := Option.some.inj H
                        go_wp2
                        go_ret
                        exact ⟨by first | rfl | (simp [errW_none, errW_some] <;> rfl) | (simp [*, errW_none, errW_some] <;> rfl), by repeat (first | (with_reducible first | exact HB.out | apply below_alloc | apply pw_below_drewN | apply below_drew1) | exact HB.out)⟩
                    · replace c32 := Bool.eq_false_iff.mpr c32
                      subst c32
                      have H1 : (some false) = some r := by rw [if_neg (show ¬ (false = true) by decide)] at H; exact H
                      clear H
                      have H := H1
                      clear H1
                      obtain rfl := Option.some.inj H
                      go_wp2
                      go_ret
                      exact ⟨by first | rfl | (simp [errW_none, errW_some] <;> rfl) | (simp [*, errW_none, errW_some] <;> rfl), by repeat (first | (with_reducible first | exact HB.out | apply below_alloc | apply pw_below_drewN | apply below_drew1) | exact HB.out)⟩
                  · replace c31 := Bool.eq_false_iff.mpr c31
                    subst c31
                    have H1 : (some false) = some r := by rw [if_neg (show ¬ (false = true) by decide)] at H; exact H
                    clear H
                    have H := H1
                    clear H1
                    obtain rfl := Option.some.inj H
                    go_wp2
                    go_ret
                    exact ⟨by first | rfl | (simp [errW_none, errW_some] <;> rfl) | (simp [*, errW_none, errW_some] <;> rfl), by repeat (first | (with_reducible first | exact HB.out | apply below_alloc | apply pw_below_drewN | apply below_drew1) | exact HB.out)⟩
          · replace c18 := Bool.eq_false_iff.mpr c18
            subst c18
            have H1 : (some true) = some r := by rw [if_neg (show ¬ (false = true) by decide)] at H; exact H
            clear H
            have H := H1
            clear H1
            obtain rfl := Option.some.inj H
            go_wp2
            go_ret
            exact ⟨by first | rfl | (simp [errW_none, errW_some] <;> rfl) | (simp [*, errW_none, errW_some] <;> rfl), by repeat (first | (with_reducible first | exact HB.out | apply below_alloc | apply pw_below_drewN | apply below_drew1) | exact HB.out)⟩

/-- THE ONE PURE STATEMENT of laws_FnGiftEffects: yours. -/
def laws_FnGiftEffects.Pure : Prop := ∀ (l0 : List Int) (l1 : List Int), l0.length ≤ maxLen → l0.length * 1 ≤ 140737488351232 → (∀ x ∈ l0, (Lit.int .u8 x).wf = true) → l1.length ≤ maxLen → l1.length * 1 ≤ 140737488351232 → (∀ x ∈ l1, (Lit.int .u8 x).wf = true) → ∃ k, laws_FnGiftEffects.f k l0 l1 = some true
theorem laws_FnGiftEffects.walk (P : laws_FnGiftEffects.Pure) (a0 : Option Addr) (len0 cap0 : Nat) (z0 : List Int) (a1 : Option Addr) (len1 cap1 : Nat) (z1 : List Int) (w : World) (w0 : (a0 = none ∧ len0 = 0 ∧ cap0 = 0 ∧ z0 = []) ∨ ∃ x, a0 = some x ∧ len0 ≤ cap0 ∧ cap0 ≤ maxLen ∧ z0.length = cap0 ∧ (∀ i, i < z0.length → w.cell? (x.add i) = some (.int .u8 (z0.getD i 0))) ∧ ∀ n ∈ z0, (Lit.int .u8 n).wf = true) (y0 : len0 * 1 ≤ 140737488351232) (w1 : (a1 = none ∧ len1 = 0 ∧ cap1 = 0 ∧ z1 = []) ∨ ∃ x, a1 = some x ∧ len1 ≤ cap1 ∧ cap1 ≤ maxLen ∧ z1.length = cap1 ∧ (∀ i, i < z1.length → w.cell? (x.add i) = some (.int .u8 (z1.getD i 0))) ∧ ∀ n ∈ z1, (Lit.int .u8 n).wf = true) (y1 : len1 * 1 ≤ 140737488351232) :
    Calls Try.prog 11 #[.slice a0 len0 cap0, .slice a1 len1 cap1] w fun e w' => e = .returned (.bool true) ∧ Below w.heap.size w w' := by
  obtain ⟨l0, rfl, hr0, hm0, hw0, hc0⟩ := ReadsInt.ofRowC w0
  obtain ⟨l1, rfl, hr1, hm1, hw1, hc1⟩ := ReadsInt.ofRowC w1
  obtain ⟨k, h⟩ := P l0 l1 hm0 y0 hw0 hm1 y1 hw1
  refine (laws_FnGiftEffects.calls k _ _ l0 _ _ l1 true w (Kd.C_of_reads (d := (0 : Int)) (h1 := fun _ => rfl) hr0) hc0 (Kd.C_of_reads (d := (0 : Int)) (h1 := fun _ => rfl) hr1) hc1 h).mono ?_
  rintro e w' ⟨rfl, hd⟩
  exact ⟨rfl, hd⟩

end Go.Proofs.Ytclnfaclfplpmaa.PFnGiftEffects
