/- For each Go function that the law uses, a Lean function with the same answers and a proof that its call comes to them; the conditions stand in each theorem. (Written by a program of this session, turned from the print of the kit.) -/
import Derived.Test.YtojklddddedoeaaPFnMuirheadsOrderx0
import Derived.Test.YtojklddddedoeaaPFnMuirheadsOrderx1
import Derived.Test.YtojklddddedoeaaPFnMuirheadsOrderx2
import Derived.Test.YtojklddddedoeaaPFnMuirheadsOrderx3
import Derived.Test.YtojklddddedoeaaPFnMuirheadsOrderx4
import Derived.Test.YtojklddddedoeaaPFnMuirheadsOrderx7
namespace Go.Proofs.Ytojklddddedoeaa.PFnMuirheadsOrder
open Go.RowKit Go.Proofs.YtojklddddedoeaaW.PrintWords Go.Proofs.YtojklddddedoeaaW.PrintLast Go.Proofs.YtojklddddedoeaaW.PrintMore
attribute [local go_sem] max2_int min2_int max_two min_two max_three min_three max_four min_four   -- for this text's walks alone
set_option linter.unusedVariables false
set_option linter.unusedSimpArgs false

/-! ### laws_FnMuirheadsOrder: function 7 -/
mutual
def laws_FnMuirheadsOrder.j0 : Nat → List Int → List Int → List Int → Int → Bool → Bool → Option (Bool)
  | 0, _, _, _, _, _, _ => none
  | k + 1, x5, x6, x7, x8, x11, x51 => if x51 = true then (some false) else (if x11 = true then ((impl_SymmetricSum.f k x5 x7).bind fun bt324 => ((impl_SymmetricSum.f k x6 x7).bind fun bt326 => ((spec_SymmetricSum.f k x5 x7).bind fun bt328 => (if bt324.2 = true then (if bt326.2 = true then (if bt328.2 = true then (if bt324.1 = bt328.1 then (if ((decide (x8 < 0)) != (decide (bt324.1 < bt326.1))) = true then (laws_FnMuirheadsOrder.j1 k x5 x6 x7 x8 true) else (laws_FnMuirheadsOrder.j1 k x5 x6 x7 x8 ((x8 == 0) != (bt324.1 == bt326.1)))) else (laws_FnMuirheadsOrder.j1 k x5 x6 x7 x8 true)) else (laws_FnMuirheadsOrder.j1 k x5 x6 x7 x8 true)) else (laws_FnMuirheadsOrder.j1 k x5 x6 x7 x8 true)) else (laws_FnMuirheadsOrder.j1 k x5 x6 x7 x8 true))))) else (some true))
def laws_FnMuirheadsOrder.j1 : Nat → List Int → List Int → List Int → Int → Bool → Option (Bool)
  | 0, _, _, _, _, _ => none
  | k + 1, x5, x6, x7, x8, x102 => if x102 = true then (some false) else ((laws_pBelow.f k x5 x6).bind fun t330 => (if t330 = true then (laws_FnMuirheadsOrder.l0 k x5 x6 x7 x8 true x7 (x7.length : Int) 0) else (some true)))
def laws_FnMuirheadsOrder.l0 : Nat → List Int → List Int → List Int → Int → Bool → List Int → Int → Int → Option (Bool)
  | 0, _, _, _, _, _, _, _, _ => none
  | k + 1, x5, x6, x7, x8, x18, x107, x108, x109 => if x109 < x108 then (if 0 ≤ x109 then (if x109 < (x107.length : Int) then (if x18 = true then (if 0 < (x7.length : Int) then (laws_FnMuirheadsOrder.l0 k x5 x6 x7 x8 ((rd x107 x109) == (rd x7 0)) x107 x108 (wrap64 (x109 + 1))) else (none)) else (laws_FnMuirheadsOrder.l0 k x5 x6 x7 x8 false x107 x108 (wrap64 (x109 + 1)))) else (none)) else (none)) else (if x8 ≤ 0 then (if x18 = true then (some ((x8 == 0) == true)) else ((laws_pBelow.f k x6 x5).bind fun t333 => (some ((x8 == 0) == t333)))) else (some false))
end
def laws_FnMuirheadsOrder.f (k : Nat) (l0 : List Int) (l1 : List Int) : Option (Bool) := (laws_big.f l0 l1).bind fun t310 => (if t310 = true then (some true) else ((spec_DrawCompareSums.f k l0).bind fun bt311 => ((impl_CompareSums.f k bt311.1 bt311.2.1 bt311.2.2).bind fun bt320 => ((spec_CompareSums.f k bt311.1 bt311.2.1 bt311.2.2).bind fun bt322 => (if (bt320.2 != bt322.2) = true then (laws_FnMuirheadsOrder.j0 k bt311.1 bt311.2.1 bt311.2.2 bt320.1 bt322.2 true) else (laws_FnMuirheadsOrder.j0 k bt311.1 bt311.2.1 bt311.2.2 bt320.1 bt322.2 (bt320.1 != bt322.1)))))))
theorem laws_FnMuirheadsOrder.mono_l : ∀ k, (∀ y0 y1 y2 y3 y4 y5, LeO (laws_FnMuirheadsOrder.j0 k y0 y1 y2 y3 y4 y5) (laws_FnMuirheadsOrder.j0 (k + 1) y0 y1 y2 y3 y4 y5)) ∧ (∀ y0 y1 y2 y3 y4, LeO (laws_FnMuirheadsOrder.j1 k y0 y1 y2 y3 y4) (laws_FnMuirheadsOrder.j1 (k + 1) y0 y1 y2 y3 y4)) ∧ (∀ y0 y1 y2 y3 y4 y5 y6 y7, LeO (laws_FnMuirheadsOrder.l0 k y0 y1 y2 y3 y4 y5 y6 y7) (laws_FnMuirheadsOrder.l0 (k + 1) y0 y1 y2 y3 y4 y5 y6 y7))
  | 0 => ⟨fun _ _ _ _ _ _ r h => by simp [laws_FnMuirheadsOrder.j0] at h, fun _ _ _ _ _ r h => by simp [laws_FnMuirheadsOrder.j1] at h, fun _ _ _ _ _ _ _ _ r h => by simp [laws_FnMuirheadsOrder.l0] at h⟩
  | k + 1 => by
    obtain ⟨ih0, ih1, ih2⟩ := laws_FnMuirheadsOrder.mono_l k
    refine ⟨?_, ?_, ?_⟩
    · intro y0 y1 y2 y3 y4 y5
      unfold laws_FnMuirheadsOrder.j0
      repeat' first
      | (with_reducible exact ih0 _ _ _ _ _ _)
      | (with_reducible exact ih1 _ _ _ _ _)
      | (with_reducible exact ih2 _ _ _ _ _ _ _ _)
      | (with_reducible exact impl_CompareSums.mono _ _ _ _)
      | (with_reducible exact impl_SymmetricSum.mono _ _ _)
      | (with_reducible exact laws_pBelow.mono _ _ _)
      | (with_reducible exact spec_CompareSums.mono _ _ _ _)
      | (with_reducible exact spec_DrawCompareSums.mono _ _)
      | (with_reducible exact spec_SymmetricSum.mono _ _ _)
      | (with_reducible exact LeO.refl _)
      | (with_reducible exact LeO.none _)
      | (with_reducible refine LeO.ite ?_ ?_)
      | (with_reducible refine LeO.bind ?_ (fun _ => ?_))
      | exact ih0 _ _ _ _ _ _
      | exact ih1 _ _ _ _ _
      | exact ih2 _ _ _ _ _ _ _ _
      | exact impl_CompareSums.mono _ _ _ _
      | exact impl_SymmetricSum.mono _ _ _
      | exact laws_pBelow.mono _ _ _
      | exact spec_CompareSums.mono _ _ _ _
      | exact spec_DrawCompareSums.mono _ _
      | exact spec_SymmetricSum.mono _ _ _
      | exact LeO.none _
      | refine LeO.ite ?_ ?_
      | refine LeO.bind ?_ (fun _ => ?_)
    · intro y0 y1 y2 y3 y4
      unfold laws_FnMuirheadsOrder.j1
      repeat' first
      | (with_reducible exact ih0 _ _ _ _ _ _)
      | (with_reducible exact ih1 _ _ _ _ _)
      | (with_reducible exact ih2 _ _ _ _ _ _ _ _)
      | (with_reducible exact impl_CompareSums.mono _ _ _ _)
      | (with_reducible exact impl_SymmetricSum.mono _ _ _)
      | (with_reducible exact laws_pBelow.mono _ _ _)
      | (with_reducible exact spec_CompareSums.mono _ _ _ _)
      | (with_reducible exact spec_DrawCompareSums.mono _ _)
      | (with_reducible exact spec_SymmetricSum.mono _ _ _)
      | (with_reducible exact LeO.refl _)
      | (with_reducible exact LeO.none _)
      | (with_reducible refine LeO.ite ?_ ?_)
      | (with_reducible refine LeO.bind ?_ (fun _ => ?_))
      | exact ih0 _ _ _ _ _ _
      | exact ih1 _ _ _ _ _
      | exact ih2 _ _ _ _ _ _ _ _
      | exact impl_CompareSums.mono _ _ _ _
      | exact impl_SymmetricSum.mono _ _ _
      | exact laws_pBelow.mono _ _ _
      | exact spec_CompareSums.mono _ _ _ _
      | exact spec_DrawCompareSums.mono _ _
      | exact spec_SymmetricSum.mono _ _ _
      | exact LeO.none _
      | refine LeO.ite ?_ ?_
      | refine LeO.bind ?_ (fun _ => ?_)
    · intro y0 y1 y2 y3 y4 y5 y6 y7
      unfold laws_FnMuirheadsOrder.l0
      repeat' first
      | (with_reducible exact ih0 _ _ _ _ _ _)
      | (with_reducible exact ih1 _ _ _ _ _)
      | (with_reducible exact ih2 _ _ _ _ _ _ _ _)
      | (with_reducible exact impl_CompareSums.mono _ _ _ _)
      | (with_reducible exact impl_SymmetricSum.mono _ _ _)
      | (with_reducible exact laws_pBelow.mono _ _ _)
      | (with_reducible exact spec_CompareSums.mono _ _ _ _)
      | (with_reducible exact spec_DrawCompareSums.mono _ _)
      | (with_reducible exact spec_SymmetricSum.mono _ _ _)
      | (with_reducible exact LeO.refl _)
      | (with_reducible exact LeO.none _)
      | (with_reducible refine LeO.ite ?_ ?_)
      | (with_reducible refine LeO.bind ?_ (fun _ => ?_))
      | exact ih0 _ _ _ _ _ _
      | exact ih1 _ _ _ _ _
      | exact ih2 _ _ _ _ _ _ _ _
      | exact impl_CompareSums.mono _ _ _ _
      | exact impl_SymmetricSum.mono _ _ _
      | exact laws_pBelow.mono _ _ _
      | exact spec_CompareSums.mono _ _ _ _
      | exact spec_DrawCompareSums.mono _ _
      | exact spec_SymmetricSum.mono _ _ _
      | exact LeO.none _
      | refine LeO.ite ?_ ?_
      | refine LeO.bind ?_ (fun _ => ?_)
theorem laws_FnMuirheadsOrder.mono : ∀ a0 a1 k, LeO (laws_FnMuirheadsOrder.f k a0 a1) (laws_FnMuirheadsOrder.f (k + 1) a0 a1) := by
  intro a0 a1 k
  obtain ⟨ih0, ih1, ih2⟩ := laws_FnMuirheadsOrder.mono_l k
  unfold laws_FnMuirheadsOrder.f
  repeat' first
      | (with_reducible exact ih0 _ _ _ _ _ _)
      | (with_reducible exact ih1 _ _ _ _ _)
      | (with_reducible exact ih2 _ _ _ _ _ _ _ _)
      | (with_reducible exact impl_CompareSums.mono _ _ _ _)
      | (with_reducible exact impl_SymmetricSum.mono _ _ _)
      | (with_reducible exact laws_pBelow.mono _ _ _)
      | (with_reducible exact spec_CompareSums.mono _ _ _ _)
      | (with_reducible exact spec_DrawCompareSums.mono _ _)
      | (with_reducible exact spec_SymmetricSum.mono _ _ _)
      | (with_reducible exact LeO.refl _)
      | (with_reducible exact LeO.none _)
      | (with_reducible refine LeO.ite ?_ ?_)
      | (with_reducible refine LeO.bind ?_ (fun _ => ?_))
      | exact ih0 _ _ _ _ _ _
      | exact ih1 _ _ _ _ _
      | exact ih2 _ _ _ _ _ _ _ _
      | exact impl_CompareSums.mono _ _ _ _
      | exact impl_SymmetricSum.mono _ _ _
      | exact laws_pBelow.mono _ _ _
      | exact spec_CompareSums.mono _ _ _ _
      | exact spec_DrawCompareSums.mono _ _
      | exact spec_SymmetricSum.mono _ _ _
      | exact LeO.none _
      | refine LeO.ite ?_ ?_
      | refine LeO.bind ?_ (fun _ => ?_)
set_option maxHeartbeats 8000000 in
set_option maxRecDepth 100000 in
theorem laws_FnMuirheadsOrder.calls (k : Nat) (A0 : Option Addr) (c0 : Nat) (l0 : List Int) (A1 : Option Addr) (c1 : Nat) (l1 : List Int) (r : Bool) (w : World) (hr0 : Kd.C (Kd.int .u8) w A0 l0.length l0) (hc0 : l0.length ≤ c0) (hr1 : Kd.C (Kd.int .u8) w A1 l1.length l1) (hc1 : l1.length ≤ c1) (h : laws_FnMuirheadsOrder.f k l0 l1 = some r) :
    Calls Try.prog 7 #[.slice A0 l0.length c0, .slice A1 l1.length c1] w fun e w' => e = .returned (.bool r) ∧ Below w.heap.size w w' := by
  have HR0 := Aside0.mk hr0
  have HC0 := Aside0.mk hc0
  clear hr0 hc0
  have HR1 := Aside0.mk hr1
  have HC1 := Aside0.mk hc1
  clear hr1 hc1
  have HB := Aside0.mk (Below.refl w.heap.size w)
  have H : ((laws_big.f l0 l1).bind fun t310 => (if t310 = true then (some true) else ((spec_DrawCompareSums.f k l0).bind fun bt311 => ((impl_CompareSums.f k bt311.1 bt311.2.1 bt311.2.2).bind fun bt320 => ((spec_CompareSums.f k bt311.1 bt311.2.1 bt311.2.2).bind fun bt322 => (if (bt320.2 != bt322.2) = true then (laws_FnMuirheadsOrder.j0 k bt311.1 bt311.2.1 bt311.2.2 bt320.1 bt322.2 true) else (laws_FnMuirheadsOrder.j0 k bt311.1 bt311.2.1 bt311.2.2 bt320.1 bt322.2 (bt320.1 != bt322.1)))))))) = some r := h
  clear h
  replace H := Option.bind_eq_some_iff.mp H
  obtain ⟨t310, A30, H⟩ := H
  replace H : (if t310 = true then (some true) else ((spec_DrawCompareSums.f k l0).bind fun bt311 => ((impl_CompareSums.f k bt311.1 bt311.2.1 bt311.2.2).bind fun bt320 => ((spec_CompareSums.f k bt311.1 bt311.2.1 bt311.2.2).bind fun bt322 => (if (bt320.2 != bt322.2) = true then (laws_FnMuirheadsOrder.j0 k bt311.1 bt311.2.1 bt311.2.2 bt320.1 bt322.2 true) else (laws_FnMuirheadsOrder.j0 k bt311.1 bt311.2.1 bt311.2.2 bt320.1 bt322.2 (bt320.1 != bt322.1))))))) = some r := H
  have A3 := Aside0.mk A30
  clear A30
  by_cases c4 : t310 = true
  · subst c4
    have H1 : (some true) = some r := by rw [if_pos rfl] at H; exact H
    clear H
    have H := H1
    clear H1
    obtain rfl := Option.some.inj H
    go_enter Try.func7, Try.ntmps7
    go_wp2_with (first | ((with_reducible refine gate_callee (f := 10) rfl ?_); refine goesL_ (some 23) rfl rfl Try.func10 (by kernel_rfl) rfl #[.slice A0 l0.length c0, .slice A1 l1.length c1] rfl (by (try simp only [List.map_toArray, List.map_cons, List.map_nil]); first | done | rfl | (simp only [List.length_drop, List.length_take]; rfl)) ?_; (with_reducible refine (laws_big.calls _ _ l0 _ _ l1 true _ ?side1 ?side2 ?side3 ?side4 A3.out).mono ?_); (case side1 => repeat (first | exact HR0.out | (with_reducible refine Kd.C_alloc ?_ _) | (with_reducible refine Kd.C_drewN ?_ _) | (with_reducible refine Kd.C_drew ?_))); (case side2 => exact HC0.out); (case side3 => repeat (first | exact HR1.out | (with_reducible refine Kd.C_alloc ?_ _) | (with_reducible refine Kd.C_drewN ?_ _) | (with_reducible refine Kd.C_drew ?_))); (case side4 => exact HC1.out); rintro e w' ⟨rfl, ⟨nd, rfl⟩⟩; refine ⟨_, rfl, ?_⟩))
    go_ret
    exact ⟨by first | rfl | (simp [errW_none, errW_some] <;> rfl) | (simp [*, errW_none, errW_some] <;> rfl), by repeat (first | (with_reducible first | exact HB.out | apply below_alloc | apply pw_below_drewN | apply below_drew1) | exact HB.out)⟩
  · replace c4 := Bool.eq_false_iff.mpr c4
    subst c4
    have H1 : ((spec_DrawCompareSums.f k l0).bind fun bt311 => ((impl_CompareSums.f k bt311.1 bt311.2.1 bt311.2.2).bind fun bt320 => ((spec_CompareSums.f k bt311.1 bt311.2.1 bt311.2.2).bind fun bt322 => (if (bt320.2 != bt322.2) = true then (laws_FnMuirheadsOrder.j0 k bt311.1 bt311.2.1 bt311.2.2 bt320.1 bt322.2 true) else (laws_FnMuirheadsOrder.j0 k bt311.1 bt311.2.1 bt311.2.2 bt320.1 bt322.2 (bt320.1 != bt322.1)))))) = some r := by rw [if_neg (show ¬ (false = true) by decide)] at H; exact H
    clear H
    have H := H1
    clear H1
    replace H := Option.bind_eq_some_iff.mp H
    obtain ⟨⟨t311, t312, t313⟩, A50, H⟩ := H
    replace H : ((impl_CompareSums.f k t311 t312 t313).bind fun bt320 => ((spec_CompareSums.f k t311 t312 t313).bind fun bt322 => (if (bt320.2 != bt322.2) = true then (laws_FnMuirheadsOrder.j0 k t311 t312 t313 bt320.1 bt322.2 true) else (laws_FnMuirheadsOrder.j0 k t311 t312 t313 bt320.1 bt322.2 (bt320.1 != bt322.1))))) = some r := H
    have A5 := Aside0.mk A50
    clear A50
    replace H := Option.bind_eq_some_iff.mp H
    obtain ⟨⟨t320, t321⟩, A60, H⟩ := H
    replace H : ((spec_CompareSums.f k t311 t312 t313).bind fun bt322 => (if (t321 != bt322.2) = true then (laws_FnMuirheadsOrder.j0 k t311 t312 t313 t320 bt322.2 true) else (laws_FnMuirheadsOrder.j0 k t311 t312 t313 t320 bt322.2 (t320 != bt322.1)))) = some r := H
    have A6 := Aside0.mk A60
    clear A60
    replace H := Option.bind_eq_some_iff.mp H
    obtain ⟨⟨t322, t323⟩, A70, H⟩ := H
    replace H : (if (t321 != t323) = true then (laws_FnMuirheadsOrder.j0 k t311 t312 t313 t320 t323 true) else (laws_FnMuirheadsOrder.j0 k t311 t312 t313 t320 t323 (t320 != t322))) = some r := H
    have A7 := Aside0.mk A70
    clear A70
    have HC8 := Aside0.mk H
    clear H
    go_enter Try.func7, Try.ntmps7
    go_upto_region 6 with (first | ((with_reducible refine gate_callee (f := 10) rfl ?_); refine goesL_ (some 23) rfl rfl Try.func10 (by kernel_rfl) rfl #[.slice A0 l0.length c0, .slice A1 l1.length c1] rfl (by (try simp only [List.map_toArray, List.map_cons, List.map_nil]); first | done | rfl | (simp only [List.length_drop, List.length_take]; rfl)) ?_; (with_reducible refine (laws_big.calls _ _ l0 _ _ l1 false _ ?side1 ?side2 ?side3 ?side4 A3.out).mono ?_); (case side1 => repeat (first | exact HR0.out | (with_reducible refine Kd.C_alloc ?_ _) | (with_reducible refine Kd.C_drewN ?_ _) | (with_reducible refine Kd.C_drew ?_))); (case side2 => exact HC0.out); (case side3 => repeat (first | exact HR1.out | (with_reducible refine Kd.C_alloc ?_ _) | (with_reducible refine Kd.C_drewN ?_ _) | (with_reducible refine Kd.C_drew ?_))); (case side4 => exact HC1.out); rintro e w' ⟨rfl, ⟨nd, rfl⟩⟩; refine ⟨_, rfl, ?_⟩) | ((with_reducible refine gate_callee (f := 46) rfl ?_); refine goesL_ (some 26) rfl rfl Try.func46 (by kernel_rfl) rfl #[.slice A0 l0.length c0] rfl (by (try simp only [List.map_toArray, List.map_cons, List.map_nil]); first | done | rfl | (simp only [List.length_drop, List.length_take]; rfl)) ?_; (with_reducible refine (spec_DrawCompareSums.calls k _ _ l0 t311 t312 t313 _ ?side1 ?side2 A5.out).mono ?_); (case side1 => repeat (first | exact HR0.out | (with_reducible refine Kd.C_alloc ?_ _) | (with_reducible refine Kd.C_drewN ?_ _) | (with_reducible refine Kd.C_drew ?_))); (case side2 => exact HC0.out); rintro e w9 ⟨v314, v316, v318, rfl, ho0, ho1, ho2, hb⟩; refine ⟨_, rfl, ?_⟩; have n0_ := Aside0.mk (Kd.R_lower ho0 (below_size (by repeat (first | (with_reducible first | exact HB.out | apply below_alloc | apply pw_below_drewN | apply below_drew1) | exact HB.out)))); have n1_ := Aside0.mk (Kd.R_lower ho1 (below_size (by repeat (first | (with_reducible first | exact HB.out | apply below_alloc | apply pw_below_drewN | apply below_drew1) | exact HB.out)))); have n2_ := Aside0.mk (Kd.R_lower ho2 (below_size (by repeat (first | (with_reducible first | exact HB.out | apply below_alloc | apply pw_below_drewN | apply below_drew1) | exact HB.out)))); have n3_ := Aside0.mk (below_step (by repeat (first | (with_reducible first | exact HB.out | apply below_alloc | apply pw_below_drewN | apply below_drew1) | exact HB.out)) hb); clear HB; have HO315 := n0_; have HO317 := n1_; have HO319 := n2_; have HB := n3_; clear n0_ n1_ n2_ n3_; (try clear hb); (try clear hb2); (try clear hk); (try clear hi); (try clear ho0); (try clear ho1); (try clear ho2); obtain ⟨Ao10, co10, eo10⟩ := Kd.R_slice HO315.out; subst eo10; obtain ⟨Ao11, co11, eo11⟩ := Kd.R_slice HO317.out; subst eo11; obtain ⟨Ao12, co12, eo12⟩ := Kd.R_slice HO319.out; subst eo12) | ((with_reducible refine gate_callee (f := 47) rfl ?_); refine goesL_ (some 34) rfl rfl Try.func47 (by kernel_rfl) rfl #[.slice Ao10 t311.length co10, .slice Ao11 t312.length co11, .slice Ao12 t313.length co12] rfl (by (try simp only [List.map_toArray, List.map_cons, List.map_nil]); first | done | rfl | (simp only [List.length_drop, List.length_take]; rfl)) ?_; (with_reducible refine (impl_CompareSums.calls k _ _ t311 _ _ t312 _ _ t313 t320 t321 _ ?side1 ?side2 ?side3 ?side4 ?side5 ?side6 A6.out).mono ?_); (case side1 => repeat (first | exact (Kd.R_reads' HO315.out).2.2 | (with_reducible refine Kd.C_alloc ?_ _) | (with_reducible refine Kd.C_drewN ?_ _) | (with_reducible refine Kd.C_drew ?_))); (case side2 => exact (Kd.R_reads' HO315.out).2.1); (case side3 => repeat (first | exact (Kd.R_reads' HO317.out).2.2 | (with_reducible refine Kd.C_alloc ?_ _) | (with_reducible refine Kd.C_drewN ?_ _) | (with_reducible refine Kd.C_drew ?_))); (case side4 => exact (Kd.R_reads' HO317.out).2.1); (case side5 => repeat (first | exact (Kd.R_reads' HO319.out).2.2 | (with_reducible refine Kd.C_alloc ?_ _) | (with_reducible refine Kd.C_drewN ?_ _) | (with_reducible refine Kd.C_drew ?_))); (case side6 => exact (Kd.R_reads' HO319.out).2.1); rintro e w13 ⟨rfl, hb⟩; refine ⟨_, rfl, ?_⟩; have n0_ := Aside0.mk (Kd.R_below (by (with_reducible repeat (first | apply Kd.R_alloc | apply Kd.R_drewN | apply Kd.R_drew)); exact HO315.out) hb); have n1_ := Aside0.mk (Kd.R_below (by (with_reducible repeat (first | apply Kd.R_alloc | apply Kd.R_drewN | apply Kd.R_drew)); exact HO317.out) hb); have n2_ := Aside0.mk (Kd.R_below (by (with_reducible repeat (first | apply Kd.R_alloc | apply Kd.R_drewN | apply Kd.R_drew)); exact HO319.out) hb); have n3_ := Aside0.mk (below_step (by repeat (first | (with_reducible first | exact HB.out | apply below_alloc | apply pw_below_drewN | apply below_drew1) | exact HB.out)) hb); clear HO315; clear HO317; clear HO319; clear HB; have HO315 := n0_; have HO317 := n1_; have HO319 := n2_; have HB := n3_; clear n0_ n1_ n2_ n3_; (try clear hb); (try clear hb2); (try clear hk); (try clear hi)) | ((with_reducible refine gate_callee (f := 48) rfl ?_); refine goesL_ (some 41) rfl rfl Try.func48 (by kernel_rfl) rfl #[.slice Ao10 t311.length co10, .slice Ao11 t312.length co11, .slice Ao12 t313.length co12] rfl (by (try simp only [List.map_toArray, List.map_cons, List.map_nil]); first | done | rfl | (simp only [List.length_drop, List.length_take]; rfl)) ?_; (with_reducible refine (spec_CompareSums.calls k _ _ t311 _ _ t312 _ _ t313 t322 t323 _ ?side1 ?side2 ?side3 ?side4 ?side5 ?side6 A7.out).mono ?_); (case side1 => repeat (first | exact (Kd.R_reads' HO315.out).2.2 | (with_reducible refine Kd.C_alloc ?_ _) | (with_reducible refine Kd.C_drewN ?_ _) | (with_reducible refine Kd.C_drew ?_))); (case side2 => exact (Kd.R_reads' HO315.out).2.1); (case side3 => repeat (first | exact (Kd.R_reads' HO317.out).2.2 | (with_reducible refine Kd.C_alloc ?_ _) | (with_reducible refine Kd.C_drewN ?_ _) | (with_reducible refine Kd.C_drew ?_))); (case side4 => exact (Kd.R_reads' HO317.out).2.1); (case side5 => repeat (first | exact (Kd.R_reads' HO319.out).2.2 | (with_reducible refine Kd.C_alloc ?_ _) | (with_reducible refine Kd.C_drewN ?_ _) | (with_reducible refine Kd.C_drew ?_))); (case side6 => exact (Kd.R_reads' HO319.out).2.1); rintro e w14 ⟨rfl, hb⟩; refine ⟨_, rfl, ?_⟩; have n0_ := Aside0.mk (Kd.R_below (by (with_reducible repeat (first | apply Kd.R_alloc | apply Kd.R_drewN | apply Kd.R_drew)); exact HO315.out) hb); have n1_ := Aside0.mk (Kd.R_below (by (with_reducible repeat (first | apply Kd.R_alloc | apply Kd.R_drewN | apply Kd.R_drew)); exact HO317.out) hb); have n2_ := Aside0.mk (Kd.R_below (by (with_reducible repeat (first | apply Kd.R_alloc | apply Kd.R_drewN | apply Kd.R_drew)); exact HO319.out) hb); have n3_ := Aside0.mk (below_step (by repeat (first | (with_reducible first | exact HB.out | apply below_alloc | apply pw_below_drewN | apply below_drew1) | exact HB.out)) hb); clear HO315; clear HO317; clear HO319; clear HB; have HO315 := n0_; have HO317 := n1_; have HO319 := n2_; have HB := n3_; clear n0_ n1_ n2_ n3_; (try clear hb); (try clear hb2); (try clear hk); (try clear hi)))
    (try simp only [Act.put, List.setIfInBounds_toArray, List.set_cons_zero, List.set_cons_succ])
    go_cut [51] (fun v51 wc => ∃ (kq : Nat) (x51_7 : Bool), v51 = .bool x51_7 ∧ Aside0 (laws_FnMuirheadsOrder.j0 kq t311 t312 t313 t320 t323 x51_7 = some r) ∧ Aside0 (kq ≤ k) ∧ Aside0 (Kd.R (Kd.int .i64) 3 wc w.heap.size (fun k_ => some k_ ≠ ((.slice Ao11 t312.length co11) : Value).ownBlock ∧ some k_ ≠ ((.slice Ao12 t313.length co12) : Value).ownBlock) (.slice Ao10 t311.length co10) t311) ∧ Aside0 (Kd.R (Kd.int .i64) 3 wc w.heap.size (fun k_ => some k_ ≠ ((.slice Ao10 t311.length co10) : Value).ownBlock ∧ some k_ ≠ ((.slice Ao12 t313.length co12) : Value).ownBlock) (.slice Ao11 t312.length co11) t312) ∧ Aside0 (Kd.R (Kd.int .i64) 3 wc w.heap.size (fun k_ => some k_ ≠ ((.slice Ao10 t311.length co10) : Value).ownBlock ∧ some k_ ≠ ((.slice Ao11 t312.length co11) : Value).ownBlock) (.slice Ao12 t313.length co12) t313) ∧ Aside0 (Below w.heap.size w wc))
    case first =>
      have H := HC8.out
      clear HC8
      by_cases c15 : (t321 != t323) = true
      · rw [if_pos c15] at H
        have c15b0 : (t321 != t323) = true := c15
        (try (have c15b1 : decide (t321 = t323) = false := by simpa using c15))
        (try (have c15b2 : (t321 == t323) = false := by simpa using c15))
        (try (have c15b3 : ¬ (t321 = t323) := by simpa using c15))
        clear c15
        (first | rw [c15b0] | (simp only [i64_w, i32_w]; rw [c15b0]) | skip)
        have H' := Aside0.mk H
        clear H
        go_wp2
        go_meet
        case rel => exact ⟨_, (true), (by first | rfl | (simp; done) | (simp [*]; done)), H', ⟨by first | omega | exact Nat.le_refl _⟩, ⟨by (with_reducible repeat (first | apply Kd.R_alloc | apply Kd.R_drewN | apply Kd.R_drew)); exact HO315.out⟩, ⟨by (with_reducible repeat (first | apply Kd.R_alloc | apply Kd.R_drewN | apply Kd.R_drew)); exact HO317.out⟩, ⟨by (with_reducible repeat (first | apply Kd.R_alloc | apply Kd.R_drewN | apply Kd.R_drew)); exact HO319.out⟩, ⟨by repeat (first | (with_reducible first | exact HB.out | apply below_alloc | apply pw_below_drewN | apply below_drew1) | exact HB.out)⟩⟩
      · rw [if_neg c15] at H
        have c15b0 : (t321 != t323) = false := by simpa using c15
        (try (have c15b1 : decide (t321 = t323) = true := by simpa using c15))
        (try (have c15b2 : (t321 == t323) = true := by simpa using c15))
        clear c15
        (first | rw [c15b0] | (simp only [i64_w, i32_w]; rw [c15b0]) | skip)
        have H' := Aside0.mk H
        clear H
        go_wp2
        go_meet
        case rel => exact ⟨_, ((t320 != t322)), (by first | rfl | (simp; done) | (simp [*]; done)), H', ⟨by first | omega | exact Nat.le_refl _⟩, ⟨by (with_reducible repeat (first | apply Kd.R_alloc | apply Kd.R_drewN | apply Kd.R_drew)); exact HO315.out⟩, ⟨by (with_reducible repeat (first | apply Kd.R_alloc | apply Kd.R_drewN | apply Kd.R_drew)); exact HO317.out⟩, ⟨by (with_reducible repeat (first | apply Kd.R_alloc | apply Kd.R_drewN | apply Kd.R_drew)); exact HO319.out⟩, ⟨by repeat (first | (with_reducible first | exact HB.out | apply below_alloc | apply pw_below_drewN | apply below_drew1) | exact HB.out)⟩⟩
    case rest =>
      clear HC8
      try clear c1
      try clear p2
      try clear c4
      try clear c7
      try clear c10
      try clear c15
      try clear c15b0
      try clear c15b1
      try clear c15b2
      obtain ⟨kq, x51_7, rfl, HA, HJ7, HO_5, HO_6, HO_7, HB⟩ := hcut
      cases kq with
      | zero => exact absurd HA.out (by simp [laws_FnMuirheadsOrder.j0])
      | succ kj7 =>
        have H := HA.out
        clear HA
        simp only [laws_FnMuirheadsOrder.j0] at H
        by_cases c16 : x51_7 = true
        · subst c16
          have H1 : (some false) = some r := by rw [if_pos rfl] at H; exact H
          clear H
          have H := H1
          clear H1
          obtain rfl := Option.some.inj H
          go_wp2
          go_ret
          exact ⟨by first | rfl | (simp [errW_none, errW_some] <;> rfl) | (simp [*, errW_none, errW_some] <;> rfl), by repeat (first | (with_reducible first | exact HB.out | apply below_alloc | apply pw_below_drewN | apply below_drew1) | exact HB.out)⟩
        · replace c16 := Bool.eq_false_iff.mpr c16
          subst c16
          have H1 : (if t323 = true then ((impl_SymmetricSum.f kj7 t311 t313).bind fun bt324 => ((impl_SymmetricSum.f kj7 t312 t313).bind fun bt326 => ((spec_SymmetricSum.f kj7 t311 t313).bind fun bt328 => (if bt324.2 = true then (if bt326.2 = true then (if bt328.2 = true then (if bt324.1 = bt328.1 then (if ((decide (t320 < 0)) != (decide (bt324.1 < bt326.1))) = true then (laws_FnMuirheadsOrder.j1 kj7 t311 t312 t313 t320 true) else (laws_FnMuirheadsOrder.j1 kj7 t311 t312 t313 t320 ((t320 == 0) != (bt324.1 == bt326.1)))) else (laws_FnMuirheadsOrder.j1 kj7 t311 t312 t313 t320 true)) else (laws_FnMuirheadsOrder.j1 kj7 t311 t312 t313 t320 true)) else (laws_FnMuirheadsOrder.j1 kj7 t311 t312 t313 t320 true)) else (laws_FnMuirheadsOrder.j1 kj7 t311 t312 t313 t320 true))))) else (some true)) = some r := by rw [if_neg (show ¬ (false = true) by decide)] at H; exact H
          clear H
          have H := H1
          clear H1
          by_cases c17 : t323 = true
          · subst c17
            have H1 : ((impl_SymmetricSum.f kj7 t311 t313).bind fun bt324 => ((impl_SymmetricSum.f kj7 t312 t313).bind fun bt326 => ((spec_SymmetricSum.f kj7 t311 t313).bind fun bt328 => (if bt324.2 = true then (if bt326.2 = true then (if bt328.2 = true then (if bt324.1 = bt328.1 then (if ((decide (t320 < 0)) != (decide (bt324.1 < bt326.1))) = true then (laws_FnMuirheadsOrder.j1 kj7 t311 t312 t313 t320 true) else (laws_FnMuirheadsOrder.j1 kj7 t311 t312 t313 t320 ((t320 == 0) != (bt324.1 == bt326.1)))) else (laws_FnMuirheadsOrder.j1 kj7 t311 t312 t313 t320 true)) else (laws_FnMuirheadsOrder.j1 kj7 t311 t312 t313 t320 true)) else (laws_FnMuirheadsOrder.j1 kj7 t311 t312 t313 t320 true)) else (laws_FnMuirheadsOrder.j1 kj7 t311 t312 t313 t320 true))))) = some r := by rw [if_pos rfl] at H; exact H
            clear H
            have H := H1
            clear H1
            replace H := Option.bind_eq_some_iff.mp H
            obtain ⟨⟨t324, t325⟩, A180, H⟩ := H
            replace H : ((impl_SymmetricSum.f kj7 t312 t313).bind fun bt326 => ((spec_SymmetricSum.f kj7 t311 t313).bind fun bt328 => (if t325 = true then (if bt326.2 = true then (if bt328.2 = true then (if t324 = bt328.1 then (if ((decide (t320 < 0)) != (decide (t324 < bt326.1))) = true then (laws_FnMuirheadsOrder.j1 kj7 t311 t312 t313 t320 true) else (laws_FnMuirheadsOrder.j1 kj7 t311 t312 t313 t320 ((t320 == 0) != (t324 == bt326.1)))) else (laws_FnMuirheadsOrder.j1 kj7 t311 t312 t313 t320 true)) else (laws_FnMuirheadsOrder.j1 kj7 t311 t312 t313 t320 true)) else (laws_FnMuirheadsOrder.j1 kj7 t311 t312 t313 t320 true)) else (laws_FnMuirheadsOrder.j1 kj7 t311 t312 t313 t320 true)))) = some r := H
            have A18 := Aside0.mk A180
            clear A180
            replace H := Option.bind_eq_some_iff.mp H
            obtain ⟨⟨t326, t327⟩, A190, H⟩ := H
            replace H : ((spec_SymmetricSum.f kj7 t311 t313).bind fun bt328 => (if t325 = true then (if t327 = true then (if bt328.2 = true then (if t324 = bt328.1 then (if ((decide (t320 < 0)) != (decide (t324 < t326))) = true then (laws_FnMuirheadsOrder.j1 kj7 t311 t312 t313 t320 true) else (laws_FnMuirheadsOrder.j1 kj7 t311 t312 t313 t320 ((t320 == 0) != (t324 == t326)))) else (laws_FnMuirheadsOrder.j1 kj7 t311 t312 t313 t320 true)) else (laws_FnMuirheadsOrder.j1 kj7 t311 t312 t313 t320 true)) else (laws_FnMuirheadsOrder.j1 kj7 t311 t312 t313 t320 true)) else (laws_FnMuirheadsOrder.j1 kj7 t311 t312 t313 t320 true))) = some r := H
            have A19 := Aside0.mk A190
            clear A190
            replace H := Option.bind_eq_some_iff.mp H
            obtain ⟨⟨t328, t329⟩, A200, H⟩ := H
            replace H : (if t325 = true then (if t327 = true then (if t329 = true then (if t324 = t328 then (if ((decide (t320 < 0)) != (decide (t324 < t326))) = true then (laws_FnMuirheadsOrder.j1 kj7 t311 t312 t313 t320 true) else (laws_FnMuirheadsOrder.j1 kj7 t311 t312 t313 t320 ((t320 == 0) != (t324 == t326)))) else (laws_FnMuirheadsOrder.j1 kj7 t311 t312 t313 t320 true)) else (laws_FnMuirheadsOrder.j1 kj7 t311 t312 t313 t320 true)) else (laws_FnMuirheadsOrder.j1 kj7 t311 t312 t313 t320 true)) else (laws_FnMuirheadsOrder.j1 kj7 t311 t312 t313 t320 true)) = some r := H
            have A20 := Aside0.mk A200
            clear A200
            have HC21 := Aside0.mk H
            clear H
            go_upto_region 13 with (first | ((with_reducible refine gate_callee (f := 49) rfl ?_); refine goesL_ (some 57) rfl rfl Try.func49 (by kernel_rfl) rfl #[.slice Ao10 t311.length co10, .slice Ao12 t313.length co12] rfl (by (try simp only [List.map_toArray, List.map_cons, List.map_nil]); first | done | rfl | (simp only [List.length_drop, List.length_take]; rfl)) ?_; (with_reducible refine (impl_SymmetricSum.calls kj7 _ _ t311 _ _ t313 t324 t325 _ ?side1 ?side2 ?side3 ?side4 A18.out).mono ?_); (case side1 => repeat (first | exact (Kd.R_reads' HO_5.out).2.2 | (with_reducible refine Kd.C_alloc ?_ _) | (with_reducible refine Kd.C_drewN ?_ _) | (with_reducible refine Kd.C_drew ?_))); (case side2 => exact (Kd.R_reads' HO_5.out).2.1); (case side3 => repeat (first | exact (Kd.R_reads' HO_7.out).2.2 | (with_reducible refine Kd.C_alloc ?_ _) | (with_reducible refine Kd.C_drewN ?_ _) | (with_reducible refine Kd.C_drew ?_))); (case side4 => exact (Kd.R_reads' HO_7.out).2.1); rintro e w22 ⟨rfl, hb⟩; refine ⟨_, rfl, ?_⟩; have n0_ := Aside0.mk (Kd.R_below (by (with_reducible repeat (first | apply Kd.R_alloc | apply Kd.R_drewN | apply Kd.R_drew)); exact HO_5.out) hb); have n1_ := Aside0.mk (Kd.R_below (by (with_reducible repeat (first | apply Kd.R_alloc | apply Kd.R_drewN | apply Kd.R_drew)); exact HO_6.out) hb); have n2_ := Aside0.mk (Kd.R_below (by (with_reducible repeat (first | apply Kd.R_alloc | apply Kd.R_drewN | apply Kd.R_drew)); exact HO_7.out) hb); have n3_ := Aside0.mk (below_step (by repeat (first | (with_reducible first | exact HB.out | apply below_alloc | apply pw_below_drewN | apply below_drew1) | exact HB.out)) hb); clear HO_5; clear HO_6; clear HO_7; clear HB; have HO_5 := n0_; have HO_6 := n1_; have HO_7 := n2_; have HB := n3_; clear n0_ n1_ n2_ n3_; (try clear hb); (try clear hb2); (try clear hk); (try clear hi)) | ((with_reducible refine gate_callee (f := 49) rfl ?_); refine goesL_ (some 63) rfl rfl Try.func49 (by kernel_rfl) rfl #[.slice Ao11 t312.length co11, .slice Ao12 t313.length co12] rfl (by (try simp only [List.map_toArray, List.map_cons, List.map_nil]); first | done | rfl | (simp only [List.length_drop, List.length_take]; rfl)) ?_; (with_reducible refine (impl_SymmetricSum.calls kj7 _ _ t312 _ _ t313 t326 t327 _ ?side1 ?side2 ?side3 ?side4 A19.out).mono ?_); (case side1 => repeat (first | exact (Kd.R_reads' HO_6.out).2.2 | (with_reducible refine Kd.C_alloc ?_ _) | (with_reducible refine Kd.C_drewN ?_ _) | (with_reducible refine Kd.C_drew ?_))); (case side2 => exact (Kd.R_reads' HO_6.out).2.1); (case side3 => repeat (first | exact (Kd.R_reads' HO_7.out).2.2 | (with_reducible refine Kd.C_alloc ?_ _) | (with_reducible refine Kd.C_drewN ?_ _) | (with_reducible refine Kd.C_drew ?_))); (case side4 => exact (Kd.R_reads' HO_7.out).2.1); rintro e w23 ⟨rfl, hb⟩; refine ⟨_, rfl, ?_⟩; have n0_ := Aside0.mk (Kd.R_below (by (with_reducible repeat (first | apply Kd.R_alloc | apply Kd.R_drewN | apply Kd.R_drew)); exact HO_5.out) hb); have n1_ := Aside0.mk (Kd.R_below (by (with_reducible repeat (first | apply Kd.R_alloc | apply Kd.R_drewN | apply Kd.R_drew)); exact HO_6.out) hb); have n2_ := Aside0.mk (Kd.R_below (by (with_reducible repeat (first | apply Kd.R_alloc | apply Kd.R_drewN | apply Kd.R_drew)); exact HO_7.out) hb); have n3_ := Aside0.mk (below_step (by repeat (first | (with_reducible first | exact HB.out | apply below_alloc | apply pw_below_drewN | apply below_drew1) | exact HB.out)) hb); clear HO_5; clear HO_6; clear HO_7; clear HB; have HO_5 := n0_; have HO_6 := n1_; have HO_7 := n2_; have HB := n3_; clear n0_ n1_ n2_ n3_; (try clear hb); (try clear hb2); (try clear hk); (try clear hi)) | ((with_reducible refine gate_callee (f := 50) rfl ?_); refine goesL_ (some 69) rfl rfl Try.func50 (by kernel_rfl) rfl #[.slice Ao10 t311.length co10, .slice Ao12 t313.length co12] rfl (by (try simp only [List.map_toArray, List.map_cons, List.map_nil]); first | done | rfl | (simp only [List.length_drop, List.length_take]; rfl)) ?_; (with_reducible refine (spec_SymmetricSum.calls kj7 _ _ t311 _ _ t313 t328 t329 _ ?side1 ?side2 ?side3 ?side4 A20.out).mono ?_); (case side1 => repeat (first | exact (Kd.R_reads' HO_5.out).2.2 | (with_reducible refine Kd.C_alloc ?_ _) | (with_reducible refine Kd.C_drewN ?_ _) | (with_reducible refine Kd.C_drew ?_))); (case side2 => exact (Kd.R_reads' HO_5.out).2.1); (case side3 => repeat (first | exact (Kd.R_reads' HO_7.out).2.2 | (with_reducible refine Kd.C_alloc ?_ _) | (with_reducible refine Kd.C_drewN ?_ _) | (with_reducible refine Kd.C_drew ?_))); (case side4 => exact (Kd.R_reads' HO_7.out).2.1); rintro e w24 ⟨rfl, hb⟩; refine ⟨_, rfl, ?_⟩; have n0_ := Aside0.mk (Kd.R_below (by (with_reducible repeat (first | apply Kd.R_alloc | apply Kd.R_drewN | apply Kd.R_drew)); exact HO_5.out) hb); have n1_ := Aside0.mk (Kd.R_below (by (with_reducible repeat (first | apply Kd.R_alloc | apply Kd.R_drewN | apply Kd.R_drew)); exact HO_6.out) hb); have n2_ := Aside0.mk (Kd.R_below (by (with_reducible repeat (first | apply Kd.R_alloc | apply Kd.R_drewN | apply Kd.R_drew)); exact HO_7.out) hb); have n3_ := Aside0.mk (below_step (by repeat (first | (with_reducible first | exact HB.out | apply below_alloc | apply pw_below_drewN | apply below_drew1) | exact HB.out)) hb); clear HO_5; clear HO_6; clear HO_7; clear HB; have HO_5 := n0_; have HO_6 := n1_; have HO_7 := n2_; have HB := n3_; clear n0_ n1_ n2_ n3_; (try clear hb); (try clear hb2); (try clear hk); (try clear hi)))
            (try simp only [Act.put, List.setIfInBounds_toArray, List.set_cons_zero, List.set_cons_succ])
            go_cut [102] (fun v102 wc => ∃ (kq : Nat) (x102_20 : Bool), v102 = .bool x102_20 ∧ Aside0 (laws_FnMuirheadsOrder.j1 kq t311 t312 t313 t320 x102_20 = some r) ∧ Aside0 (kq ≤ kj7) ∧ Aside0 (Kd.R (Kd.int .i64) 3 wc w.heap.size (fun k_ => some k_ ≠ ((.slice Ao11 t312.length co11) : Value).ownBlock ∧ some k_ ≠ ((.slice Ao12 t313.length co12) : Value).ownBlock) (.slice Ao10 t311.length co10) t311) ∧ Aside0 (Kd.R (Kd.int .i64) 3 wc w.heap.size (fun k_ => some k_ ≠ ((.slice Ao10 t311.length co10) : Value).ownBlock ∧ some k_ ≠ ((.slice Ao12 t313.length co12) : Value).ownBlock) (.slice Ao11 t312.length co11) t312) ∧ Aside0 (Kd.R (Kd.int .i64) 3 wc w.heap.size (fun k_ => some k_ ≠ ((.slice Ao10 t311.length co10) : Value).ownBlock ∧ some k_ ≠ ((.slice Ao11 t312.length co11) : Value).ownBlock) (.slice Ao12 t313.length co12) t313) ∧ Aside0 (Below w.heap.size w wc))
            case first =>
              have H := HC21.out
              clear HC21
              by_cases c25 : t325 = true
              · subst c25
                have H1 : (if t327 = true then (if t329 = true then (if t324 = t328 then (if ((decide (t320 < 0)) != (decide (t324 < t326))) = true then (laws_FnMuirheadsOrder.j1 kj7 t311 t312 t313 t320 true) else (laws_FnMuirheadsOrder.j1 kj7 t311 t312 t313 t320 ((t320 == 0) != (t324 == t326)))) else (laws_FnMuirheadsOrder.j1 kj7 t311 t312 t313 t320 true)) else (laws_FnMuirheadsOrder.j1 kj7 t311 t312 t313 t320 true)) else (laws_FnMuirheadsOrder.j1 kj7 t311 t312 t313 t320 true)) = some r := by rw [if_pos rfl] at H; exact H
                clear H
                have H := H1
                clear H1
                by_cases c26 : t327 = true
                · subst c26
                  have H1 : (if t329 = true then (if t324 = t328 then (if ((decide (t320 < 0)) != (decide (t324 < t326))) = true then (laws_FnMuirheadsOrder.j1 kj7 t311 t312 t313 t320 true) else (laws_FnMuirheadsOrder.j1 kj7 t311 t312 t313 t320 ((t320 == 0) != (t324 == t326)))) else (laws_FnMuirheadsOrder.j1 kj7 t311 t312 t313 t320 true)) else (laws_FnMuirheadsOrder.j1 kj7 t311 t312 t313 t320 true)) = some r := by rw [if_pos rfl] at H; exact H
                  clear H
                  have H := H1
                  clear H1
                  by_cases c27 : t329 = true
                  · subst c27
                    have H1 : (if t324 = t328 then (if ((decide (t320 < 0)) != (decide (t324 < t326))) = true then (laws_FnMuirheadsOrder.j1 kj7 t311 t312 t313 t320 true) else (laws_FnMuirheadsOrder.j1 kj7 t311 t312 t313 t320 ((t320 == 0) != (t324 == t326)))) else (laws_FnMuirheadsOrder.j1 kj7 t311 t312 t313 t320 true)) = some r := by rw [if_pos rfl] at H; exact H
                    clear H
                    have H := H1
                    clear H1
                    by_cases c28 : t324 = t328
                    · rw [if_pos c28] at H
                      have c28b0 : (t324 == t328) = true := beq_iff_eq.mpr c28
                      have c28b1 : (t324 != t328) = false := bne_eq_false_iff_eq.mpr c28
                      clear c28
                      (first | rw [c28b0] | (simp only [i64_w, i32_w]; rw [c28b0]) | skip)
                      by_cases c29 : ((decide (t320 < 0)) != (decide (t324 < t326))) = true
                      · rw [if_pos c29] at H
                        have c29b0 : ((decide (t320 < 0)) != (decide (t324 < t326))) = true := c29
                        (try (have c29b1 : decide ((decide (t320 < 0)) = (decide (t324 < t326))) = false := by simpa using c29))
                        (try (have c29b2 : ((decide (t320 < 0)) == (decide (t324 < t326))) = false := by simpa using c29))
                        (try (have c29b3 : ¬ ((decide (t320 < 0)) = (decide (t324 < t326))) := by simpa using c29))
                        clear c29
                        have H' := Aside0.mk H
                        clear H
                        go_wp2
                        go_meet
                        case rel => exact ⟨_, (true), (by first | rfl | (simp; done) | (simp [*]; done)), H', ⟨by have := HJ7.out; first | omega | exact Nat.le_refl _⟩, ⟨by (with_reducible repeat (first | apply Kd.R_alloc | apply Kd.R_drewN | apply Kd.R_drew)); exact HO_5.out⟩, ⟨by (with_reducible repeat (first | apply Kd.R_alloc | apply Kd.R_drewN | apply Kd.R_drew)); exact HO_6.out⟩, ⟨by (with_reducible repeat (first | apply Kd.R_alloc | apply Kd.R_drewN | apply Kd.R_drew)); exact HO_7.out⟩, ⟨by repeat (first | (with_reducible first | exact HB.out | apply below_alloc | apply pw_below_drewN | apply below_drew1) | exact HB.out)⟩⟩
                      · rw [if_neg c29] at H
                        have c29b0 : ((decide (t320 < 0)) != (decide (t324 < t326))) = false := by simpa using c29
                        (try (have c29b1 : decide ((decide (t320 < 0)) = (decide (t324 < t326))) = true := by simpa using c29))
                        (try (have c29b2 : ((decide (t320 < 0)) == (decide (t324 < t326))) = true := by simpa using c29))
                        clear c29
                        have H' := Aside0.mk H
                        clear H
                        go_wp2
                        go_meet
                        case rel => exact ⟨_, (((t320 == 0) != (t324 == t326))), (by first | rfl | (simp; done) | (simp [*]; done)), H', ⟨by have := HJ7.out; first | omega | exact Nat.le_refl _⟩, ⟨by (with_reducible repeat (first | apply Kd.R_alloc | apply Kd.R_drewN | apply Kd.R_drew)); exact HO_5.out⟩, ⟨by (with_reducible repeat (first | apply Kd.R_alloc | apply Kd.R_drewN | apply Kd.R_drew)); exact HO_6.out⟩, ⟨by (with_reducible repeat (first | apply Kd.R_alloc | apply Kd.R_drewN | apply Kd.R_drew)); exact HO_7.out⟩, ⟨by repeat (first | (with_reducible first | exact HB.out | apply below_alloc | apply pw_below_drewN | apply below_drew1) | exact HB.out)⟩⟩
                    · rw [if_neg c28] at H
                      have c28b0 : (t324 == t328) = false := beq_eq_false_iff_ne.mpr c28
                      have c28b1 : (t324 != t328) = true := bne_iff_ne.mpr c28
                      (first | rw [c28b0] | (simp only [i64_w, i32_w]; rw [c28b0]) | skip)
                      have H' := Aside0.mk H
                      clear H
                      go_wp2
                      go_meet
                      case rel => exact ⟨_, (true), (by first | rfl | (simp; done) | (simp [*]; done)), H', ⟨by have := HJ7.out; first | omega | exact Nat.le_refl _⟩, ⟨by (with_reducible repeat (first | apply Kd.R_alloc | apply Kd.R_drewN | apply Kd.R_drew)); exact HO_5.out⟩, ⟨by (with_reducible repeat (first | apply Kd.R_alloc | apply Kd.R_drewN | apply Kd.R_drew)); exact HO_6.out⟩, ⟨by (with_reducible repeat (first | apply Kd.R_alloc | apply Kd.R_drewN | apply Kd.R_drew)); exact HO_7.out⟩, ⟨by repeat (first | (with_reducible first | exact HB.out | apply below_alloc | apply pw_below_drewN | apply below_drew1) | exact HB.out)⟩⟩
                  · replace c27 := Bool.eq_false_iff.mpr c27
                    subst c27
                    have H1 : (laws_FnMuirheadsOrder.j1 kj7 t311 t312 t313 t320 true) = some r := by rw [if_neg (show ¬ (false = true) by decide)] at H; exact H
                    clear H
                    have H := H1
                    clear H1
                    have H' := Aside0.mk H
                    clear H
                    go_wp2
                    go_meet
                    case rel => exact ⟨_, (true), (by first | rfl | (simp; done) | (simp [*]; done)), H', ⟨by have := HJ7.out; first | omega | exact Nat.le_refl _⟩, ⟨by (with_reducible repeat (first | apply Kd.R_alloc | apply Kd.R_drewN | apply Kd.R_drew)); exact HO_5.out⟩, ⟨by (with_reducible repeat (first | apply Kd.R_alloc | apply Kd.R_drewN | apply Kd.R_drew)); exact HO_6.out⟩, ⟨by (with_reducible repeat (first | apply Kd.R_alloc | apply Kd.R_drewN | apply Kd.R_drew)); exact HO_7.out⟩, ⟨by repeat (first | (with_reducible first | exact HB.out | apply below_alloc | apply pw_below_drewN | apply below_drew1) | exact HB.out)⟩⟩
                · replace c26 := Bool.eq_false_iff.mpr c26
                  subst c26
                  have H1 : (laws_FnMuirheadsOrder.j1 kj7 t311 t312 t313 t320 true) = some r := by rw [if_neg (show ¬ (false = true) by decide)] at H; exact H
                  clear H
                  have H := H1
                  clear H1
                  have H' := Aside0.mk H
                  clear H
                  go_wp2
                  go_meet
                  case rel => exact ⟨_, (true), (by first | rfl | (simp; done) | (simp [*]; done)), H', ⟨by have := HJ7.out; first | omega | exact Nat.le_refl _⟩, ⟨by (with_reducible repeat (first | apply Kd.R_alloc | apply Kd.R_drewN | apply Kd.R_drew)); exact HO_5.out⟩, ⟨by (with_reducible repeat (first | apply Kd.R_alloc | apply Kd.R_drewN | apply Kd.R_drew)); exact HO_6.out⟩, ⟨by (with_reducible repeat (first | apply Kd.R_alloc | apply Kd.R_drewN | apply Kd.R_drew)); exact HO_7.out⟩, ⟨by repeat (first | (with_reducible first | exact HB.out | apply below_alloc | apply pw_below_drewN | apply below_drew1) | exact HB.out)⟩⟩
              · replace c25 := Bool.eq_false_iff.mpr c25
                subst c25
                have H1 : (laws_FnMuirheadsOrder.j1 kj7 t311 t312 t313 t320 true) = some r := by rw [if_neg (show ¬ (false = true) by decide)] at H; exact H
                clear H
                have H := H1
                clear H1
                have H' := Aside0.mk H
                clear H
                go_wp2
                go_meet
                case rel => exact ⟨_, (true), (by first | rfl | (simp; done) | (simp [*]; done)), H', ⟨by have := HJ7.out; first | omega | exact Nat.le_refl _⟩, ⟨by (with_reducible repeat (first | apply Kd.R_alloc | apply Kd.R_drewN | apply Kd.R_drew)); exact HO_5.out⟩, ⟨by (with_reducible repeat (first | apply Kd.R_alloc | apply Kd.R_drewN | apply Kd.R_drew)); exact HO_6.out⟩, ⟨by (with_reducible repeat (first | apply Kd.R_alloc | apply Kd.R_drewN | apply Kd.R_drew)); exact HO_7.out⟩, ⟨by repeat (first | (with_reducible first | exact HB.out | apply below_alloc | apply pw_below_drewN | apply below_drew1) | exact HB.out)⟩⟩
            case rest =>
              clear HC21
              try clear c1
              try clear c2
              try clear p2
              try clear c4
              try clear c5
              try clear c7
              try clear c10
              try clear c15
              try clear c15b0
              try clear c15b1
              try clear c15b2
              try clear c16
              try clear c17
              try clear c25
              try clear c26
              try clear c27
              try clear c28
              try clear c28b0
              try clear c28b1
              try clear c29
              try clear c29b0
              try clear c29b1
              try clear c29b2
              try clear p2
              obtain ⟨kq, x102_20, rfl, HA, HJ20, HO_5, HO_6, HO_7, HB⟩ := hcut
              cases kq with
              | zero => exact absurd HA.out (by simp [laws_FnMuirheadsOrder.j1])
              | succ kj20 =>
                have H := HA.out
                clear HA
                simp only [laws_FnMuirheadsOrder.j1] at H
                by_cases c30 : x102_20 = true
                · subst c30
                  have H1 : (some false) = some r := by rw [if_pos rfl] at H; exact H
                  clear H
                  have H := H1
                  clear H1
                  obtain rfl := Option.some.inj H
                  go_wp2
                  go_ret
                  exact ⟨by first | rfl | (simp [errW_none, errW_some] <;> rfl) | (simp [*, errW_none, errW_some] <;> rfl), by repeat (first | (with_reducible first | exact HB.out | apply below_alloc | apply pw_below_drewN | apply below_drew1) | exact HB.out)⟩
                · replace c30 := Bool.eq_false_iff.mpr c30
                  subst c30
                  have H1 : ((laws_pBelow.f kj20 t311 t312).bind fun t330 => (if t330 = true then (laws_FnMuirheadsOrder.l0 kj20 t311 t312 t313 t320 true t313 (t313.length : Int) 0) else (some true))) = some r := by rw [if_neg (show ¬ (false = true) by decide)] at H; exact H
                  clear H
                  have H := H1
                  clear H1
                  replace H := Option.bind_eq_some_iff.mp H
                  obtain ⟨t330, A310, H⟩ := H
                  replace H : (if t330 = true then (laws_FnMuirheadsOrder.l0 kj20 t311 t312 t313 t320 true t313 (t313.length : Int) 0) else (some true)) = some r := H
                  have A31 := Aside0.mk A310
                  clear A310
                  by_cases c32 : t330 = true
                  · subst c32
                    have H1 : (laws_FnMuirheadsOrder.l0 kj20 t311 t312 t313 t320 true t313 (t313.length : Int) 0) = some r := by rw [if_pos rfl] at H; exact H
                    clear H
                    have H := H1
                    clear H1
                    have H' := Aside0.mk H
                    clear H
                    go_wp2_with (first | ((with_reducible refine gate_callee (f := 51) rfl ?_); refine goesL_ (some 105) rfl rfl Try.func51 (by kernel_rfl) rfl #[.slice Ao10 t311.length co10, .slice Ao11 t312.length co11] rfl (by (try simp only [List.map_toArray, List.map_cons, List.map_nil]); first | done | rfl | (simp only [List.length_drop, List.length_take]; rfl)) ?_; (with_reducible refine (laws_pBelow.calls kj20 _ _ t311 _ _ t312 true _ ?side1 ?side2 ?side3 ?side4 A31.out).mono ?_); (case side1 => repeat (first | exact (Kd.R_reads' HO_5.out).2.2 | (with_reducible refine Kd.C_alloc ?_ _) | (with_reducible refine Kd.C_drewN ?_ _) | (with_reducible refine Kd.C_drew ?_))); (case side2 => exact (Kd.R_reads' HO_5.out).2.1); (case side3 => repeat (first | exact (Kd.R_reads' HO_6.out).2.2 | (with_reducible refine Kd.C_alloc ?_ _) | (with_reducible refine Kd.C_drewN ?_ _) | (with_reducible refine Kd.C_drew ?_))); (case side4 => exact (Kd.R_reads' HO_6.out).2.1); rintro e w33 ⟨rfl, hb⟩; refine ⟨_, rfl, ?_⟩; have n0_ := Aside0.mk (Kd.R_below (by (with_reducible repeat (first | apply Kd.R_alloc | apply Kd.R_drewN | apply Kd.R_drew)); exact HO_5.out) hb); have n1_ := Aside0.mk (Kd.R_below (by (with_reducible repeat (first | apply Kd.R_alloc | apply Kd.R_drewN | apply Kd.R_drew)); exact HO_6.out) hb); have n2_ := Aside0.mk (Kd.R_below (by (with_reducible repeat (first | apply Kd.R_alloc | apply Kd.R_drewN | apply Kd.R_drew)); exact HO_7.out) hb); have n3_ := Aside0.mk (below_step (by repeat (first | (with_reducible first | exact HB.out | apply below_alloc | apply pw_below_drewN | apply below_drew1) | exact HB.out)) hb); clear HO_5; clear HO_6; clear HO_7; clear HB; have HO_5 := n0_; have HO_6 := n1_; have HO_7 := n2_; have HB := n3_; clear n0_ n1_ n2_ n3_; (try clear hb); (try clear hb2); (try clear hk); (try clear hi)))
                    go_loopg [18, 109] kj20 (fun kq v18 v109 w' => ∃ (x18_3 : Bool) (x109_3 : Int), v18 = .bool x18_3 ∧ v109 = .int .i64 x109_3 ∧ Aside0 (laws_FnMuirheadsOrder.l0 kq t311 t312 t313 t320 x18_3 t313 (t313.length : Int) x109_3 = some r) ∧ Aside0 (kq ≤ kj20) ∧ Aside0 (Kd.R (Kd.int .i64) 3 w' w.heap.size (fun k_ => some k_ ≠ ((.slice Ao11 t312.length co11) : Value).ownBlock ∧ some k_ ≠ ((.slice Ao12 t313.length co12) : Value).ownBlock ∧ some k_ ≠ ((.slice Ao12 t313.length co12) : Value).ownBlock) (.slice Ao10 t311.length co10) t311) ∧ Aside0 (Kd.R (Kd.int .i64) 3 w' w.heap.size (fun k_ => some k_ ≠ ((.slice Ao10 t311.length co10) : Value).ownBlock ∧ some k_ ≠ ((.slice Ao12 t313.length co12) : Value).ownBlock ∧ some k_ ≠ ((.slice Ao12 t313.length co12) : Value).ownBlock) (.slice Ao11 t312.length co11) t312) ∧ Aside0 (Kd.R (Kd.int .i64) 3 w' w.heap.size (fun k_ => some k_ ≠ ((.slice Ao10 t311.length co10) : Value).ownBlock ∧ some k_ ≠ ((.slice Ao11 t312.length co11) : Value).ownBlock) (.slice Ao12 t313.length co12) t313) ∧ Aside0 (Kd.R (Kd.int .i64) 3 w' w.heap.size (fun k_ => some k_ ≠ ((.slice Ao10 t311.length co10) : Value).ownBlock ∧ some k_ ≠ ((.slice Ao11 t312.length co11) : Value).ownBlock) (.slice Ao12 t313.length co12) t313) ∧ Aside0 (Below w.heap.size w w'))
                    case atStart => exact ⟨(true), (0), (by first | rfl | (simp; done) | (simp [*]; done)), (by first | rfl | (simp; done) | (simp [*]; done)), H', ⟨Nat.le_refl _⟩, ⟨by (with_reducible repeat (first | apply Kd.R_alloc | apply Kd.R_drewN | apply Kd.R_drew)); exact Kd.R_mono HO_5.out (fun _ hk => ⟨hk.1, ⟨hk.2, hk.2⟩⟩)⟩, ⟨by (with_reducible repeat (first | apply Kd.R_alloc | apply Kd.R_drewN | apply Kd.R_drew)); exact Kd.R_mono HO_6.out (fun _ hk => ⟨hk.1, ⟨hk.2, hk.2⟩⟩)⟩, ⟨by (with_reducible repeat (first | apply Kd.R_alloc | apply Kd.R_drewN | apply Kd.R_drew)); exact HO_7.out⟩, ⟨by (with_reducible repeat (first | apply Kd.R_alloc | apply Kd.R_drewN | apply Kd.R_drew)); exact HO_7.out⟩, ⟨by repeat (first | (with_reducible first | exact HB.out | apply below_alloc | apply pw_below_drewN | apply below_drew1) | exact HB.out)⟩⟩
                    case round =>
                      clear H'
                      try clear c1
                      try clear c2
                      try clear p2
                      try clear c3
                      try clear c4
                      try clear c5
                      try clear c7
                      try clear c10
                      try clear c15
                      try clear c15b0
                      try clear c15b1
                      try clear c15b2
                      try clear c16
                      try clear c17
                      try clear c25
                      try clear c26
                      try clear c27
                      try clear c28
                      try clear c28b0
                      try clear c28b1
                      try clear c29
                      try clear c29b0
                      try clear c29b1
                      try clear c29b2
                      try clear c30
                      try clear c32
                      try clear p2
                      obtain ⟨x18_3, x109_3, rfl, rfl, HA, HK3, HO_5, HO_6, HO_7, HO_107, HB⟩ := hrel
                      cases gk with
                      | zero => exact absurd HA.out (by simp [laws_FnMuirheadsOrder.l0])
                      | succ k3 =>
                        have H := HA.out
                        clear HA
                        simp only [laws_FnMuirheadsOrder.l0] at H
                        by_cases c34 : x109_3 < (t313.length : Int)
                        · rw [if_pos c34] at H
                          have c34b0 : decide (x109_3 < (t313.length : Int)) = true := decide_eq_true c34
                          clear c34
                          by_cases c35 : 0 ≤ x109_3
                          · rw [if_pos c35] at H
                            have c35b0 : decide (0 ≤ x109_3) = true := decide_eq_true c35
                            clear c35
                            by_cases c36 : x109_3 < (t313.length : Int)
                            · rw [if_pos c36] at H
                              have c36b0 : decide (x109_3 < (t313.length : Int)) = true := decide_eq_true c36
                              clear c36
                              by_cases c37 : x18_3 = true
                              · subst c37
                                have H1 : (if 0 < (t313.length : Int) then (laws_FnMuirheadsOrder.l0 k3 t311 t312 t313 t320 ((rd t313 x109_3) == (rd t313 0)) t313 (t313.length : Int) (wrap64 (x109_3 + 1))) else (none)) = some r := by rw [if_pos rfl] at H; exact H
                                clear H
                                have H := H1
                                clear H1
                                by_cases c38 : 0 < (t313.length : Int)
                                · rw [if_pos c38] at H
                                  have c38b0 : decide (0 < (t313.length : Int)) = true := decide_eq_true c38
                                  have c38b1 : decide (0 < t313.length) = true := decide_eq_true (by omega)
                                  clear c38
                                  have H' := Aside0.mk H
                                  clear H
                                  have p331 : 0 ≤ (x109_3 : Int) := of_decide_eq_true (by first | (with_reducible assumption) | assumption)
                                  have q331 : x109_3 < (t313.length : Int) := of_decide_eq_true (by first | (with_reducible assumption) | assumption)
                                  obtain ⟨ad331, e331, hx331_0⟩ := Kd.at_int (Kd.R_reads' HO_107.out).2.2 x109_3 p331 q331
                                  cases e331
                                  replace p331 := eq_true p331
                                  replace q331 := eq_true q331
                                  have p332 : 0 ≤ (0 : Int) := (by omega)
                                  have q332 : 0 < (t313.length : Int) := of_decide_eq_true (by first | (with_reducible assumption) | assumption)
                                  obtain ⟨ad332, e332, hx332_0⟩ := Kd.at_int (Kd.R_reads' HO_7.out).2.2 0 p332 q332
                                  obtain rfl : ad331 = ad332 := (by injection e332)
                                  have qi332 : (0 < t313.length) = True := eq_true (by omega)
                                  (try rw [show ((0 : Int)).toNat = 0 from rfl] at hx332_0)
                                  (try rw [Addr.add_zero'] at hx332_0)
                                  replace p332 := eq_true p332
                                  replace q332 := eq_true q332
                                  go_wp2
                                  go_roundg k3
                                  case measure => have := HJ7.out; have := HJ20.out; have := HK3.out; omega
                                  case rel => exact ⟨(((rd t313 x109_3) == (rd t313 0))), (wrap64 (x109_3 + 1)), (by first | rfl | (simp; done) | (simp [*]; done)), (by first | rfl | (simp; done) | (simp [*]; done)), H', ⟨by have := HJ7.out; have := HJ20.out; have := HK3.out; omega⟩, ⟨by (with_reducible repeat (first | apply Kd.R_alloc | apply Kd.R_drewN | apply Kd.R_drew)); exact HO_5.out⟩, ⟨by (with_reducible repeat (first | apply Kd.R_alloc | apply Kd.R_drewN | apply Kd.R_drew)); exact HO_6.out⟩, ⟨by (with_reducible repeat (first | apply Kd.R_alloc | apply Kd.R_drewN | apply Kd.R_drew)); exact HO_7.out⟩, ⟨by (with_reducible repeat (first | apply Kd.R_alloc | apply Kd.R_drewN | apply Kd.R_drew)); exact HO_107.out⟩, ⟨by repeat (first | (with_reducible first | exact HB.out | apply below_alloc | apply pw_below_drewN | apply below_drew1) | exact HB.out)⟩⟩
                                · rw [if_neg c38] at H
                                  exact absurd H (by simp)
                              · replace c37 := Bool.eq_false_iff.mpr c37
                                subst c37
                                have H1 : (laws_FnMuirheadsOrder.l0 k3 t311 t312 t313 t320 false t313 (t313.length : Int) (wrap64 (x109_3 + 1))) = some r := by rw [if_neg (show ¬ (false = true) by decide)] at H; exact H
                                clear H
                                have H := H1
                                clear H1
                                have H' := Aside0.mk H
                                clear H
                                have p331 : 0 ≤ (x109_3 : Int) := of_decide_eq_true (by first | (with_reducible assumption) | assumption)
                                have q331 : x109_3 < (t313.length : Int) := of_decide_eq_true (by first | (with_reducible assumption) | assumption)
                                obtain ⟨ad331, e331, hx331_0⟩ := Kd.at_int (Kd.R_reads' HO_107.out).2.2 x109_3 p331 q331
                                cases e331
                                replace p331 := eq_true p331
                                replace q331 := eq_true q331
                                go_wp2
                                go_roundg k3
                                case measure => have := HJ7.out; have := HJ20.out; have := HK3.out; omega
                                case rel => exact ⟨(false), (wrap64 (x109_3 + 1)), (by first | rfl | (simp; done) | (simp [*]; done)), (by first | rfl | (simp; done) | (simp [*]; done)), H', ⟨by have := HJ7.out; have := HJ20.out; have := HK3.out; omega⟩, ⟨by (with_reducible repeat (first | apply Kd.R_alloc | apply Kd.R_drewN | apply Kd.R_drew)); exact HO_5.out⟩, ⟨by (with_reducible repeat (first | apply Kd.R_alloc | apply Kd.R_drewN | apply Kd.R_drew)); exact HO_6.out⟩, ⟨by (with_reducible repeat (first | apply Kd.R_alloc | apply Kd.R_drewN | apply Kd.R_drew)); exact HO_7.out⟩, ⟨by (with_reducible repeat (first | apply Kd.R_alloc | apply Kd.R_drewN | apply Kd.R_drew)); exact HO_107.out⟩, ⟨by repeat (first | (with_reducible first | exact HB.out | apply below_alloc | apply pw_below_drewN | apply below_drew1) | exact HB.out)⟩⟩
                            · rw [if_neg c36] at H
                              exact absurd H (by simp)
                          · rw [if_neg c35] at H
                            exact absurd H (by simp)
                        · rw [if_neg c34] at H
                          have c34b0 : decide (x109_3 < (t313.length : Int)) = false := decide_eq_false c34
                          clear c34
                          by_cases c39 : t320 ≤ 0
                          · rw [if_pos c39] at H
                            have c39b0 : decide (t320 ≤ 0) = true := decide_eq_true c39
                            clear c39
                            by_cases c40 : x18_3 = true
                            · subst c40
                              have H1 : (some ((t320 == 0) == true)) = some r := by rw [if_pos rfl] at H; exact H
                              clear H
                              have H := H1
                              clear H1
                              obtain rfl := Option.some.inj H
                              go_wp2
                              go_ret
                              exact ⟨by first | rfl | (simp [errW_none, errW_some] <;> rfl) | (simp [*, errW_none, errW_some] <;> rfl), by repeat (first | (with_reducible first | exact HB.out | apply below_alloc | apply pw_below_drewN | apply below_drew1) | exact HB.out)⟩
                            · replace c40 := Bool.eq_false_iff.mpr c40
                              subst c40
                              have H1 : ((laws_pBelow.f k3 t312 t311).bind fun t333 => (some ((t320 == 0) == t333))) = some r := by rw [if_neg (show ¬ (false = true) by decide)] at H; exact H
                              clear H
                              have H := H1
                              clear H1
                              replace H := Option.bind_eq_some_iff.mp H
                              obtain ⟨t333, A410, H⟩ := H
                              replace H : (some ((t320 == 0) == t333)) = some r := H
                              have A41 := Aside0.mk A410
                              clear A410
                              obtain rfl := Option.some.inj H
                              go_wp2_with (first | (go_at_call 51; (with_reducible refine (laws_pBelow.calls k3 _ _ t312 _ _ t311 t333 _ ?side1 ?side2 ?side3 ?side4 A41.out).mono ?_); (case side1 => repeat (first | exact (Kd.R_reads' HO_6.out).2.2 | (with_reducible refine Kd.C_alloc ?_ _) | (with_reducible refine Kd.C_drewN ?_ _) | (with_reducible refine Kd.C_drew ?_))); (case side2 => exact (Kd.R_reads' HO_6.out).2.1); (case side3 => repeat (first | exact (Kd.R_reads' HO_5.out).2.2 | (with_reducible refine Kd.C_alloc ?_ _) | (with_reducible refine Kd.C_drewN ?_ _) | (with_reducible refine Kd.C_drew ?_))); (case side4 => exact (Kd.R_reads' HO_5.out).2.1); rintro e w42 ⟨rfl, hb⟩; have n0_ := Aside0.mk (Kd.R_below (by (with_reducible repeat (first | apply Kd.R_alloc | apply Kd.R_drewN | apply Kd.R_drew)); exact HO_5.out) hb); have n1_ := Aside0.mk (Kd.R_below (by (with_reducible repeat (first | apply Kd.R_alloc | apply Kd.R_drewN | apply Kd.R_drew)); exact HO_6.out) hb); have n2_ := Aside0.mk (Kd.R_below (by (with_reducible repeat (first | apply Kd.R_alloc | apply Kd.R_drewN | apply Kd.R_drew)); exact HO_7.out) hb); have n3_ := Aside0.mk (Kd.R_below (by (with_reducible repeat (first | apply Kd.R_alloc | apply Kd.R_drewN | apply Kd.R_drew)); exact HO_107.out) hb); have n4_ := Aside0.mk (below_step (by repeat (first | (with_reducible first | exact HB.out | apply below_alloc | apply pw_below_drewN | apply below_drew1) | exact HB.out)) hb); clear HO_5; clear HO_6; clear HO_7; clear HO_107; clear HB; have HO_5 := n0_; have HO_6 := n1_; have HO_7 := n2_; have HO_107 := n3_; have HB := n4_; clear n0_ n1_ n2_ n3_ n4_; (try clear hb); (try clear hb2); (try clear hk); (try clear hi)))
                              go_ret
                              exact ⟨by first | rfl | (simp [errW_none, errW_some] <;> rfl) | (simp [*, errW_none, errW_some] <;> rfl), by repeat (first | (with_reducible first | exact HB.out | apply below_alloc | apply pw_below_drewN | apply below_drew1) | exact HB.out)⟩
                          · rw [if_neg c39] at H
                            have c39b0 : decide (t320 ≤ 0) = false := decide_eq_false c39
                            clear c39
                            obtain rfl := Option.some.inj H
                            go_wp2
                            go_ret
                            exact ⟨by first | rfl | (simp [errW_none, errW_some] <;> rfl) | (simp [*, errW_none, errW_some] <;> rfl), by repeat (first | (with_reducible first | exact HB.out | apply below_alloc | apply pw_below_drewN | apply below_drew1) | exact HB.out)⟩
                  · replace c32 := Bool.eq_false_iff.mpr c32
                    subst c32
                    have H1 : (some true) = some r := by rw [if_neg (show ¬ (false = true) by decide)] at H; exact H
                    clear H
                    have H := H1
                    clear H1
                    obtain rfl := Option.some.inj H
                    go_wp2_with (first | ((with_reducible refine gate_callee (f := 51) rfl ?_); refine goesL_ (some 105) rfl rfl Try.func51 (by kernel_rfl) rfl #[.slice Ao10 t311.length co10, .slice Ao11 t312.length co11] rfl (by (try simp only [List.map_toArray, List.map_cons, List.map_nil]); first | done | rfl | (simp only [List.length_drop, List.length_take]; rfl)) ?_; (with_reducible refine (laws_pBelow.calls kj20 _ _ t311 _ _ t312 false _ ?side1 ?side2 ?side3 ?side4 A31.out).mono ?_); (case side1 => repeat (first | exact (Kd.R_reads' HO_5.out).2.2 | (with_reducible refine Kd.C_alloc ?_ _) | (with_reducible refine Kd.C_drewN ?_ _) | (with_reducible refine Kd.C_drew ?_))); (case side2 => exact (Kd.R_reads' HO_5.out).2.1); (case side3 => repeat (first | exact (Kd.R_reads' HO_6.out).2.2 | (with_reducible refine Kd.C_alloc ?_ _) | (with_reducible refine Kd.C_drewN ?_ _) | (with_reducible refine Kd.C_drew ?_))); (case side4 => exact (Kd.R_reads' HO_6.out).2.1); rintro e w43 ⟨rfl, hb⟩; refine ⟨_, rfl, ?_⟩; have n0_ := Aside0.mk (Kd.R_below (by (with_reducible repeat (first | apply Kd.R_alloc | apply Kd.R_drewN | apply Kd.R_drew)); exact HO_5.out) hb); have n1_ := Aside0.mk (Kd.R_below (by (with_reducible repeat (first | apply Kd.R_alloc | apply Kd.R_drewN | apply Kd.R_drew)); exact HO_6.out) hb); have n2_ := Aside0.mk (Kd.R_below (by (with_reducible repeat (first | apply Kd.R_alloc | apply Kd.R_drewN | apply Kd.R_drew)); exact HO_7.out) hb); have n3_ := Aside0.mk (below_step (by repeat (first | (with_reducible first | exact HB.out | apply below_alloc | apply pw_below_drewN | apply below_drew1) | exact HB.out)) hb); clear HO_5; clear HO_6; clear HO_7; clear HB; have HO_5 := n0_; have HO_6 := n1_; have HO_7 := n2_; have HB := n3_; clear n0_ n1_ n2_ n3_; (try clear hb); (try clear hb2); (try clear hk); (try clear hi)))
                    go_ret
                    exact ⟨by first | rfl | (simp [errW_none, errW_some] <;> rfl) | (simp [*, errW_none, errW_some] <;> rfl), by repeat (first | (with_reducible first | exact HB.out | apply below_alloc | apply pw_below_drewN | apply below_drew1) | exact HB.out)⟩
          · replace c17 := Bool.eq_false_iff.mpr c17
            subst c17
            have H1 : (some true) = some r := by rw [if_neg (show ¬ (false = true) by decide)] at H; exact H
            clear H
            have H := H1
            clear H1
            obtain rfl := Option.some.inj H
            go_wp2
            go_ret
            exact ⟨by first | rfl | (simp [errW_none, errW_some] <;> rfl) | (simp [*, errW_none, errW_some] <;> rfl), by repeat (first | (with_reducible first | exact HB.out | apply below_alloc | apply pw_below_drewN | apply below_drew1) | exact HB.out)⟩

/-- THE ONE PURE STATEMENT of laws_FnMuirheadsOrder: yours. -/
def laws_FnMuirheadsOrder.Pure : Prop := ∀ (l0 : List Int) (l1 : List Int), l0.length ≤ maxLen → l0.length * 1 ≤ 140737488351232 → (∀ x ∈ l0, (Lit.int .u8 x).wf = true) → l1.length ≤ maxLen → l1.length * 1 ≤ 140737488351232 → (∀ x ∈ l1, (Lit.int .u8 x).wf = true) → ∃ k, laws_FnMuirheadsOrder.f k l0 l1 = some true
theorem laws_FnMuirheadsOrder.walk (P : laws_FnMuirheadsOrder.Pure) (a0 : Option Addr) (len0 cap0 : Nat) (z0 : List Int) (a1 : Option Addr) (len1 cap1 : Nat) (z1 : List Int) (w : World) (w0 : (a0 = none ∧ len0 = 0 ∧ cap0 = 0 ∧ z0 = []) ∨ ∃ x, a0 = some x ∧ len0 ≤ cap0 ∧ cap0 ≤ maxLen ∧ z0.length = cap0 ∧ (∀ i, i < z0.length → w.cell? (x.add i) = some (.int .u8 (z0.getD i 0))) ∧ ∀ n ∈ z0, (Lit.int .u8 n).wf = true) (y0 : len0 * 1 ≤ 140737488351232) (w1 : (a1 = none ∧ len1 = 0 ∧ cap1 = 0 ∧ z1 = []) ∨ ∃ x, a1 = some x ∧ len1 ≤ cap1 ∧ cap1 ≤ maxLen ∧ z1.length = cap1 ∧ (∀ i, i < z1.length → w.cell? (x.add i) = some (.int .u8 (z1.getD i 0))) ∧ ∀ n ∈ z1, (Lit.int .u8 n).wf = true) (y1 : len1 * 1 ≤ 140737488351232) :
    Calls Try.prog 7 #[.slice a0 len0 cap0, .slice a1 len1 cap1] w fun e w' => e = .returned (.bool true) ∧ Below w.heap.size w w' := by
  obtain ⟨l0, rfl, hr0, hm0, hw0, hc0⟩ := ReadsInt.ofRowC w0
  obtain ⟨l1, rfl, hr1, hm1, hw1, hc1⟩ := ReadsInt.ofRowC w1
  obtain ⟨k, h⟩ := P l0 l1 hm0 y0 hw0 hm1 y1 hw1
  refine (laws_FnMuirheadsOrder.calls k _ _ l0 _ _ l1 true w (Kd.C_of_reads (d := (0 : Int)) (h1 := fun _ => rfl) hr0) hc0 (Kd.C_of_reads (d := (0 : Int)) (h1 := fun _ => rfl) hr1) hc1 h).mono ?_
  rintro e w' ⟨rfl, hd⟩
  exact ⟨rfl, hd⟩

end Go.Proofs.Ytojklddddedoeaa.PFnMuirheadsOrder
