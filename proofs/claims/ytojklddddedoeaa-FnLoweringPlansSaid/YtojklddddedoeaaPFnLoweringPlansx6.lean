/- For each Go function that the law uses, a Lean function with the same answers and a proof that its call comes to them; the conditions stand in each theorem. (Written by a program of this session, turned from the print of the kit.) -/
import Derived.Test.YtojklddddedoeaaPFnLoweringPlansx0
import Derived.Test.YtojklddddedoeaaPFnLoweringPlansx3
import Derived.Test.YtojklddddedoeaaPFnLoweringPlansx5
namespace Go.Proofs.Ytojklddddedoeaa.PFnLoweringPlans
open Go.RowKit Go.Proofs.YtojklddddedoeaaW.PrintWords Go.Proofs.YtojklddddedoeaaW.PrintLast Go.Proofs.YtojklddddedoeaaW.PrintMore
attribute [local go_sem] max2_int min2_int max_two min_two max_three min_three max_four min_four   -- for this text's walks alone
set_option linter.unusedVariables false
set_option linter.unusedSimpArgs false

/-! ### spec_l1Cur_lowered: function 112 -/
mutual
def spec_l1Cur_lowered.l0 : Nat → List Int → List Int → Int → List Int → Int → Int → Option (List Int × List Int × Int × Int)
 | 0, _, _, _, _, _, _ => none
 | k + 1, x4, x5, x6, x1000, x1001, x1002 => if x6 > 0 then (spec_l1Cur_lowered.j1 k x4 x5 x6 (decide ((x4.length : Int) > 1)) x1000 x1001 x1002) else (spec_l1Cur_lowered.j1 k x4 x5 x6 false x1000 x1001 x1002)
def spec_l1Cur_lowered.j1 : Nat → List Int → List Int → Int → Bool → List Int → Int → Int → Option (List Int × List Int × Int × Int)
 | 0, _, _, _, _, _, _, _ => none
 | k + 1, x4, x5, x6, x26, x1000, x1001, x1002 => if x26 = true then ((spec_l1Cur_pick.f x1000 x1001 x1002 (wrap64 ((x4.length : Int) - 1))).bind fun bt282 => (if 0 ≤ (wrap64 (1 + bt282.1)) then (if (wrap64 (1 + bt282.1)) < (x5.length : Int) then (if (rd x5 (wrap64 (1 + bt282.1))) > 0 then ((some (x5.set ((wrap64 (1 + bt282.1)) : Int).toNat (wrap64 ((rd x5 (wrap64 (1 + bt282.1))) - 1)) : List Int)).bind fun y287 => ((spec_l1Cur_pick.f x1000 bt282.2.1 bt282.2.2 (wrap64 (1 + bt282.1))).bind fun bt288 => (if 0 ≤ bt288.1 then (if bt288.1 < (x5.length : Int) then (spec_l1Cur_lowered.l0 k x4 (y287.set (bt288.1 : Int).toNat (wrap64 ((rd y287 bt288.1) + 1))) (wrap64 (x6 - 1)) x1000 bt288.2.1 bt288.2.2) else (none)) else (none)))) else (spec_l1Cur_lowered.l0 k x4 x5 (wrap64 (x6 - 1)) x1000 bt282.2.1 bt282.2.2)) else (none)) else (none))) else (some (x4, x5, x1001, x1002))
end
def spec_l1Cur_lowered.f (k : Nat) (s0_0 : List Int) (s0_1 : Int) (s0_2 : Int) : Option (List Int × List Int × Int × Int) := (spec_l1Cur_one.f s0_0 s0_1 s0_2 3).bind fun bt260 => (if bt260.1 = true then ((spec_l1Cur_fitting.f k s0_0 bt260.2.1 bt260.2.2 9).bind fun bt263 => (some (bt263.1, bt263.2.1, bt263.2.2.1, bt263.2.2.2))) else ((spec_l1Cur_list.f k s0_0 bt260.2.1 bt260.2.2 9).bind fun bt271 => ((spec_l1Own.f bt271.1).bind fun t276 => ((spec_l1Cur_pick.f s0_0 bt271.2.1 bt271.2.2 8).bind fun bt279 => (spec_l1Cur_lowered.l0 k bt271.1 t276 bt279.1 s0_0 bt279.2.1 bt279.2.2)))))
theorem spec_l1Cur_lowered.mono_l : ∀ k, (∀ y0 y1 y2 y3 y4 y5, LeO (spec_l1Cur_lowered.l0 k y0 y1 y2 y3 y4 y5) (spec_l1Cur_lowered.l0 (k + 1) y0 y1 y2 y3 y4 y5)) ∧ (∀ y0 y1 y2 y3 y4 y5 y6, LeO (spec_l1Cur_lowered.j1 k y0 y1 y2 y3 y4 y5 y6) (spec_l1Cur_lowered.j1 (k + 1) y0 y1 y2 y3 y4 y5 y6))
 | 0 => ⟨fun _ _ _ _ _ _ r h => by simp [spec_l1Cur_lowered.l0] at h, fun _ _ _ _ _ _ _ r h => by simp [spec_l1Cur_lowered.j1] at h⟩
 | k + 1 => by
  obtain ⟨ih0, ih1⟩ := spec_l1Cur_lowered.mono_l k
  refine ⟨?_, ?_⟩
  ·intro y0 y1 y2 y3 y4 y5
   unfold spec_l1Cur_lowered.l0
   repeat' first
   | (with_reducible exact ih0 _ _ _ _ _ _)
   | (with_reducible exact ih1 _ _ _ _ _ _ _)
   | (with_reducible exact spec_l1Cur_fitting.mono _ _ _ _ _)
   | (with_reducible exact spec_l1Cur_list.mono _ _ _ _ _)
   | (with_reducible exact LeO.refl _)
   | (with_reducible exact LeO.none _)
   | (with_reducible refine LeO.ite ?_ ?_)
   | (with_reducible refine LeO.bind ?_ (fun _ => ?_))
   | exact ih0 _ _ _ _ _ _
   | exact ih1 _ _ _ _ _ _ _
   | exact spec_l1Cur_fitting.mono _ _ _ _ _
   | exact spec_l1Cur_list.mono _ _ _ _ _
   | exact LeO.none _
   | refine LeO.ite ?_ ?_
   | refine LeO.bind ?_ (fun _ => ?_)
  ·intro y0 y1 y2 y3 y4 y5 y6
   unfold spec_l1Cur_lowered.j1
   repeat' first
   | (with_reducible exact ih0 _ _ _ _ _ _)
   | (with_reducible exact ih1 _ _ _ _ _ _ _)
   | (with_reducible exact spec_l1Cur_fitting.mono _ _ _ _ _)
   | (with_reducible exact spec_l1Cur_list.mono _ _ _ _ _)
   | (with_reducible exact LeO.refl _)
   | (with_reducible exact LeO.none _)
   | (with_reducible refine LeO.ite ?_ ?_)
   | (with_reducible refine LeO.bind ?_ (fun _ => ?_))
   | exact ih0 _ _ _ _ _ _
   | exact ih1 _ _ _ _ _ _ _
   | exact spec_l1Cur_fitting.mono _ _ _ _ _
   | exact spec_l1Cur_list.mono _ _ _ _ _
   | exact LeO.none _
   | refine LeO.ite ?_ ?_
   | refine LeO.bind ?_ (fun _ => ?_)
theorem spec_l1Cur_lowered.mono : ∀ a0 a1 a2 k, LeO (spec_l1Cur_lowered.f k a0 a1 a2) (spec_l1Cur_lowered.f (k + 1) a0 a1 a2) := by
 intro a0 a1 a2 k
 obtain ⟨ih0, ih1⟩ := spec_l1Cur_lowered.mono_l k
 unfold spec_l1Cur_lowered.f
 repeat' first
   | (with_reducible exact ih0 _ _ _ _ _ _)
   | (with_reducible exact ih1 _ _ _ _ _ _ _)
   | (with_reducible exact spec_l1Cur_fitting.mono _ _ _ _ _)
   | (with_reducible exact spec_l1Cur_list.mono _ _ _ _ _)
   | (with_reducible exact LeO.refl _)
   | (with_reducible exact LeO.none _)
   | (with_reducible refine LeO.ite ?_ ?_)
   | (with_reducible refine LeO.bind ?_ (fun _ => ?_))
   | exact ih0 _ _ _ _ _ _
   | exact ih1 _ _ _ _ _ _ _
   | exact spec_l1Cur_fitting.mono _ _ _ _ _
   | exact spec_l1Cur_list.mono _ _ _ _ _
   | exact LeO.none _
   | refine LeO.ite ?_ ?_
   | refine LeO.bind ?_ (fun _ => ?_)
set_option maxHeartbeats 8000000 in
set_option maxRecDepth 100000 in
theorem spec_l1Cur_lowered.calls (k : Nat) (g : Nat) (s0_0 : List Int) (s0_1 : Int) (s0_2 : Int) (r1 : List Int) (r2 : List Int) (r3 : Int) (r4 : Int) (w0 w : World) (hI : IsS71 w0 w g s0_0 s0_1 s0_2) (hB : Below w0.heap.size w0 w) (h : spec_l1Cur_lowered.f k s0_0 s0_1 s0_2 = some (r1, r2, r3, r4)) :
  Calls Try.prog 112 #[.pointer (some ⟨g, 0, none⟩)] w fun e w' => ∃ v0_ v1_ : Value, e = .returned (.tuple #[v0_, v1_]) ∧ Kd.R (Kd.int .i64) 3 w' w.heap.size (fun k_ => some k_ ≠ (v1_ : Value).ownBlock) v0_ r1 ∧ Kd.R (Kd.int .i64) 3 w' w.heap.size (fun k_ => some k_ ≠ (v0_ : Value).ownBlock) v1_ r2 ∧ IsS71 w0 w' g s0_0 r3 r4 ∧ Below w0.heap.size w0 w' ∧ KeepBut w w' g none := by
 have HI0 := Aside0.mk hI
 have HK := Aside0.mk (KeepBut.refl w g none)
 have HL := Aside0.mk hB.size
 clear hI
 have HW0 := Aside0.mk hB.size
 have HB := Aside0.mk hB
 clear hB
 have H : ((spec_l1Cur_one.f s0_0 s0_1 s0_2 3).bind fun bt260 => (if bt260.1 = true then ((spec_l1Cur_fitting.f k s0_0 bt260.2.1 bt260.2.2 9).bind fun bt263 => (some (bt263.1, bt263.2.1, bt263.2.2.1, bt263.2.2.2))) else ((spec_l1Cur_list.f k s0_0 bt260.2.1 bt260.2.2 9).bind fun bt271 => ((spec_l1Own.f bt271.1).bind fun t276 => ((spec_l1Cur_pick.f s0_0 bt271.2.1 bt271.2.2 8).bind fun bt279 => (spec_l1Cur_lowered.l0 k bt271.1 t276 bt279.1 s0_0 bt279.2.1 bt279.2.2)))))) = some (r1, r2, r3, r4) := h
 clear h
 replace H := Option.bind_eq_some_iff.mp H
 obtain ⟨⟨t260, t261, t262⟩, A20, H⟩ := H
 replace H : (if t260 = true then ((spec_l1Cur_fitting.f k s0_0 t261 t262 9).bind fun bt263 => (some (bt263.1, bt263.2.1, bt263.2.2.1, bt263.2.2.2))) else ((spec_l1Cur_list.f k s0_0 t261 t262 9).bind fun bt271 => ((spec_l1Own.f bt271.1).bind fun t276 => ((spec_l1Cur_pick.f s0_0 bt271.2.1 bt271.2.2 8).bind fun bt279 => (spec_l1Cur_lowered.l0 k bt271.1 t276 bt279.1 s0_0 bt279.2.1 bt279.2.2))))) = some (r1, r2, r3, r4) := H
 have A2 := Aside0.mk A20
 clear A20
 by_cases c3 : t260 = true
 ·subst c3
  have H1 : ((spec_l1Cur_fitting.f k s0_0 t261 t262 9).bind fun bt263 => (some (bt263.1, bt263.2.1, bt263.2.2.1, bt263.2.2.2))) = some (r1, r2, r3, r4) := by rw [if_pos rfl] at H; exact H
  clear H
  have H := H1
  clear H1
  replace H := Option.bind_eq_some_iff.mp H
  obtain ⟨⟨t263, t266, t269, t270⟩, A40, H⟩ := H
  replace H : (some (t263, t266, t269, t270)) = some (r1, r2, r3, r4) := H
  have A4 := Aside0.mk A40
  clear A40
  simp only [Option.some.injEq, Prod.mk.injEq] at H
  obtain ⟨rfl, rfl, rfl, rfl⟩ := H
  go_enter Try.func112, Try.ntmps112
  go_wp2_with (first | ((with_reducible refine gate_callee (f := 100) rfl ?_); refine goesL_ (some 9) rfl rfl Try.func100 (by kernel_rfl) rfl #[.pointer (some ⟨g, 0, none⟩), .int .i64 3] rfl (by (try simp only [List.map_toArray, List.map_cons, List.map_nil]); first | done | rfl | (simp only [List.length_drop, List.length_take]; rfl)) ?_; (with_reducible refine (spec_l1Cur_one.calls g s0_0 s0_1 s0_2 3 true t261 t262 w0 _ ?side1 ?side2 A2.out).mono ?_); (case side1 => repeat (first | (with_reducible first | exact HI0.out | apply IsS71.alloc | apply IsS71.drewN | apply IsS71.drew | apply IsS71.set_1 | apply IsS71.set_2) | exact HI0.out)); (case side2 => repeat (first | (with_reducible first | exact HB.out | apply below_alloc | apply pw_below_drewN | apply below_drew1 | refine below_set ?_ (IsS71.ge HI0.out)) | exact HB.out)); rintro e w5 ⟨rfl, hi, hb, hk⟩; refine ⟨_, rfl, ?_⟩; have n0_ := Aside0.mk (KeepBut.trans (by repeat (first | (with_reducible first | exact HK.out | apply KeepBut.set_ | apply keep_drewN | apply keep_drew | apply keep_alloc) | exact HK.out)) hk (.inl rfl)); have n1_ := Aside0.mk (hb); have n2_ := Aside0.mk (hi); clear HK; clear HB; clear HI0; have HK := n0_; have HB := n1_; have HI0 := n2_; clear n0_ n1_ n2_; (try clear hb); (try clear hb2); (try clear hk); (try clear hi)) | ((with_reducible refine gate_callee (f := 78) rfl ?_); refine goesL_ (some 11) rfl rfl Try.func78 (by kernel_rfl) rfl #[.pointer (some ⟨g, 0, none⟩), .int .i64 9] rfl (by (try simp only [List.map_toArray, List.map_cons, List.map_nil]); first | done | rfl | (simp only [List.length_drop, List.length_take]; rfl)) ?_; (with_reducible refine (spec_l1Cur_fitting.calls k g s0_0 t261 t262 9 t263 t266 t269 t270 w0 _ ?side1 ?side2 A4.out).mono ?_); (case side1 => repeat (first | (with_reducible first | exact HI0.out | apply IsS71.alloc | apply IsS71.drewN | apply IsS71.drew | apply IsS71.set_1 | apply IsS71.set_2) | exact HI0.out)); (case side2 => repeat (first | (with_reducible first | exact HB.out | apply below_alloc | apply pw_below_drewN | apply below_drew1 | refine below_set ?_ (IsS71.ge HI0.out)) | exact HB.out)); rintro e w6 ⟨v264, v267, rfl, ho0, ho1, hi, hb, hk⟩; refine ⟨_, rfl, ?_⟩; have n0_ := Aside0.mk (Kd.R_lower ho0 (keep_size (w := w) (g := g) (row := none) (by repeat (first | (with_reducible first | exact HK.out | apply KeepBut.set_ | apply keep_drewN | apply keep_drew | apply keep_alloc) | exact HK.out)))); have n1_ := Aside0.mk (Kd.R_lower ho1 (keep_size (w := w) (g := g) (row := none) (by repeat (first | (with_reducible first | exact HK.out | apply KeepBut.set_ | apply keep_drewN | apply keep_drew | apply keep_alloc) | exact HK.out)))); have n2_ := Aside0.mk (KeepBut.trans (by repeat (first | (with_reducible first | exact HK.out | apply KeepBut.set_ | apply keep_drewN | apply keep_drew | apply keep_alloc) | exact HK.out)) hk (.inl rfl)); have n3_ := Aside0.mk (hb); have n4_ := Aside0.mk (hi); clear HK; clear HB; clear HI0; have HO265 := n0_; have HO268 := n1_; have HK := n2_; have HB := n3_; have HI0 := n4_; clear n0_ n1_ n2_ n3_ n4_; (try clear hb); (try clear hb2); (try clear hk); (try clear hi); (try clear ho0); (try clear ho1)))
  go_ret2
  exact ⟨_, _, by first | rfl | (simp [errW_none, errW_some] <;> rfl) | (simp [*, errW_none, errW_some] <;> rfl), by (with_reducible repeat (first | apply Kd.R_alloc | apply Kd.R_drewN | apply Kd.R_drew)); exact HO265.out, by (with_reducible repeat (first | apply Kd.R_alloc | apply Kd.R_drewN | apply Kd.R_drew)); exact HO268.out, by repeat (first | (with_reducible first | exact HI0.out | apply IsS71.alloc | apply IsS71.drewN | apply IsS71.drew | apply IsS71.set_1 | apply IsS71.set_2) | exact HI0.out), by repeat (first | (with_reducible first | exact HB.out | apply below_alloc | apply pw_below_drewN | apply below_drew1 | refine below_set ?_ (IsS71.ge HI0.out)) | exact HB.out), by repeat (first | (with_reducible first | exact HK.out | apply KeepBut.set_ | apply keep_drewN | apply keep_drew | apply keep_alloc) | exact HK.out)⟩
 ·replace c3 := Bool.eq_false_iff.mpr c3
  subst c3
  have H1 : ((spec_l1Cur_list.f k s0_0 t261 t262 9).bind fun bt271 => ((spec_l1Own.f bt271.1).bind fun t276 => ((spec_l1Cur_pick.f s0_0 bt271.2.1 bt271.2.2 8).bind fun bt279 => (spec_l1Cur_lowered.l0 k bt271.1 t276 bt279.1 s0_0 bt279.2.1 bt279.2.2)))) = some (r1, r2, r3, r4) := by rw [if_neg (show ¬ (false = true) by decide)] at H; exact H
  clear H
  have H := H1
  clear H1
  replace H := Option.bind_eq_some_iff.mp H
  obtain ⟨⟨t271, t274, t275⟩, A70, H⟩ := H
  replace H : ((spec_l1Own.f t271).bind fun t276 => ((spec_l1Cur_pick.f s0_0 t274 t275 8).bind fun bt279 => (spec_l1Cur_lowered.l0 k t271 t276 bt279.1 s0_0 bt279.2.1 bt279.2.2))) = some (r1, r2, r3, r4) := H
  have A7 := Aside0.mk A70
  clear A70
  replace H := Option.bind_eq_some_iff.mp H
  obtain ⟨t276, A80, H⟩ := H
  replace H : ((spec_l1Cur_pick.f s0_0 t274 t275 8).bind fun bt279 => (spec_l1Cur_lowered.l0 k t271 t276 bt279.1 s0_0 bt279.2.1 bt279.2.2)) = some (r1, r2, r3, r4) := H
  have A8 := Aside0.mk A80
  clear A80
  replace H := Option.bind_eq_some_iff.mp H
  obtain ⟨⟨t279, t280, t281⟩, A90, H⟩ := H
  replace H : (spec_l1Cur_lowered.l0 k t271 t276 t279 s0_0 t280 t281) = some (r1, r2, r3, r4) := H
  have A9 := Aside0.mk A90
  clear A90
  have H' := Aside0.mk H
  clear H
  go_enter Try.func112, Try.ntmps112
  go_wp2_with (first | ((with_reducible refine gate_callee (f := 100) rfl ?_); refine goesL_ (some 9) rfl rfl Try.func100 (by kernel_rfl) rfl #[.pointer (some ⟨g, 0, none⟩), .int .i64 3] rfl (by (try simp only [List.map_toArray, List.map_cons, List.map_nil]); first | done | rfl | (simp only [List.length_drop, List.length_take]; rfl)) ?_; (with_reducible refine (spec_l1Cur_one.calls g s0_0 s0_1 s0_2 3 false t261 t262 w0 _ ?side1 ?side2 A2.out).mono ?_); (case side1 => repeat (first | (with_reducible first | exact HI0.out | apply IsS71.alloc | apply IsS71.drewN | apply IsS71.drew | apply IsS71.set_1 | apply IsS71.set_2) | exact HI0.out)); (case side2 => repeat (first | (with_reducible first | exact HB.out | apply below_alloc | apply pw_below_drewN | apply below_drew1 | refine below_set ?_ (IsS71.ge HI0.out)) | exact HB.out)); rintro e w10 ⟨rfl, hi, hb, hk⟩; refine ⟨_, rfl, ?_⟩; have n0_ := Aside0.mk (KeepBut.trans (by repeat (first | (with_reducible first | exact HK.out | apply KeepBut.set_ | apply keep_drewN | apply keep_drew | apply keep_alloc) | exact HK.out)) hk (.inl rfl)); have n1_ := Aside0.mk (hb); have n2_ := Aside0.mk (hi); clear HK; clear HB; clear HI0; have HK := n0_; have HB := n1_; have HI0 := n2_; clear n0_ n1_ n2_; (try clear hb); (try clear hb2); (try clear hk); (try clear hi)) | ((with_reducible refine gate_callee (f := 164) rfl ?_); refine goesL_ (some 15) rfl rfl Try.func164 (by kernel_rfl) rfl #[.pointer (some ⟨g, 0, none⟩), .int .i64 9] rfl (by (try simp only [List.map_toArray, List.map_cons, List.map_nil]); first | done | rfl | (simp only [List.length_drop, List.length_take]; rfl)) ?_; (with_reducible refine (spec_l1Cur_list.calls k g s0_0 t261 t262 9 t271 t274 t275 w0 _ ?side1 ?side2 A7.out).mono ?_); (case side1 => repeat (first | (with_reducible first | exact HI0.out | apply IsS71.alloc | apply IsS71.drewN | apply IsS71.drew | apply IsS71.set_1 | apply IsS71.set_2) | exact HI0.out)); (case side2 => repeat (first | (with_reducible first | exact HB.out | apply below_alloc | apply pw_below_drewN | apply below_drew1 | refine below_set ?_ (IsS71.ge HI0.out)) | exact HB.out)); rintro e w11 ⟨v272, rfl, ho0, hi, hb, hk⟩; refine ⟨_, rfl, ?_⟩; have n0_ := Aside0.mk (Kd.R_lower ho0 (keep_size (w := w) (g := g) (row := none) (by repeat (first | (with_reducible first | exact HK.out | apply KeepBut.set_ | apply keep_drewN | apply keep_drew | apply keep_alloc) | exact HK.out)))); have n1_ := Aside0.mk (KeepBut.trans (by repeat (first | (with_reducible first | exact HK.out | apply KeepBut.set_ | apply keep_drewN | apply keep_drew | apply keep_alloc) | exact HK.out)) hk (.inl rfl)); have n2_ := Aside0.mk (hb); have n3_ := Aside0.mk (hi); clear HK; clear HB; clear HI0; have HO273 := n0_; have HK := n1_; have HB := n2_; have HI0 := n3_; clear n0_ n1_ n2_ n3_; (try clear hb); (try clear hb2); (try clear hk); (try clear hi); (try clear ho0); obtain ⟨Ao12, co12, eo12⟩ := Kd.R_slice HO273.out; subst eo12) | ((with_reducible refine gate_callee (f := 102) rfl ?_); refine goesL_ (some 17) rfl rfl Try.func102 (by kernel_rfl) rfl #[.slice Ao12 t271.length co12] rfl (by (try simp only [List.map_toArray, List.map_cons, List.map_nil]); first | done | rfl | (simp only [List.length_drop, List.length_take]; rfl)) ?_; (with_reducible refine (spec_l1Own.calls _ _ t271 t276 _ ?side1 ?side2 A8.out).mono ?_); (case side1 => repeat (first | exact (Kd.R_reads' HO273.out).2.2 | (with_reducible refine Kd.C_alloc ?_ _) | (with_reducible refine Kd.C_drewN ?_ _) | (with_reducible refine Kd.C_drew ?_))); (case side2 => exact (Kd.R_reads' HO273.out).2.1); rintro e w13 ⟨v277, rfl, ho0, hb⟩; refine ⟨_, rfl, ?_⟩; have n0_ := Aside0.mk (Kd.R_elder' (by (with_reducible repeat (first | apply Kd.R_alloc | apply Kd.R_drewN | apply Kd.R_drew)); exact HO273.out) (Kd.R_base ho0) hb); have n1_ := Aside0.mk (Kd.R_lower (Kd.R_new' ho0 (Kd.R_lt (by (with_reducible repeat (first | apply Kd.R_alloc | apply Kd.R_drewN | apply Kd.R_drew)); exact HO273.out))) (keep_size (w := w) (g := g) (row := none) (by repeat (first | (with_reducible first | exact HK.out | apply KeepBut.set_ | apply keep_drewN | apply keep_drew | apply keep_alloc) | exact HK.out)))); have n2_ := Aside0.mk (IsS71.below (by repeat (first | (with_reducible first | exact HI0.out | apply IsS71.alloc | apply IsS71.drewN | apply IsS71.drew | apply IsS71.set_1 | apply IsS71.set_2) | exact HI0.out)) hb); have n3_ := Aside0.mk (KeepBut.trans (by repeat (first | (with_reducible first | exact HK.out | apply KeepBut.set_ | apply keep_drewN | apply keep_drew | apply keep_alloc) | exact HK.out)) (KeepBut.of_below hb g none) (.inl rfl)); have n4_ := Aside0.mk (below_step (by repeat (first | (with_reducible first | exact HB.out | apply below_alloc | apply pw_below_drewN | apply below_drew1 | refine below_set ?_ (IsS71.ge HI0.out)) | exact HB.out)) hb); clear HO273; clear HI0; clear HK; clear HB; have HO273 := n0_; have HO278 := n1_; have HI0 := n2_; have HK := n3_; have HB := n4_; clear n0_ n1_ n2_ n3_ n4_; (try clear hb); (try clear hb2); (try clear hk); (try clear hi); (try clear ho0)) | ((with_reducible refine gate_callee (f := 103) rfl ?_); refine goesL_ (some 19) rfl rfl Try.func103 (by kernel_rfl) rfl #[.pointer (some ⟨g, 0, none⟩), .int .i64 8] rfl (by (try simp only [List.map_toArray, List.map_cons, List.map_nil]); first | done | rfl | (simp only [List.length_drop, List.length_take]; rfl)) ?_; (with_reducible refine (spec_l1Cur_pick.calls g s0_0 t274 t275 8 t279 t280 t281 w0 _ ?side1 ?side2 A9.out).mono ?_); (case side1 => repeat (first | (with_reducible first | exact HI0.out | apply IsS71.alloc | apply IsS71.drewN | apply IsS71.drew | apply IsS71.set_1 | apply IsS71.set_2) | exact HI0.out)); (case side2 => repeat (first | (with_reducible first | exact HB.out | apply below_alloc | apply pw_below_drewN | apply below_drew1 | refine below_set ?_ (IsS71.ge HI0.out)) | exact HB.out)); rintro e w14 ⟨rfl, hi, hb, hk⟩; refine ⟨_, rfl, ?_⟩; have n0_ := Aside0.mk (Kd.R_mono (Kd.R_keep (IsS71.apart (show IsS71 w0 _ g s0_0 t274 t275 from by repeat (first | (with_reducible first | exact HI0.out | apply IsS71.alloc | apply IsS71.drewN | apply IsS71.drew | apply IsS71.set_1 | apply IsS71.set_2) | exact HI0.out)) (by (with_reducible repeat (first | apply Kd.R_alloc | apply Kd.R_drewN | apply Kd.R_drew)); exact HO273.out) (by decide)) hk (fun _ h => h.2)) (fun _ h => h.1)); have n1_ := Aside0.mk (Kd.R_mono (Kd.R_keep (IsS71.apart (show IsS71 w0 _ g s0_0 t274 t275 from by repeat (first | (with_reducible first | exact HI0.out | apply IsS71.alloc | apply IsS71.drewN | apply IsS71.drew | apply IsS71.set_1 | apply IsS71.set_2) | exact HI0.out)) (by (with_reducible repeat (first | apply Kd.R_alloc | apply Kd.R_drewN | apply Kd.R_drew)); exact HO278.out) (by decide)) hk (fun _ h => h.2)) (fun _ h => h.1)); have n2_ := Aside0.mk (KeepBut.trans (by repeat (first | (with_reducible first | exact HK.out | apply KeepBut.set_ | apply keep_drewN | apply keep_drew | apply keep_alloc) | exact HK.out)) hk (.inl rfl)); have n3_ := Aside0.mk (hb); have n4_ := Aside0.mk (hi); clear HO273; clear HO278; clear HK; clear HB; clear HI0; have HO273 := n0_; have HO278 := n1_; have HK := n2_; have HB := n3_; have HI0 := n4_; clear n0_ n1_ n2_ n3_ n4_; (try clear hb); (try clear hb2); (try clear hk); (try clear hi)))
  go_loopg [6] k (fun kq v6 w' => ∃ (x5_1 : List Int) (x6_1 : Int) (x1001_1 : Int) (x1002_1 : Int), v6 = .int .i64 x6_1 ∧ Aside0 (spec_l1Cur_lowered.l0 kq t271 x5_1 x6_1 s0_0 x1001_1 x1002_1 = some (r1, r2, r3, r4)) ∧ Aside0 (kq ≤ k) ∧ Aside0 (Kd.R (Kd.int .i64) 3 w' w.heap.size (fun k_ => some k_ ≠ (v277 : Value).ownBlock) (.slice Ao12 t271.length co12) t271) ∧ Aside0 (Kd.R (Kd.int .i64) 3 w' w.heap.size (fun k_ => some k_ ≠ ((.slice Ao12 t271.length co12) : Value).ownBlock) v277 x5_1) ∧ Aside0 (IsS71 w0 w' g s0_0 x1001_1 x1002_1) ∧ Aside0 (KeepBut w w' g none) ∧ Aside0 (Below w0.heap.size w0 w'))
  case atStart => exact ⟨(t276), (t279), (t280), (t281), (by first | rfl | (simp; done) | (simp [*]; done)), H', ⟨Nat.le_refl _⟩, ⟨by (with_reducible repeat (first | apply Kd.R_alloc | apply Kd.R_drewN | apply Kd.R_drew)); exact Kd.R_mono HO273.out (fun _ hk => hk.2)⟩, ⟨by (with_reducible repeat (first | apply Kd.R_alloc | apply Kd.R_drewN | apply Kd.R_drew)); exact Kd.R_mono HO278.out (fun _ hk => hk.2)⟩, ⟨by repeat (first | (with_reducible first | exact HI0.out | apply IsS71.alloc | apply IsS71.drewN | apply IsS71.drew | apply IsS71.set_1 | apply IsS71.set_2) | exact HI0.out)⟩, ⟨by repeat (first | (with_reducible first | exact HK.out | apply KeepBut.set_ | apply keep_drewN | apply keep_drew | apply keep_alloc) | exact HK.out)⟩, ⟨by repeat (first | (with_reducible first | exact HB.out | apply below_alloc | apply pw_below_drewN | apply below_drew1 | refine below_set ?_ (IsS71.ge HI0.out)) | exact HB.out)⟩⟩
  case round =>
   clear H'
   try clear c1
   try clear p2
   try clear c3
   try clear c7
   try clear c10
   try clear c11
   obtain ⟨x5_1, x6_1, x1001_1, x1002_1, rfl, HA, HK1, HO_4, HO_5, HI0, HK, HB⟩ := hrel
   cases gk with
   | zero => exact absurd HA.out (by simp [spec_l1Cur_lowered.l0])
   | succ k1 =>
    have H := HA.out
    clear HA
    simp only [spec_l1Cur_lowered.l0] at H
    have HC15 := Aside0.mk H
    clear H
    go_upto_region 6 with (fail)
    go_cut [26] (fun v26 wc => ∃ (kq : Nat) (x26_14 : Bool), v26 = .bool x26_14 ∧ Aside0 (spec_l1Cur_lowered.j1 kq t271 x5_1 x6_1 x26_14 s0_0 x1001_1 x1002_1 = some (r1, r2, r3, r4)) ∧ Aside0 (kq ≤ k1) ∧ Aside0 (Kd.R (Kd.int .i64) 3 wc w.heap.size (fun k_ => some k_ ≠ (v277 : Value).ownBlock) (.slice Ao12 t271.length co12) t271) ∧ Aside0 (Kd.R (Kd.int .i64) 3 wc w.heap.size (fun k_ => some k_ ≠ ((.slice Ao12 t271.length co12) : Value).ownBlock) v277 x5_1) ∧ Aside0 (IsS71 w0 wc g s0_0 x1001_1 x1002_1) ∧ Aside0 (KeepBut w wc g none) ∧ Aside0 (Below w0.heap.size w0 wc))
    case first =>
     have H := HC15.out
     clear HC15
     by_cases c16 : x6_1 > 0
     ·rw [if_pos c16] at H
      have c16b0 : decide (0 < x6_1) = true := decide_eq_true c16
      clear c16
      (first | rw [c16b0] | (simp only [i64_w, i32_w]; rw [c16b0]) | skip)
      have H' := Aside0.mk H
      clear H
      go_wp2
      go_meet
      case rel => exact ⟨_, (decide ((t271.length : Int) > 1)), (by first | rfl | (simp; done) | (simp [*]; done)), H', ⟨by have := HK1.out; first | omega | exact Nat.le_refl _⟩, ⟨by (with_reducible repeat (first | apply Kd.R_alloc | apply Kd.R_drewN | apply Kd.R_drew)); exact HO_4.out⟩, ⟨by (with_reducible repeat (first | apply Kd.R_alloc | apply Kd.R_drewN | apply Kd.R_drew)); exact HO_5.out⟩, ⟨by repeat (first | (with_reducible first | exact HI0.out | apply IsS71.alloc | apply IsS71.drewN | apply IsS71.drew | apply IsS71.set_1 | apply IsS71.set_2) | exact HI0.out)⟩, ⟨by repeat (first | (with_reducible first | exact HK.out | apply KeepBut.set_ | apply keep_drewN | apply keep_drew | apply keep_alloc) | exact HK.out)⟩, ⟨by repeat (first | (with_reducible first | exact HB.out | apply below_alloc | apply pw_below_drewN | apply below_drew1 | refine below_set ?_ (IsS71.ge HI0.out)) | exact HB.out)⟩⟩
     ·rw [if_neg c16] at H
      have c16b0 : decide (0 < x6_1) = false := decide_eq_false c16
      clear c16
      (first | rw [c16b0] | (simp only [i64_w, i32_w]; rw [c16b0]) | skip)
      have H' := Aside0.mk H
      clear H
      go_wp2
      go_meet
      case rel => exact ⟨_, (false), (by first | rfl | (simp; done) | (simp [*]; done)), H', ⟨by have := HK1.out; first | omega | exact Nat.le_refl _⟩, ⟨by (with_reducible repeat (first | apply Kd.R_alloc | apply Kd.R_drewN | apply Kd.R_drew)); exact HO_4.out⟩, ⟨by (with_reducible repeat (first | apply Kd.R_alloc | apply Kd.R_drewN | apply Kd.R_drew)); exact HO_5.out⟩, ⟨by repeat (first | (with_reducible first | exact HI0.out | apply IsS71.alloc | apply IsS71.drewN | apply IsS71.drew | apply IsS71.set_1 | apply IsS71.set_2) | exact HI0.out)⟩, ⟨by repeat (first | (with_reducible first | exact HK.out | apply KeepBut.set_ | apply keep_drewN | apply keep_drew | apply keep_alloc) | exact HK.out)⟩, ⟨by repeat (first | (with_reducible first | exact HB.out | apply below_alloc | apply pw_below_drewN | apply below_drew1 | refine below_set ?_ (IsS71.ge HI0.out)) | exact HB.out)⟩⟩
    case rest =>
     clear HC15
     try clear c1
     try clear p2
     try clear c3
     try clear c7
     try clear c10
     try clear c11
     try clear c16
     try clear c16b0
     try clear p2
     obtain ⟨kq, x26_14, rfl, HA, HJ14, HO_4, HO_5, HI0, HK, HB⟩ := hcut
     cases kq with
     | zero => exact absurd HA.out (by simp [spec_l1Cur_lowered.j1])
     | succ kj14 =>
      have H := HA.out
      clear HA
      simp only [spec_l1Cur_lowered.j1] at H
      by_cases c17 : x26_14 = true
      ·subst c17
       have H1 : ((spec_l1Cur_pick.f s0_0 x1001_1 x1002_1 (wrap64 ((t271.length : Int) - 1))).bind fun bt282 => (if 0 ≤ (wrap64 (1 + bt282.1)) then (if (wrap64 (1 + bt282.1)) < (x5_1.length : Int) then (if (rd x5_1 (wrap64 (1 + bt282.1))) > 0 then ((some (x5_1.set ((wrap64 (1 + bt282.1)) : Int).toNat (wrap64 ((rd x5_1 (wrap64 (1 + bt282.1))) - 1)) : List Int)).bind fun y287 => ((spec_l1Cur_pick.f s0_0 bt282.2.1 bt282.2.2 (wrap64 (1 + bt282.1))).bind fun bt288 => (if 0 ≤ bt288.1 then (if bt288.1 < (x5_1.length : Int) then (spec_l1Cur_lowered.l0 kj14 t271 (y287.set (bt288.1 : Int).toNat (wrap64 ((rd y287 bt288.1) + 1))) (wrap64 (x6_1 - 1)) s0_0 bt288.2.1 bt288.2.2) else (none)) else (none)))) else (spec_l1Cur_lowered.l0 kj14 t271 x5_1 (wrap64 (x6_1 - 1)) s0_0 bt282.2.1 bt282.2.2)) else (none)) else (none))) = some (r1, r2, r3, r4) := by rw [if_pos rfl] at H; exact H
       clear H
       have H := H1
       clear H1
       replace H := Option.bind_eq_some_iff.mp H
       obtain ⟨⟨t282, t283, t284⟩, A180, H⟩ := H
       replace H : (if 0 ≤ (wrap64 (1 + t282)) then (if (wrap64 (1 + t282)) < (x5_1.length : Int) then (if (rd x5_1 (wrap64 (1 + t282))) > 0 then ((some (x5_1.set ((wrap64 (1 + t282)) : Int).toNat (wrap64 ((rd x5_1 (wrap64 (1 + t282))) - 1)) : List Int)).bind fun y287 => ((spec_l1Cur_pick.f s0_0 t283 t284 (wrap64 (1 + t282))).bind fun bt288 => (if 0 ≤ bt288.1 then (if bt288.1 < (x5_1.length : Int) then (spec_l1Cur_lowered.l0 kj14 t271 (y287.set (bt288.1 : Int).toNat (wrap64 ((rd y287 bt288.1) + 1))) (wrap64 (x6_1 - 1)) s0_0 bt288.2.1 bt288.2.2) else (none)) else (none)))) else (spec_l1Cur_lowered.l0 kj14 t271 x5_1 (wrap64 (x6_1 - 1)) s0_0 t283 t284)) else (none)) else (none)) = some (r1, r2, r3, r4) := H
       have A18 := Aside0.mk A180
       clear A180
       obtain ⟨ji19, hji19⟩ : ∃ j_ : Int, (wrap64 (1 + t282)) = j_ := ⟨_, rfl⟩
       replace H : (if 0 ≤ (ji19) then (if (ji19) < (x5_1.length : Int) then (if (rd x5_1 (ji19)) > 0 then ((some (x5_1.set ((ji19) : Int).toNat (wrap64 ((rd x5_1 (ji19)) - 1)) : List Int)).bind fun y287 => ((spec_l1Cur_pick.f s0_0 t283 t284 (ji19)).bind fun bt288 => (if 0 ≤ bt288.1 then (if bt288.1 < (x5_1.length : Int) then (spec_l1Cur_lowered.l0 kj14 t271 (y287.set (bt288.1 : Int).toNat (wrap64 ((rd y287 bt288.1) + 1))) (wrap64 (x6_1 - 1)) s0_0 bt288.2.1 bt288.2.2) else (none)) else (none)))) else (spec_l1Cur_lowered.l0 kj14 t271 x5_1 (wrap64 (x6_1 - 1)) s0_0 t283 t284)) else (none)) else (none)) = some (r1, r2, r3, r4) := by first | (rw [hji19] at H; exact H) | (simp only [hji19] at H ⊢; exact H)
       (try rw [hji19] at A18)
       have hji19w : (IntKind.i64.wrap (1 + t282)) = ji19 := (i64_w _).trans hji19
       by_cases c20 : 0 ≤ (ji19)
       ·rw [if_pos c20] at H
        have c20b0 : decide (0 ≤ (ji19)) = true := decide_eq_true c20
        clear c20
        by_cases c21 : (ji19) < (x5_1.length : Int)
        ·rw [if_pos c21] at H
         have c21b0 : decide ((ji19) < (x5_1.length : Int)) = true := decide_eq_true c21
         clear c21
         by_cases c22 : (rd x5_1 (ji19)) > 0
         ·rw [if_pos c22] at H
          have c22b0 : decide (0 < (rd x5_1 (ji19))) = true := decide_eq_true c22
          clear c22
          obtain ⟨y287, hy287⟩ : ∃ y_ : List Int, y_ = (x5_1.set ((ji19) : Int).toNat (wrap64 ((rd x5_1 (ji19)) - 1))) := ⟨_, rfl⟩
          replace H : ((spec_l1Cur_pick.f s0_0 t283 t284 (ji19)).bind fun bt288 => (if 0 ≤ bt288.1 then (if bt288.1 < (x5_1.length : Int) then (spec_l1Cur_lowered.l0 kj14 t271 (y287.set (bt288.1 : Int).toNat (wrap64 ((rd y287 bt288.1) + 1))) (wrap64 (x6_1 - 1)) s0_0 bt288.2.1 bt288.2.2) else (none)) else (none))) = some (r1, r2, r3, r4) := by first | (rw [hy287]; with_reducible exact H) | (have H2_ := (Option.bind_some _ _).symm.trans H; rw [hy287]; with_reducible exact H2_) | (have H2_ := (Option.bind_some _ _).symm.trans H; with_reducible exact H2_) | with_reducible exact H | (rw [hy287]; exact H) | exact H
          have Ny287 := Aside0.mk hy287
          clear hy287
          replace H := Option.bind_eq_some_iff.mp H
          obtain ⟨⟨t288, t289, t290⟩, A240, H⟩ := H
          replace H : (if 0 ≤ t288 then (if t288 < (x5_1.length : Int) then (spec_l1Cur_lowered.l0 kj14 t271 (y287.set (t288 : Int).toNat (wrap64 ((rd y287 t288) + 1))) (wrap64 (x6_1 - 1)) s0_0 t289 t290) else (none)) else (none)) = some (r1, r2, r3, r4) := H
          have A24 := Aside0.mk A240
          clear A240
          by_cases c25 : 0 ≤ t288
          ·rw [if_pos c25] at H
           have c25b0 : decide (0 ≤ t288) = true := decide_eq_true c25
           clear c25
           by_cases c26 : t288 < (x5_1.length : Int)
           ·rw [if_pos c26] at H
            have c26b0 : decide (t288 < (x5_1.length : Int)) = true := decide_eq_true c26
            clear c26
            obtain ⟨y292, hy292⟩ : ∃ y_ : List Int, y_ = (y287.set (t288 : Int).toNat (wrap64 ((rd y287 t288) + 1))) := ⟨_, rfl⟩
            replace H : (spec_l1Cur_lowered.l0 kj14 t271 y292 (wrap64 (x6_1 - 1)) s0_0 t289 t290) = some (r1, r2, r3, r4) := by first | (rw [hy292]; with_reducible exact H) | (have H2_ := (Option.bind_some _ _).symm.trans H; rw [hy292]; with_reducible exact H2_) | (have H2_ := (Option.bind_some _ _).symm.trans H; with_reducible exact H2_) | with_reducible exact H | (rw [hy292]; exact H) | exact H
            have Ny292 := Aside0.mk hy292
            clear hy292
            have H' := Aside0.mk H
            clear H
            go_wp2_with (first | ((with_reducible refine gate_callee (f := 103) rfl ?_); refine goesL_ (some 33) rfl rfl Try.func103 (by kernel_rfl) rfl #[.pointer (some ⟨g, 0, none⟩), .int .i64 (wrap64 ((t271.length : Int) - 1))] rfl (by (try simp only [List.map_toArray, List.map_cons, List.map_nil]); first | done | rfl | (simp only [List.length_drop, List.length_take]; rfl)) ?_; (with_reducible refine (spec_l1Cur_pick.calls g s0_0 x1001_1 x1002_1 (wrap64 ((t271.length : Int) - 1)) t282 t283 t284 w0 _ ?side1 ?side2 A18.out).mono ?_); (case side1 => repeat (first | (with_reducible first | exact HI0.out | apply IsS71.alloc | apply IsS71.drewN | apply IsS71.drew | apply IsS71.set_1 | apply IsS71.set_2) | exact HI0.out)); (case side2 => repeat (first | (with_reducible first | exact HB.out | apply below_alloc | apply pw_below_drewN | apply below_drew1 | refine below_set ?_ (IsS71.ge HI0.out)) | exact HB.out)); rintro e w28 ⟨rfl, hi, hb, hk⟩; refine ⟨_, rfl, ?_⟩; have n0_ := Aside0.mk (Kd.R_mono (Kd.R_keep (IsS71.apart (show IsS71 w0 _ g s0_0 x1001_1 x1002_1 from by repeat (first | (with_reducible first | exact HI0.out | apply IsS71.alloc | apply IsS71.drewN | apply IsS71.drew | apply IsS71.set_1 | apply IsS71.set_2) | exact HI0.out)) (by (with_reducible repeat (first | apply Kd.R_alloc | apply Kd.R_drewN | apply Kd.R_drew)); exact HO_4.out) (by decide)) hk (fun _ h => h.2)) (fun _ h => h.1)); have n1_ := Aside0.mk (Kd.R_mono (Kd.R_keep (IsS71.apart (show IsS71 w0 _ g s0_0 x1001_1 x1002_1 from by repeat (first | (with_reducible first | exact HI0.out | apply IsS71.alloc | apply IsS71.drewN | apply IsS71.drew | apply IsS71.set_1 | apply IsS71.set_2) | exact HI0.out)) (by (with_reducible repeat (first | apply Kd.R_alloc | apply Kd.R_drewN | apply Kd.R_drew)); exact HO_5.out) (by decide)) hk (fun _ h => h.2)) (fun _ h => h.1)); have n2_ := Aside0.mk (KeepBut.trans (by repeat (first | (with_reducible first | exact HK.out | apply KeepBut.set_ | apply keep_drewN | apply keep_drew | apply keep_alloc) | exact HK.out)) hk (.inl rfl)); have n3_ := Aside0.mk (hb); have n4_ := Aside0.mk (hi); clear HO_4; clear HO_5; clear HK; clear HB; clear HI0; have HO_4 := n0_; have HO_5 := n1_; have HK := n2_; have HB := n3_; have HI0 := n4_; clear n0_ n1_ n2_ n3_ n4_; (try clear hb); (try clear hb2); (try clear hk); (try clear hi); obtain ⟨Ao29, co29, eo29⟩ := Kd.R_slice HO_5.out; subst eo29; have p285 : 0 ≤ ((ji19) : Int) := of_decide_eq_true (by first | (with_reducible assumption) | assumption); have q285 : (ji19) < (x5_1.length : Int) := of_decide_eq_true (by first | (with_reducible assumption) | assumption); obtain ⟨ad285, e285, hx285_0⟩ := Kd.at_int (Kd.R_reads' HO_5.out).2.2 (ji19) p285 q285; cases e285; replace p285 := eq_true p285; replace q285 := eq_true q285; have p286 : 0 ≤ ((ji19) : Int) := of_decide_eq_true (by first | (with_reducible assumption) | assumption); have q286 : (ji19) < (x5_1.length : Int) := of_decide_eq_true (by first | (with_reducible assumption) | assumption); obtain ⟨ad286, e286, hx286_0⟩ := Kd.at_int (Kd.R_reads' HO_5.out).2.2 (ji19) p286 q286; obtain rfl : ad285 = ad286 := (by injection e286); replace p286 := eq_true p286; replace q286 := eq_true q286; have p23 : 0 ≤ ((ji19) : Int) := of_decide_eq_true (by first | (with_reducible assumption) | assumption); have q23 : ((ji19) : Int) < ((x5_1.length : Int) : Int) := of_decide_eq_true (by first | (with_reducible assumption) | assumption); obtain ⟨go23, co23, eo23, gb23, gl23, cl23, HG23⟩ := Kd.R_form HO_5.out (by omega); (first | cases eo23 | (injection eo23 with ea_ en_ ec_; (first | subst ea_ | (injection ea_ with ea_; subst ea_)); subst ec_; clear en_)); have GB23 := Aside0.mk gb23; have GG23 := Aside0.mk HG23; clear gb23 gl23 HG23; (first | simp only [add_plain] at hx285_0 | skip); (first | simp only [add_plain] at hx286_0 | skip); obtain ⟨hx23_0, hf23_0⟩ := Kd.R_celln 0 HO_5.out ((ji19) : Int) p23 q23; replace p23 := eq_true p23; replace q23 := eq_true q23; obtain ⟨hy30_, hz30_⟩ := Kd.R_celln 0 HO_5.out ((ji19) : Int) (of_decide_eq_true (by first | (with_reducible assumption) | assumption)) (of_decide_eq_true (by first | (with_reducible assumption) | assumption)); have HP30 := Kd.R_putg HO_5.out ((ji19) : Int) (wrap64 ((rd x5_1 (ji19)) - 1))) | ((with_reducible refine gate_store (t := 3) (p := 45) rfl ?_); refine store_event (t := 3) (p := 45) (v := ?vo_w31) (w1 := (w28.setCell ⟨go23, ((ji19) : Int).toNat, none⟩ (.int .i64 (wrap64 ((rd x5_1 (ji19)) - 1))))) ?hg ?ho ?hn ?hr ?_; (case ho => rfl); (case hg => rfl); (case hn => rfl); (case hr => first | (go_simp; done) | (go_simp; rfl)); intro w31 hw; have hg : w28.grownBy w31 (some go23) := (by rw [hw]; exact HP30.2); have hp_ : Kd.R (Kd.int .i64) 3 w31 w.heap.size (fun k_ => some k_ ≠ (.slice Ao12 t271.length co12 : Value).ownBlock) (.slice (some ⟨go23, 0, none⟩) x5_1.length co29) y287 := (by rw [hw, Ny287.out]; exact HP30.1); clear HP30; have n0_ := Aside0.mk (Kd.R_after (v := (.slice (some ⟨go23, 0, none⟩) x5_1.length co29)) (v1 := (.slice (some ⟨go23, 0, none⟩) x5_1.length co29)) (ok := (fun _ => True)) (by (with_reducible repeat (first | apply Kd.R_alloc | apply Kd.R_drewN | apply Kd.R_drew)); exact Kd.R_mono HO_4.out (fun _ hk => ⟨trivial, hk⟩)) hg (.inl rfl)); have n1_ := Aside0.mk (hp_); have n2_ := Aside0.mk (IsS71.grown (by repeat (first | (with_reducible first | exact HI0.out | apply IsS71.alloc | apply IsS71.drewN | apply IsS71.drew | apply IsS71.set_1 | apply IsS71.set_2) | exact HI0.out)) hg (IsS71.own_ne HI0.out HO_5.out (by decide))); have n3_ := Aside0.mk ((by rw [hw]; exact below_set (HB.out) (Nat.le_trans HL.out GB23.out) : Below w0.heap.size w0 w31)); have n4_ := Aside0.mk (KeepBut.trans (by repeat (first | (with_reducible first | exact HK.out | apply KeepBut.set_ | apply keep_drewN | apply keep_drew | apply keep_alloc) | exact HK.out)) (KeepBut.of_grown hg g) (Kd.R_base2 HO_5.out)); clear HO_4; clear HO_5; clear HI0; clear HB; clear HK; have HO_4 := n0_; have HO_5 := n1_; have HI0 := n2_; have HB := n3_; have HK := n4_; clear n0_ n1_ n2_ n3_ n4_; clear hg hw hp_) | ((with_reducible refine gate_callee (f := 103) rfl ?_); refine goesL_ (some 49) rfl rfl Try.func103 (by kernel_rfl) rfl #[.pointer (some ⟨g, 0, none⟩), .int .i64 ji19] rfl (by (try simp only [List.map_toArray, List.map_cons, List.map_nil]); first | done | (simp only [hji19]; rfl) | rfl | (simp only [List.length_drop, List.length_take]; rfl)) ?_; (with_reducible refine (spec_l1Cur_pick.calls g s0_0 t283 t284 ji19 t288 t289 t290 w0 _ ?side1 ?side2 A24.out).mono ?_); (case side1 => repeat (first | (with_reducible first | exact HI0.out | apply IsS71.alloc | apply IsS71.drewN | apply IsS71.drew | apply IsS71.set_1 | apply IsS71.set_2) | exact HI0.out)); (case side2 => repeat (first | (with_reducible first | exact HB.out | apply below_alloc | apply pw_below_drewN | apply below_drew1 | refine below_set ?_ (IsS71.ge HI0.out)) | exact HB.out)); rintro e w32 ⟨rfl, hi, hb, hk⟩; refine ⟨_, rfl, ?_⟩; have n0_ := Aside0.mk (Kd.R_mono (Kd.R_keep (IsS71.apart (show IsS71 w0 _ g s0_0 t283 t284 from by repeat (first | (with_reducible first | exact HI0.out | apply IsS71.alloc | apply IsS71.drewN | apply IsS71.drew | apply IsS71.set_1 | apply IsS71.set_2) | exact HI0.out)) (by (with_reducible repeat (first | apply Kd.R_alloc | apply Kd.R_drewN | apply Kd.R_drew)); exact HO_4.out) (by decide)) hk (fun _ h => h.2)) (fun _ h => h.1)); have n1_ := Aside0.mk (Kd.R_mono (Kd.R_keep (IsS71.apart (show IsS71 w0 _ g s0_0 t283 t284 from by repeat (first | (with_reducible first | exact HI0.out | apply IsS71.alloc | apply IsS71.drewN | apply IsS71.drew | apply IsS71.set_1 | apply IsS71.set_2) | exact HI0.out)) (by (with_reducible repeat (first | apply Kd.R_alloc | apply Kd.R_drewN | apply Kd.R_drew)); exact HO_5.out) (by decide)) hk (fun _ h => h.2)) (fun _ h => h.1)); have n2_ := Aside0.mk (KeepBut.trans (by repeat (first | (with_reducible first | exact HK.out | apply KeepBut.set_ | apply keep_drewN | apply keep_drew | apply keep_alloc) | exact HK.out)) hk (.inl rfl)); have n3_ := Aside0.mk (hb); have n4_ := Aside0.mk (hi); clear HO_4; clear HO_5; clear HK; clear HB; clear HI0; have HO_4 := n0_; have HO_5 := n1_; have HK := n2_; have HB := n3_; have HI0 := n4_; clear n0_ n1_ n2_ n3_ n4_; (try clear hb); (try clear hb2); (try clear hk); (try clear hi); have p291 : 0 ≤ (t288 : Int) := of_decide_eq_true (by first | (with_reducible assumption) | assumption); have q291 : t288 < (y287.length : Int) := (by have h_ : (t288 : Int) < ((x5_1.length : Int) : Int) := of_decide_eq_true (by first | (with_reducible assumption) | assumption); first | (have e_ := (Kd.R_reads' HO_5.out).1; omega) | simpa only [Ny287.out, List.length_set] using h_); have ql291 : ((t288 : Int) < ((x5_1.length : Int) : Int)) = True := eq_true (of_decide_eq_true (by first | (with_reducible assumption) | assumption)); obtain ⟨ad291, e291, hx291_0⟩ := Kd.at_int (Kd.R_reads' HO_5.out).2.2 t288 p291 q291; obtain rfl : (⟨go23, 0, none⟩ : Addr) = ad291 := (by injection e291); (first | simp only [add_plain] at hx291_0 | simp only [add_at] at hx291_0 | simp only [Addr.add, Nat.zero_add] at hx291_0 | skip); replace p291 := eq_true p291; replace q291 := eq_true q291; have p27 : 0 ≤ (t288 : Int) := of_decide_eq_true (by first | (with_reducible assumption) | assumption); have q27 : (t288 : Int) < ((x5_1.length : Int) : Int) := of_decide_eq_true (by first | (with_reducible assumption) | assumption); obtain ⟨hx27_0, hf27_0⟩ := Kd.R_celln 0 HO_5.out (t288 : Int) p27 q27; replace p27 := eq_true p27; replace q27 := eq_true q27; obtain ⟨hy33_, hz33_⟩ := Kd.R_celln 0 HO_5.out (t288 : Int) (of_decide_eq_true (by first | (with_reducible assumption) | assumption)) (of_decide_eq_true (by first | (with_reducible assumption) | assumption)); have HP33 := Kd.R_putg HO_5.out (t288 : Int) (wrap64 ((rd y287 t288) + 1))) | ((with_reducible refine gate_store (t := 3) (p := 53) rfl ?_); refine store_event (t := 3) (p := 53) (v := ?vo_w34) (w1 := (w32.setCell ⟨go23, (t288 : Int).toNat, none⟩ (.int .i64 (wrap64 ((rd y287 t288) + 1))))) ?hg ?ho ?hn ?hr ?_; (case ho => rfl); (case hg => rfl); (case hn => rfl); (case hr => first | (go_simp; done) | (go_simp; rfl)); intro w34 hw; have hg : w32.grownBy w34 (some go23) := (by rw [hw]; exact HP33.2); have hp_ : Kd.R (Kd.int .i64) 3 w34 w.heap.size (fun k_ => some k_ ≠ (.slice Ao12 t271.length co12 : Value).ownBlock) (.slice (some ⟨go23, 0, none⟩) x5_1.length co29) y292 := (by rw [hw, Ny292.out]; exact HP33.1); clear HP33; have n0_ := Aside0.mk (Kd.R_after (v := (.slice (some ⟨go23, 0, none⟩) x5_1.length co29)) (v1 := (.slice (some ⟨go23, 0, none⟩) x5_1.length co29)) (ok := (fun _ => True)) (by (with_reducible repeat (first | apply Kd.R_alloc | apply Kd.R_drewN | apply Kd.R_drew)); exact HO_4.out) hg (.inl rfl)); have n1_ := Aside0.mk (hp_); have n2_ := Aside0.mk (IsS71.grown (by repeat (first | (with_reducible first | exact HI0.out | apply IsS71.alloc | apply IsS71.drewN | apply IsS71.drew | apply IsS71.set_1 | apply IsS71.set_2) | exact HI0.out)) hg (IsS71.own_ne HI0.out HO_5.out (by decide))); have n3_ := Aside0.mk ((by rw [hw]; exact below_set (HB.out) (Nat.le_trans HL.out GB23.out) : Below w0.heap.size w0 w34)); have n4_ := Aside0.mk (KeepBut.trans (by repeat (first | (with_reducible first | exact HK.out | apply KeepBut.set_ | apply keep_drewN | apply keep_drew | apply keep_alloc) | exact HK.out)) (KeepBut.of_grown hg g) (Kd.R_base2 HO_5.out)); clear HO_4; clear HO_5; clear HI0; clear HB; clear HK; have HO_4 := n0_; have HO_5 := n1_; have HI0 := n2_; have HB := n3_; have HK := n4_; clear n0_ n1_ n2_ n3_ n4_; clear hg hw hp_))
            go_roundg kj14
            case measure => have := HK1.out; have := HJ14.out; omega
            case rel => exact ⟨(y292), (wrap64 (x6_1 - 1)), (t289), (t290), (by first | rfl | (simp; done) | (simp [*]; done)), H', ⟨by have := HK1.out; have := HJ14.out; omega⟩, ⟨by (with_reducible repeat (first | apply Kd.R_alloc | apply Kd.R_drewN | apply Kd.R_drew)); exact Kd.R_mono HO_4.out (fun _ hk => hk.2)⟩, ⟨by (with_reducible repeat (first | apply Kd.R_alloc | apply Kd.R_drewN | apply Kd.R_drew)); exact HO_5.out⟩, ⟨by repeat (first | (with_reducible first | exact HI0.out | apply IsS71.alloc | apply IsS71.drewN | apply IsS71.drew | apply IsS71.set_1 | apply IsS71.set_2) | exact HI0.out)⟩, ⟨by repeat (first | (with_reducible first | exact HK.out | apply KeepBut.set_ | apply keep_drewN | apply keep_drew | apply keep_alloc) | exact HK.out)⟩, ⟨by repeat (first | (with_reducible first | exact HB.out | apply below_alloc | apply pw_below_drewN | apply below_drew1 | refine below_set ?_ (IsS71.ge HI0.out)) | exact HB.out)⟩⟩
           ·rw [if_neg c26] at H
            exact absurd H (by simp)
          ·rw [if_neg c25] at H
           exact absurd H (by simp)
         ·rw [if_neg c22] at H
          have c22b0 : decide (0 < (rd x5_1 (ji19))) = false := decide_eq_false c22
          clear c22
          have H' := Aside0.mk H
          clear H
          go_wp2_with (first | ((with_reducible refine gate_callee (f := 103) rfl ?_); refine goesL_ (some 33) rfl rfl Try.func103 (by kernel_rfl) rfl #[.pointer (some ⟨g, 0, none⟩), .int .i64 (wrap64 ((t271.length : Int) - 1))] rfl (by (try simp only [List.map_toArray, List.map_cons, List.map_nil]); first | done | rfl | (simp only [List.length_drop, List.length_take]; rfl)) ?_; (with_reducible refine (spec_l1Cur_pick.calls g s0_0 x1001_1 x1002_1 (wrap64 ((t271.length : Int) - 1)) t282 t283 t284 w0 _ ?side1 ?side2 A18.out).mono ?_); (case side1 => repeat (first | (with_reducible first | exact HI0.out | apply IsS71.alloc | apply IsS71.drewN | apply IsS71.drew | apply IsS71.set_1 | apply IsS71.set_2) | exact HI0.out)); (case side2 => repeat (first | (with_reducible first | exact HB.out | apply below_alloc | apply pw_below_drewN | apply below_drew1 | refine below_set ?_ (IsS71.ge HI0.out)) | exact HB.out)); rintro e w35 ⟨rfl, hi, hb, hk⟩; refine ⟨_, rfl, ?_⟩; have n0_ := Aside0.mk (Kd.R_mono (Kd.R_keep (IsS71.apart (show IsS71 w0 _ g s0_0 x1001_1 x1002_1 from by repeat (first | (with_reducible first | exact HI0.out | apply IsS71.alloc | apply IsS71.drewN | apply IsS71.drew | apply IsS71.set_1 | apply IsS71.set_2) | exact HI0.out)) (by (with_reducible repeat (first | apply Kd.R_alloc | apply Kd.R_drewN | apply Kd.R_drew)); exact HO_4.out) (by decide)) hk (fun _ h => h.2)) (fun _ h => h.1)); have n1_ := Aside0.mk (Kd.R_mono (Kd.R_keep (IsS71.apart (show IsS71 w0 _ g s0_0 x1001_1 x1002_1 from by repeat (first | (with_reducible first | exact HI0.out | apply IsS71.alloc | apply IsS71.drewN | apply IsS71.drew | apply IsS71.set_1 | apply IsS71.set_2) | exact HI0.out)) (by (with_reducible repeat (first | apply Kd.R_alloc | apply Kd.R_drewN | apply Kd.R_drew)); exact HO_5.out) (by decide)) hk (fun _ h => h.2)) (fun _ h => h.1)); have n2_ := Aside0.mk (KeepBut.trans (by repeat (first | (with_reducible first | exact HK.out | apply KeepBut.set_ | apply keep_drewN | apply keep_drew | apply keep_alloc) | exact HK.out)) hk (.inl rfl)); have n3_ := Aside0.mk (hb); have n4_ := Aside0.mk (hi); clear HO_4; clear HO_5; clear HK; clear HB; clear HI0; have HO_4 := n0_; have HO_5 := n1_; have HK := n2_; have HB := n3_; have HI0 := n4_; clear n0_ n1_ n2_ n3_ n4_; (try clear hb); (try clear hb2); (try clear hk); (try clear hi); obtain ⟨Ao36, co36, eo36⟩ := Kd.R_slice HO_5.out; subst eo36; have p285 : 0 ≤ ((ji19) : Int) := of_decide_eq_true (by first | (with_reducible assumption) | assumption); have q285 : (ji19) < (x5_1.length : Int) := of_decide_eq_true (by first | (with_reducible assumption) | assumption); obtain ⟨ad285, e285, hx285_0⟩ := Kd.at_int (Kd.R_reads' HO_5.out).2.2 (ji19) p285 q285; cases e285; replace p285 := eq_true p285; replace q285 := eq_true q285))
          go_roundg kj14
          case measure => have := HK1.out; have := HJ14.out; omega
          case rel => exact ⟨(x5_1), (wrap64 (x6_1 - 1)), (t283), (t284), (by first | rfl | (simp; done) | (simp [*]; done)), H', ⟨by have := HK1.out; have := HJ14.out; omega⟩, ⟨by (with_reducible repeat (first | apply Kd.R_alloc | apply Kd.R_drewN | apply Kd.R_drew)); exact HO_4.out⟩, ⟨by (with_reducible repeat (first | apply Kd.R_alloc | apply Kd.R_drewN | apply Kd.R_drew)); exact HO_5.out⟩, ⟨by repeat (first | (with_reducible first | exact HI0.out | apply IsS71.alloc | apply IsS71.drewN | apply IsS71.drew | apply IsS71.set_1 | apply IsS71.set_2) | exact HI0.out)⟩, ⟨by repeat (first | (with_reducible first | exact HK.out | apply KeepBut.set_ | apply keep_drewN | apply keep_drew | apply keep_alloc) | exact HK.out)⟩, ⟨by repeat (first | (with_reducible first | exact HB.out | apply below_alloc | apply pw_below_drewN | apply below_drew1 | refine below_set ?_ (IsS71.ge HI0.out)) | exact HB.out)⟩⟩
        ·rw [if_neg c21] at H
         exact absurd H (by simp)
       ·rw [if_neg c20] at H
        exact absurd H (by simp)
      ·replace c17 := Bool.eq_false_iff.mpr c17
       subst c17
       have H1 : (some (t271, x5_1, x1001_1, x1002_1)) = some (r1, r2, r3, r4) := by rw [if_neg (show ¬ (false = true) by decide)] at H; exact H
       clear H
       have H := H1
       clear H1
       simp only [Option.some.injEq, Prod.mk.injEq] at H
       obtain ⟨rfl, rfl, rfl, rfl⟩ := H
       go_wp2
       go_ret2
       exact ⟨_, _, by first | rfl | (simp [errW_none, errW_some] <;> rfl) | (simp [*, errW_none, errW_some] <;> rfl), by (with_reducible repeat (first | apply Kd.R_alloc | apply Kd.R_drewN | apply Kd.R_drew)); exact HO_4.out, by (with_reducible repeat (first | apply Kd.R_alloc | apply Kd.R_drewN | apply Kd.R_drew)); exact HO_5.out, by repeat (first | (with_reducible first | exact HI0.out | apply IsS71.alloc | apply IsS71.drewN | apply IsS71.drew | apply IsS71.set_1 | apply IsS71.set_2) | exact HI0.out), by repeat (first | (with_reducible first | exact HB.out | apply below_alloc | apply pw_below_drewN | apply below_drew1 | refine below_set ?_ (IsS71.ge HI0.out)) | exact HB.out), by repeat (first | (with_reducible first | exact HK.out | apply KeepBut.set_ | apply keep_drewN | apply keep_drew | apply keep_alloc) | exact HK.out)⟩

/-! ### spec_DrawLoweringPlan: function 35 -/
def spec_DrawLoweringPlan.f (k : Nat) (l0 : List Int) : Option (List Int × List Int) := (spec_l1Cur_lowered.f k l0 0 0).bind fun bt294 => (some (bt294.1, bt294.2.1))
theorem spec_DrawLoweringPlan.mono : ∀ a0 k, LeO (spec_DrawLoweringPlan.f k a0) (spec_DrawLoweringPlan.f (k + 1) a0) := by
 intro a0 k
 unfold spec_DrawLoweringPlan.f
 repeat' first
   | (with_reducible exact spec_l1Cur_lowered.mono _ _ _ _)
   | (with_reducible exact LeO.refl _)
   | (with_reducible exact LeO.none _)
   | (with_reducible refine LeO.ite ?_ ?_)
   | (with_reducible refine LeO.bind ?_ (fun _ => ?_))
   | exact spec_l1Cur_lowered.mono _ _ _ _
   | exact LeO.none _
   | refine LeO.ite ?_ ?_
   | refine LeO.bind ?_ (fun _ => ?_)
set_option maxHeartbeats 8000000 in
set_option maxRecDepth 100000 in
theorem spec_DrawLoweringPlan.calls (k : Nat) (A0 : Option Addr) (c0 : Nat) (l0 : List Int) (r1 : List Int) (r2 : List Int) (w : World) (hr0 : Kd.C (Kd.int .u8) w A0 l0.length l0) (hc0 : l0.length ≤ c0) (h : spec_DrawLoweringPlan.f k l0 = some (r1, r2)) :
  Calls Try.prog 35 #[.slice A0 l0.length c0] w fun e w' => ∃ v0_ v1_ : Value, e = .returned (.tuple #[v0_, v1_]) ∧ Kd.R (Kd.int .i64) 3 w' w.heap.size (fun k_ => some k_ ≠ (v1_ : Value).ownBlock) v0_ r1 ∧ Kd.R (Kd.int .i64) 3 w' w.heap.size (fun k_ => some k_ ≠ (v0_ : Value).ownBlock) v1_ r2 ∧ Below w.heap.size w w' := by
 have hu71 := Try.underlying71
 have HR0 := Aside0.mk hr0
 have HC0 := Aside0.mk hc0
 clear hr0 hc0
 have HB := Aside0.mk (Below.refl w.heap.size w)
 have H : ((spec_l1Cur_lowered.f k l0 0 0).bind fun bt294 => (some (bt294.1, bt294.2.1))) = some (r1, r2) := h
 clear h
 replace H := Option.bind_eq_some_iff.mp H
 obtain ⟨⟨t294, t297, t300, t301⟩, A20, H⟩ := H
 replace H : (some (t294, t297)) = some (r1, r2) := H
 have A2 := Aside0.mk A20
 clear A20
 simp only [Option.some.injEq, Prod.mk.injEq] at H
 obtain ⟨rfl, rfl⟩ := H
 go_enter Try.func35, Try.ntmps35
 go_wp2_with (first | ((with_reducible refine gate_dst (N := 7) rfl ?_); refine box_event ?hg (N := 7) ?hd (cs := #[.slice A0 l0.length c0, .int .i64 0, .int .u64 0]) (t := 71) ?hr ?_; (case hd => rfl); (case hg => rfl); (case hr => first | (go_simp; done) | (go_simp; rfl)); intro gb293 hg w3 hbox hb; have n0_ := Aside0.mk (below_step (by repeat (first | (with_reducible first | exact HB.out | apply below_alloc | apply pw_below_drewN | apply below_drew1) | exact HB.out)) hb); have n1_ := Aside0.mk ((by rw [hg]; exact (below_size (by repeat (first | (with_reducible first | exact HB.out | apply below_alloc | apply pw_below_drewN | apply below_drew1) | exact HB.out))) : w.heap.size ≤ gb293)); have n2_ := Aside0.mk ((by rw [hg]; exact (below_size (by repeat (first | (with_reducible first | exact HB.out | apply below_alloc | apply pw_below_drewN | apply below_drew1) | exact HB.out))) : w.heap.size ≤ gb293)); have n3_ := Aside0.mk ((show IsS71 w _ gb293 l0 0 0 from ⟨_, _, hbox, (by rw [hg]; exact (below_size (by repeat (first | (with_reducible first | exact HB.out | apply below_alloc | apply pw_below_drewN | apply below_drew1) | exact HB.out)))), HR0.out⟩)); clear HB; have HB := n0_; have GW293 := n1_; have GE293 := n2_; have HI293 := n3_; clear n0_ n1_ n2_ n3_; clear hb hbox hg) | ((with_reducible refine gate_callee (f := 112) rfl ?_); refine goesL_ (some 9) rfl rfl Try.func112 (by kernel_rfl) rfl #[.pointer (some ⟨gb293, 0, none⟩)] rfl (by (try simp only [List.map_toArray, List.map_cons, List.map_nil]); first | done | rfl | (simp only [List.length_drop, List.length_take]; rfl)) ?_; (with_reducible refine (spec_l1Cur_lowered.calls k gb293 l0 0 0 t294 t297 t300 t301 w _ ?side1 ?side2 A2.out).mono ?_); (case side1 => repeat (first | (with_reducible first | exact HI293.out | apply IsS71.alloc | apply IsS71.drewN | apply IsS71.drew | apply IsS71.set_1 | apply IsS71.set_2) | exact HI293.out)); (case side2 => repeat (first | (with_reducible first | exact HB.out | apply below_alloc | apply pw_below_drewN | apply below_drew1 | refine below_set ?_ (IsS71.ge HI293.out)) | exact HB.out)); rintro e w4 ⟨v295, v298, rfl, ho0, ho1, hi, hb, hk⟩; refine ⟨_, rfl, ?_⟩; have n0_ := Aside0.mk (Kd.R_lower ho0 (below_size (by repeat (first | (with_reducible first | exact HB.out | apply below_alloc | apply pw_below_drewN | apply below_drew1 | refine below_set ?_ (IsS71.ge HI293.out)) | exact HB.out)))); have n1_ := Aside0.mk (Kd.R_lower ho1 (below_size (by repeat (first | (with_reducible first | exact HB.out | apply below_alloc | apply pw_below_drewN | apply below_drew1 | refine below_set ?_ (IsS71.ge HI293.out)) | exact HB.out)))); have n2_ := Aside0.mk (hb); have n3_ := Aside0.mk (hi); clear HB; clear HI293; have HO296 := n0_; have HO299 := n1_; have HB := n2_; have HI293 := n3_; clear n0_ n1_ n2_ n3_; (try clear hb); (try clear hb2); (try clear hk); (try clear hi); (try clear ho0); (try clear ho1)))
 go_ret2
 exact ⟨_, _, by first | rfl | (simp [errW_none, errW_some] <;> rfl) | (simp [*, errW_none, errW_some] <;> rfl), by (with_reducible repeat (first | apply Kd.R_alloc | apply Kd.R_drewN | apply Kd.R_drew)); exact HO296.out, by (with_reducible repeat (first | apply Kd.R_alloc | apply Kd.R_drewN | apply Kd.R_drew)); exact HO299.out, by repeat (first | (with_reducible first | exact HB.out | apply below_alloc | apply pw_below_drewN | apply below_drew1 | refine below_set ?_ (IsS71.ge HI293.out)) | exact HB.out)⟩

/-! ### impl_monotone_1: function 159 -/
def impl_monotone_1.f (a0 : Int) (a1 : Int) : Option (Int) := some 0
set_option maxHeartbeats 8000000 in
set_option maxRecDepth 100000 in
theorem impl_monotone_1.calls (a0 : Int) (a1 : Int) (r : Int) (w : World) (h : impl_monotone_1.f a0 a1 = some r) :
  Calls Try.prog 159 #[.int .i64 a0, .int .i64 a1] w fun e w' => e = .returned (.int .i64 r) ∧ Drawn0 w w' := by
 have H : (some 0) = some r := h
 clear h
 obtain rfl := Option.some.inj H
 go_enter Try.func159, Try.ntmps159
 go_wp2
 go_ret
 exact ⟨by first | rfl | (simp; done) | (simp [*]; done), by repeat (first | exact Drawn0.refl _ | apply Drawn0.step)⟩

/-! ### impl_square: function 106 -/
mutual
def impl_square.l0 : Nat → Int → List (List Int) → Int → Int → Option ((List (List Int)))
 | 0, _, _, _, _ => none
 | k + 1, x0, x5, x10, x11 => if x11 < x10 then (impl_square.l1 k x0 x5 x11 (([] : List Int)) x10 x11 x0 0) else (some x5)
def impl_square.l1 : Nat → Int → List (List Int) → Int → List Int → Int → Int → Int → Int → Option ((List (List Int)))
 | 0, _, _, _, _, _, _, _, _ => none
 | k + 1, x0, x5, x6, x7, x10, x11, x15, x16 => if x16 < x15 then ((impl_monotone_1.f x6 x16).bind fun t308 => (if x7.length < 17592186044416 then (impl_square.l1 k x0 x5 x6 (x7 ++ [t308]) x10 x11 x15 (wrap64 (x16 + 1))) else (none))) else (if x5.length < 5864062014805 then (impl_square.l0 k x0 (x5 ++ [x7]) x10 (wrap64 (x11 + 1))) else (none))
end
def impl_square.f (k : Nat) (a0 : Int) (a1 : Int) : Option ((List (List Int))) := impl_square.l0 k a0 (([] : List (List Int))) a0 0
theorem impl_square.mono_l : ∀ k, (∀ y0 y1 y2 y3, LeO (impl_square.l0 k y0 y1 y2 y3) (impl_square.l0 (k + 1) y0 y1 y2 y3)) ∧ (∀ y0 y1 y2 y3 y4 y5 y6 y7, LeO (impl_square.l1 k y0 y1 y2 y3 y4 y5 y6 y7) (impl_square.l1 (k + 1) y0 y1 y2 y3 y4 y5 y6 y7))
 | 0 => ⟨fun _ _ _ _ r h => by simp [impl_square.l0] at h, fun _ _ _ _ _ _ _ _ r h => by simp [impl_square.l1] at h⟩
 | k + 1 => by
  obtain ⟨ih0, ih1⟩ := impl_square.mono_l k
  refine ⟨?_, ?_⟩
  ·intro y0 y1 y2 y3
   unfold impl_square.l0
   repeat' first
   | (with_reducible exact ih0 _ _ _ _)
   | (with_reducible exact ih1 _ _ _ _ _ _ _ _)
   | (with_reducible exact LeO.refl _)
   | (with_reducible exact LeO.none _)
   | (with_reducible refine LeO.ite ?_ ?_)
   | (with_reducible refine LeO.bind ?_ (fun _ => ?_))
   | exact ih0 _ _ _ _
   | exact ih1 _ _ _ _ _ _ _ _
   | exact LeO.none _
   | refine LeO.ite ?_ ?_
   | refine LeO.bind ?_ (fun _ => ?_)
  ·intro y0 y1 y2 y3 y4 y5 y6 y7
   unfold impl_square.l1
   repeat' first
   | (with_reducible exact ih0 _ _ _ _)
   | (with_reducible exact ih1 _ _ _ _ _ _ _ _)
   | (with_reducible exact LeO.refl _)
   | (with_reducible exact LeO.none _)
   | (with_reducible refine LeO.ite ?_ ?_)
   | (with_reducible refine LeO.bind ?_ (fun _ => ?_))
   | exact ih0 _ _ _ _
   | exact ih1 _ _ _ _ _ _ _ _
   | exact LeO.none _
   | refine LeO.ite ?_ ?_
   | refine LeO.bind ?_ (fun _ => ?_)
theorem impl_square.mono : ∀ a0 a1 k, LeO (impl_square.f k a0 a1) (impl_square.f (k + 1) a0 a1) := by
 intro a0 a1 k
 obtain ⟨ih0, ih1⟩ := impl_square.mono_l k
 unfold impl_square.f
 repeat' first
   | (with_reducible exact ih0 _ _ _ _)
   | (with_reducible exact ih1 _ _ _ _ _ _ _ _)
   | (with_reducible exact LeO.refl _)
   | (with_reducible exact LeO.none _)
   | (with_reducible refine LeO.ite ?_ ?_)
   | (with_reducible refine LeO.bind ?_ (fun _ => ?_))
   | exact ih0 _ _ _ _
   | exact ih1 _ _ _ _ _ _ _ _
   | exact LeO.none _
   | refine LeO.ite ?_ ?_
   | refine LeO.bind ?_ (fun _ => ?_)
set_option maxHeartbeats 8000000 in
set_option maxRecDepth 100000 in
theorem impl_square.calls (k : Nat) (a0 : Int) (a1 : Int) (r : List (List Int)) (w : World) (h : impl_square.f k a0 a1 = some r) :
  Calls Try.prog 106 #[.int .i64 a0, .func (.func 159) #[] #[]] w fun e w' => ∃ v0_ : Value, e = .returned (v0_) ∧ Kd.S (Kd.slice 3 (Kd.int .i64)) 24 w' w.heap.size (fun _ => True) v0_ r ∧ Below w.heap.size w w' := by
 have HB := Aside0.mk (Below.refl w.heap.size w)
 have H : (impl_square.l0 k a0 (([] : List (List Int))) a0 0) = some r := h
 clear h
 obtain ⟨y302, hy302⟩ : ∃ y_ : List (List Int), y_ = (([] : List (List Int))) := ⟨_, rfl⟩
 replace H : (impl_square.l0 k a0 y302 a0 0) = some r := by first | (rw [hy302]; with_reducible exact H) | (have H2_ := (Option.bind_some _ _).symm.trans H; rw [hy302]; with_reducible exact H2_) | (have H2_ := (Option.bind_some _ _).symm.trans H; with_reducible exact H2_) | with_reducible exact H | (rw [hy302]; exact H) | exact H
 have Ny302 := Aside0.mk hy302
 clear hy302
 have H' := Aside0.mk H
 clear H
 go_enter Try.func106, Try.ntmps106
 go_wp2_with (first | ((with_reducible refine gate_dst (N := 9) rfl ?_); refine Kd.S_lit (Kd.slice 3 (Kd.int .i64)) _ 24 ?hg (N := 9) ?hd (xs := ([] : List (List Int))) (inner := []) (ok := fun _ => True) (okp := fun _ => True) ?hr ?hp (fun _ hk => hk) trivial (Below.refl _ _) (Nat.le_refl _) (by simp) ?_; (case hd => rfl); (case hg => rfl); (case hr => first | (go_simp; done) | (go_simp; rfl)); (case hp => exact (Reps.none _ _)); intro v303 w3 ho4 hb hg_ hnew_; clear hg_ hnew_; (first | rw [← Ny302.out] at ho4 | (simp only [Int.reduceToNat] at ho4; rw [← Ny302.out] at ho4)); have n0_ := Aside0.mk (Kd.S_lower ho4 (below_size (by repeat (first | (with_reducible first | exact HB.out | apply below_alloc | apply pw_below_drewN | apply below_drew1) | exact HB.out)))); have n1_ := Aside0.mk (below_step (by repeat (first | (with_reducible first | exact HB.out | apply below_alloc | apply pw_below_drewN | apply below_drew1) | exact HB.out)) hb); clear HB; have HO304 := n0_; have HB := n1_; clear n0_ n1_; clear hb ho4))
 go_loopg [5, 11] k (fun kq v5 v11 w' => ∃ (x5_1 : List (List Int)) (x11_1 : Int), v11 = .int .i64 x11_1 ∧ Aside0 (impl_square.l0 kq a0 x5_1 a0 x11_1 = some r) ∧ Aside0 (kq ≤ k) ∧ Aside0 (Kd.S (Kd.slice 3 (Kd.int .i64)) 24 w' w.heap.size (fun _ => True) v5 x5_1) ∧ Aside0 (Below w.heap.size w w'))
 case atStart => exact ⟨(y302), (0), (by first | rfl | (simp; done) | (simp [*]; done)), H', ⟨Nat.le_refl _⟩, ⟨by (with_reducible repeat (first | apply Kd.S_alloc | apply Kd.S_drewN | apply Kd.S_drew)); exact HO304.out⟩, ⟨by repeat (first | (with_reducible first | exact HB.out | apply below_alloc | apply pw_below_drewN | apply below_drew1) | exact HB.out)⟩⟩
 case round =>
  clear H'
  try clear c1
  try clear p2
  obtain ⟨x5_1, x11_1, rfl, HA, HK1, HO_5, HB⟩ := hrel
  cases gk with
  | zero => exact absurd HA.out (by simp [impl_square.l0])
  | succ k1 =>
   have H := HA.out
   clear HA
   simp only [impl_square.l0] at H
   by_cases c5 : x11_1 < a0
   ·rw [if_pos c5] at H
    have c5b0 : decide (x11_1 < a0) = true := decide_eq_true c5
    clear c5
    obtain ⟨y305, hy305⟩ : ∃ y_ : List Int, y_ = (([] : List Int)) := ⟨_, rfl⟩
    replace H : (impl_square.l1 k1 a0 x5_1 x11_1 y305 a0 x11_1 a0 0) = some r := by first | (rw [hy305]; with_reducible exact H) | (have H2_ := (Option.bind_some _ _).symm.trans H; rw [hy305]; with_reducible exact H2_) | (have H2_ := (Option.bind_some _ _).symm.trans H; with_reducible exact H2_) | with_reducible exact H | (rw [hy305]; exact H) | exact H
    have Ny305 := Aside0.mk hy305
    clear hy305
    have H' := Aside0.mk H
    clear H
    go_wp2_with (first | ((with_reducible refine gate_dst (N := 14) rfl ?_); refine Kd.R_lit (Kd.int .i64) _ 3 ?hg (N := 14) ?hd (xs := ([] : List Int)) (inner := []) (ok := fun _ => True) (okp := fun _ => True) ?hr ?hp (fun _ hk => hk) trivial (Below.refl _ _) (Nat.le_refl _) (by simp) ?_; (case hd => rfl); (case hg => rfl); (case hr => first | (go_simp; done) | (go_simp; rfl)); (case hp => exact (Reps.none _ _)); intro v306 w6 ho7 hb hg_ hnew_; clear hg_ hnew_; (first | rw [← Ny305.out] at ho7 | (simp only [Int.reduceToNat] at ho7; rw [← Ny305.out] at ho7)); have n0_ := Aside0.mk (Kd.S_elder' (by (with_reducible repeat (first | apply Kd.S_alloc | apply Kd.S_drewN | apply Kd.S_drew)); exact HO_5.out) (Kd.R_base ho7) hb); have n1_ := Aside0.mk (Kd.R_lower ho7 (below_size (by repeat (first | (with_reducible first | exact HB.out | apply below_alloc | apply pw_below_drewN | apply below_drew1) | exact HB.out)))); have n2_ := Aside0.mk (below_step (by repeat (first | (with_reducible first | exact HB.out | apply below_alloc | apply pw_below_drewN | apply below_drew1) | exact HB.out)) hb); clear HO_5; clear HB; have HO_5 := n0_; have HO307 := n1_; have HB := n2_; clear n0_ n1_ n2_; clear hb ho7))
    go_loopg [7, 16] k1 (fun kq v7 v16 w' => ∃ (x7_2 : List Int) (x16_2 : Int), v16 = .int .i64 x16_2 ∧ Aside0 (impl_square.l1 kq a0 x5_1 x11_1 x7_2 a0 x11_1 a0 x16_2 = some r) ∧ Aside0 (kq ≤ k1) ∧ Aside0 (Kd.S (Kd.slice 3 (Kd.int .i64)) 24 w' w.heap.size (fun k_ => some k_ ≠ (v7 : Value).ownBlock) u5 x5_1) ∧ Aside0 (Kd.R (Kd.int .i64) 3 w' w.heap.size (fun _ => True) v7 x7_2) ∧ Aside0 (Below w.heap.size w w'))
    case atStart => exact ⟨(y305), (0), (by first | rfl | (simp; done) | (simp [*]; done)), H', ⟨Nat.le_refl _⟩, ⟨by (with_reducible repeat (first | apply Kd.S_alloc | apply Kd.S_drewN | apply Kd.S_drew)); exact Kd.S_mono HO_5.out (fun _ hk => hk.2)⟩, ⟨by (with_reducible repeat (first | apply Kd.R_alloc | apply Kd.R_drewN | apply Kd.R_drew)); exact HO307.out⟩, ⟨by repeat (first | (with_reducible first | exact HB.out | apply below_alloc | apply pw_below_drewN | apply below_drew1) | exact HB.out)⟩⟩
    case round =>
     clear H'
     try clear c1
     try clear p2
     try clear c5
     try clear c5b0
     try clear p2
     obtain ⟨x7_2, x16_2, rfl, HA, HK2, HO_5, HO_7, HB⟩ := hrel
     cases gk with
     | zero => exact absurd HA.out (by simp [impl_square.l1])
     | succ k2 =>
      have H := HA.out
      clear HA
      simp only [impl_square.l1] at H
      by_cases c8 : x16_2 < a0
      ·rw [if_pos c8] at H
       have c8b0 : decide (x16_2 < a0) = true := decide_eq_true c8
       clear c8
       replace H := Option.bind_eq_some_iff.mp H
       obtain ⟨t308, A90, H⟩ := H
       replace H : (if x7_2.length < 17592186044416 then (impl_square.l1 k2 a0 x5_1 x11_1 (x7_2 ++ [t308]) a0 x11_1 a0 (wrap64 (x16_2 + 1))) else (none)) = some r := H
       have A9 := Aside0.mk A90
       clear A90
       by_cases c10 : x7_2.length < 17592186044416
       ·rw [if_pos c10] at H
        have LMc10 := Aside0.mk c10
        clear c10
        obtain ⟨y309, hy309⟩ : ∃ y_ : List Int, y_ = (x7_2 ++ [t308]) := ⟨_, rfl⟩
        replace H : (impl_square.l1 k2 a0 x5_1 x11_1 y309 a0 x11_1 a0 (wrap64 (x16_2 + 1))) = some r := by first | (rw [hy309]; with_reducible exact H) | (have H2_ := (Option.bind_some _ _).symm.trans H; rw [hy309]; with_reducible exact H2_) | (have H2_ := (Option.bind_some _ _).symm.trans H; with_reducible exact H2_) | with_reducible exact H | (rw [hy309]; exact H) | exact H
        have Ny309 := Aside0.mk hy309
        clear hy309
        have H' := Aside0.mk H
        clear H
        go_wp2_with (first | (go_at_call 159; (with_reducible refine (impl_monotone_1.calls x11_1 x16_2 t308 _ A9.out).mono ?_); rintro e w' ⟨rfl, ⟨nd, rfl⟩⟩) | ((with_reducible refine gate_builtin (b := .append) (xs := #[.tmp 19, .tmp 24]) rfl ?_); at_builtin; refine Kd.R_append (Kd.int .i64) (w0 := w) w.heap.size rfl (.tmp 19) (.tmp 24) 24 3 (.int .i64 0) 8 rfl Try.underlying24 info3 rfl (by decide) (by omega) u7 x7_2 t308 [.int .i64 t308] (fun _ => True) (fun _ => False) rfl rfl ?aP (fun _ hk => hk.elim) ?aF ?aO ?aB ?aS ?aL ?_; (case aP => exact rfl); (case aB => exact (by repeat (first | (with_reducible first | exact HB.out | apply below_alloc | apply pw_below_drewN | apply below_drew1) | exact HB.out))); (case aF => exact (fun _ _ => trivial)); (case aO => exact (by (with_reducible repeat (first | apply Kd.R_alloc | apply Kd.R_drewN | apply Kd.R_drew)); exact HO_7.out)); (case aS => exact (below_size (by repeat (first | (with_reducible first | exact HB.out | apply below_alloc | apply pw_below_drewN | apply below_drew1) | exact HB.out)))); (case aL => have := LMc10.out; omega); intro v310 w11 ho hb hg hat; rw [← Ny309.out] at ho; have n0_ := Aside0.mk (Kd.S_after (ok := (fun _ => True)) (by (with_reducible repeat (first | apply Kd.S_alloc | apply Kd.S_drewN | apply Kd.S_drew)); exact Kd.S_mono HO_5.out (fun _ hk => ⟨trivial, hk⟩)) hg hat); have n1_ := Aside0.mk (hb); have n2_ := Aside0.mk (ho); clear HO_5; clear HB; clear HO_7; have HO_5 := n0_; have HB := n1_; have HO311 := n2_; clear n0_ n1_ n2_; clear ho hb hg hat))
        go_roundg k2
        case measure => have := HK1.out; have := HK2.out; omega
        case rel => exact ⟨(y309), (wrap64 (x16_2 + 1)), (by first | rfl | (simp; done) | (simp [*]; done)), H', ⟨by have := HK1.out; have := HK2.out; omega⟩, ⟨by (with_reducible repeat (first | apply Kd.S_alloc | apply Kd.S_drewN | apply Kd.S_drew)); exact Kd.S_mono HO_5.out (fun _ hk => hk.2)⟩, ⟨by (with_reducible repeat (first | apply Kd.R_alloc | apply Kd.R_drewN | apply Kd.R_drew)); exact HO311.out⟩, ⟨by repeat (first | (with_reducible first | exact HB.out | apply below_alloc | apply pw_below_drewN | apply below_drew1) | exact HB.out)⟩⟩
       ·rw [if_neg c10] at H
        exact absurd H (by simp)
      ·rw [if_neg c8] at H
       have c8b0 : decide (x16_2 < a0) = false := decide_eq_false c8
       clear c8
       by_cases c12 : x5_1.length < 5864062014805
       ·rw [if_pos c12] at H
        have LMc12 := Aside0.mk c12
        clear c12
        obtain ⟨y312, hy312⟩ : ∃ y_ : List (List Int), y_ = (x5_1 ++ [x7_2]) := ⟨_, rfl⟩
        replace H : (impl_square.l0 k2 a0 y312 a0 (wrap64 (x11_1 + 1))) = some r := by first | (rw [hy312]; with_reducible exact H) | (have H2_ := (Option.bind_some _ _).symm.trans H; rw [hy312]; with_reducible exact H2_) | (have H2_ := (Option.bind_some _ _).symm.trans H; with_reducible exact H2_) | with_reducible exact H | (rw [hy312]; exact H) | exact H
        have Ny312 := Aside0.mk hy312
        clear hy312
        have H' := Aside0.mk H
        clear H
        obtain ⟨Ao14, co14, eo14⟩ := Kd.R_slice HO_7.out
        subst eo14
        go_wp2_with (first | ((with_reducible refine gate_builtin (b := .append) (xs := #[.tmp 27, .tmp 29]) rfl ?_); at_builtin; refine Kd.S_append (Kd.slice 3 (Kd.int .i64)) (w0 := w) w.heap.size rfl (.tmp 27) (.tmp 29) 27 24 (.slice none 0 0) 24 rfl Try.underlying27 info24 rfl (by decide) (by omega) u5 x5_1 x7_2 [.slice Ao14 x7_2.length co14] (fun _ => True) (fun k_ => some k_ = (.slice Ao14 x7_2.length co14 : Value).ownBlock) rfl rfl ?aP (fun k_ hk_ => ((Kd.R_mono (ok' := fun k_ => ((fun _ => True)) k_ ∧ some k_ ≠ (u5 : Value).ownBlock) (Kd.R_apart' (HO_7.out) (Kd.S_typed HO_5.out) (by decide)) (fun k_ hk => ⟨trivial, hk.2⟩))).1 k_ hk_.symm) ?aF ?aO ?aB ?aS ?aL ?_; (case aP => exact Kd.M_row (Kd.R_mono (Kd.R_tight rfl (Kd.R_mono (ok' := fun k_ => ((fun _ => True)) k_ ∧ some k_ ≠ (u5 : Value).ownBlock) (Kd.R_apart' (HO_7.out) (Kd.S_typed HO_5.out) (by decide)) (fun k_ hk => ⟨trivial, hk.2⟩))) (fun _ h_ => h_))); (case aB => exact (by repeat (first | (with_reducible first | exact HB.out | apply below_alloc | apply pw_below_drewN | apply below_drew1) | exact HB.out))); (case aF => exact (fun _ _ => trivial)); (case aO => exact (by (with_reducible repeat (first | apply Kd.S_alloc | apply Kd.S_drewN | apply Kd.S_drew)); exact Kd.S_mono HO_5.out (fun k_ hk => ⟨trivial, fun e_ => hk e_⟩))); (case aS => exact (below_size (by repeat (first | (with_reducible first | exact HB.out | apply below_alloc | apply pw_below_drewN | apply below_drew1) | exact HB.out)))); (case aL => have := LMc12.out; omega); intro v313 w13 ho hb hg hat; rw [← Ny312.out] at ho; have n0_ := Aside0.mk (hb); have n1_ := Aside0.mk (ho); clear HB; clear HO_5; clear HO_7; have HB := n0_; have HO314 := n1_; clear n0_ n1_; clear ho hb hg hat))
        go_roundg k2
        case measure => have := HK1.out; have := HK2.out; omega
        case rel => exact ⟨(y312), (wrap64 (x11_1 + 1)), (by first | rfl | (simp; done) | (simp [*]; done)), H', ⟨by have := HK1.out; have := HK2.out; omega⟩, ⟨by (with_reducible repeat (first | apply Kd.S_alloc | apply Kd.S_drewN | apply Kd.S_drew)); exact HO314.out⟩, ⟨by repeat (first | (with_reducible first | exact HB.out | apply below_alloc | apply pw_below_drewN | apply below_drew1) | exact HB.out)⟩⟩
       ·rw [if_neg c12] at H
        exact absurd H (by simp)
   ·rw [if_neg c5] at H
    have c5b0 : decide (x11_1 < a0) = false := decide_eq_false c5
    clear c5
    obtain rfl := Option.some.inj H
    go_wp2
    go_ret
    exact ⟨_, by first | rfl | (simp [errW_none, errW_some] <;> rfl) | (simp [*, errW_none, errW_some] <;> rfl), by (with_reducible repeat (first | apply Kd.S_alloc | apply Kd.S_drewN | apply Kd.S_drew)); exact HO_5.out, by repeat (first | (with_reducible first | exact HB.out | apply below_alloc | apply pw_below_drewN | apply below_drew1) | exact HB.out)⟩

/-! ### slices_Clone_int_int: function 170 -/
def slices_Clone_int_int.f (l0 : List Int) : Option (List Int) := (some (([] : List Int) : List Int)).bind fun y0 => (if y0.length + l0.length < 17592186044416 then some (y0 ++ l0) else none)
set_option maxHeartbeats 8000000 in
set_option maxRecDepth 100000 in
theorem slices_Clone_int_int.calls (A0 : Option Addr) (c0 : Nat) (l0 : List Int) (r : List Int) (w : World) (hr0 : Kd.C (Kd.int .i64) w A0 l0.length l0) (hc0 : l0.length ≤ c0) (h : slices_Clone_int_int.f l0 = some r) :
  Calls Try.prog 170 #[.slice A0 l0.length c0] w fun e w' => ∃ v0_ : Value, e = .returned (v0_) ∧ Kd.R (Kd.int .i64) 3 w' w.heap.size (fun _ => True) v0_ r ∧ Below w.heap.size w w' := by
 have HR0 := Aside0.mk hr0
 have HC0 := Aside0.mk hc0
 clear hr0 hc0
 have HB := Aside0.mk (Below.refl w.heap.size w)
 have H : (some (([] : List Int) : List Int)).bind (fun y0 => (if y0.length + l0.length < 17592186044416 then some (y0 ++ l0) else none)) = some r := h
 clear h
 obtain ⟨y112, hy112⟩ : ∃ y_ : List Int, y_ = (([] : List Int)) := ⟨_, rfl⟩
 replace H : (if y112.length + l0.length < 17592186044416 then (some (y112 ++ l0)) else (none)) = some r := by rw [hy112]; exact H
 have Ny112 := Aside0.mk hy112
 clear hy112
 by_cases c2 : y112.length + l0.length < 17592186044416
 ·rw [if_pos c2] at H
  have LMc2 := Aside0.mk c2
  clear c2
  obtain ⟨y115, hy115⟩ : ∃ y_ : List Int, y_ = (y112 ++ l0) := ⟨_, rfl⟩
  replace H : (some y115) = some r := by rw [hy115]; exact H
  have Ny115 := Aside0.mk hy115
  clear hy115
  obtain rfl := Option.some.inj H
  cases A0 with
  | none =>
   have hl : l0 = [] := by
    rcases Nat.eq_zero_or_pos l0.length with h | h
    ·exact List.eq_nil_of_length_eq_zero h
    ·obtain ⟨_, e_, _⟩ := HR0.out.2.2 h
     exact absurd e_ (by simp)
   have e1 : y115 = [] := by rw [Ny115.out, Ny112.out, hl, List.nil_append]
   have l0_ : l0.length = 0 := by rw [hl]; rfl
   rw [l0_]
   clear l0_ hl
   have he : ∀ w : World, (binOp .eql 24 (.slice none 0 c0) (.slice none 0 0)).run Try.prog w = .ok (.bool true) w := fun _ => rfl
   go_enter Try.func170, Try.ntmps170
   go_wp2
   go_ret
   exact ⟨_, by first | rfl | (simp; done), Kd.R_nil _ _ _ _ _, by repeat (first | exact Below.refl _ _ | (with_reducible first | apply below_alloc | apply pw_below_drewN | apply below_drew1))⟩
  | some ad =>
   have he : ∀ w : World, (binOp .eql 24 (.slice (some ad) l0.length c0) (.slice none 0 0)).run Try.prog w = .ok (.bool false) w := fun _ => rfl
   go_enter Try.func170, Try.ntmps170
   go_wp2_with (first | ((with_reducible refine gate_dst (N := 5) rfl ?_); refine Kd.R_lit (Kd.int .i64) _ 3 ?hg (N := 5) ?hd (xs := ([] : List Int)) (inner := []) (ok := fun _ => True) (okp := fun _ => True) ?hr ?hp (fun _ hk => hk) trivial (Below.refl _ _) (Nat.le_refl _) (by simp) ?_; (case hd => rfl); (case hg => rfl); (case hr => first | (go_simp; done) | (go_simp; rfl)); (case hp => exact (Reps.none _ _)); intro v113 w3 ho4 hb hg_ hnew_; clear hg_ hnew_; (first | rw [← Ny112.out] at ho4 | (simp only [Int.reduceToNat] at ho4; rw [← Ny112.out] at ho4)); have n0_ := Aside0.mk (Kd.R_lower ho4 (below_size (by repeat (first | (with_reducible first | exact HB.out | apply below_alloc | apply pw_below_drewN | apply below_drew1) | exact HB.out)))); have n1_ := Aside0.mk (below_step (by repeat (first | (with_reducible first | exact HB.out | apply below_alloc | apply pw_below_drewN | apply below_drew1) | exact HB.out)) hb); clear HB; have HO114 := n0_; have HB := n1_; clear n0_ n1_; clear hb ho4) | ((with_reducible refine gate_builtin (b := .append) (xs := #[.tmp 5, .tmp 6]) rfl ?_); at_builtin; refine Kd.R_append_rows (Kd.int .i64) (w0 := w) w.heap.size rfl (.tmp 5) (.tmp 6) 24 3 (.int .i64 0) 8 rfl Try.underlying24 info3 rfl (by decide) (by omega) v113 y112 l0 _ _ _ (fun _ => True) (fun _ => False) rfl rfl ?aO ?aR (fun _ _ h => h) (fun _ h => h.elim) ?aF ?aB ?aS ?aL ?_; (case aR => repeat (first | exact (Kd.C_below HR0.out HB.out) | (with_reducible refine Kd.C_alloc ?_ _) | (with_reducible refine Kd.C_drewN ?_ _) | (with_reducible refine Kd.C_drew ?_))); (case aB => exact (by repeat (first | (with_reducible first | exact HB.out | apply below_alloc | apply pw_below_drewN | apply below_drew1) | exact HB.out))); (case aF => exact (fun _ _ => trivial)); (case aO => exact (by (with_reducible repeat (first | apply Kd.R_alloc | apply Kd.R_drewN | apply Kd.R_drew)); exact HO114.out)); (case aS => exact (below_size (by repeat (first | (with_reducible first | exact HB.out | apply below_alloc | apply pw_below_drewN | apply below_drew1) | exact HB.out)))); (case aL => have := LMc2.out; omega); intro v116 w5 ho hb hg hat; rw [← Ny115.out] at ho; have n0_ := Aside0.mk (hb); have n1_ := Aside0.mk (ho); clear HB; clear HO114; have HB := n0_; have HO117 := n1_; clear n0_ n1_; clear ho hb hg hat))
   go_ret
   exact ⟨_, by first | rfl | (simp [errW_none, errW_some] <;> rfl) | (simp [*, errW_none, errW_some] <;> rfl), by (with_reducible repeat (first | apply Kd.R_alloc | apply Kd.R_drewN | apply Kd.R_drew)); exact HO117.out, by repeat (first | (with_reducible first | exact HB.out | apply below_alloc | apply pw_below_drewN | apply below_drew1) | exact HB.out)⟩
 ·rw [if_neg c2] at H
  exact absurd H (by simp)

/-! ### impl_monotone: function 80 -/
/-- The rounds of carrying: what stands in the table, and what is left at both sides. -/
def impl_monotone.l0 : Nat → List (List Int) → List Int → List Int → Int → Int → Option (List (List Int))
 | 0, _, _, _, _, _ => none
 | k + 1, m, a, b, i, j => if i < (a.length : Int) then (if j < (b.length : Int) then (if 0 ≤ i then (if 0 ≤ j then (if i < (m.length : Int) then (if j < ((rd_L2 m i).length : Int) then (if rd (a.set i.toNat (wrap64 (rd a i - mn (rd a i) (rd b j)))) i = 0 then impl_monotone.l0 k (m.set i.toNat ((rd_L2 m i).set j.toNat (wrap64 (rd (rd_L2 m i) j + mn (rd a i) (rd b j))))) (a.set i.toNat (wrap64 (rd a i - mn (rd a i) (rd b j)))) (b.set j.toNat (wrap64 (rd b j - mn (rd a i) (rd b j)))) (wrap64 (i + 1)) j else impl_monotone.l0 k (m.set i.toNat ((rd_L2 m i).set j.toNat (wrap64 (rd (rd_L2 m i) j + mn (rd a i) (rd b j))))) (a.set i.toNat (wrap64 (rd a i - mn (rd a i) (rd b j)))) (b.set j.toNat (wrap64 (rd b j - mn (rd a i) (rd b j)))) i (wrap64 (j + 1))) else none) else none) else none) else none) else some m) else some m
def impl_monotone.c (k : Nat) (m : List (List Int)) (l0 l1 : List Int) : Option (List (List Int)) := (slices_Clone_int_int.f l0).bind fun a => (slices_Clone_int_int.f l1).bind fun b => impl_monotone.l0 k m a b 0 0
theorem impl_monotone.l0_mono : ∀ k m a b i j, LeO (impl_monotone.l0 k m a b i j) (impl_monotone.l0 (k + 1) m a b i j)
 | 0, _, _, _, _, _ => fun r h => by simp [impl_monotone.l0] at h
 | k + 1, m, a, b, i, j => by
  rw [impl_monotone.l0, impl_monotone.l0]
  exact LeO.ite (LeO.ite (LeO.ite (LeO.ite (LeO.ite (LeO.ite (LeO.ite (impl_monotone.l0_mono k _ _ _ _ _) (impl_monotone.l0_mono k _ _ _ _ _)) (LeO.none _)) (LeO.none _)) (LeO.none _)) (LeO.none _)) (LeO.refl _)) (LeO.refl _)
theorem impl_monotone.c_mono (m : List (List Int)) (l0 l1 : List Int) (k : Nat) : LeO (impl_monotone.c k m l0 l1) (impl_monotone.c (k + 1) m l0 l1) := by
 unfold impl_monotone.c
 exact LeO.bind (LeO.refl _) (fun _ => LeO.bind (LeO.refl _) (fun _ => impl_monotone.l0_mono k _ _ _ _ _))
/-- One row of rows that are apart has been written. -/
theorem impl_monotone.row_step {w w1 : World} {base : Nat} {P0_ : Nat → Prop} {g n cap : Nat} {m : List (List Int)} {r : List Int} {i : Int} {oki : Nat → Prop} {c : List Value} {u : Value} {q : Nat}
  (hu : c = [u]) (hoki : ∀ k, oki k → P0_ k ∧ k ≠ g) (hH : Kd.H (Kd.slice 3 (Kd.int .i64)) 24 w base P0_ (.slice (some ⟨g, 0, none⟩) n cap) m i oki c)
  (hq : u.ownBlock = some q) (hqo : oki q) {ok1 : Nat → Prop} (hr : Kd.R (Kd.int .i64) 3 w1 base ok1 u r) (hk : w.grownBy w1 (some q)) :
  Kd.S (Kd.slice 3 (Kd.int .i64)) 24 w1 base P0_ (.slice (some ⟨g, 0, none⟩) n cap) (m.set i.toNat r) := by
 have h1 := Kd.H_step (w1 := w1) hH (fun k _ hn hlt => hk.block k hlt (fun he => hn (by cases he; exact hqo)))
 refine Kd.H_back (okp := fun k => some k = u.ownBlock) h1 ?_ (fun k hk => by rw [hq] at hk; cases hk; exact hqo)
 rw [hu]
 exact Kd.M_row (Kd.R_tight rfl hr)
set_option maxHeartbeats 8000000 in
set_option maxRecDepth 100000 in
/-- Units are put: one cell of the table is greater by them. -/
theorem impl_monotone.put (Bo g cap n : Nat) (m : List (List Int)) (i j x : Int) (base : Nat) (ok : Nat → Prop) (w : World) (hBo : Boxed w Bo 27 (.slice (some ⟨g, 0, none⟩) n cap)) (hS : Kd.S (Kd.slice 3 (Kd.int .i64)) 24 w base ok (.slice (some ⟨g, 0, none⟩) n cap) m) (hi0 : 0 ≤ i) (hi : i < (m.length : Int)) (hj0 : 0 ≤ j) (hj : j < ((rd_L2 m i).length : Int)) :
  Calls Try.prog 160 #[.int .i64 i, .int .i64 j, .int .i64 x, .pointer (some ⟨Bo, 0, none⟩)] w fun e w' => e = .returned (.tuple #[]) ∧ Kd.S (Kd.slice 3 (Kd.int .i64)) 24 w' base ok (.slice (some ⟨g, 0, none⟩) n cap) (m.set i.toNat ((rd_L2 m i).set j.toNat (wrap64 (rd (rd_L2 m i) j + x)))) ∧ ∃ q, ok q ∧ base ≤ q ∧ w.grownBy w' (some q) := by
 have hn := (Kd.S_reads' hS).1
 obtain ⟨oki, c, hcl, hM, hcell, hoki, hH⟩ := Kd.S_lend hS [] i hi0 (by omega)
 obtain ⟨u, hu, hR⟩ := hM
 have hrow : m.getD i.toNat [] = rd_L2 m i := rfl
 rw [hrow] at hR
 obtain ⟨gr, cr, er, hbr, hlr, _⟩ := Kd.R_form hR (by omega)
 subst er
 subst hu
 have hcell0 := hcell 0 _ rfl
 rw [show i.toNat * (Kd.slice 3 (Kd.int .i64)).sz + 0 = i.toNat from by show i.toNat * 1 + 0 = _; omega] at hcell0
 obtain ⟨hx0, hf0⟩ := Kd.R_celln 0 hR j hj0 hj
 have hb := hBo.cell
 have HP := Kd.R_putg hR j (wrap64 (rd (rd_L2 m i) j + x))
 have hqo : oki gr := hR.1 _ rfl
 have hx1 : w.cell? ⟨gr, j.toNat, none⟩ = some (.int .i64 (rd (rd_L2 m i) j)) := hx0
 have HR := Aside0.mk hR
 have HH := Aside0.mk hH
 have HO := Aside0.mk hoki
 have HQ := Aside0.mk hqo
 have HBQ := Aside0.mk hbr
 have p1 := eq_true hi0
 have q1 := eq_true (show i < (n : Int) by omega)
 have p2 := eq_true hj0
 have q2 := eq_true hj
 clear hBo hS hi0 hi hj0 hj hn hcell hcl hR hH hoki hqo hbr hlr hrow hx0
 have HX1 := hx1
 have HC0 := hcell0
 clear hx1 hcell0
 obtain ⟨row, hrow⟩ : ∃ q_, q_ = rd_L2 m i := ⟨_, rfl⟩
 rw [← hrow] at HX1 HC0 HP q2 HR HH ⊢
 have Nrow := Aside0.mk hrow
 clear hrow
 go_enter Try.func160, Try.ntmps160
 go_wp2_with (first | ((with_reducible refine gate_store (t := 3) (p := 16) rfl ?_); refine store_event (t := 3) (p := 16) (v := ?vo_w8) (w1 := (w.setCell ⟨gr, j.toNat, none⟩ (.int .i64 (wrap64 (rd row j + x))))) ?hg ?ho ?hn ?hr ?_; (case ho => rfl); (case hg => rfl); (case hn => rfl); (case hr => first | (go_simp; done) | (go_simp; rfl)); intro w8 hw; have h8 := Aside0.mk hw; clear hw))
 go_end0
 refine ⟨rfl, ?_, gr, (HO.out _ HQ.out).1, HBQ.out, ?_⟩
 ·have hw := h8.out
  rw [hw]
  exact impl_monotone.row_step rfl HO.out HH.out rfl HQ.out HP.1 HP.2
 ·rw [h8.out]; exact HP.2
theorem impl_monotone.blk_drewN {w : World} {B : Nat} {t : TypeId} {v : Value} (h : Boxed w B t v) (m : Nat) : Boxed (w.drewN m) B t v := by
 have : (w.drewN m).heap = w.heap := rfl
 unfold Boxed; rw [this]; exact h
theorem impl_monotone.block_lt {w : World} {A : Option Addr} {n cap base : Nat} {ok : Nat → Prop} {l : List Int} (h : Kd.R (Kd.int .i64) 3 w base ok (.slice A n cap) l) (hp : 0 < l.length) : ∃ g, A = some ⟨g, 0, none⟩ ∧ base ≤ g ∧ ok g := by
 obtain ⟨g, c, e, hb, _⟩ := Kd.R_form h hp
 injection e with e1 e2 e3
 exact ⟨g, e1, hb, h.1 _ (by rw [e1]; rfl)⟩
set_option maxHeartbeats 8000000 in
set_option maxRecDepth 100000 in
/-- Carrying, with the putting that writes a table. -/
theorem impl_monotone.carry (k Bo g cap n base : Nat) (ok : Nat → Prop) (A0 : Option Addr) (c0 : Nat) (l0 : List Int) (A1 : Option Addr) (c1 : Nat) (l1 : List Int) (m r : List (List Int)) (w0 w : World) (hB : Below w0.heap.size w0 w) (hBo : Boxed w Bo 27 (.slice (some ⟨g, 0, none⟩) n cap)) (hS : Kd.S (Kd.slice 3 (Kd.int .i64)) 24 w base ok (.slice (some ⟨g, 0, none⟩) n cap) m) (hbase : w0.heap.size ≤ base) (hokB : ∀ k, ok k → k ≠ Bo) (hok : ∀ k, ok k → k < w.heap.size)
  (hr0 : Kd.C (Kd.int .i64) w A0 l0.length l0) (hc0 : l0.length ≤ c0) (hr1 : Kd.C (Kd.int .i64) w A1 l1.length l1) (hc1 : l1.length ≤ c1) (h : impl_monotone.c k m l0 l1 = some r) :
  Calls Try.prog 108 #[.slice A0 l0.length c0, .slice A1 l1.length c1, .func (.func 160) #[] #[.pointer (some ⟨Bo, 0, none⟩)]] w fun e w' => e = .returned (.tuple #[]) ∧ Kd.S (Kd.slice 3 (Kd.int .i64)) 24 w' base ok (.slice (some ⟨g, 0, none⟩) n cap) r ∧ Below w0.heap.size w0 w' ∧ Kept w w' ok := by
 unfold impl_monotone.c at h
 replace h := Option.bind_eq_some_iff.mp h
 obtain ⟨a, ha, h⟩ := h
 replace h := Option.bind_eq_some_iff.mp h
 obtain ⟨b, hb, h⟩ := h
 have HA := Aside0.mk ha
 have HB := Aside0.mk hb
 have HH := Aside0.mk h
 have HR0 := Aside0.mk hr0
 have HC0 := Aside0.mk hc0
 have HR1 := Aside0.mk hr1
 have HC1 := Aside0.mk hc1
 have HO := Aside0.mk hS
 have HBo := Aside0.mk hBo
 have HBW := Aside0.mk hB
 have HBA := Aside0.mk hbase
 have HOB := Aside0.mk hokB
 have HOK := Aside0.mk hok
 clear ha hb h hr0 hc0 hr1 hc1 hS hBo hB hbase hokB hok
 go_enter Try.func108, Try.ntmps108
 go_wp2_with (first
  | (go_at_call 170; (with_reducible refine (slices_Clone_int_int.calls A0 c0 l0 a _ ?side1 ?side2 HA.out).mono ?_); (case side1 => repeat (first | exact HR0.out | (with_reducible refine Kd.C_alloc ?_ _) | (with_reducible refine Kd.C_drewN ?_ _) | (with_reducible refine Kd.C_drew ?_))); (case side2 => exact HC0.out); rintro e w1 ⟨va, rfl, hA, hb1⟩; have HVA := Aside0.mk hA; have HB1 := Aside0.mk hb1; clear hA hb1)
  | (go_at_call 170; (with_reducible refine (slices_Clone_int_int.calls A1 c1 l1 b _ ?side1 ?side2 HB.out).mono ?_); (case side1 => exact Kd.C_below HR1.out HB1.out); (case side2 => exact HC1.out); rintro e w2 ⟨vb, rfl, hB, hb2⟩; have HVB := Aside0.mk hB; have HB2 := Aside0.mk hb2; clear hB hb2))
 obtain ⟨NA, hNA⟩ : ∃ q_, q_ = w.heap.size := ⟨_, rfl⟩
 obtain ⟨NB, hNB⟩ : ∃ q_, q_ = w1.heap.size := ⟨_, rfl⟩
 obtain ⟨NC, hNC⟩ : ∃ q_, q_ = w2.heap.size := ⟨_, rfl⟩
 have LA : w.heap.size ≤ NA := by omega
 have LA' : NA ≤ w.heap.size := by omega
 have LB : NA ≤ NB := by have := HB1.out.size; omega
 have LC : NB ≤ NC := by have := HB2.out.size; omega
 have HVA2 := Aside0.mk (show Kd.R (Kd.int .i64) 3 w2 w.heap.size (fun k => NA ≤ k ∧ k < NB) va a from Kd.R_below (Kd.R_mono (Kd.R_bound HVA.out) (fun k hk => ⟨by have := hk.2.1; omega, by have := hk.2.2.1; omega⟩)) HB2.out)
 have HVB2 := Aside0.mk (show Kd.R (Kd.int .i64) 3 w2 w.heap.size (fun k => NB ≤ k ∧ k < NC) vb b from Kd.R_lower (Kd.R_mono (Kd.R_bound HVB.out) (fun k hk => ⟨by have := hk.2.1; omega, by have := hk.2.2.1; omega⟩)) HB1.out.size)
 have HK0 := Aside0.mk (Kept.of_below (HB1.out.trans (HB2.out.mono HB1.out.size)) ok)
 have HW0 := Aside0.mk ((HBW.out.trans (HB1.out.mono HBW.out.size)).trans (HB2.out.mono (Nat.le_trans HBW.out.size HB1.out.size)))
 have HO2 := Aside0.mk (Kd.S_below (Kd.S_below HO.out HB1.out) HB2.out)
 have HOL := Aside0.mk (show ∀ k, ok k → k < NA from fun k hk => by have := HOK.out k hk; omega)
 clear HVA HVB HB1 HB2 hNA hNB hNC HO HOK HR0 HC0 HR1 HC1
 obtain ⟨Aa, ca, ea⟩ := Kd.R_slice HVA2.out
 subst ea
 obtain ⟨Ab, cb, eb⟩ := Kd.R_slice HVB2.out
 subst eb
 go_loopg [6, 7] k (fun kq v6 v7 wr => ∃ (m' : List (List Int)) (a' b' : List Int) (i j : Int), v6 = .int .i64 i ∧ v7 = .int .i64 j ∧ Aside0 (a'.length = a.length) ∧ Aside0 (b'.length = b.length) ∧ Aside0 (impl_monotone.l0 kq m' a' b' i j = some r) ∧ Aside0 (kq ≤ k) ∧ Aside0 (Kd.S (Kd.slice 3 (Kd.int .i64)) 24 wr base ok (.slice (some ⟨g, 0, none⟩) n cap) m') ∧ Aside0 (Kd.R (Kd.int .i64) 3 wr w.heap.size (fun k => NA ≤ k ∧ k < NB) (.slice Aa a.length ca) a') ∧ Aside0 (Kd.R (Kd.int .i64) 3 wr w.heap.size (fun k => NB ≤ k ∧ k < NC) (.slice Ab b.length cb) b') ∧ Aside0 (Below w0.heap.size w0 wr) ∧ Aside0 (Kept w wr ok))
 case atStart => exact ⟨m, a, b, 0, 0, rfl, rfl, ⟨rfl⟩, ⟨rfl⟩, HH, ⟨Nat.le_refl _⟩, HO2, HVA2, HVB2, HW0, HK0⟩
 case round =>
  clear HH HO2 HVA2 HVB2 HW0 HK0
  obtain ⟨m', a', b', i, j, rfl, rfl, HLA, HLB, HQ, HKQ, HO, HVA, HVB, HW, HK⟩ := hrel
  cases gk with
  | zero => exact absurd HQ.out (by simp [impl_monotone.l0])
  | succ k1 =>
   have H := HQ.out
   clear HQ
   simp only [impl_monotone.l0] at H
   rw [HLA.out, HLB.out] at H
   by_cases ci : i < (a.length : Int)
   ·rw [if_pos ci] at H
    by_cases cj : j < (b.length : Int)
    ·rw [if_pos cj] at H
     by_cases ci0 : 0 ≤ i
     ·rw [if_pos ci0] at H
      by_cases cj0 : 0 ≤ j
      ·rw [if_pos cj0] at H
       by_cases cm : i < (m'.length : Int)
       ·rw [if_pos cm] at H
        by_cases cr : j < ((rd_L2 m' i).length : Int)
        ·rw [if_pos cr] at H
         have HM := Aside0.mk cm
         have HRW := Aside0.mk cr
         have HI := Aside0.mk ci
         have HJ := Aside0.mk cj
         have HI0 := Aside0.mk ci0
         have HJ0 := Aside0.mk cj0
         obtain ⟨ga, eA, hbA, hoA⟩ := impl_monotone.block_lt HVA.out (by have := HLA.out; omega)
         obtain ⟨gb, eB, hbB, hoB⟩ := impl_monotone.block_lt HVB.out (by have := HLB.out; omega)
         subst eA
         subst eB
         obtain ⟨hxa, hfa⟩ := Kd.R_celln 0 HVA.out i ci0 ci
         obtain ⟨hxb, hfb⟩ := Kd.R_celln 0 HVB.out j cj0 cj
         replace hxa : wr.cell? ⟨ga, i.toNat, none⟩ = some (.int .i64 (rd a' i)) := hxa
         replace hxb : wr.cell? ⟨gb, j.toNat, none⟩ = some (.int .i64 (rd b' j)) := hxb
         have HGA := Aside0.mk (show NA ≤ ga ∧ ga < NB from hoA)
         have HGB := Aside0.mk (show NB ≤ gb ∧ gb < NC from hoB)
         clear hbA hoA hbB hoB
         obtain ⟨x, hx⟩ : ∃ q_, q_ = mn (rd a' i) (rd b' j) := ⟨_, rfl⟩
         rw [← hx] at H
         obtain ⟨y, hy⟩ : ∃ q_, q_ = a'.set i.toNat (wrap64 (rd a' i - x)) := ⟨_, rfl⟩
         rw [← hy] at H
         obtain ⟨z, hz⟩ : ∃ q_, q_ = b'.set j.toNat (wrap64 (rd b' j - x)) := ⟨_, rfl⟩
         rw [← hz] at H
         obtain ⟨m2, hm2⟩ : ∃ q_, q_ = m'.set i.toNat ((rd_L2 m' i).set j.toNat (wrap64 (rd (rd_L2 m' i) j + x))) := ⟨_, rfl⟩
         rw [← hm2] at H
         have Nx := Aside0.mk hx
         have Ny := Aside0.mk hy
         have Nz := Aside0.mk hz
         have Nm2 := Aside0.mk hm2
         clear hx hy hz hm2
         have hb := ((HK.out.2 Bo HBo.out.lt (fun h_ => HOB.out Bo h_ rfl)).trans HBo.out : Boxed wr Bo 27 (.slice (some ⟨g, 0, none⟩) n cap))
         have HBX := Aside0.mk hb
         clear hb cm cr
         replace ci := eq_true ci
         replace cj := eq_true cj
         replace ci0 := eq_true ci0
         replace cj0 := eq_true cj0
         by_cases cz : rd y i = 0
         ·rw [if_pos cz] at H
          have H' := Aside0.mk H
          clear H
          have cz0 : (rd y i == 0) = true := beq_iff_eq.mpr cz
          clear cz
          go_wp2
          go_quiet (fail)
          rw [show (if rd b' j < rd a' i then rd b' j else rd a' i) = x from Nx.out.symm]
          go_wp2_with (first | (go_at_call 160; refine (impl_monotone.put Bo g cap n m' i j x base ok _ (impl_monotone.blk_drewN HBX.out nq) (Kd.S_drewN HO.out nq) HI0.out HM.out HJ0.out HRW.out).mono ?_; rintro e w6 ⟨rfl, hS6, q, hqo, hqb, hg⟩; have n0_ := Aside0.mk (show Kd.S (Kd.slice 3 (Kd.int .i64)) 24 w6 base ok (.slice (some ⟨g, 0, none⟩) n cap) m2 from by rw [Nm2.out]; exact hS6); have n1_ := Aside0.mk (Kd.R_grown (Kd.R_drewN HVA.out nq) hg (fun k hk e_ => by cases e_; have := HOL.out _ hqo; omega)); have n2_ := Aside0.mk (Kd.R_grown (Kd.R_drewN HVB.out nq) hg (fun k hk e_ => by cases e_; have := HOL.out _ hqo; omega)); have n3_ := Aside0.mk (Below.grown (pw_below_drewN HW.out nq) hg (by have := HW.out.size; first | exact this | (simp; omega)) (fun k e_ => by cases e_; have := HBA.out; omega)); have n4_ := Aside0.mk (Kept.of_grown hg (Kept.drewN HK.out nq) (fun k e_ => .inl (by cases e_; exact hqo))); clear HO HVA HVB HW HK hS6 hg hqo hqb; have HO := n0_; have HVA := n1_; have HVB := n2_; have HW := n3_; have HK := n4_; clear n0_ n1_ n2_ n3_ n4_; have HP := Kd.R_putg HVA.out i (wrap64 (rd a' i - x)); obtain ⟨hxd, hfd⟩ := Kd.R_celln 0 HVA.out i HI0.out HI.out; replace hxd : w6.cell? ⟨ga, i.toNat, none⟩ = some (.int .i64 (rd a' i)) := hxd) | ((with_reducible refine gate_store (t := 3) (p := 43) rfl ?_); refine store_event (t := 3) (p := 43) (v := ?vo_1) (w1 := (w6.setCell ⟨ga, i.toNat, none⟩ (.int .i64 (wrap64 (rd a' i - x))))) ?hg ?ho ?hn ?hr ?_; (case ho => rfl); (case hg => rfl); (case hn => rfl); (case hr => first | (go_simp; done) | (go_simp; rfl)); intro w8 hw; have hg : w6.grownBy w8 (some ga) := (by rw [hw]; exact HP.2); have hp_ : Kd.R (Kd.int .i64) 3 w8 w.heap.size (fun k => NA ≤ k ∧ k < NB) (.slice (some ⟨ga, 0, none⟩) a.length ca) y := (by rw [hw, Ny.out]; exact HP.1); clear HP; have n0_ := Aside0.mk (Kd.S_grown HO.out hg (fun k hk e_ => by cases e_; have := HOL.out _ hk; have := HGA.out; omega)); have n1_ := Aside0.mk (Kd.R_grown HVB.out hg (fun k hk e_ => by cases e_; have := HGA.out; omega)); have n2_ := Aside0.mk (Below.grown HW.out hg (by have := HW.out.size; omega) (fun k e_ => by cases e_; have := HBW.out.size; have := HGA.out; omega)); have n3_ := Aside0.mk (Kept.of_grown hg HK.out (fun k e_ => .inr (by cases e_; have := HGA.out; omega))); have n4_ := Aside0.mk hp_; clear HO HVA HVB HW HK; have HO := n0_; have HVB := n1_; have HW := n2_; have HK := n3_; have HVA := n4_; clear n0_ n1_ n2_ n3_ n4_ hg hw hp_; have HP := Kd.R_putg HVB.out j (wrap64 (rd b' j - x)); obtain ⟨hxc, hfc⟩ := Kd.R_celln 0 HVB.out j HJ0.out HJ.out; replace hxc : w8.cell? ⟨gb, j.toNat, none⟩ = some (.int .i64 (rd b' j)) := hxc) | ((with_reducible refine gate_store (t := 3) (p := 50) rfl ?_); refine store_event (t := 3) (p := 50) (v := ?vo_2) (w1 := (w8.setCell ⟨gb, j.toNat, none⟩ (.int .i64 (wrap64 (rd b' j - x))))) ?hg ?ho ?hn ?hr ?_; (case ho => rfl); (case hg => rfl); (case hn => rfl); (case hr => first | (go_simp; done) | (go_simp; rfl)); intro w9 hw; have hg : w8.grownBy w9 (some gb) := (by rw [hw]; exact HP.2); have hp_ : Kd.R (Kd.int .i64) 3 w9 w.heap.size (fun k => NB ≤ k ∧ k < NC) (.slice (some ⟨gb, 0, none⟩) b.length cb) z := (by rw [hw, Nz.out]; exact HP.1); clear HP; have n0_ := Aside0.mk (Kd.S_grown HO.out hg (fun k hk e_ => by cases e_; have := HOL.out _ hk; have := HGB.out; omega)); have n1_ := Aside0.mk (Kd.R_grown HVA.out hg (fun k hk e_ => by cases e_; have := HGB.out; omega)); have n2_ := Aside0.mk (Below.grown HW.out hg (by have := HW.out.size; omega) (fun k e_ => by cases e_; have := HBW.out.size; have := HGB.out; omega)); have n3_ := Aside0.mk (Kept.of_grown hg HK.out (fun k e_ => .inr (by cases e_; have := HGB.out; omega))); have n4_ := Aside0.mk hp_; clear HO HVA HVB HW HK; have HO := n0_; have HVA := n1_; have HW := n2_; have HK := n3_; have HVB := n4_; clear n0_ n1_ n2_ n3_ n4_ hg hw hp_; obtain ⟨hxc, hfc⟩ := Kd.R_celln 0 HVA.out i HI0.out HI.out; replace hxc : w9.cell? ⟨ga, i.toNat, none⟩ = some (.int .i64 (rd y i)) := hxc))
          go_roundg k1
          case measure => have := HKQ.out; omega
          case rel => exact ⟨m2, y, z, (wrap64 (i + 1)), j, (by first | rfl | (simp; done) | (simp [*]; done)), (by first | rfl | (simp; done) | (simp [*]; done)), ⟨by rw [Ny.out, List.length_set]; exact HLA.out⟩, ⟨by rw [Nz.out, List.length_set]; exact HLB.out⟩, H', ⟨by have := HKQ.out; omega⟩, HO, HVA, HVB, HW, HK⟩
         ·rw [if_neg cz] at H
          have H' := Aside0.mk H
          clear H
          have cz0 : (rd y i == 0) = false := beq_eq_false_iff_ne.mpr cz
          clear cz
          go_wp2
          go_quiet (fail)
          rw [show (if rd b' j < rd a' i then rd b' j else rd a' i) = x from Nx.out.symm]
          go_wp2_with (first | (go_at_call 160; refine (impl_monotone.put Bo g cap n m' i j x base ok _ (impl_monotone.blk_drewN HBX.out nq) (Kd.S_drewN HO.out nq) HI0.out HM.out HJ0.out HRW.out).mono ?_; rintro e w6 ⟨rfl, hS6, q, hqo, hqb, hg⟩; have n0_ := Aside0.mk (show Kd.S (Kd.slice 3 (Kd.int .i64)) 24 w6 base ok (.slice (some ⟨g, 0, none⟩) n cap) m2 from by rw [Nm2.out]; exact hS6); have n1_ := Aside0.mk (Kd.R_grown (Kd.R_drewN HVA.out nq) hg (fun k hk e_ => by cases e_; have := HOL.out _ hqo; omega)); have n2_ := Aside0.mk (Kd.R_grown (Kd.R_drewN HVB.out nq) hg (fun k hk e_ => by cases e_; have := HOL.out _ hqo; omega)); have n3_ := Aside0.mk (Below.grown (pw_below_drewN HW.out nq) hg (by have := HW.out.size; first | exact this | (simp; omega)) (fun k e_ => by cases e_; have := HBA.out; omega)); have n4_ := Aside0.mk (Kept.of_grown hg (Kept.drewN HK.out nq) (fun k e_ => .inl (by cases e_; exact hqo))); clear HO HVA HVB HW HK hS6 hg hqo hqb; have HO := n0_; have HVA := n1_; have HVB := n2_; have HW := n3_; have HK := n4_; clear n0_ n1_ n2_ n3_ n4_; have HP := Kd.R_putg HVA.out i (wrap64 (rd a' i - x)); obtain ⟨hxd, hfd⟩ := Kd.R_celln 0 HVA.out i HI0.out HI.out; replace hxd : w6.cell? ⟨ga, i.toNat, none⟩ = some (.int .i64 (rd a' i)) := hxd) | ((with_reducible refine gate_store (t := 3) (p := 43) rfl ?_); refine store_event (t := 3) (p := 43) (v := ?vo_3) (w1 := (w6.setCell ⟨ga, i.toNat, none⟩ (.int .i64 (wrap64 (rd a' i - x))))) ?hg ?ho ?hn ?hr ?_; (case ho => rfl); (case hg => rfl); (case hn => rfl); (case hr => first | (go_simp; done) | (go_simp; rfl)); intro w8 hw; have hg : w6.grownBy w8 (some ga) := (by rw [hw]; exact HP.2); have hp_ : Kd.R (Kd.int .i64) 3 w8 w.heap.size (fun k => NA ≤ k ∧ k < NB) (.slice (some ⟨ga, 0, none⟩) a.length ca) y := (by rw [hw, Ny.out]; exact HP.1); clear HP; have n0_ := Aside0.mk (Kd.S_grown HO.out hg (fun k hk e_ => by cases e_; have := HOL.out _ hk; have := HGA.out; omega)); have n1_ := Aside0.mk (Kd.R_grown HVB.out hg (fun k hk e_ => by cases e_; have := HGA.out; omega)); have n2_ := Aside0.mk (Below.grown HW.out hg (by have := HW.out.size; omega) (fun k e_ => by cases e_; have := HBW.out.size; have := HGA.out; omega)); have n3_ := Aside0.mk (Kept.of_grown hg HK.out (fun k e_ => .inr (by cases e_; have := HGA.out; omega))); have n4_ := Aside0.mk hp_; clear HO HVA HVB HW HK; have HO := n0_; have HVB := n1_; have HW := n2_; have HK := n3_; have HVA := n4_; clear n0_ n1_ n2_ n3_ n4_ hg hw hp_; have HP := Kd.R_putg HVB.out j (wrap64 (rd b' j - x)); obtain ⟨hxc, hfc⟩ := Kd.R_celln 0 HVB.out j HJ0.out HJ.out; replace hxc : w8.cell? ⟨gb, j.toNat, none⟩ = some (.int .i64 (rd b' j)) := hxc) | ((with_reducible refine gate_store (t := 3) (p := 50) rfl ?_); refine store_event (t := 3) (p := 50) (v := ?vo_4) (w1 := (w8.setCell ⟨gb, j.toNat, none⟩ (.int .i64 (wrap64 (rd b' j - x))))) ?hg ?ho ?hn ?hr ?_; (case ho => rfl); (case hg => rfl); (case hn => rfl); (case hr => first | (go_simp; done) | (go_simp; rfl)); intro w9 hw; have hg : w8.grownBy w9 (some gb) := (by rw [hw]; exact HP.2); have hp_ : Kd.R (Kd.int .i64) 3 w9 w.heap.size (fun k => NB ≤ k ∧ k < NC) (.slice (some ⟨gb, 0, none⟩) b.length cb) z := (by rw [hw, Nz.out]; exact HP.1); clear HP; have n0_ := Aside0.mk (Kd.S_grown HO.out hg (fun k hk e_ => by cases e_; have := HOL.out _ hk; have := HGB.out; omega)); have n1_ := Aside0.mk (Kd.R_grown HVA.out hg (fun k hk e_ => by cases e_; have := HGB.out; omega)); have n2_ := Aside0.mk (Below.grown HW.out hg (by have := HW.out.size; omega) (fun k e_ => by cases e_; have := HBW.out.size; have := HGB.out; omega)); have n3_ := Aside0.mk (Kept.of_grown hg HK.out (fun k e_ => .inr (by cases e_; have := HGB.out; omega))); have n4_ := Aside0.mk hp_; clear HO HVA HVB HW HK; have HO := n0_; have HVA := n1_; have HW := n2_; have HK := n3_; have HVB := n4_; clear n0_ n1_ n2_ n3_ n4_ hg hw hp_; obtain ⟨hxc, hfc⟩ := Kd.R_celln 0 HVA.out i HI0.out HI.out; replace hxc : w9.cell? ⟨ga, i.toNat, none⟩ = some (.int .i64 (rd y i)) := hxc))
          go_roundg k1
          case measure => have := HKQ.out; omega
          case rel => exact ⟨m2, y, z, i, (wrap64 (j + 1)), (by first | rfl | (simp; done) | (simp [*]; done)), (by first | rfl | (simp; done) | (simp [*]; done)), ⟨by rw [Ny.out, List.length_set]; exact HLA.out⟩, ⟨by rw [Nz.out, List.length_set]; exact HLB.out⟩, H', ⟨by have := HKQ.out; omega⟩, HO, HVA, HVB, HW, HK⟩
        ·rw [if_neg cr] at H
         exact absurd H (by simp)
       ·rw [if_neg cm] at H
        exact absurd H (by simp)
      ·rw [if_neg cj0] at H
       exact absurd H (by simp)
     ·rw [if_neg ci0] at H
      exact absurd H (by simp)
    ·rw [if_neg cj] at H
     obtain rfl := Option.some.inj H
     clear H
     replace ci := eq_true ci
     replace cj := eq_false cj
     go_wp2
     go_end0
     exact ⟨rfl, HO.out, HW.out, HK.out⟩
   ·rw [if_neg ci] at H
    obtain rfl := Option.some.inj H
    clear H
    replace ci := eq_false ci
    go_wp2
    go_end0
    exact ⟨rfl, HO.out, HW.out, HK.out⟩
def impl_monotone.f (k : Nat) (l0 l1 : List Int) : Option (List (List Int)) := (impl_square.f k (l0.length : Int) 0).bind fun m => if 0 < m.length then impl_monotone.c k m l0 l1 else none
theorem impl_monotone.mono : ∀ a0 a1 k, LeO (impl_monotone.f k a0 a1) (impl_monotone.f (k + 1) a0 a1) := by
 intro a0 a1 k
 unfold impl_monotone.f
 exact LeO.bind (impl_square.mono _ _ _) (fun _ => LeO.ite (impl_monotone.c_mono _ _ _ _) (LeO.none _))
set_option maxHeartbeats 8000000 in
set_option maxRecDepth 100000 in
theorem impl_monotone.calls (k : Nat) (A0 : Option Addr) (c0 : Nat) (l0 : List Int) (A1 : Option Addr) (c1 : Nat) (l1 : List Int) (r : List (List Int)) (w : World) (hr0 : Kd.C (Kd.int .i64) w A0 l0.length l0) (hc0 : l0.length ≤ c0) (hr1 : Kd.C (Kd.int .i64) w A1 l1.length l1) (hc1 : l1.length ≤ c1) (h : impl_monotone.f k l0 l1 = some r) :
  Calls Try.prog 80 #[.slice A0 l0.length c0, .slice A1 l1.length c1] w fun e w' => ∃ v0_ : Value, e = .returned (v0_) ∧ Kd.S (Kd.slice 3 (Kd.int .i64)) 24 w' w.heap.size (fun _ => True) v0_ r ∧ Below w.heap.size w w' := by
 unfold impl_monotone.f at h
 replace h := Option.bind_eq_some_iff.mp h
 obtain ⟨m, hm, h⟩ := h
 by_cases hl : ¬ 0 < m.length
 ·rw [if_neg hl] at h
  exact absurd h (by simp)
 replace hl := Decidable.not_not.mp hl
 rw [if_pos hl] at h
 have HM := Aside0.mk hm
 have HL := Aside0.mk hl
 have HH := Aside0.mk h
 have HR0 := Aside0.mk hr0
 have HC0 := Aside0.mk hc0
 have HR1 := Aside0.mk hr1
 have HC1 := Aside0.mk hc1
 clear hm hl h hr0 hc0 hr1 hc1
 go_enter Try.func80, Try.ntmps80
 go_wp2_with (first
  | (go_at_call 106; (with_reducible refine (impl_square.calls k (l0.length : Int) 0 m _ HM.out).mono ?_); rintro e w1 ⟨va, rfl, hS, hb1⟩; obtain ⟨g, cap, ev, hgb, hgl, _⟩ := Kd.S_form hS HL.out; subst ev; have hf := Boxed.new w1 27 (.slice (some ⟨g, 0, none⟩) m.length cap); have HF := Aside0.mk hf; have HS := Aside0.mk hS; have HB1 := Aside0.mk hb1; clear hS hb1 hf hgb)
  | (go_at_call 108; refine (impl_monotone.carry k w1.heap.size g cap m.length w.heap.size (fun k => w.heap.size ≤ k ∧ k < w1.heap.size) A0 c0 l0 A1 c1 l1 m r w _ (HB1.out.alloc HB1.out.size _) HF.out (Kd.S_alloc (Kd.S_mono (Kd.S_bound HS.out) (fun k hk => ⟨hk.2.1, hk.2.2.1⟩)) _) (Nat.le_refl _) (fun k hk => by omega) (fun k hk => by simp; omega) (Kd.C_alloc (Kd.C_below HR0.out HB1.out) _) HC0.out (Kd.C_alloc (Kd.C_below HR1.out HB1.out) _) HC1.out HH.out).mono ?_; rintro e w3 ⟨rfl, hS3, hb3, hk3⟩; have hbx : Boxed w3 w1.heap.size 27 (.slice (some ⟨g, 0, none⟩) m.length cap) := (hk3.2 w1.heap.size (by simp) (fun h_ => by omega)).trans HF.out; have hcs := hbx.cell; clear hbx; have HS3 := Aside0.mk hS3; have HB3 := Aside0.mk hb3; clear hS3 hb3 hk3))
 go_ret
 exact ⟨_, rfl, Kd.S_mono HS3.out (fun _ _ => trivial), HB3.out⟩

end Go.Proofs.Ytojklddddedoeaa.PFnLoweringPlans
-- SLIM
