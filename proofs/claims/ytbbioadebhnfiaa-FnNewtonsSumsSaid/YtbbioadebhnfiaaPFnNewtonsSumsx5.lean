/- For each Go function that the law uses, a Lean function with the same answers and a proof that its call comes to them; the conditions stand in each theorem. (Written by a program of this session, turned from the print of the kit.) -/
import Derived.Test.YtbbioadebhnfiaaPFnNewtonsSumsx0
import Derived.Test.YtbbioadebhnfiaaPFnNewtonsSumsx1
import Derived.Test.YtbbioadebhnfiaaPFnNewtonsSumsx2
import Derived.Test.YtbbioadebhnfiaaPFnNewtonsSumsx3
import Derived.Test.YtbbioadebhnfiaaPFnNewtonsSumsx4
namespace Go.Proofs.Ytbbioadebhnfiaa.PFnNewtonsSums
open Go.RowKit Go.Proofs.YtbbioadebhnfiaaW.PrintWords Go.Proofs.YtbbioadebhnfiaaW.PrintLast Go.Proofs.YtbbioadebhnfiaaW.PrintMore
attribute [local go_sem] max2_int min2_int max_two min_two max_three min_three max_four min_four   -- for this text's walks alone
set_option linter.unusedVariables false
set_option linter.unusedSimpArgs false

/-! ### laws_FnNewtonsSums: function 3 -/
mutual
def laws_FnNewtonsSums.j0 : Nat → List Int → Int → List Int → Int → Bool → Bool → Option (Bool)
  | 0, _, _, _, _, _, _ => none
  | k + 1, x1, x5, x6, x7, x10, x58 => if x58 = true then (some false) else ((spec_DrawPowerSum.f k x1).bind fun bt218 => ((impl_PowerSum.f k bt218.1 bt218.2).bind fun bt222 => ((spec_PowerSum.f k bt218.1 bt218.2).bind fun bt224 => ((impl_ElementarySum.f k bt218.1 bt218.2).bind fun bt226 => ((spec_ElementarySum.f k bt218.1 bt218.2).bind fun bt228 => (if (bt222.2 != bt224.2) = true then (laws_FnNewtonsSums.j1 k x5 x6 x7 x10 true) else (if bt222.1 = bt224.1 then (if (bt226.2 != bt228.2) = true then (laws_FnNewtonsSums.j1 k x5 x6 x7 x10 true) else (laws_FnNewtonsSums.j1 k x5 x6 x7 x10 (bt226.1 != bt228.1))) else (laws_FnNewtonsSums.j1 k x5 x6 x7 x10 true))))))))
def laws_FnNewtonsSums.j1 : Nat → Int → List Int → Int → Bool → Bool → Option (Bool)
  | 0, _, _, _, _, _ => none
  | k + 1, x5, x6, x7, x10, x105 => if x105 = true then (some false) else (if x10 = true then (laws_FnNewtonsSums.j2 k x5 x6 x7 x10 (x5 == 0)) else (laws_FnNewtonsSums.j2 k x5 x6 x7 x10 true))
def laws_FnNewtonsSums.j2 : Nat → Int → List Int → Int → Bool → Bool → Option (Bool)
  | 0, _, _, _, _, _ => none
  | k + 1, x5, x6, x7, x10, x111 => if x111 = true then (if x10 = true then (some (x7 == 1)) else (some true)) else (laws_FnNewtonsSums.l0 k x5 x6 x7 0 0 1 0)
def laws_FnNewtonsSums.l0 : Nat → Int → List Int → Int → Int → Int → Int → Int → Option (Bool)
  | 0, _, _, _, _, _, _, _ => none
  | k + 1, x5, x6, x7, x21, x22, x23, x24 => if x24 ≤ x5 then ((impl_CompleteSum.f k (wrap64 (x5 - x24)) x6).bind fun bt230 => ((impl_PowerSum.f k x24 x6).bind fun bt232 => (if bt230.2 = true then (laws_FnNewtonsSums.j4 k x5 x6 x7 x21 x22 x23 x24 bt230.1 bt232.1 (!bt232.2)) else (laws_FnNewtonsSums.j4 k x5 x6 x7 x21 x22 x23 x24 bt230.1 bt232.1 true)))) else (if x21 = (wrap64 (x5 * x7)) then (some (x22 == 0)) else (some false))
def laws_FnNewtonsSums.j4 : Nat → Int → List Int → Int → Int → Int → Int → Int → Int → Int → Bool → Option (Bool)
  | 0, _, _, _, _, _, _, _, _, _, _ => none
  | k + 1, x5, x6, x7, x21, x22, x23, x24, x25, x27, x142 => if x142 = true then (some false) else (if x24 > 0 then (laws_FnNewtonsSums.j5 k x5 x6 x7 (wrap64 (x21 + (wrap64 (x27 * x25)))) x22 x23 x24 x25) else (laws_FnNewtonsSums.j5 k x5 x6 x7 x21 x22 x23 x24 x25))
def laws_FnNewtonsSums.j5 : Nat → Int → List Int → Int → Int → Int → Int → Int → Int → Option (Bool)
  | 0, _, _, _, _, _, _, _, _ => none
  | k + 1, x5, x6, x7, x21, x22, x23, x24, x25 => if x24 ≤ 4 then ((impl_ElementarySum.f k x24 x6).bind fun bt234 => (if bt234.2 = true then (laws_FnNewtonsSums.l0 k x5 x6 x7 x21 (wrap64 (x22 + (wrap64 ((wrap64 (x23 * bt234.1)) * x25)))) (wrap64 (-x23)) (wrap64 (x24 + 1))) else (some false))) else (laws_FnNewtonsSums.l0 k x5 x6 x7 x21 x22 (wrap64 (-x23)) (wrap64 (x24 + 1)))
end
def laws_FnNewtonsSums.f (k : Nat) (l0 : List Int) (l1 : List Int) : Option (Bool) := (laws_big.f l0 l1).bind fun t209 => (if t209 = true then (some true) else ((spec_DrawCompleteSum.f k l0).bind fun bt210 => ((impl_CompleteSum.f k bt210.1 bt210.2).bind fun bt214 => ((spec_CompleteSum.f k bt210.1 bt210.2).bind fun bt216 => (if (bt214.2 != bt216.2) = true then (laws_FnNewtonsSums.j0 k l1 bt210.1 bt210.2 bt214.1 bt216.2 true) else (laws_FnNewtonsSums.j0 k l1 bt210.1 bt210.2 bt214.1 bt216.2 (bt214.1 != bt216.1)))))))
theorem laws_FnNewtonsSums.mono_l : ∀ k, (∀ y0 y1 y2 y3 y4 y5, LeO (laws_FnNewtonsSums.j0 k y0 y1 y2 y3 y4 y5) (laws_FnNewtonsSums.j0 (k + 1) y0 y1 y2 y3 y4 y5)) ∧ (∀ y0 y1 y2 y3 y4, LeO (laws_FnNewtonsSums.j1 k y0 y1 y2 y3 y4) (laws_FnNewtonsSums.j1 (k + 1) y0 y1 y2 y3 y4)) ∧ (∀ y0 y1 y2 y3 y4, LeO (laws_FnNewtonsSums.j2 k y0 y1 y2 y3 y4) (laws_FnNewtonsSums.j2 (k + 1) y0 y1 y2 y3 y4)) ∧ (∀ y0 y1 y2 y3 y4 y5 y6, LeO (laws_FnNewtonsSums.l0 k y0 y1 y2 y3 y4 y5 y6) (laws_FnNewtonsSums.l0 (k + 1) y0 y1 y2 y3 y4 y5 y6)) ∧ (∀ y0 y1 y2 y3 y4 y5 y6 y7 y8 y9, LeO (laws_FnNewtonsSums.j4 k y0 y1 y2 y3 y4 y5 y6 y7 y8 y9) (laws_FnNewtonsSums.j4 (k + 1) y0 y1 y2 y3 y4 y5 y6 y7 y8 y9)) ∧ (∀ y0 y1 y2 y3 y4 y5 y6 y7, LeO (laws_FnNewtonsSums.j5 k y0 y1 y2 y3 y4 y5 y6 y7) (laws_FnNewtonsSums.j5 (k + 1) y0 y1 y2 y3 y4 y5 y6 y7))
  | 0 => ⟨fun _ _ _ _ _ _ r h => by simp [laws_FnNewtonsSums.j0] at h, fun _ _ _ _ _ r h => by simp [laws_FnNewtonsSums.j1] at h, fun _ _ _ _ _ r h => by simp [laws_FnNewtonsSums.j2] at h, fun _ _ _ _ _ _ _ r h => by simp [laws_FnNewtonsSums.l0] at h, fun _ _ _ _ _ _ _ _ _ _ r h => by simp [laws_FnNewtonsSums.j4] at h, fun _ _ _ _ _ _ _ _ r h => by simp [laws_FnNewtonsSums.j5] at h⟩
  | k + 1 => by
    obtain ⟨ih0, ih1, ih2, ih3, ih4, ih5⟩ := laws_FnNewtonsSums.mono_l k
    refine ⟨?_, ?_, ?_, ?_, ?_, ?_⟩
    · intro y0 y1 y2 y3 y4 y5
      unfold laws_FnNewtonsSums.j0
      repeat' first
      | (with_reducible exact ih0 _ _ _ _ _ _)
      | (with_reducible exact ih1 _ _ _ _ _)
      | (with_reducible exact ih2 _ _ _ _ _)
      | (with_reducible exact ih3 _ _ _ _ _ _ _)
      | (with_reducible exact ih4 _ _ _ _ _ _ _ _ _ _)
      | (with_reducible exact ih5 _ _ _ _ _ _ _ _)
      | (with_reducible exact impl_CompleteSum.mono _ _ _)
      | (with_reducible exact impl_ElementarySum.mono _ _ _)
      | (with_reducible exact impl_PowerSum.mono _ _ _)
      | (with_reducible exact spec_CompleteSum.mono _ _ _)
      | (with_reducible exact spec_DrawCompleteSum.mono _ _)
      | (with_reducible exact spec_DrawPowerSum.mono _ _)
      | (with_reducible exact spec_ElementarySum.mono _ _ _)
      | (with_reducible exact spec_PowerSum.mono _ _ _)
      | (with_reducible exact LeO.refl _)
      | (with_reducible exact LeO.none _)
      | (with_reducible refine LeO.ite ?_ ?_)
      | (with_reducible refine LeO.bind ?_ (fun _ => ?_))
      | exact ih0 _ _ _ _ _ _
      | exact ih1 _ _ _ _ _
      | exact ih2 _ _ _ _ _
      | exact ih3 _ _ _ _ _ _ _
      | exact ih4 _ _ _ _ _ _ _ _ _ _
      | exact ih5 _ _ _ _ _ _ _ _
      | exact impl_CompleteSum.mono _ _ _
      | exact impl_ElementarySum.mono _ _ _
      | exact impl_PowerSum.mono _ _ _
      | exact spec_CompleteSum.mono _ _ _
      | exact spec_DrawCompleteSum.mono _ _
      | exact spec_DrawPowerSum.mono _ _
      | exact spec_ElementarySum.mono _ _ _
      | exact spec_PowerSum.mono _ _ _
      | exact LeO.none _
      | refine LeO.ite ?_ ?_
      | refine LeO.bind ?_ (fun _ => ?_)
    · intro y0 y1 y2 y3 y4
      unfold laws_FnNewtonsSums.j1
      repeat' first
      | (with_reducible exact ih0 _ _ _ _ _ _)
      | (with_reducible exact ih1 _ _ _ _ _)
      | (with_reducible exact ih2 _ _ _ _ _)
      | (with_reducible exact ih3 _ _ _ _ _ _ _)
      | (with_reducible exact ih4 _ _ _ _ _ _ _ _ _ _)
      | (with_reducible exact ih5 _ _ _ _ _ _ _ _)
      | (with_reducible exact impl_CompleteSum.mono _ _ _)
      | (with_reducible exact impl_ElementarySum.mono _ _ _)
      | (with_reducible exact impl_PowerSum.mono _ _ _)
      | (with_reducible exact spec_CompleteSum.mono _ _ _)
      | (with_reducible exact spec_DrawCompleteSum.mono _ _)
      | (with_reducible exact spec_DrawPowerSum.mono _ _)
      | (with_reducible exact spec_ElementarySum.mono _ _ _)
      | (with_reducible exact spec_PowerSum.mono _ _ _)
      | (with_reducible exact LeO.refl _)
      | (with_reducible exact LeO.none _)
      | (with_reducible refine LeO.ite ?_ ?_)
      | (with_reducible refine LeO.bind ?_ (fun _ => ?_))
      | exact ih0 _ _ _ _ _ _
      | exact ih1 _ _ _ _ _
      | exact ih2 _ _ _ _ _
      | exact ih3 _ _ _ _ _ _ _
      | exact ih4 _ _ _ _ _ _ _ _ _ _
      | exact ih5 _ _ _ _ _ _ _ _
      | exact impl_CompleteSum.mono _ _ _
      | exact impl_ElementarySum.mono _ _ _
      | exact impl_PowerSum.mono _ _ _
      | exact spec_CompleteSum.mono _ _ _
      | exact spec_DrawCompleteSum.mono _ _
      | exact spec_DrawPowerSum.mono _ _
      | exact spec_ElementarySum.mono _ _ _
      | exact spec_PowerSum.mono _ _ _
      | exact LeO.none _
      | refine LeO.ite ?_ ?_
      | refine LeO.bind ?_ (fun _ => ?_)
    · intro y0 y1 y2 y3 y4
      unfold laws_FnNewtonsSums.j2
      repeat' first
      | (with_reducible exact ih0 _ _ _ _ _ _)
      | (with_reducible exact ih1 _ _ _ _ _)
      | (with_reducible exact ih2 _ _ _ _ _)
      | (with_reducible exact ih3 _ _ _ _ _ _ _)
      | (with_reducible exact ih4 _ _ _ _ _ _ _ _ _ _)
      | (with_reducible exact ih5 _ _ _ _ _ _ _ _)
      | (with_reducible exact impl_CompleteSum.mono _ _ _)
      | (with_reducible exact impl_ElementarySum.mono _ _ _)
      | (with_reducible exact impl_PowerSum.mono _ _ _)
      | (with_reducible exact spec_CompleteSum.mono _ _ _)
      | (with_reducible exact spec_DrawCompleteSum.mono _ _)
      | (with_reducible exact spec_DrawPowerSum.mono _ _)
      | (with_reducible exact spec_ElementarySum.mono _ _ _)
      | (with_reducible exact spec_PowerSum.mono _ _ _)
      | (with_reducible exact LeO.refl _)
      | (with_reducible exact LeO.none _)
      | (with_reducible refine LeO.ite ?_ ?_)
      | (with_reducible refine LeO.bind ?_ (fun _ => ?_))
      | exact ih0 _ _ _ _ _ _
      | exact ih1 _ _ _ _ _
      | exact ih2 _ _ _ _ _
      | exact ih3 _ _ _ _ _ _ _
      | exact ih4 _ _ _ _ _ _ _ _ _ _
      | exact ih5 _ _ _ _ _ _ _ _
      | exact impl_CompleteSum.mono _ _ _
      | exact impl_ElementarySum.mono _ _ _
      | exact impl_PowerSum.mono _ _ _
      | exact spec_CompleteSum.mono _ _ _
      | exact spec_DrawCompleteSum.mono _ _
      | exact spec_DrawPowerSum.mono _ _
      | exact spec_ElementarySum.mono _ _ _
      | exact spec_PowerSum.mono _ _ _
      | exact LeO.none _
      | refine LeO.ite ?_ ?_
      | refine LeO.bind ?_ (fun _ => ?_)
    · intro y0 y1 y2 y3 y4 y5 y6
      unfold laws_FnNewtonsSums.l0
      repeat' first
      | (with_reducible exact ih0 _ _ _ _ _ _)
      | (with_reducible exact ih1 _ _ _ _ _)
      | (with_reducible exact ih2 _ _ _ _ _)
      | (with_reducible exact ih3 _ _ _ _ _ _ _)
      | (with_reducible exact ih4 _ _ _ _ _ _ _ _ _ _)
      | (with_reducible exact ih5 _ _ _ _ _ _ _ _)
      | (with_reducible exact impl_CompleteSum.mono _ _ _)
      | (with_reducible exact impl_ElementarySum.mono _ _ _)
      | (with_reducible exact impl_PowerSum.mono _ _ _)
      | (with_reducible exact spec_CompleteSum.mono _ _ _)
      | (with_reducible exact spec_DrawCompleteSum.mono _ _)
      | (with_reducible exact spec_DrawPowerSum.mono _ _)
      | (with_reducible exact spec_ElementarySum.mono _ _ _)
      | (with_reducible exact spec_PowerSum.mono _ _ _)
      | (with_reducible exact LeO.refl _)
      | (with_reducible exact LeO.none _)
      | (with_reducible refine LeO.ite ?_ ?_)
      | (with_reducible refine LeO.bind ?_ (fun _ => ?_))
      | exact ih0 _ _ _ _ _ _
      | exact ih1 _ _ _ _ _
      | exact ih2 _ _ _ _ _
      | exact ih3 _ _ _ _ _ _ _
      | exact ih4 _ _ _ _ _ _ _ _ _ _
      | exact ih5 _ _ _ _ _ _ _ _
      | exact impl_CompleteSum.mono _ _ _
      | exact impl_ElementarySum.mono _ _ _
      | exact impl_PowerSum.mono _ _ _
      | exact spec_CompleteSum.mono _ _ _
      | exact spec_DrawCompleteSum.mono _ _
      | exact spec_DrawPowerSum.mono _ _
      | exact spec_ElementarySum.mono _ _ _
      | exact spec_PowerSum.mono _ _ _
      | exact LeO.none _
      | refine LeO.ite ?_ ?_
      | refine LeO.bind ?_ (fun _ => ?_)
    · intro y0 y1 y2 y3 y4 y5 y6 y7 y8 y9
      unfold laws_FnNewtonsSums.j4
      repeat' first
      | (with_reducible exact ih0 _ _ _ _ _ _)
      | (with_reducible exact ih1 _ _ _ _ _)
      | (with_reducible exact ih2 _ _ _ _ _)
      | (with_reducible exact ih3 _ _ _ _ _ _ _)
      | (with_reducible exact ih4 _ _ _ _ _ _ _ _ _ _)
      | (with_reducible exact ih5 _ _ _ _ _ _ _ _)
      | (with_reducible exact impl_CompleteSum.mono _ _ _)
      | (with_reducible exact impl_ElementarySum.mono _ _ _)
      | (with_reducible exact impl_PowerSum.mono _ _ _)
      | (with_reducible exact spec_CompleteSum.mono _ _ _)
      | (with_reducible exact spec_DrawCompleteSum.mono _ _)
      | (with_reducible exact spec_DrawPowerSum.mono _ _)
      | (with_reducible exact spec_ElementarySum.mono _ _ _)
      | (with_reducible exact spec_PowerSum.mono _ _ _)
      | (with_reducible exact LeO.refl _)
      | (with_reducible exact LeO.none _)
      | (with_reducible refine LeO.ite ?_ ?_)
      | (with_reducible refine LeO.bind ?_ (fun _ => ?_))
      | exact ih0 _ _ _ _ _ _
      | exact ih1 _ _ _ _ _
      | exact ih2 _ _ _ _ _
      | exact ih3 _ _ _ _ _ _ _
      | exact ih4 _ _ _ _ _ _ _ _ _ _
      | exact ih5 _ _ _ _ _ _ _ _
      | exact impl_CompleteSum.mono _ _ _
      | exact impl_ElementarySum.mono _ _ _
      | exact impl_PowerSum.mono _ _ _
      | exact spec_CompleteSum.mono _ _ _
      | exact spec_DrawCompleteSum.mono _ _
      | exact spec_DrawPowerSum.mono _ _
      | exact spec_ElementarySum.mono _ _ _
      | exact spec_PowerSum.mono _ _ _
      | exact LeO.none _
      | refine LeO.ite ?_ ?_
      | refine LeO.bind ?_ (fun _ => ?_)
    · intro y0 y1 y2 y3 y4 y5 y6 y7
      unfold laws_FnNewtonsSums.j5
      repeat' first
      | (with_reducible exact ih0 _ _ _ _ _ _)
      | (with_reducible exact ih1 _ _ _ _ _)
      | (with_reducible exact ih2 _ _ _ _ _)
      | (with_reducible exact ih3 _ _ _ _ _ _ _)
      | (with_reducible exact ih4 _ _ _ _ _ _ _ _ _ _)
      | (with_reducible exact ih5 _ _ _ _ _ _ _ _)
      | (with_reducible exact impl_CompleteSum.mono _ _ _)
      | (with_reducible exact impl_ElementarySum.mono _ _ _)
      | (with_reducible exact impl_PowerSum.mono _ _ _)
      | (with_reducible exact spec_CompleteSum.mono _ _ _)
      | (with_reducible exact spec_DrawCompleteSum.mono _ _)
      | (with_reducible exact spec_DrawPowerSum.mono _ _)
      | (with_reducible exact spec_ElementarySum.mono _ _ _)
      | (with_reducible exact spec_PowerSum.mono _ _ _)
      | (with_reducible exact LeO.refl _)
      | (with_reducible exact LeO.none _)
      | (with_reducible refine LeO.ite ?_ ?_)
      | (with_reducible refine LeO.bind ?_ (fun _ => ?_))
      | exact ih0 _ _ _ _ _ _
      | exact ih1 _ _ _ _ _
      | exact ih2 _ _ _ _ _
      | exact ih3 _ _ _ _ _ _ _
      | exact ih4 _ _ _ _ _ _ _ _ _ _
      | exact ih5 _ _ _ _ _ _ _ _
      | exact impl_CompleteSum.mono _ _ _
      | exact impl_ElementarySum.mono _ _ _
      | exact impl_PowerSum.mono _ _ _
      | exact spec_CompleteSum.mono _ _ _
      | exact spec_DrawCompleteSum.mono _ _
      | exact spec_DrawPowerSum.mono _ _
      | exact spec_ElementarySum.mono _ _ _
      | exact spec_PowerSum.mono _ _ _
      | exact LeO.none _
      | refine LeO.ite ?_ ?_
      | refine LeO.bind ?_ (fun _ => ?_)
theorem laws_FnNewtonsSums.mono : ∀ a0 a1 k, LeO (laws_FnNewtonsSums.f k a0 a1) (laws_FnNewtonsSums.f (k + 1) a0 a1) := by
  intro a0 a1 k
  obtain ⟨ih0, ih1, ih2, ih3, ih4, ih5⟩ := laws_FnNewtonsSums.mono_l k
  unfold laws_FnNewtonsSums.f
  repeat' first
      | (with_reducible exact ih0 _ _ _ _ _ _)
      | (with_reducible exact ih1 _ _ _ _ _)
      | (with_reducible exact ih2 _ _ _ _ _)
      | (with_reducible exact ih3 _ _ _ _ _ _ _)
      | (with_reducible exact ih4 _ _ _ _ _ _ _ _ _ _)
      | (with_reducible exact ih5 _ _ _ _ _ _ _ _)
      | (with_reducible exact impl_CompleteSum.mono _ _ _)
      | (with_reducible exact impl_ElementarySum.mono _ _ _)
      | (with_reducible exact impl_PowerSum.mono _ _ _)
      | (with_reducible exact spec_CompleteSum.mono _ _ _)
      | (with_reducible exact spec_DrawCompleteSum.mono _ _)
      | (with_reducible exact spec_DrawPowerSum.mono _ _)
      | (with_reducible exact spec_ElementarySum.mono _ _ _)
      | (with_reducible exact spec_PowerSum.mono _ _ _)
      | (with_reducible exact LeO.refl _)
      | (with_reducible exact LeO.none _)
      | (with_reducible refine LeO.ite ?_ ?_)
      | (with_reducible refine LeO.bind ?_ (fun _ => ?_))
      | exact ih0 _ _ _ _ _ _
      | exact ih1 _ _ _ _ _
      | exact ih2 _ _ _ _ _
      | exact ih3 _ _ _ _ _ _ _
      | exact ih4 _ _ _ _ _ _ _ _ _ _
      | exact ih5 _ _ _ _ _ _ _ _
      | exact impl_CompleteSum.mono _ _ _
      | exact impl_ElementarySum.mono _ _ _
      | exact impl_PowerSum.mono _ _ _
      | exact spec_CompleteSum.mono _ _ _
      | exact spec_DrawCompleteSum.mono _ _
      | exact spec_DrawPowerSum.mono _ _
      | exact spec_ElementarySum.mono _ _ _
      | exact spec_PowerSum.mono _ _ _
      | exact LeO.none _
      | refine LeO.ite ?_ ?_
      | refine LeO.bind ?_ (fun _ => ?_)
set_option maxHeartbeats 8000000 in
set_option maxRecDepth 100000 in
theorem laws_FnNewtonsSums.calls (k : Nat) (A0 : Option Addr) (c0 : Nat) (l0 : List Int) (A1 : Option Addr) (c1 : Nat) (l1 : List Int) (r : Bool) (w : World) (hr0 : Kd.C (Kd.int .u8) w A0 l0.length l0) (hc0 : l0.length ≤ c0) (hr1 : Kd.C (Kd.int .u8) w A1 l1.length l1) (hc1 : l1.length ≤ c1) (h : laws_FnNewtonsSums.f k l0 l1 = some r) :
    Calls Try.prog 3 #[.slice A0 l0.length c0, .slice A1 l1.length c1] w fun e w' => e = .returned (.bool r) ∧ Below w.heap.size w w' := by
  have HR0 := Aside0.mk hr0
  have HC0 := Aside0.mk hc0
  clear hr0 hc0
  have HR1 := Aside0.mk hr1
  have HC1 := Aside0.mk hc1
  clear hr1 hc1
  have HB := Aside0.mk (Below.refl w.heap.size w)
  have H : ((laws_big.f l0 l1).bind fun t209 => (if t209 = true then (some true) else ((spec_DrawCompleteSum.f k l0).bind fun bt210 => ((impl_CompleteSum.f k bt210.1 bt210.2).bind fun bt214 => ((spec_CompleteSum.f k bt210.1 bt210.2).bind fun bt216 => (if (bt214.2 != bt216.2) = true then (laws_FnNewtonsSums.j0 k l1 bt210.1 bt210.2 bt214.1 bt216.2 true) else (laws_FnNewtonsSums.j0 k l1 bt210.1 bt210.2 bt214.1 bt216.2 (bt214.1 != bt216.1)))))))) = some r := h
  clear h
  replace H := Option.bind_eq_some_iff.mp H
  obtain ⟨t209, A30, H⟩ := H
  replace H : (if t209 = true then (some true) else ((spec_DrawCompleteSum.f k l0).bind fun bt210 => ((impl_CompleteSum.f k bt210.1 bt210.2).bind fun bt214 => ((spec_CompleteSum.f k bt210.1 bt210.2).bind fun bt216 => (if (bt214.2 != bt216.2) = true then (laws_FnNewtonsSums.j0 k l1 bt210.1 bt210.2 bt214.1 bt216.2 true) else (laws_FnNewtonsSums.j0 k l1 bt210.1 bt210.2 bt214.1 bt216.2 (bt214.1 != bt216.1))))))) = some r := H
  have A3 := Aside0.mk A30
  clear A30
  by_cases c4 : t209 = true
  · subst c4
    have H1 : (some true) = some r := by rw [if_pos rfl] at H; exact H
    clear H
    have H := H1
    clear H1
    obtain rfl := Option.some.inj H
    go_enter Try.func3, Try.ntmps3
    go_wp2_with (first | ((with_reducible refine gate_callee (f := 8) rfl ?_); refine goesL_ (some 33) rfl rfl Try.func8 (by kernel_rfl) rfl #[.slice A0 l0.length c0, .slice A1 l1.length c1] rfl (by (try simp only [List.map_toArray, List.map_cons, List.map_nil]); first | done | rfl | (simp only [List.length_drop, List.length_take]; rfl)) ?_; (with_reducible refine (laws_big.calls _ _ l0 _ _ l1 true _ ?side1 ?side2 ?side3 ?side4 A3.out).mono ?_); (case side1 => repeat (first | exact HR0.out | (with_reducible refine Kd.C_alloc ?_ _) | (with_reducible refine Kd.C_drewN ?_ _) | (with_reducible refine Kd.C_drew ?_))); (case side2 => exact HC0.out); (case side3 => repeat (first | exact HR1.out | (with_reducible refine Kd.C_alloc ?_ _) | (with_reducible refine Kd.C_drewN ?_ _) | (with_reducible refine Kd.C_drew ?_))); (case side4 => exact HC1.out); rintro e w' ⟨rfl, ⟨nd, rfl⟩⟩; refine ⟨_, rfl, ?_⟩))
    go_ret
    exact ⟨by first | rfl | (simp [errW_none, errW_some] <;> rfl) | (simp [*, errW_none, errW_some] <;> rfl), by repeat (first | (with_reducible first | exact HB.out | apply below_alloc | apply pw_below_drewN | apply below_drew1) | exact HB.out)⟩
  · replace c4 := Bool.eq_false_iff.mpr c4
    subst c4
    have H1 : ((spec_DrawCompleteSum.f k l0).bind fun bt210 => ((impl_CompleteSum.f k bt210.1 bt210.2).bind fun bt214 => ((spec_CompleteSum.f k bt210.1 bt210.2).bind fun bt216 => (if (bt214.2 != bt216.2) = true then (laws_FnNewtonsSums.j0 k l1 bt210.1 bt210.2 bt214.1 bt216.2 true) else (laws_FnNewtonsSums.j0 k l1 bt210.1 bt210.2 bt214.1 bt216.2 (bt214.1 != bt216.1)))))) = some r := by rw [if_neg (show ¬ (false = true) by decide)] at H; exact H
    clear H
    have H := H1
    clear H1
    replace H := Option.bind_eq_some_iff.mp H
    obtain ⟨⟨t210, t211⟩, A50, H⟩ := H
    replace H : ((impl_CompleteSum.f k t210 t211).bind fun bt214 => ((spec_CompleteSum.f k t210 t211).bind fun bt216 => (if (bt214.2 != bt216.2) = true then (laws_FnNewtonsSums.j0 k l1 t210 t211 bt214.1 bt216.2 true) else (laws_FnNewtonsSums.j0 k l1 t210 t211 bt214.1 bt216.2 (bt214.1 != bt216.1))))) = some r := H
    have A5 := Aside0.mk A50
    clear A50
    replace H := Option.bind_eq_some_iff.mp H
    obtain ⟨⟨t214, t215⟩, A60, H⟩ := H
    replace H : ((spec_CompleteSum.f k t210 t211).bind fun bt216 => (if (t215 != bt216.2) = true then (laws_FnNewtonsSums.j0 k l1 t210 t211 t214 bt216.2 true) else (laws_FnNewtonsSums.j0 k l1 t210 t211 t214 bt216.2 (t214 != bt216.1)))) = some r := H
    have A6 := Aside0.mk A60
    clear A60
    replace H := Option.bind_eq_some_iff.mp H
    obtain ⟨⟨t216, t217⟩, A70, H⟩ := H
    replace H : (if (t215 != t217) = true then (laws_FnNewtonsSums.j0 k l1 t210 t211 t214 t217 true) else (laws_FnNewtonsSums.j0 k l1 t210 t211 t214 t217 (t214 != t216))) = some r := H
    have A7 := Aside0.mk A70
    clear A70
    have HC8 := Aside0.mk H
    clear H
    go_enter Try.func3, Try.ntmps3
    go_upto_region 6 with (first | ((with_reducible refine gate_callee (f := 8) rfl ?_); refine goesL_ (some 33) rfl rfl Try.func8 (by kernel_rfl) rfl #[.slice A0 l0.length c0, .slice A1 l1.length c1] rfl (by (try simp only [List.map_toArray, List.map_cons, List.map_nil]); first | done | rfl | (simp only [List.length_drop, List.length_take]; rfl)) ?_; (with_reducible refine (laws_big.calls _ _ l0 _ _ l1 false _ ?side1 ?side2 ?side3 ?side4 A3.out).mono ?_); (case side1 => repeat (first | exact HR0.out | (with_reducible refine Kd.C_alloc ?_ _) | (with_reducible refine Kd.C_drewN ?_ _) | (with_reducible refine Kd.C_drew ?_))); (case side2 => exact HC0.out); (case side3 => repeat (first | exact HR1.out | (with_reducible refine Kd.C_alloc ?_ _) | (with_reducible refine Kd.C_drewN ?_ _) | (with_reducible refine Kd.C_drew ?_))); (case side4 => exact HC1.out); rintro e w' ⟨rfl, ⟨nd, rfl⟩⟩; refine ⟨_, rfl, ?_⟩) | ((with_reducible refine gate_callee (f := 9) rfl ?_); refine goesL_ (some 36) rfl rfl Try.func9 (by kernel_rfl) rfl #[.slice A0 l0.length c0] rfl (by (try simp only [List.map_toArray, List.map_cons, List.map_nil]); first | done | rfl | (simp only [List.length_drop, List.length_take]; rfl)) ?_; (with_reducible refine (spec_DrawCompleteSum.calls k _ _ l0 t210 t211 _ ?side1 ?side2 A5.out).mono ?_); (case side1 => repeat (first | exact HR0.out | (with_reducible refine Kd.C_alloc ?_ _) | (with_reducible refine Kd.C_drewN ?_ _) | (with_reducible refine Kd.C_drew ?_))); (case side2 => exact HC0.out); rintro e w9 ⟨v212, rfl, ho0, hb⟩; refine ⟨_, rfl, ?_⟩; have n0_ := Aside0.mk (Kd.R_lower ho0 (below_size (by repeat (first | (with_reducible first | exact HB.out | apply below_alloc | apply pw_below_drewN | apply below_drew1) | exact HB.out)))); have n1_ := Aside0.mk (below_step (by repeat (first | (with_reducible first | exact HB.out | apply below_alloc | apply pw_below_drewN | apply below_drew1) | exact HB.out)) hb); clear HB; have HO213 := n0_; have HB := n1_; clear n0_ n1_; (try clear hb); (try clear hb2); (try clear hk); (try clear hi); (try clear ho0); obtain ⟨Ao10, co10, eo10⟩ := Kd.R_slice HO213.out; subst eo10) | ((with_reducible refine gate_callee (f := 10) rfl ?_); refine goesL_ (some 42) rfl rfl Try.func10 (by kernel_rfl) rfl #[.int .i64 t210, .slice Ao10 t211.length co10] rfl (by (try simp only [List.map_toArray, List.map_cons, List.map_nil]); first | done | rfl | (simp only [List.length_drop, List.length_take]; rfl)) ?_; (with_reducible refine (impl_CompleteSum.calls k t210 _ _ t211 t214 t215 _ ?side1 ?side2 A6.out).mono ?_); (case side1 => repeat (first | exact (Kd.R_reads' HO213.out).2.2 | (with_reducible refine Kd.C_alloc ?_ _) | (with_reducible refine Kd.C_drewN ?_ _) | (with_reducible refine Kd.C_drew ?_))); (case side2 => exact (Kd.R_reads' HO213.out).2.1); rintro e w' ⟨rfl, ⟨nd, rfl⟩⟩; refine ⟨_, rfl, ?_⟩) | ((with_reducible refine gate_callee (f := 11) rfl ?_); refine goesL_ (some 48) rfl rfl Try.func11 (by kernel_rfl) rfl #[.int .i64 t210, .slice Ao10 t211.length co10] rfl (by (try simp only [List.map_toArray, List.map_cons, List.map_nil]); first | done | rfl | (simp only [List.length_drop, List.length_take]; rfl)) ?_; (with_reducible refine (spec_CompleteSum.calls k t210 _ _ t211 t216 t217 _ ?side1 ?side2 A7.out).mono ?_); (case side1 => repeat (first | exact (Kd.R_reads' HO213.out).2.2 | (with_reducible refine Kd.C_alloc ?_ _) | (with_reducible refine Kd.C_drewN ?_ _) | (with_reducible refine Kd.C_drew ?_))); (case side2 => exact (Kd.R_reads' HO213.out).2.1); rintro e w11 ⟨rfl, hb⟩; refine ⟨_, rfl, ?_⟩; have n0_ := Aside0.mk (Kd.R_below (by (with_reducible repeat (first | apply Kd.R_alloc | apply Kd.R_drewN | apply Kd.R_drew)); exact HO213.out) hb); have n1_ := Aside0.mk (below_step (by repeat (first | (with_reducible first | exact HB.out | apply below_alloc | apply pw_below_drewN | apply below_drew1) | exact HB.out)) hb); clear HO213; clear HB; have HO213 := n0_; have HB := n1_; clear n0_ n1_; (try clear hb); (try clear hb2); (try clear hk); (try clear hi)))
    (try simp only [Act.put, List.setIfInBounds_toArray, List.set_cons_zero, List.set_cons_succ])
    go_cut [58] (fun v58 wc => ∃ (kq : Nat) (x58_7 : Bool), v58 = .bool x58_7 ∧ Aside0 (laws_FnNewtonsSums.j0 kq l1 t210 t211 t214 t217 x58_7 = some r) ∧ Aside0 (kq ≤ k) ∧ Aside0 (Kd.R (Kd.int .i64) 3 wc w.heap.size (fun _ => True) (.slice Ao10 t211.length co10) t211) ∧ Aside0 (Below w.heap.size w wc))
    case first =>
      have H := HC8.out
      clear HC8
      by_cases c12 : (t215 != t217) = true
      · rw [if_pos c12] at H
        have c12b0 : (t215 != t217) = true := c12
        (try (have c12b1 : decide (t215 = t217) = false := by simpa using c12))
        (try (have c12b2 : (t215 == t217) = false := by simpa using c12))
        (try (have c12b3 : ¬ (t215 = t217) := by simpa using c12))
        clear c12
        (first | rw [c12b0] | (simp only [i64_w, i32_w]; rw [c12b0]) | skip)
        have H' := Aside0.mk H
        clear H
        go_wp2
        go_meet
        case rel => exact ⟨_, (true), (by first | rfl | (simp; done) | (simp [*]; done)), H', ⟨by first | omega | exact Nat.le_refl _⟩, ⟨by (with_reducible repeat (first | apply Kd.R_alloc | apply Kd.R_drewN | apply Kd.R_drew)); exact HO213.out⟩, ⟨by repeat (first | (with_reducible first | exact HB.out | apply below_alloc | apply pw_below_drewN | apply below_drew1) | exact HB.out)⟩⟩
      · rw [if_neg c12] at H
        have c12b0 : (t215 != t217) = false := by simpa using c12
        (try (have c12b1 : decide (t215 = t217) = true := by simpa using c12))
        (try (have c12b2 : (t215 == t217) = true := by simpa using c12))
        clear c12
        (first | rw [c12b0] | (simp only [i64_w, i32_w]; rw [c12b0]) | skip)
        have H' := Aside0.mk H
        clear H
        go_wp2
        go_meet
        case rel => exact ⟨_, ((t214 != t216)), (by first | rfl | (simp; done) | (simp [*]; done)), H', ⟨by first | omega | exact Nat.le_refl _⟩, ⟨by (with_reducible repeat (first | apply Kd.R_alloc | apply Kd.R_drewN | apply Kd.R_drew)); exact HO213.out⟩, ⟨by repeat (first | (with_reducible first | exact HB.out | apply below_alloc | apply pw_below_drewN | apply below_drew1) | exact HB.out)⟩⟩
    case rest =>
      clear HC8
      try clear c1
      try clear p2
      try clear c3
      try clear c4
      try clear c8
      try clear c9
      try clear c10
      try clear c11
      try clear c12
      try clear c12b0
      try clear c12b1
      try clear c12b2
      obtain ⟨kq, x58_7, rfl, HA, HJ7, HO_6, HB⟩ := hcut
      cases kq with
      | zero => exact absurd HA.out (by simp [laws_FnNewtonsSums.j0])
      | succ kj7 =>
        have H := HA.out
        clear HA
        simp only [laws_FnNewtonsSums.j0] at H
        by_cases c13 : x58_7 = true
        · subst c13
          have H1 : (some false) = some r := by rw [if_pos rfl] at H; exact H
          clear H
          have H := H1
          clear H1
          obtain rfl := Option.some.inj H
          go_wp2
          go_ret
          exact ⟨by first | rfl | (simp [errW_none, errW_some] <;> rfl) | (simp [*, errW_none, errW_some] <;> rfl), by repeat (first | (with_reducible first | exact HB.out | apply below_alloc | apply pw_below_drewN | apply below_drew1) | exact HB.out)⟩
        · replace c13 := Bool.eq_false_iff.mpr c13
          subst c13
          have H1 : ((spec_DrawPowerSum.f kj7 l1).bind fun bt218 => ((impl_PowerSum.f kj7 bt218.1 bt218.2).bind fun bt222 => ((spec_PowerSum.f kj7 bt218.1 bt218.2).bind fun bt224 => ((impl_ElementarySum.f kj7 bt218.1 bt218.2).bind fun bt226 => ((spec_ElementarySum.f kj7 bt218.1 bt218.2).bind fun bt228 => (if (bt222.2 != bt224.2) = true then (laws_FnNewtonsSums.j1 kj7 t210 t211 t214 t217 true) else (if bt222.1 = bt224.1 then (if (bt226.2 != bt228.2) = true then (laws_FnNewtonsSums.j1 kj7 t210 t211 t214 t217 true) else (laws_FnNewtonsSums.j1 kj7 t210 t211 t214 t217 (bt226.1 != bt228.1))) else (laws_FnNewtonsSums.j1 kj7 t210 t211 t214 t217 true)))))))) = some r := by rw [if_neg (show ¬ (false = true) by decide)] at H; exact H
          clear H
          have H := H1
          clear H1
          replace H := Option.bind_eq_some_iff.mp H
          obtain ⟨⟨t218, t219⟩, A140, H⟩ := H
          replace H : ((impl_PowerSum.f kj7 t218 t219).bind fun bt222 => ((spec_PowerSum.f kj7 t218 t219).bind fun bt224 => ((impl_ElementarySum.f kj7 t218 t219).bind fun bt226 => ((spec_ElementarySum.f kj7 t218 t219).bind fun bt228 => (if (bt222.2 != bt224.2) = true then (laws_FnNewtonsSums.j1 kj7 t210 t211 t214 t217 true) else (if bt222.1 = bt224.1 then (if (bt226.2 != bt228.2) = true then (laws_FnNewtonsSums.j1 kj7 t210 t211 t214 t217 true) else (laws_FnNewtonsSums.j1 kj7 t210 t211 t214 t217 (bt226.1 != bt228.1))) else (laws_FnNewtonsSums.j1 kj7 t210 t211 t214 t217 true))))))) = some r := H
          have A14 := Aside0.mk A140
          clear A140
          replace H := Option.bind_eq_some_iff.mp H
          obtain ⟨⟨t222, t223⟩, A150, H⟩ := H
          replace H : ((spec_PowerSum.f kj7 t218 t219).bind fun bt224 => ((impl_ElementarySum.f kj7 t218 t219).bind fun bt226 => ((spec_ElementarySum.f kj7 t218 t219).bind fun bt228 => (if (t223 != bt224.2) = true then (laws_FnNewtonsSums.j1 kj7 t210 t211 t214 t217 true) else (if t222 = bt224.1 then (if (bt226.2 != bt228.2) = true then (laws_FnNewtonsSums.j1 kj7 t210 t211 t214 t217 true) else (laws_FnNewtonsSums.j1 kj7 t210 t211 t214 t217 (bt226.1 != bt228.1))) else (laws_FnNewtonsSums.j1 kj7 t210 t211 t214 t217 true)))))) = some r := H
          have A15 := Aside0.mk A150
          clear A150
          replace H := Option.bind_eq_some_iff.mp H
          obtain ⟨⟨t224, t225⟩, A160, H⟩ := H
          replace H : ((impl_ElementarySum.f kj7 t218 t219).bind fun bt226 => ((spec_ElementarySum.f kj7 t218 t219).bind fun bt228 => (if (t223 != t225) = true then (laws_FnNewtonsSums.j1 kj7 t210 t211 t214 t217 true) else (if t222 = t224 then (if (bt226.2 != bt228.2) = true then (laws_FnNewtonsSums.j1 kj7 t210 t211 t214 t217 true) else (laws_FnNewtonsSums.j1 kj7 t210 t211 t214 t217 (bt226.1 != bt228.1))) else (laws_FnNewtonsSums.j1 kj7 t210 t211 t214 t217 true))))) = some r := H
          have A16 := Aside0.mk A160
          clear A160
          replace H := Option.bind_eq_some_iff.mp H
          obtain ⟨⟨t226, t227⟩, A170, H⟩ := H
          replace H : ((spec_ElementarySum.f kj7 t218 t219).bind fun bt228 => (if (t223 != t225) = true then (laws_FnNewtonsSums.j1 kj7 t210 t211 t214 t217 true) else (if t222 = t224 then (if (t227 != bt228.2) = true then (laws_FnNewtonsSums.j1 kj7 t210 t211 t214 t217 true) else (laws_FnNewtonsSums.j1 kj7 t210 t211 t214 t217 (t226 != bt228.1))) else (laws_FnNewtonsSums.j1 kj7 t210 t211 t214 t217 true)))) = some r := H
          have A17 := Aside0.mk A170
          clear A170
          replace H := Option.bind_eq_some_iff.mp H
          obtain ⟨⟨t228, t229⟩, A180, H⟩ := H
          replace H : (if (t223 != t225) = true then (laws_FnNewtonsSums.j1 kj7 t210 t211 t214 t217 true) else (if t222 = t224 then (if (t227 != t229) = true then (laws_FnNewtonsSums.j1 kj7 t210 t211 t214 t217 true) else (laws_FnNewtonsSums.j1 kj7 t210 t211 t214 t217 (t226 != t228))) else (laws_FnNewtonsSums.j1 kj7 t210 t211 t214 t217 true))) = some r := H
          have A18 := Aside0.mk A180
          clear A180
          have HC19 := Aside0.mk H
          clear H
          go_upto_region 13 with (first | ((with_reducible refine gate_callee (f := 12) rfl ?_); refine goesL_ (some 61) rfl rfl Try.func12 (by kernel_rfl) rfl #[.slice A1 l1.length c1] rfl (by (try simp only [List.map_toArray, List.map_cons, List.map_nil]); first | done | rfl | (simp only [List.length_drop, List.length_take]; rfl)) ?_; (with_reducible refine (spec_DrawPowerSum.calls kj7 _ _ l1 t218 t219 _ ?side1 ?side2 A14.out).mono ?_); (case side1 => repeat (first | exact (Kd.C_below HR1.out HB.out) | (with_reducible refine Kd.C_alloc ?_ _) | (with_reducible refine Kd.C_drewN ?_ _) | (with_reducible refine Kd.C_drew ?_))); (case side2 => exact HC1.out); rintro e w20 ⟨v220, rfl, ho0, hb⟩; refine ⟨_, rfl, ?_⟩; have n0_ := Aside0.mk (Kd.R_elder' (by (with_reducible repeat (first | apply Kd.R_alloc | apply Kd.R_drewN | apply Kd.R_drew)); exact HO_6.out) (Kd.R_base ho0) hb); have n1_ := Aside0.mk (Kd.R_lower (Kd.R_new' ho0 (Kd.R_lt (by (with_reducible repeat (first | apply Kd.R_alloc | apply Kd.R_drewN | apply Kd.R_drew)); exact HO_6.out))) (below_size (by repeat (first | (with_reducible first | exact HB.out | apply below_alloc | apply pw_below_drewN | apply below_drew1) | exact HB.out)))); have n2_ := Aside0.mk (below_step (by repeat (first | (with_reducible first | exact HB.out | apply below_alloc | apply pw_below_drewN | apply below_drew1) | exact HB.out)) hb); clear HO_6; clear HB; have HO_6 := n0_; have HO221 := n1_; have HB := n2_; clear n0_ n1_ n2_; (try clear hb); (try clear hb2); (try clear hk); (try clear hi); (try clear ho0); obtain ⟨Ao21, co21, eo21⟩ := Kd.R_slice HO221.out; subst eo21) | ((with_reducible refine gate_callee (f := 13) rfl ?_); refine goesL_ (some 67) rfl rfl Try.func13 (by kernel_rfl) rfl #[.int .i64 t218, .slice Ao21 t219.length co21] rfl (by (try simp only [List.map_toArray, List.map_cons, List.map_nil]); first | done | rfl | (simp only [List.length_drop, List.length_take]; rfl)) ?_; (with_reducible refine (impl_PowerSum.calls kj7 t218 _ _ t219 t222 t223 _ ?side1 ?side2 A15.out).mono ?_); (case side1 => repeat (first | exact (Kd.R_reads' HO221.out).2.2 | (with_reducible refine Kd.C_alloc ?_ _) | (with_reducible refine Kd.C_drewN ?_ _) | (with_reducible refine Kd.C_drew ?_))); (case side2 => exact (Kd.R_reads' HO221.out).2.1); rintro e w' ⟨rfl, ⟨nd, rfl⟩⟩; refine ⟨_, rfl, ?_⟩) | ((with_reducible refine gate_callee (f := 14) rfl ?_); refine goesL_ (some 73) rfl rfl Try.func14 (by kernel_rfl) rfl #[.int .i64 t218, .slice Ao21 t219.length co21] rfl (by (try simp only [List.map_toArray, List.map_cons, List.map_nil]); first | done | rfl | (simp only [List.length_drop, List.length_take]; rfl)) ?_; (with_reducible refine (spec_PowerSum.calls kj7 t218 _ _ t219 t224 t225 _ ?side1 ?side2 A16.out).mono ?_); (case side1 => repeat (first | exact (Kd.R_reads' HO221.out).2.2 | (with_reducible refine Kd.C_alloc ?_ _) | (with_reducible refine Kd.C_drewN ?_ _) | (with_reducible refine Kd.C_drew ?_))); (case side2 => exact (Kd.R_reads' HO221.out).2.1); rintro e w' ⟨rfl, ⟨nd, rfl⟩⟩; refine ⟨_, rfl, ?_⟩) | ((with_reducible refine gate_callee (f := 15) rfl ?_); refine goesL_ (some 79) rfl rfl Try.func15 (by kernel_rfl) rfl #[.int .i64 t218, .slice Ao21 t219.length co21] rfl (by (try simp only [List.map_toArray, List.map_cons, List.map_nil]); first | done | rfl | (simp only [List.length_drop, List.length_take]; rfl)) ?_; (with_reducible refine (impl_ElementarySum.calls kj7 t218 _ _ t219 t226 t227 _ ?side1 ?side2 A17.out).mono ?_); (case side1 => repeat (first | exact (Kd.R_reads' HO221.out).2.2 | (with_reducible refine Kd.C_alloc ?_ _) | (with_reducible refine Kd.C_drewN ?_ _) | (with_reducible refine Kd.C_drew ?_))); (case side2 => exact (Kd.R_reads' HO221.out).2.1); rintro e w' ⟨rfl, ⟨nd, rfl⟩⟩; refine ⟨_, rfl, ?_⟩) | ((with_reducible refine gate_callee (f := 16) rfl ?_); refine goesL_ (some 85) rfl rfl Try.func16 (by kernel_rfl) rfl #[.int .i64 t218, .slice Ao21 t219.length co21] rfl (by (try simp only [List.map_toArray, List.map_cons, List.map_nil]); first | done | rfl | (simp only [List.length_drop, List.length_take]; rfl)) ?_; (with_reducible refine (spec_ElementarySum.calls kj7 t218 _ _ t219 t228 t229 _ ?side1 ?side2 A18.out).mono ?_); (case side1 => repeat (first | exact (Kd.R_reads' HO221.out).2.2 | (with_reducible refine Kd.C_alloc ?_ _) | (with_reducible refine Kd.C_drewN ?_ _) | (with_reducible refine Kd.C_drew ?_))); (case side2 => exact (Kd.R_reads' HO221.out).2.1); rintro e w22 ⟨rfl, hb⟩; refine ⟨_, rfl, ?_⟩; have n0_ := Aside0.mk (Kd.R_below (by (with_reducible repeat (first | apply Kd.R_alloc | apply Kd.R_drewN | apply Kd.R_drew)); exact HO_6.out) hb); have n1_ := Aside0.mk (Kd.R_below (by (with_reducible repeat (first | apply Kd.R_alloc | apply Kd.R_drewN | apply Kd.R_drew)); exact HO221.out) hb); have n2_ := Aside0.mk (below_step (by repeat (first | (with_reducible first | exact HB.out | apply below_alloc | apply pw_below_drewN | apply below_drew1) | exact HB.out)) hb); clear HO_6; clear HO221; clear HB; have HO_6 := n0_; have HO221 := n1_; have HB := n2_; clear n0_ n1_ n2_; (try clear hb); (try clear hb2); (try clear hk); (try clear hi)))
          (try simp only [Act.put, List.setIfInBounds_toArray, List.set_cons_zero, List.set_cons_succ])
          go_cut [105] (fun v105 wc => ∃ (kq : Nat) (x105_18 : Bool), v105 = .bool x105_18 ∧ Aside0 (laws_FnNewtonsSums.j1 kq t210 t211 t214 t217 x105_18 = some r) ∧ Aside0 (kq ≤ kj7) ∧ Aside0 (Kd.R (Kd.int .i64) 3 wc w.heap.size (fun _ => True) (.slice Ao10 t211.length co10) t211) ∧ Aside0 (Below w.heap.size w wc))
          case first =>
            have H := HC19.out
            clear HC19
            by_cases c23 : (t223 != t225) = true
            · rw [if_pos c23] at H
              have c23b0 : (t223 != t225) = true := c23
              (try (have c23b1 : decide (t223 = t225) = false := by simpa using c23))
              (try (have c23b2 : (t223 == t225) = false := by simpa using c23))
              (try (have c23b3 : ¬ (t223 = t225) := by simpa using c23))
              clear c23
              (first | rw [c23b0] | (simp only [i64_w, i32_w]; rw [c23b0]) | skip)
              have H' := Aside0.mk H
              clear H
              go_wp2
              go_meet
              case rel => exact ⟨_, (true), (by first | rfl | (simp; done) | (simp [*]; done)), H', ⟨by have := HJ7.out; first | omega | exact Nat.le_refl _⟩, ⟨by (with_reducible repeat (first | apply Kd.R_alloc | apply Kd.R_drewN | apply Kd.R_drew)); exact Kd.R_mono HO_6.out (fun _ hk => trivial)⟩, ⟨by repeat (first | (with_reducible first | exact HB.out | apply below_alloc | apply pw_below_drewN | apply below_drew1) | exact HB.out)⟩⟩
            · rw [if_neg c23] at H
              have c23b0 : (t223 != t225) = false := by simpa using c23
              (try (have c23b1 : decide (t223 = t225) = true := by simpa using c23))
              (try (have c23b2 : (t223 == t225) = true := by simpa using c23))
              clear c23
              (first | rw [c23b0] | (simp only [i64_w, i32_w]; rw [c23b0]) | skip)
              by_cases c24 : t222 = t224
              · rw [if_pos c24] at H
                have c24b0 : (t222 == t224) = true := beq_iff_eq.mpr c24
                have c24b1 : (t222 != t224) = false := bne_eq_false_iff_eq.mpr c24
                clear c24
                by_cases c25 : (t227 != t229) = true
                · rw [if_pos c25] at H
                  have c25b0 : (t227 != t229) = true := c25
                  (try (have c25b1 : decide (t227 = t229) = false := by simpa using c25))
                  (try (have c25b2 : (t227 == t229) = false := by simpa using c25))
                  (try (have c25b3 : ¬ (t227 = t229) := by simpa using c25))
                  clear c25
                  have H' := Aside0.mk H
                  clear H
                  go_wp2
                  go_meet
                  case rel => exact ⟨_, (true), (by first | rfl | (simp; done) | (simp [*]; done)), H', ⟨by have := HJ7.out; first | omega | exact Nat.le_refl _⟩, ⟨by (with_reducible repeat (first | apply Kd.R_alloc | apply Kd.R_drewN | apply Kd.R_drew)); exact Kd.R_mono HO_6.out (fun _ hk => trivial)⟩, ⟨by repeat (first | (with_reducible first | exact HB.out | apply below_alloc | apply pw_below_drewN | apply below_drew1) | exact HB.out)⟩⟩
                · rw [if_neg c25] at H
                  have c25b0 : (t227 != t229) = false := by simpa using c25
                  (try (have c25b1 : decide (t227 = t229) = true := by simpa using c25))
                  (try (have c25b2 : (t227 == t229) = true := by simpa using c25))
                  clear c25
                  have H' := Aside0.mk H
                  clear H
                  go_wp2
                  go_meet
                  case rel => exact ⟨_, ((t226 != t228)), (by first | rfl | (simp; done) | (simp [*]; done)), H', ⟨by have := HJ7.out; first | omega | exact Nat.le_refl _⟩, ⟨by (with_reducible repeat (first | apply Kd.R_alloc | apply Kd.R_drewN | apply Kd.R_drew)); exact Kd.R_mono HO_6.out (fun _ hk => trivial)⟩, ⟨by repeat (first | (with_reducible first | exact HB.out | apply below_alloc | apply pw_below_drewN | apply below_drew1) | exact HB.out)⟩⟩
              · rw [if_neg c24] at H
                have c24b0 : (t222 == t224) = false := beq_eq_false_iff_ne.mpr c24
                have c24b1 : (t222 != t224) = true := bne_iff_ne.mpr c24
                have H' := Aside0.mk H
                clear H
                go_wp2
                go_meet
                case rel => exact ⟨_, (true), (by first | rfl | (simp; done) | (simp [*]; done)), H', ⟨by have := HJ7.out; first | omega | exact Nat.le_refl _⟩, ⟨by (with_reducible repeat (first | apply Kd.R_alloc | apply Kd.R_drewN | apply Kd.R_drew)); exact Kd.R_mono HO_6.out (fun _ hk => trivial)⟩, ⟨by repeat (first | (with_reducible first | exact HB.out | apply below_alloc | apply pw_below_drewN | apply below_drew1) | exact HB.out)⟩⟩
          case rest =>
            clear HC19
            try clear c1
            try clear c2
            try clear p2
            try clear c3
            try clear c4
            try clear c8
            try clear c9
            try clear c10
            try clear c11
            try clear c12
            try clear c12b0
            try clear c12b1
            try clear c12b2
            try clear c13
            try clear c14
            try clear c15
            try clear c16
            try clear c23
            try clear c23b0
            try clear c23b1
            try clear c23b2
            try clear c24
            try clear c24b0
            try clear c24b1
            try clear c25
            try clear c25b0
            try clear c25b1
            try clear c25b2
            try clear p2
            obtain ⟨kq, x105_18, rfl, HA, HJ18, HO_6, HB⟩ := hcut
            cases kq with
            | zero => exact absurd HA.out (by simp [laws_FnNewtonsSums.j1])
            | succ kj18 =>
              have H := HA.out
              clear HA
              simp only [laws_FnNewtonsSums.j1] at H
              by_cases c26 : x105_18 = true
              · subst c26
                have H1 : (some false) = some r := by rw [if_pos rfl] at H; exact H
                clear H
                have H := H1
                clear H1
                obtain rfl := Option.some.inj H
                go_wp2
                go_ret
                exact ⟨by first | rfl | (simp [errW_none, errW_some] <;> rfl) | (simp [*, errW_none, errW_some] <;> rfl), by repeat (first | (with_reducible first | exact HB.out | apply below_alloc | apply pw_below_drewN | apply below_drew1) | exact HB.out)⟩
              · replace c26 := Bool.eq_false_iff.mpr c26
                subst c26
                have H1 : (if t217 = true then (laws_FnNewtonsSums.j2 kj18 t210 t211 t214 t217 (t210 == 0)) else (laws_FnNewtonsSums.j2 kj18 t210 t211 t214 t217 true)) = some r := by rw [if_neg (show ¬ (false = true) by decide)] at H; exact H
                clear H
                have H := H1
                clear H1
                have HC27 := Aside0.mk H
                clear H
                go_upto_region 15 with (fail)
                go_cut [111] (fun v111 wc => ∃ (kq : Nat) (x111_26 : Bool), v111 = .bool x111_26 ∧ Aside0 (laws_FnNewtonsSums.j2 kq t210 t211 t214 t217 x111_26 = some r) ∧ Aside0 (kq ≤ kj18) ∧ Aside0 (Kd.R (Kd.int .i64) 3 wc w.heap.size (fun _ => True) (.slice Ao10 t211.length co10) t211) ∧ Aside0 (Below w.heap.size w wc))
                case first =>
                  have H := HC27.out
                  clear HC27
                  by_cases c28 : t217 = true
                  · subst c28
                    have H1 : (laws_FnNewtonsSums.j2 kj18 t210 t211 t214 true (t210 == 0)) = some r := by rw [if_pos rfl] at H; exact H
                    clear H
                    have H := H1
                    clear H1
                    have H' := Aside0.mk H
                    clear H
                    go_wp2
                    go_meet
                    case rel => exact ⟨_, ((t210 == 0)), (by first | rfl | (simp; done) | (simp [*]; done)), H', ⟨by have := HJ7.out; have := HJ18.out; first | omega | exact Nat.le_refl _⟩, ⟨by (with_reducible repeat (first | apply Kd.R_alloc | apply Kd.R_drewN | apply Kd.R_drew)); exact HO_6.out⟩, ⟨by repeat (first | (with_reducible first | exact HB.out | apply below_alloc | apply pw_below_drewN | apply below_drew1) | exact HB.out)⟩⟩
                  · replace c28 := Bool.eq_false_iff.mpr c28
                    subst c28
                    have H1 : (laws_FnNewtonsSums.j2 kj18 t210 t211 t214 false true) = some r := by rw [if_neg (show ¬ (false = true) by decide)] at H; exact H
                    clear H
                    have H := H1
                    clear H1
                    have H' := Aside0.mk H
                    clear H
                    go_wp2
                    go_meet
                    case rel => exact ⟨_, (true), (by first | rfl | (simp; done) | (simp [*]; done)), H', ⟨by have := HJ7.out; have := HJ18.out; first | omega | exact Nat.le_refl _⟩, ⟨by (with_reducible repeat (first | apply Kd.R_alloc | apply Kd.R_drewN | apply Kd.R_drew)); exact HO_6.out⟩, ⟨by repeat (first | (with_reducible first | exact HB.out | apply below_alloc | apply pw_below_drewN | apply below_drew1) | exact HB.out)⟩⟩
                case rest =>
                  clear HC27
                  try clear c1
                  try clear c2
                  try clear p2
                  try clear c3
                  try clear c4
                  try clear c8
                  try clear c9
                  try clear c10
                  try clear c11
                  try clear c12
                  try clear c12b0
                  try clear c12b1
                  try clear c12b2
                  try clear c13
                  try clear c14
                  try clear c15
                  try clear c16
                  try clear c23
                  try clear c23b0
                  try clear c23b1
                  try clear c23b2
                  try clear c24
                  try clear c24b0
                  try clear c24b1
                  try clear c25
                  try clear c25b0
                  try clear c25b1
                  try clear c25b2
                  try clear c26
                  try clear c28
                  try clear p2
                  obtain ⟨kq, x111_26, rfl, HA, HJ26, HO_6, HB⟩ := hcut
                  cases kq with
                  | zero => exact absurd HA.out (by simp [laws_FnNewtonsSums.j2])
                  | succ kj26 =>
                    have H := HA.out
                    clear HA
                    simp only [laws_FnNewtonsSums.j2] at H
                    by_cases c29 : x111_26 = true
                    · subst c29
                      have H1 : (if t217 = true then (some (t214 == 1)) else (some true)) = some r := by rw [if_pos rfl] at H; exact H
                      clear H
                      have H := H1
                      clear H1
                      by_cases c30 : t217 = true
                      · subst c30
                        have H1 : (some (t214 == 1)) = some r := by rw [if_pos rfl] at H; exact H
                        clear H
                        have H := H1
                        clear H1
                        obtain rfl := Option.some.inj H
                        go_wp2
                        go_ret
                        exact ⟨by first | rfl | (simp [errW_none, errW_some] <;> rfl) | (simp [*, errW_none, errW_some] <;> rfl), by repeat (first | (with_reducible first | exact HB.out | apply below_alloc | apply pw_below_drewN | apply below_drew1) | exact HB.out)⟩
                      · replace c30 := Bool.eq_false_iff.mpr c30
                        subst c30
                        have H1 : (some true) = some r := by rw [if_neg (show ¬ (false = true) by decide)] at H; exact H
                        clear H
                        have H := H1
                        clear H1
                        obtain rfl := Option.some.inj H
                        go_wp2
                        go_ret
                        exact ⟨by first | rfl | (simp [errW_none, errW_some] <;> rfl) | (simp [*, errW_none, errW_some] <;> rfl), by repeat (first | (with_reducible first | exact HB.out | apply below_alloc | apply pw_below_drewN | apply below_drew1) | exact HB.out)⟩
                    · replace c29 := Bool.eq_false_iff.mpr c29
                      subst c29
                      have H1 : (laws_FnNewtonsSums.l0 kj26 t210 t211 t214 0 0 1 0) = some r := by rw [if_neg (show ¬ (false = true) by decide)] at H; exact H
                      clear H
                      have H := H1
                      clear H1
                      have H' := Aside0.mk H
                      clear H
                      go_wp2
                      go_loopg [21, 22, 23, 24] kj26 (fun kq v21 v22 v23 v24 w' => ∃ (x21_4 : Int) (x22_4 : Int) (x23_4 : Int) (x24_4 : Int), v21 = .int .i64 x21_4 ∧ v22 = .int .i64 x22_4 ∧ v23 = .int .i64 x23_4 ∧ v24 = .int .i64 x24_4 ∧ Aside0 (laws_FnNewtonsSums.l0 kq t210 t211 t214 x21_4 x22_4 x23_4 x24_4 = some r) ∧ Aside0 (kq ≤ kj26) ∧ Aside0 (Kd.R (Kd.int .i64) 3 w' w.heap.size (fun _ => True) (.slice Ao10 t211.length co10) t211) ∧ Aside0 (Below w.heap.size w w'))
                      case atStart => exact ⟨(0), (0), (1), (0), (by first | rfl | (simp; done) | (simp [*]; done)), (by first | rfl | (simp; done) | (simp [*]; done)), (by first | rfl | (simp; done) | (simp [*]; done)), (by first | rfl | (simp; done) | (simp [*]; done)), H', ⟨Nat.le_refl _⟩, ⟨by (with_reducible repeat (first | apply Kd.R_alloc | apply Kd.R_drewN | apply Kd.R_drew)); exact HO_6.out⟩, ⟨by repeat (first | (with_reducible first | exact HB.out | apply below_alloc | apply pw_below_drewN | apply below_drew1) | exact HB.out)⟩⟩
                      case round =>
                        clear H'
                        try clear c1
                        try clear c2
                        try clear p2
                        try clear c3
                        try clear c4
                        try clear c8
                        try clear c9
                        try clear c10
                        try clear c11
                        try clear c12
                        try clear c12b0
                        try clear c12b1
                        try clear c12b2
                        try clear c13
                        try clear c14
                        try clear c15
                        try clear c16
                        try clear c23
                        try clear c23b0
                        try clear c23b1
                        try clear c23b2
                        try clear c24
                        try clear c24b0
                        try clear c24b1
                        try clear c25
                        try clear c25b0
                        try clear c25b1
                        try clear c25b2
                        try clear c26
                        try clear c28
                        try clear c29
                        try clear c30
                        try clear p2
                        obtain ⟨x21_4, x22_4, x23_4, x24_4, rfl, rfl, rfl, rfl, HA, HK4, HO_6, HB⟩ := hrel
                        cases gk with
                        | zero => exact absurd HA.out (by simp [laws_FnNewtonsSums.l0])
                        | succ k4 =>
                          have H := HA.out
                          clear HA
                          simp only [laws_FnNewtonsSums.l0] at H
                          by_cases c31 : x24_4 ≤ t210
                          · rw [if_pos c31] at H
                            have c31b0 : decide (x24_4 ≤ t210) = true := decide_eq_true c31
                            clear c31
                            replace H := Option.bind_eq_some_iff.mp H
                            obtain ⟨⟨t230, t231⟩, A320, H⟩ := H
                            replace H : ((impl_PowerSum.f k4 x24_4 t211).bind fun bt232 => (if t231 = true then (laws_FnNewtonsSums.j4 k4 t210 t211 t214 x21_4 x22_4 x23_4 x24_4 t230 bt232.1 (!bt232.2)) else (laws_FnNewtonsSums.j4 k4 t210 t211 t214 x21_4 x22_4 x23_4 x24_4 t230 bt232.1 true))) = some r := H
                            have A32 := Aside0.mk A320
                            clear A320
                            replace H := Option.bind_eq_some_iff.mp H
                            obtain ⟨⟨t232, t233⟩, A330, H⟩ := H
                            replace H : (if t231 = true then (laws_FnNewtonsSums.j4 k4 t210 t211 t214 x21_4 x22_4 x23_4 x24_4 t230 t232 (!t233)) else (laws_FnNewtonsSums.j4 k4 t210 t211 t214 x21_4 x22_4 x23_4 x24_4 t230 t232 true)) = some r := H
                            have A33 := Aside0.mk A330
                            clear A330
                            have HC34 := Aside0.mk H
                            clear H
                            go_upto_region 23 with (first | ((with_reducible refine gate_callee (f := 10) rfl ?_); refine goesL_ (some 128) rfl rfl Try.func10 (by kernel_rfl) rfl #[.int .i64 (wrap64 (t210 - x24_4)), .slice Ao10 t211.length co10] rfl (by (try simp only [List.map_toArray, List.map_cons, List.map_nil]); first | done | rfl | (simp only [List.length_drop, List.length_take]; rfl)) ?_; (with_reducible refine (impl_CompleteSum.calls k4 (wrap64 (t210 - x24_4)) _ _ t211 t230 t231 _ ?side1 ?side2 A32.out).mono ?_); (case side1 => repeat (first | exact (Kd.R_reads' HO_6.out).2.2 | (with_reducible refine Kd.C_alloc ?_ _) | (with_reducible refine Kd.C_drewN ?_ _) | (with_reducible refine Kd.C_drew ?_))); (case side2 => exact (Kd.R_reads' HO_6.out).2.1); rintro e w' ⟨rfl, ⟨nd, rfl⟩⟩; refine ⟨_, rfl, ?_⟩) | ((with_reducible refine gate_callee (f := 13) rfl ?_); refine goesL_ (some 134) rfl rfl Try.func13 (by kernel_rfl) rfl #[.int .i64 x24_4, .slice Ao10 t211.length co10] rfl (by (try simp only [List.map_toArray, List.map_cons, List.map_nil]); first | done | rfl | (simp only [List.length_drop, List.length_take]; rfl)) ?_; (with_reducible refine (impl_PowerSum.calls k4 x24_4 _ _ t211 t232 t233 _ ?side1 ?side2 A33.out).mono ?_); (case side1 => repeat (first | exact (Kd.R_reads' HO_6.out).2.2 | (with_reducible refine Kd.C_alloc ?_ _) | (with_reducible refine Kd.C_drewN ?_ _) | (with_reducible refine Kd.C_drew ?_))); (case side2 => exact (Kd.R_reads' HO_6.out).2.1); rintro e w' ⟨rfl, ⟨nd, rfl⟩⟩; refine ⟨_, rfl, ?_⟩))
                            (try simp only [Act.put, List.setIfInBounds_toArray, List.set_cons_zero, List.set_cons_succ])
                            go_cut [142] (fun v142 wc => ∃ (kq : Nat) (x142_33 : Bool), v142 = .bool x142_33 ∧ Aside0 (laws_FnNewtonsSums.j4 kq t210 t211 t214 x21_4 x22_4 x23_4 x24_4 t230 t232 x142_33 = some r) ∧ Aside0 (kq ≤ k4) ∧ Aside0 (Kd.R (Kd.int .i64) 3 wc w.heap.size (fun _ => True) (.slice Ao10 t211.length co10) t211) ∧ Aside0 (Below w.heap.size w wc))
                            case first =>
                              have H := HC34.out
                              clear HC34
                              by_cases c35 : t231 = true
                              · subst c35
                                have H1 : (laws_FnNewtonsSums.j4 k4 t210 t211 t214 x21_4 x22_4 x23_4 x24_4 t230 t232 (!t233)) = some r := by rw [if_pos rfl] at H; exact H
                                clear H
                                have H := H1
                                clear H1
                                have H' := Aside0.mk H
                                clear H
                                go_wp2
                                go_meet
                                case rel => exact ⟨_, (!t233), (by first | rfl | (simp; done) | (simp [*]; done)), H', ⟨by have := HJ7.out; have := HJ18.out; have := HJ26.out; have := HK4.out; first | omega | exact Nat.le_refl _⟩, ⟨by (with_reducible repeat (first | apply Kd.R_alloc | apply Kd.R_drewN | apply Kd.R_drew)); exact HO_6.out⟩, ⟨by repeat (first | (with_reducible first | exact HB.out | apply below_alloc | apply pw_below_drewN | apply below_drew1) | exact HB.out)⟩⟩
                              · replace c35 := Bool.eq_false_iff.mpr c35
                                subst c35
                                have H1 : (laws_FnNewtonsSums.j4 k4 t210 t211 t214 x21_4 x22_4 x23_4 x24_4 t230 t232 true) = some r := by rw [if_neg (show ¬ (false = true) by decide)] at H; exact H
                                clear H
                                have H := H1
                                clear H1
                                have H' := Aside0.mk H
                                clear H
                                go_wp2
                                go_meet
                                case rel => exact ⟨_, (true), (by first | rfl | (simp; done) | (simp [*]; done)), H', ⟨by have := HJ7.out; have := HJ18.out; have := HJ26.out; have := HK4.out; first | omega | exact Nat.le_refl _⟩, ⟨by (with_reducible repeat (first | apply Kd.R_alloc | apply Kd.R_drewN | apply Kd.R_drew)); exact HO_6.out⟩, ⟨by repeat (first | (with_reducible first | exact HB.out | apply below_alloc | apply pw_below_drewN | apply below_drew1) | exact HB.out)⟩⟩
                            case rest =>
                              clear HC34
                              try clear c1
                              try clear c2
                              try clear p2
                              try clear c3
                              try clear c4
                              try clear p6
                              try clear c8
                              try clear c9
                              try clear c10
                              try clear c11
                              try clear c12
                              try clear c12b0
                              try clear c12b1
                              try clear c12b2
                              try clear c13
                              try clear c14
                              try clear c15
                              try clear c16
                              try clear c23
                              try clear c23b0
                              try clear c23b1
                              try clear c23b2
                              try clear c24
                              try clear c24b0
                              try clear c24b1
                              try clear c25
                              try clear c25b0
                              try clear c25b1
                              try clear c25b2
                              try clear c26
                              try clear c28
                              try clear c29
                              try clear c30
                              try clear c31
                              try clear c31b0
                              try clear c35
                              try clear p2
                              obtain ⟨kq, x142_33, rfl, HA, HJ33, HO_6, HB⟩ := hcut
                              cases kq with
                              | zero => exact absurd HA.out (by simp [laws_FnNewtonsSums.j4])
                              | succ kj33 =>
                                have H := HA.out
                                clear HA
                                simp only [laws_FnNewtonsSums.j4] at H
                                by_cases c36 : x142_33 = true
                                · subst c36
                                  have H1 : (some false) = some r := by rw [if_pos rfl] at H; exact H
                                  clear H
                                  have H := H1
                                  clear H1
                                  obtain rfl := Option.some.inj H
                                  go_wp2
                                  go_ret
                                  exact ⟨by first | rfl | (simp [errW_none, errW_some] <;> rfl) | (simp [*, errW_none, errW_some] <;> rfl), by repeat (first | (with_reducible first | exact HB.out | apply below_alloc | apply pw_below_drewN | apply below_drew1) | exact HB.out)⟩
                                · replace c36 := Bool.eq_false_iff.mpr c36
                                  subst c36
                                  have H1 : (if x24_4 > 0 then (laws_FnNewtonsSums.j5 kj33 t210 t211 t214 (wrap64 (x21_4 + (wrap64 (t232 * t230)))) x22_4 x23_4 x24_4 t230) else (laws_FnNewtonsSums.j5 kj33 t210 t211 t214 x21_4 x22_4 x23_4 x24_4 t230)) = some r := by rw [if_neg (show ¬ (false = true) by decide)] at H; exact H
                                  clear H
                                  have H := H1
                                  clear H1
                                  have HC37 := Aside0.mk H
                                  clear H
                                  go_upto_if 144 with (fail)
                                  go_cut [21] (fun v21 wc => ∃ (kq : Nat) (x21_36 : Int), v21 = .int .i64 x21_36 ∧ Aside0 (laws_FnNewtonsSums.j5 kq t210 t211 t214 x21_36 x22_4 x23_4 x24_4 t230 = some r) ∧ Aside0 (kq ≤ kj33) ∧ Aside0 (Kd.R (Kd.int .i64) 3 wc w.heap.size (fun _ => True) (.slice Ao10 t211.length co10) t211) ∧ Aside0 (Below w.heap.size w wc))
                                  case first =>
                                    have H := HC37.out
                                    clear HC37
                                    by_cases c38 : x24_4 > 0
                                    · rw [if_pos c38] at H
                                      have c38b0 : decide (0 < x24_4) = true := decide_eq_true c38
                                      clear c38
                                      (first | rw [c38b0] | (simp only [i64_w, i32_w]; rw [c38b0]) | skip)
                                      have H' := Aside0.mk H
                                      clear H
                                      go_wp2
                                      go_meet
                                      case rel => exact ⟨_, (wrap64 (x21_4 + (wrap64 (t232 * t230)))), (by first | rfl | (simp; done) | (simp [*]; done)), H', ⟨by have := HJ7.out; have := HJ18.out; have := HJ26.out; have := HK4.out; have := HJ33.out; first | omega | exact Nat.le_refl _⟩, ⟨by (with_reducible repeat (first | apply Kd.R_alloc | apply Kd.R_drewN | apply Kd.R_drew)); exact HO_6.out⟩, ⟨by repeat (first | (with_reducible first | exact HB.out | apply below_alloc | apply pw_below_drewN | apply below_drew1) | exact HB.out)⟩⟩
                                    · rw [if_neg c38] at H
                                      have c38b0 : decide (0 < x24_4) = false := decide_eq_false c38
                                      clear c38
                                      (first | rw [c38b0] | (simp only [i64_w, i32_w]; rw [c38b0]) | skip)
                                      have H' := Aside0.mk H
                                      clear H
                                      go_wp2
                                      go_meet
                                      case rel => exact ⟨_, (x21_4), (by first | rfl | (simp; done) | (simp [*]; done)), H', ⟨by have := HJ7.out; have := HJ18.out; have := HJ26.out; have := HK4.out; have := HJ33.out; first | omega | exact Nat.le_refl _⟩, ⟨by (with_reducible repeat (first | apply Kd.R_alloc | apply Kd.R_drewN | apply Kd.R_drew)); exact HO_6.out⟩, ⟨by repeat (first | (with_reducible first | exact HB.out | apply below_alloc | apply pw_below_drewN | apply below_drew1) | exact HB.out)⟩⟩
                                  case rest =>
                                    clear HC37
                                    try clear c1
                                    try clear c2
                                    try clear p2
                                    try clear c3
                                    try clear c4
                                    try clear p6
                                    try clear c8
                                    try clear c9
                                    try clear c10
                                    try clear c11
                                    try clear c12
                                    try clear c12b0
                                    try clear c12b1
                                    try clear c12b2
                                    try clear c13
                                    try clear c14
                                    try clear c15
                                    try clear c16
                                    try clear c23
                                    try clear c23b0
                                    try clear c23b1
                                    try clear c23b2
                                    try clear c24
                                    try clear c24b0
                                    try clear c24b1
                                    try clear c25
                                    try clear c25b0
                                    try clear c25b1
                                    try clear c25b2
                                    try clear c26
                                    try clear c28
                                    try clear c29
                                    try clear c30
                                    try clear c31
                                    try clear c31b0
                                    try clear c35
                                    try clear c36
                                    try clear c38
                                    try clear c38b0
                                    try clear p2
                                    try clear p6
                                    obtain ⟨kq, x21_36, rfl, HA, HJ36, HO_6, HB⟩ := hcut
                                    cases kq with
                                    | zero => exact absurd HA.out (by simp [laws_FnNewtonsSums.j5])
                                    | succ kj36 =>
                                      have H := HA.out
                                      clear HA
                                      simp only [laws_FnNewtonsSums.j5] at H
                                      by_cases c39 : x24_4 ≤ 4
                                      · rw [if_pos c39] at H
                                        have c39b0 : decide (x24_4 ≤ 4) = true := decide_eq_true c39
                                        clear c39
                                        replace H := Option.bind_eq_some_iff.mp H
                                        obtain ⟨⟨t234, t235⟩, A400, H⟩ := H
                                        replace H : (if t235 = true then (laws_FnNewtonsSums.l0 kj36 t210 t211 t214 x21_36 (wrap64 (x22_4 + (wrap64 ((wrap64 (x23_4 * t234)) * t230)))) (wrap64 (-x23_4)) (wrap64 (x24_4 + 1))) else (some false)) = some r := H
                                        have A40 := Aside0.mk A400
                                        clear A400
                                        by_cases c41 : t235 = true
                                        · subst c41
                                          have H1 : (laws_FnNewtonsSums.l0 kj36 t210 t211 t214 x21_36 (wrap64 (x22_4 + (wrap64 ((wrap64 (x23_4 * t234)) * t230)))) (wrap64 (-x23_4)) (wrap64 (x24_4 + 1))) = some r := by rw [if_pos rfl] at H; exact H
                                          clear H
                                          have H := H1
                                          clear H1
                                          have H' := Aside0.mk H
                                          clear H
                                          go_wp2_with (first | ((with_reducible refine gate_callee (f := 15) rfl ?_); refine goesL_ (some 155) rfl rfl Try.func15 (by kernel_rfl) rfl #[.int .i64 x24_4, .slice Ao10 t211.length co10] rfl (by (try simp only [List.map_toArray, List.map_cons, List.map_nil]); first | done | rfl | (simp only [List.length_drop, List.length_take]; rfl)) ?_; (with_reducible refine (impl_ElementarySum.calls kj36 x24_4 _ _ t211 t234 true _ ?side1 ?side2 A40.out).mono ?_); (case side1 => repeat (first | exact (Kd.R_reads' HO_6.out).2.2 | (with_reducible refine Kd.C_alloc ?_ _) | (with_reducible refine Kd.C_drewN ?_ _) | (with_reducible refine Kd.C_drew ?_))); (case side2 => exact (Kd.R_reads' HO_6.out).2.1); rintro e w' ⟨rfl, ⟨nd, rfl⟩⟩; refine ⟨_, rfl, ?_⟩))
                                          go_roundg kj36
                                          case measure => have := HJ7.out; have := HJ18.out; have := HJ26.out; have := HK4.out; have := HJ33.out; have := HJ36.out; omega
                                          case rel => exact ⟨(x21_36), (wrap64 (x22_4 + (wrap64 ((wrap64 (x23_4 * t234)) * t230)))), (wrap64 (-x23_4)), (wrap64 (x24_4 + 1)), (by first | rfl | (simp; done) | (simp [*]; done)), (by first | rfl | (simp; done) | (simp [*]; done)), (by first | rfl | (simp; done) | (simp [*]; done)), (by first | rfl | (simp; done) | (simp [*]; done)), H', ⟨by have := HJ7.out; have := HJ18.out; have := HJ26.out; have := HK4.out; have := HJ33.out; have := HJ36.out; omega⟩, ⟨by (with_reducible repeat (first | apply Kd.R_alloc | apply Kd.R_drewN | apply Kd.R_drew)); exact HO_6.out⟩, ⟨by repeat (first | (with_reducible first | exact HB.out | apply below_alloc | apply pw_below_drewN | apply below_drew1) | exact HB.out)⟩⟩
                                        · replace c41 := Bool.eq_false_iff.mpr c41
                                          subst c41
                                          have H1 : (some false) = some r := by rw [if_neg (show ¬ (false = true) by decide)] at H; exact H
                                          clear H
                                          have H := H1
                                          clear H1
                                          obtain rfl := Option.some.inj H
                                          go_wp2_with (first | ((with_reducible refine gate_callee (f := 15) rfl ?_); refine goesL_ (some 155) rfl rfl Try.func15 (by kernel_rfl) rfl #[.int .i64 x24_4, .slice Ao10 t211.length co10] rfl (by (try simp only [List.map_toArray, List.map_cons, List.map_nil]); first | done | rfl | (simp only [List.length_drop, List.length_take]; rfl)) ?_; (with_reducible refine (impl_ElementarySum.calls kj36 x24_4 _ _ t211 t234 false _ ?side1 ?side2 A40.out).mono ?_); (case side1 => repeat (first | exact (Kd.R_reads' HO_6.out).2.2 | (with_reducible refine Kd.C_alloc ?_ _) | (with_reducible refine Kd.C_drewN ?_ _) | (with_reducible refine Kd.C_drew ?_))); (case side2 => exact (Kd.R_reads' HO_6.out).2.1); rintro e w' ⟨rfl, ⟨nd, rfl⟩⟩; refine ⟨_, rfl, ?_⟩))
                                          go_ret
                                          exact ⟨by first | rfl | (simp [errW_none, errW_some] <;> rfl) | (simp [*, errW_none, errW_some] <;> rfl), by repeat (first | (with_reducible first | exact HB.out | apply below_alloc | apply pw_below_drewN | apply below_drew1) | exact HB.out)⟩
                                      · rw [if_neg c39] at H
                                        have c39b0 : decide (x24_4 ≤ 4) = false := decide_eq_false c39
                                        clear c39
                                        have H' := Aside0.mk H
                                        clear H
                                        go_wp2
                                        go_roundg kj36
                                        case measure => have := HJ7.out; have := HJ18.out; have := HJ26.out; have := HK4.out; have := HJ33.out; have := HJ36.out; omega
                                        case rel => exact ⟨(x21_36), (x22_4), (wrap64 (-x23_4)), (wrap64 (x24_4 + 1)), (by first | rfl | (simp; done) | (simp [*]; done)), (by first | rfl | (simp; done) | (simp [*]; done)), (by first | rfl | (simp; done) | (simp [*]; done)), (by first | rfl | (simp; done) | (simp [*]; done)), H', ⟨by have := HJ7.out; have := HJ18.out; have := HJ26.out; have := HK4.out; have := HJ33.out; have := HJ36.out; omega⟩, ⟨by (with_reducible repeat (first | apply Kd.R_alloc | apply Kd.R_drewN | apply Kd.R_drew)); exact HO_6.out⟩, ⟨by repeat (first | (with_reducible first | exact HB.out | apply below_alloc | apply pw_below_drewN | apply below_drew1) | exact HB.out)⟩⟩
                          · rw [if_neg c31] at H
                            have c31b0 : decide (x24_4 ≤ t210) = false := decide_eq_false c31
                            clear c31
                            by_cases c42 : x21_4 = (wrap64 (t210 * t214))
                            · rw [if_pos c42] at H
                              have c42b0 : (x21_4 == (wrap64 (t210 * t214))) = true := beq_iff_eq.mpr c42
                              have c42b1 : (x21_4 != (wrap64 (t210 * t214))) = false := bne_eq_false_iff_eq.mpr c42
                              clear c42
                              obtain rfl := Option.some.inj H
                              go_wp2
                              go_ret
                              exact ⟨by first | rfl | (simp [errW_none, errW_some] <;> rfl) | (simp [*, errW_none, errW_some] <;> rfl), by repeat (first | (with_reducible first | exact HB.out | apply below_alloc | apply pw_below_drewN | apply below_drew1) | exact HB.out)⟩
                            · rw [if_neg c42] at H
                              have c42b0 : (x21_4 == (wrap64 (t210 * t214))) = false := beq_eq_false_iff_ne.mpr c42
                              have c42b1 : (x21_4 != (wrap64 (t210 * t214))) = true := bne_iff_ne.mpr c42
                              obtain rfl := Option.some.inj H
                              go_wp2
                              go_ret
                              exact ⟨by first | rfl | (simp [errW_none, errW_some] <;> rfl) | (simp [*, errW_none, errW_some] <;> rfl), by repeat (first | (with_reducible first | exact HB.out | apply below_alloc | apply pw_below_drewN | apply below_drew1) | exact HB.out)⟩

/-- THE ONE PURE STATEMENT of laws_FnNewtonsSums: yours. -/
def laws_FnNewtonsSums.Pure : Prop := ∀ (l0 : List Int) (l1 : List Int), l0.length ≤ maxLen → l0.length * 1 ≤ 140737488351232 → (∀ x ∈ l0, (Lit.int .u8 x).wf = true) → l1.length ≤ maxLen → l1.length * 1 ≤ 140737488351232 → (∀ x ∈ l1, (Lit.int .u8 x).wf = true) → ∃ k, laws_FnNewtonsSums.f k l0 l1 = some true
theorem laws_FnNewtonsSums.walk (P : laws_FnNewtonsSums.Pure) (a0 : Option Addr) (len0 cap0 : Nat) (z0 : List Int) (a1 : Option Addr) (len1 cap1 : Nat) (z1 : List Int) (w : World) (w0 : (a0 = none ∧ len0 = 0 ∧ cap0 = 0 ∧ z0 = []) ∨ ∃ x, a0 = some x ∧ len0 ≤ cap0 ∧ cap0 ≤ maxLen ∧ z0.length = cap0 ∧ (∀ i, i < z0.length → w.cell? (x.add i) = some (.int .u8 (z0.getD i 0))) ∧ ∀ n ∈ z0, (Lit.int .u8 n).wf = true) (y0 : len0 * 1 ≤ 140737488351232) (w1 : (a1 = none ∧ len1 = 0 ∧ cap1 = 0 ∧ z1 = []) ∨ ∃ x, a1 = some x ∧ len1 ≤ cap1 ∧ cap1 ≤ maxLen ∧ z1.length = cap1 ∧ (∀ i, i < z1.length → w.cell? (x.add i) = some (.int .u8 (z1.getD i 0))) ∧ ∀ n ∈ z1, (Lit.int .u8 n).wf = true) (y1 : len1 * 1 ≤ 140737488351232) :
    Calls Try.prog 3 #[.slice a0 len0 cap0, .slice a1 len1 cap1] w fun e w' => e = .returned (.bool true) ∧ Below w.heap.size w w' := by
  obtain ⟨l0, rfl, hr0, hm0, hw0, hc0⟩ := ReadsInt.ofRowC w0
  obtain ⟨l1, rfl, hr1, hm1, hw1, hc1⟩ := ReadsInt.ofRowC w1
  obtain ⟨k, h⟩ := P l0 l1 hm0 y0 hw0 hm1 y1 hw1
  refine (laws_FnNewtonsSums.calls k _ _ l0 _ _ l1 true w (Kd.C_of_reads (d := (0 : Int)) (h1 := fun _ => rfl) hr0) hc0 (Kd.C_of_reads (d := (0 : Int)) (h1 := fun _ => rfl) hr1) hc1 h).mono ?_
  rintro e w' ⟨rfl, hd⟩
  exact ⟨rfl, hd⟩

end Go.Proofs.Ytbbioadebhnfiaa.PFnNewtonsSums
