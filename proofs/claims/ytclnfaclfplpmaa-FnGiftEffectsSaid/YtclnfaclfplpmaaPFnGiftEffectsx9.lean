/- For each Go function that the law uses, a Lean function with the same answers and a proof that its call comes to them; the conditions stand in each theorem. (Written by a program of this session, turned from the print of the kit.) -/
import Derived.Test.YtclnfaclfplpmaaPFnGiftEffectsx0
import Derived.Test.YtclnfaclfplpmaaPFnGiftEffectsx8
namespace Go.Proofs.Ytclnfaclfplpmaa.PFnGiftEffects
open Go.RowKit Go.Proofs.YtclnfaclfplpmaaW.PrintWords Go.Proofs.YtclnfaclfplpmaaW.PrintLast Go.Proofs.YtclnfaclfplpmaaW.PrintMore
attribute [local go_sem] max2_int min2_int max_two min_two max_three min_three max_four min_four   -- for this text's walks alone
set_option linter.unusedVariables false
set_option linter.unusedSimpArgs false

/-! ### spec_msRange: function 165 -/
def spec_msRange.f (k : Nat) (l0 : List Int) : Option (Int) := (spec_liRank.f k l0).bind fun t335 => (if 0 < (t335.length : Int) then (if 0 ≤ (wrap64 ((t335.length : Int) - 1)) then (if (wrap64 ((t335.length : Int) - 1)) < (t335.length : Int) then (some (wrap64 ((rd t335 0) - (rd t335 (wrap64 ((t335.length : Int) - 1)))))) else (none)) else (none)) else (none))
theorem spec_msRange.mono : ∀ a0 k, LeO (spec_msRange.f k a0) (spec_msRange.f (k + 1) a0) := by
  intro a0 k
  unfold spec_msRange.f
  repeat' first
      | (with_reducible exact spec_liRank.mono _ _)
      | (with_reducible exact LeO.refl _)
      | (with_reducible exact LeO.none _)
      | (with_reducible refine LeO.ite ?_ ?_)
      | (with_reducible refine LeO.bind ?_ (fun _ => ?_))
      | exact spec_liRank.mono _ _
      | exact LeO.none _
      | refine LeO.ite ?_ ?_
      | refine LeO.bind ?_ (fun _ => ?_)
set_option maxHeartbeats 8000000 in
set_option maxRecDepth 100000 in
theorem spec_msRange.calls (k : Nat) (A0 : Option Addr) (c0 : Nat) (l0 : List Int) (r : Int) (w : World) (hr0 : Kd.C (Kd.int .i64) w A0 l0.length l0) (hc0 : l0.length ≤ c0) (h : spec_msRange.f k l0 = some r) :
    Calls Try.prog 165 #[.slice A0 l0.length c0] w fun e w' => e = .returned (.int .i64 r) ∧ Below w.heap.size w w' := by
  have HR0 := Aside0.mk hr0
  have HC0 := Aside0.mk hc0
  clear hr0 hc0
  have HB := Aside0.mk (Below.refl w.heap.size w)
  have H : ((spec_liRank.f k l0).bind fun t335 => (if 0 < (t335.length : Int) then (if 0 ≤ (wrap64 ((t335.length : Int) - 1)) then (if (wrap64 ((t335.length : Int) - 1)) < (t335.length : Int) then (some (wrap64 ((rd t335 0) - (rd t335 (wrap64 ((t335.length : Int) - 1)))))) else (none)) else (none)) else (none))) = some r := h
  clear h
  replace H := Option.bind_eq_some_iff.mp H
  obtain ⟨t335, A20, H⟩ := H
  replace H : (if 0 < (t335.length : Int) then (if 0 ≤ (wrap64 ((t335.length : Int) - 1)) then (if (wrap64 ((t335.length : Int) - 1)) < (t335.length : Int) then (some (wrap64 ((rd t335 0) - (rd t335 (wrap64 ((t335.length : Int) - 1)))))) else (none)) else (none)) else (none)) = some r := H
  have A2 := Aside0.mk A20
  clear A20
  by_cases c3 : 0 < (t335.length : Int)
  · rw [if_pos c3] at H
    have c3b0 : decide (0 < (t335.length : Int)) = true := decide_eq_true c3
    have c3b1 : decide (0 < t335.length) = true := decide_eq_true (by omega)
    clear c3
    obtain ⟨ji4, hji4⟩ : ∃ j_ : Int, (wrap64 ((t335.length : Int) - 1)) = j_ := ⟨_, rfl⟩
    replace H : (if 0 ≤ (ji4) then (if (ji4) < (t335.length : Int) then (some (wrap64 ((rd t335 0) - (rd t335 (ji4))))) else (none)) else (none)) = some r := by first | (rw [hji4] at H; exact H) | (simp only [hji4] at H ⊢; exact H)
    (try rw [hji4] at A2)
    have hji4w : (IntKind.i64.wrap ((t335.length : Int) - 1)) = ji4 := (i64_w _).trans hji4
    by_cases c5 : 0 ≤ (ji4)
    · rw [if_pos c5] at H
      have c5b0 : decide (0 ≤ (ji4)) = true := decide_eq_true c5
      clear c5
      by_cases c6 : (ji4) < (t335.length : Int)
      · rw [if_pos c6] at H
        have c6b0 : decide ((ji4) < (t335.length : Int)) = true := decide_eq_true c6
        clear c6
        obtain rfl := Option.some.inj H
        go_enter Try.func165, Try.ntmps165
        go_wp2_with (first | (go_at_call 143; (with_reducible refine (spec_liRank.calls k _ _ l0 t335 _ ?side1 ?side2 A2.out).mono ?_); (case side1 => repeat (first | exact HR0.out | (with_reducible refine Kd.C_alloc ?_ _) | (with_reducible refine Kd.C_drewN ?_ _) | (with_reducible refine Kd.C_drew ?_))); (case side2 => exact HC0.out); rintro e w7 ⟨v336, rfl, ho0, hb⟩; have n0_ := Aside0.mk (Kd.R_lower ho0 (below_size (by repeat (first | (with_reducible first | exact HB.out | apply below_alloc | apply pw_below_drewN | apply below_drew1) | exact HB.out)))); have n1_ := Aside0.mk (below_step (by repeat (first | (with_reducible first | exact HB.out | apply below_alloc | apply pw_below_drewN | apply below_drew1) | exact HB.out)) hb); clear HB; have HO337 := n0_; have HB := n1_; clear n0_ n1_; (try clear hb); (try clear hb2); (try clear hk); (try clear hi); (try clear ho0); obtain ⟨Ao8, co8, eo8⟩ := Kd.R_slice HO337.out; subst eo8; have p338 : 0 ≤ (0 : Int) := (by omega); have q338 : 0 < (t335.length : Int) := of_decide_eq_true (by first | (with_reducible assumption) | assumption); obtain ⟨ad338, e338, hx338_0⟩ := Kd.at_int (Kd.R_reads' HO337.out).2.2 0 p338 q338; cases e338; have qi338 : (0 < t335.length) = True := eq_true (by omega); (try rw [show ((0 : Int)).toNat = 0 from rfl] at hx338_0); (try rw [Addr.add_zero'] at hx338_0); replace p338 := eq_true p338; replace q338 := eq_true q338; have p339 : 0 ≤ ((ji4) : Int) := of_decide_eq_true (by first | (with_reducible assumption) | assumption); have q339 : (ji4) < (t335.length : Int) := of_decide_eq_true (by first | (with_reducible assumption) | assumption); obtain ⟨ad339, e339, hx339_0⟩ := Kd.at_int (Kd.R_reads' HO337.out).2.2 (ji4) p339 q339; obtain rfl : ad338 = ad339 := (by injection e339); replace p339 := eq_true p339; replace q339 := eq_true q339))
        repeat (go_quiet (first | (go_at_call 143; (with_reducible refine (spec_liRank.calls k _ _ l0 t335 _ ?side1 ?side2 A2.out).mono ?_); (case side1 => repeat (first | exact HR0.out | (with_reducible refine Kd.C_alloc ?_ _) | (with_reducible refine Kd.C_drewN ?_ _) | (with_reducible refine Kd.C_drew ?_))); (case side2 => exact HC0.out); rintro e w7 ⟨v336, rfl, ho0, hb⟩; have n0_ := Aside0.mk (Kd.R_lower ho0 (below_size (by repeat (first | (with_reducible first | exact HB.out | apply below_alloc | apply pw_below_drewN | apply below_drew1) | exact HB.out)))); have n1_ := Aside0.mk (below_step (by repeat (first | (with_reducible first | exact HB.out | apply below_alloc | apply pw_below_drewN | apply below_drew1) | exact HB.out)) hb); clear HB; have HO337 := n0_; have HB := n1_; clear n0_ n1_; (try clear hb); (try clear hb2); (try clear hk); (try clear hi); (try clear ho0); obtain ⟨Ao8, co8, eo8⟩ := Kd.R_slice HO337.out; subst eo8; have p338 : 0 ≤ (0 : Int) := (by omega); have q338 : 0 < (t335.length : Int) := of_decide_eq_true (by first | (with_reducible assumption) | assumption); obtain ⟨ad338, e338, hx338_0⟩ := Kd.at_int (Kd.R_reads' HO337.out).2.2 0 p338 q338; cases e338; have qi338 : (0 < t335.length) = True := eq_true (by omega); (try rw [show ((0 : Int)).toNat = 0 from rfl] at hx338_0); (try rw [Addr.add_zero'] at hx338_0); replace p338 := eq_true p338; replace q338 := eq_true q338; have p339 : 0 ≤ ((ji4) : Int) := of_decide_eq_true (by first | (with_reducible assumption) | assumption); have q339 : (ji4) < (t335.length : Int) := of_decide_eq_true (by first | (with_reducible assumption) | assumption); obtain ⟨ad339, e339, hx339_0⟩ := Kd.at_int (Kd.R_reads' HO337.out).2.2 (ji4) p339 q339; obtain rfl : ad338 = ad339 := (by injection e339); replace p339 := eq_true p339; replace q339 := eq_true q339)); try go_wp2_with (first | (go_at_call 143; (with_reducible refine (spec_liRank.calls k _ _ l0 t335 _ ?side1 ?side2 A2.out).mono ?_); (case side1 => repeat (first | exact HR0.out | (with_reducible refine Kd.C_alloc ?_ _) | (with_reducible refine Kd.C_drewN ?_ _) | (with_reducible refine Kd.C_drew ?_))); (case side2 => exact HC0.out); rintro e w7 ⟨v336, rfl, ho0, hb⟩; have n0_ := Aside0.mk (Kd.R_lower ho0 (below_size (by repeat (first | (with_reducible first | exact HB.out | apply below_alloc | apply pw_below_drewN | apply below_drew1) | exact HB.out)))); have n1_ := Aside0.mk (below_step (by repeat (first | (with_reducible first | exact HB.out | apply below_alloc | apply pw_below_drewN | apply below_drew1) | exact HB.out)) hb); clear HB; have HO337 := n0_; have HB := n1_; clear n0_ n1_; (try clear hb); (try clear hb2); (try clear hk); (try clear hi); (try clear ho0); obtain ⟨Ao8, co8, eo8⟩ := Kd.R_slice HO337.out; subst eo8; have p338 : 0 ≤ (0 : Int) := (by omega); have q338 : 0 < (t335.length : Int) := of_decide_eq_true (by first | (with_reducible assumption) | assumption); obtain ⟨ad338, e338, hx338_0⟩ := Kd.at_int (Kd.R_reads' HO337.out).2.2 0 p338 q338; cases e338; have qi338 : (0 < t335.length) = True := eq_true (by omega); (try rw [show ((0 : Int)).toNat = 0 from rfl] at hx338_0); (try rw [Addr.add_zero'] at hx338_0); replace p338 := eq_true p338; replace q338 := eq_true q338; have p339 : 0 ≤ ((ji4) : Int) := of_decide_eq_true (by first | (with_reducible assumption) | assumption); have q339 : (ji4) < (t335.length : Int) := of_decide_eq_true (by first | (with_reducible assumption) | assumption); obtain ⟨ad339, e339, hx339_0⟩ := Kd.at_int (Kd.R_reads' HO337.out).2.2 (ji4) p339 q339; obtain rfl : ad338 = ad339 := (by injection e339); replace p339 := eq_true p339; replace q339 := eq_true q339)))
        go_ret
        exact ⟨by first | rfl | (simp [errW_none, errW_some] <;> rfl) | (simp only [← hji4]; first | rfl | (simp [errW_none, errW_some] <;> rfl)) | (simp [*, errW_none, errW_some] <;> rfl), by repeat (first | (with_reducible first | exact HB.out | apply below_alloc | apply pw_below_drewN | apply below_drew1) | exact HB.out)⟩
      · rw [if_neg c6] at H
        exact absurd H (by simp)
    · rw [if_neg c5] at H
      exact absurd H (by simp)
  · rw [if_neg c3] at H
    exact absurd H (by simp)

end Go.Proofs.Ytclnfaclfplpmaa.PFnGiftEffects
