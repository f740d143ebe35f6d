/- For each Go function that the law uses, a Lean function with the same answers and a proof that its call comes to them; the conditions stand in each theorem. (Written by a program of this session, turned from the print of the kit.) -/
import Derived.Test.YtojklddddedoeaaPFnGluedPlansx0
import Derived.Test.YtojklddddedoeaaPFnGluedPlansx2
import Derived.Test.YtojklddddedoeaaPFnGluedPlansx4
import Derived.Test.YtojklddddedoeaaPFnGluedPlansx5
import Derived.Test.YtojklddddedoeaaPFnGluedPlansx6
import Derived.Test.YtojklddddedoeaaPFnGluedPlansx7
import Derived.Test.YtojklddddedoeaaPFnGluedPlansx9
namespace Go.Proofs.Ytojklddddedoeaa.PFnGluedPlans
open Go.RowKit Go.Proofs.YtojklddddedoeaaW.PrintWords Go.Proofs.YtojklddddedoeaaW.PrintLast Go.Proofs.YtojklddddedoeaaW.PrintMore
attribute [local go_sem] max2_int min2_int max_two min_two max_three min_three max_four min_four   -- for this text's walks alone
set_option linter.unusedVariables false
set_option linter.unusedSimpArgs false

/-! ### spec_GluePlans: function 31 -/
/-- The rounds over a row: its numbers are added to those of a table's row. -/
def spec_GluePlans.l2 : Nat → List Int → List (List Int) → Int → Int → Option (List (List Int))
 | 0, _, _, _, _ => none
 | k + 1, row, m, i, j => if j < (row.length : Int) then (if 0 ≤ j then (if 0 ≤ i then (if i < (m.length : Int) then (if j < ((rd_L2 m i).length : Int) then spec_GluePlans.l2 k row (m.set i.toNat ((rd_L2 m i).set j.toNat (wrap64 (rd (rd_L2 m i) j + rd row j)))) i (wrap64 (j + 1)) else none) else none) else none) else none) else some m
def spec_GluePlans.l1 : Nat → List (List Int) → List (List Int) → Int → Option (List (List Int))
 | 0, _, _, _ => none
 | k + 1, p, m, i => if i < (p.length : Int) then (if 0 ≤ i then ((spec_GluePlans.l2 k (rd_L2 p i) m i 0).bind fun m' => spec_GluePlans.l1 k p m' (wrap64 (i + 1))) else none) else some m
def spec_GluePlans.l0 : Nat → List (List Int) → List (List Int) → List (List Int) → Int → Option (List (List Int))
 | 0, _, _, _, _ => none
 | k + 1, a, b, m, q => if q < (a.length : Int) then (if 0 ≤ q then (if q < (b.length : Int) then ((spec_plColumn.f k a q).bind fun c => (spec_plMonotone.f k c (rd_L2 b q)).bind fun p => (spec_GluePlans.l1 k p m 0).bind fun m' => spec_GluePlans.l0 k a b m' (wrap64 (q + 1))) else none) else none) else some m
def spec_GluePlans.f (k : Nat) (l0 l1 : List (List Int)) : Option (List (List Int) × Bool) := (spec_plGood.f k l0).bind fun p => if p = true then ((spec_plGood.f k l1).bind fun q => if q = true then ((spec_plSums.f k l0).bind fun s => (spec_plSums.f k l1).bind fun s2 => (spec_l1Same.f k s.2 s2.1).bind fun e => if e = true then ((spec_plEmpty.f k (l0.length : Int)).bind fun z => if 0 < z.length then ((spec_GluePlans.l0 k l0 l1 z 0).bind fun o => (spec_plGood.f k o).bind fun b => if b = true then some (o, true) else some ([], false)) else none) else some ([], false)) else some ([], false)) else some ([], false)
theorem spec_GluePlans.l2_mono : ∀ k a m i j, LeO (spec_GluePlans.l2 k a m i j) (spec_GluePlans.l2 (k + 1) a m i j)
 | 0, _, _, _, _ => fun r h => by simp [spec_GluePlans.l2] at h
 | k + 1, a, m, i, j => by
  rw [spec_GluePlans.l2, spec_GluePlans.l2]
  exact LeO.ite (LeO.ite (LeO.ite (LeO.ite (LeO.ite (spec_GluePlans.l2_mono k _ _ _ _) (LeO.none _)) (LeO.none _)) (LeO.none _)) (LeO.none _)) (LeO.refl _)
theorem spec_GluePlans.l1_mono : ∀ k a m i, LeO (spec_GluePlans.l1 k a m i) (spec_GluePlans.l1 (k + 1) a m i)
 | 0, _, _, _ => fun r h => by simp [spec_GluePlans.l1] at h
 | k + 1, a, m, i => by
  rw [spec_GluePlans.l1, spec_GluePlans.l1]
  exact LeO.ite (LeO.ite (LeO.bind (spec_GluePlans.l2_mono k _ _ _ _) (fun _ => spec_GluePlans.l1_mono k _ _ _)) (LeO.none _)) (LeO.refl _)
theorem spec_GluePlans.l0_mono : ∀ k a b m i, LeO (spec_GluePlans.l0 k a b m i) (spec_GluePlans.l0 (k + 1) a b m i)
 | 0, _, _, _, _ => fun r h => by simp [spec_GluePlans.l0] at h
 | k + 1, a, b, m, i => by
  rw [spec_GluePlans.l0, spec_GluePlans.l0]
  exact LeO.ite (LeO.ite (LeO.ite (LeO.bind (spec_plColumn.mono _ _ _) (fun _ => LeO.bind (spec_plMonotone.mono _ _ _) (fun _ => LeO.bind (spec_GluePlans.l1_mono k _ _ _) (fun _ => spec_GluePlans.l0_mono k _ _ _ _)))) (LeO.none _)) (LeO.none _)) (LeO.refl _)
theorem spec_GluePlans.mono : ∀ a0 a1 k, LeO (spec_GluePlans.f k a0 a1) (spec_GluePlans.f (k + 1) a0 a1) := by
 intro a0 a1 k
 unfold spec_GluePlans.f
 exact LeO.bind (spec_plGood.mono _ _) (fun _ => LeO.ite (LeO.bind (spec_plGood.mono _ _) (fun _ => LeO.ite (LeO.bind (spec_plSums.mono _ _) (fun _ => LeO.bind (spec_plSums.mono _ _) (fun _ => LeO.bind (spec_l1Same.mono _ _ _) (fun _ => LeO.ite (LeO.bind (spec_plEmpty.mono _ _) (fun _ => LeO.ite (LeO.bind (spec_GluePlans.l0_mono k _ _ _ _) (fun _ => LeO.bind (spec_plGood.mono _ _) (fun _ => LeO.refl _))) (LeO.none _))) (LeO.refl _))))) (LeO.refl _))) (LeO.refl _))

/-- One row of rows that are apart has been written. -/
theorem spec_GluePlans.row_step {w w1 : World} {base : Nat} {P0_ : Nat → Prop} {g n cap : Nat} {m : List (List Int)} {r : List Int} {i : Int} {oki : Nat → Prop} {c : List Value} {u : Value} {q : Nat}
  (hu : c = [u]) (hoki : ∀ k, oki k → P0_ k ∧ k ≠ g) (hH : Kd.H (Kd.slice 3 (Kd.int .i64)) 24 w base P0_ (.slice (some ⟨g, 0, none⟩) n cap) m i oki c)
  (hq : u.ownBlock = some q) (hqo : oki q) {ok1 : Nat → Prop} (hr : Kd.R (Kd.int .i64) 3 w1 base ok1 u r) (hk : w.grownBy w1 (some q)) :
  Kd.S (Kd.slice 3 (Kd.int .i64)) 24 w1 base P0_ (.slice (some ⟨g, 0, none⟩) n cap) (m.set i.toNat r) := by
 have h1 := Kd.H_step (w1 := w1) hH (fun k _ hn hlt => hk.block k hlt (fun he => hn (by cases he; exact hqo)))
 refine Kd.H_back (okp := fun k => some k = u.ownBlock) h1 ?_ (fun k hk => by rw [hq] at hk; cases hk; exact hqo)
 rw [hu]
 exact Kd.M_row (Kd.R_tight rfl hr)

set_option maxHeartbeats 8000000 in
set_option maxRecDepth 100000 in
theorem spec_GluePlans.calls (k : Nat) (A0 : Option Addr) (c0 : Nat) (l0 : List (List Int)) (A1 : Option Addr) (c1 : Nat) (l1 : List (List Int)) (r1 : List (List Int)) (r2 : Bool) (w : World) (hr0 : Kd.C (Kd.slice 3 (Kd.int .i64)) w A0 l0.length l0) (hc0 : l0.length ≤ c0) (hr1 : Kd.C (Kd.slice 3 (Kd.int .i64)) w A1 l1.length l1) (hc1 : l1.length ≤ c1) (h : spec_GluePlans.f k l0 l1 = some (r1, r2)) :
  Calls Try.prog 31 #[.slice A0 l0.length c0, .slice A1 l1.length c1] w fun e w' => ∃ v0_ : Value, e = .returned (.tuple #[v0_, .bool r2]) ∧ Kd.S (Kd.slice 3 (Kd.int .i64)) 24 w' w.heap.size (fun _ => True) v0_ r1 ∧ Below w.heap.size w w' := by
 have HR0 := Aside0.mk hr0
 have HC0 := Aside0.mk hc0
 have HR1 := Aside0.mk hr1
 have HC1 := Aside0.mk hc1
 have HB := Aside0.mk (Below.refl w.heap.size w)
 clear hr0 hc0 hr1 hc1
 have H := h
 clear h
 unfold spec_GluePlans.f at H
 replace H := Option.bind_eq_some_iff.mp H
 obtain ⟨p, E10, H⟩ := H
 by_cases cp : ¬ p = true
 ·rw [if_neg cp] at H
  replace cp := Bool.eq_false_iff.mpr cp
  subst cp
  have E1 := Aside0.mk E10
  clear E10
  simp only [Option.some.injEq, Prod.mk.injEq] at H
  obtain ⟨rfl, rfl⟩ := H
  go_enter Try.func31, Try.ntmps31
  go_wp2_with (first | (go_at_call 93; (with_reducible refine (spec_plGood.calls k _ _ l0 false _ ?side1 ?side2 E1.out).mono ?_); (case side1 => repeat (first | exact (Kd.C_below HR0.out HB.out) | (with_reducible refine Kd.C_alloc ?_ _) | (with_reducible refine Kd.C_drewN ?_ _) | (with_reducible refine Kd.C_drew ?_))); (case side2 => exact HC0.out); rintro e wp_ ⟨rfl, ⟨nd, rfl⟩⟩))
  go_ret2
  exact ⟨_, by first | rfl | (simp; done) | (simp [*]; done), Kd.S_nil _ _ _ _ _, by repeat (first | (with_reducible first | exact HB.out | apply below_alloc | apply pw_below_drewN | apply below_drew1) | exact HB.out)⟩
 replace cp := Decidable.not_not.mp cp
 rw [if_pos cp] at H
 subst cp
 have E1 := Aside0.mk E10
 clear E10
 replace H := Option.bind_eq_some_iff.mp H
 obtain ⟨q, E20, H⟩ := H
 by_cases cq : ¬ q = true
 ·rw [if_neg cq] at H
  replace cq := Bool.eq_false_iff.mpr cq
  subst cq
  have E2 := Aside0.mk E20
  clear E20
  simp only [Option.some.injEq, Prod.mk.injEq] at H
  obtain ⟨rfl, rfl⟩ := H
  go_enter Try.func31, Try.ntmps31
  go_wp2_with (first | (go_at_call 93; (with_reducible refine (spec_plGood.calls k _ _ l0 true _ ?side1 ?side2 E1.out).mono ?_); (case side1 => repeat (first | exact (Kd.C_below HR0.out HB.out) | (with_reducible refine Kd.C_alloc ?_ _) | (with_reducible refine Kd.C_drewN ?_ _) | (with_reducible refine Kd.C_drew ?_))); (case side2 => exact HC0.out); rintro e wp_ ⟨rfl, ⟨nd, rfl⟩⟩) | (go_at_call 93; (with_reducible refine (spec_plGood.calls k _ _ l1 false _ ?side1 ?side2 E2.out).mono ?_); (case side1 => repeat (first | exact (Kd.C_below HR1.out HB.out) | (with_reducible refine Kd.C_alloc ?_ _) | (with_reducible refine Kd.C_drewN ?_ _) | (with_reducible refine Kd.C_drew ?_))); (case side2 => exact HC1.out); rintro e wp_ ⟨rfl, ⟨nd, rfl⟩⟩))
  go_ret2
  exact ⟨_, by first | rfl | (simp; done) | (simp [*]; done), Kd.S_nil _ _ _ _ _, by repeat (first | (with_reducible first | exact HB.out | apply below_alloc | apply pw_below_drewN | apply below_drew1) | exact HB.out)⟩
 replace cq := Decidable.not_not.mp cq
 rw [if_pos cq] at H
 subst cq
 have E2 := Aside0.mk E20
 clear E20
 replace H := Option.bind_eq_some_iff.mp H
 obtain ⟨⟨s1, s2⟩, E30, H⟩ := H
 have E3 := Aside0.mk E30
 clear E30
 replace H := Option.bind_eq_some_iff.mp H
 obtain ⟨⟨s3, s4⟩, E40, H⟩ := H
 dsimp only at H
 have E4 := Aside0.mk E40
 clear E40
 replace H := Option.bind_eq_some_iff.mp H
 obtain ⟨e, E60, H⟩ := H
 by_cases ce : ¬ e = true
 ·rw [if_neg ce] at H
  replace ce := Bool.eq_false_iff.mpr ce
  subst ce
  have E6 := Aside0.mk E60
  clear E60
  simp only [Option.some.injEq, Prod.mk.injEq] at H
  obtain ⟨rfl, rfl⟩ := H
  go_enter Try.func31, Try.ntmps31
  go_wp2_with (first | (go_at_call 93; (with_reducible refine (spec_plGood.calls k _ _ l0 true _ ?side1 ?side2 E1.out).mono ?_); (case side1 => repeat (first | exact (Kd.C_below HR0.out HB.out) | (with_reducible refine Kd.C_alloc ?_ _) | (with_reducible refine Kd.C_drewN ?_ _) | (with_reducible refine Kd.C_drew ?_))); (case side2 => exact HC0.out); rintro e wp_ ⟨rfl, ⟨nd, rfl⟩⟩) | (go_at_call 93; (with_reducible refine (spec_plGood.calls k _ _ l1 true _ ?side1 ?side2 E2.out).mono ?_); (case side1 => repeat (first | exact (Kd.C_below HR1.out HB.out) | (with_reducible refine Kd.C_alloc ?_ _) | (with_reducible refine Kd.C_drewN ?_ _) | (with_reducible refine Kd.C_drew ?_))); (case side2 => exact HC1.out); rintro e wp_ ⟨rfl, ⟨nd, rfl⟩⟩) | (go_at_call 101; (with_reducible refine (spec_plSums.calls k _ _ l0 s1 s2 _ ?side1 ?side2 E3.out).mono ?_); (case side1 => repeat (first | exact (Kd.C_below HR0.out HB.out) | (with_reducible refine Kd.C_alloc ?_ _) | (with_reducible refine Kd.C_drewN ?_ _) | (with_reducible refine Kd.C_drew ?_))); (case side2 => exact HC0.out); rintro e ws ⟨vx, vs, rfl, _, hS, hb⟩; (try (have n_ := Aside0.mk (Kd.S_below (by (with_reducible repeat (first | apply Kd.S_alloc | apply Kd.S_drewN | apply Kd.S_drew)); exact HZ.out) hb); clear HZ; have HZ := n_; clear n_)); (try (have n_ := Aside0.mk (Kd.R_below (by (with_reducible repeat (first | apply Kd.R_alloc | apply Kd.R_drewN | apply Kd.R_drew)); exact HS1.out) hb); clear HS1; have HS1 := n_; clear n_)); (try (have n_ := Aside0.mk (Kd.R_below (by (with_reducible repeat (first | apply Kd.R_alloc | apply Kd.R_drewN | apply Kd.R_drew)); exact HS2.out) hb); clear HS2; have HS2 := n_; clear n_)); have n_ := Aside0.mk (below_step (by repeat (first | (with_reducible first | exact HB.out | apply below_alloc | apply pw_below_drewN | apply below_drew1) | exact HB.out)) hb); clear HB; have HB := n_; clear n_; have HS1 := Aside0.mk hS; clear hS hb; obtain ⟨As, cs, es⟩ := Kd.R_slice HS1.out; subst es) | (go_at_call 101; (with_reducible refine (spec_plSums.calls k _ _ l1 s3 s4 _ ?side1 ?side2 E4.out).mono ?_); (case side1 => repeat (first | exact (Kd.C_below HR1.out HB.out) | (with_reducible refine Kd.C_alloc ?_ _) | (with_reducible refine Kd.C_drewN ?_ _) | (with_reducible refine Kd.C_drew ?_))); (case side2 => exact HC1.out); rintro e wu ⟨vu, vy, rfl, hS, _, hb⟩; (try (have n_ := Aside0.mk (Kd.S_below (by (with_reducible repeat (first | apply Kd.S_alloc | apply Kd.S_drewN | apply Kd.S_drew)); exact HZ.out) hb); clear HZ; have HZ := n_; clear n_)); (try (have n_ := Aside0.mk (Kd.R_below (by (with_reducible repeat (first | apply Kd.R_alloc | apply Kd.R_drewN | apply Kd.R_drew)); exact HS1.out) hb); clear HS1; have HS1 := n_; clear n_)); (try (have n_ := Aside0.mk (Kd.R_below (by (with_reducible repeat (first | apply Kd.R_alloc | apply Kd.R_drewN | apply Kd.R_drew)); exact HS2.out) hb); clear HS2; have HS2 := n_; clear n_)); have n_ := Aside0.mk (below_step (by repeat (first | (with_reducible first | exact HB.out | apply below_alloc | apply pw_below_drewN | apply below_drew1) | exact HB.out)) hb); clear HB; have HB := n_; clear n_; have HS2 := Aside0.mk hS; clear hS hb; obtain ⟨Au, cu, eu⟩ := Kd.R_slice HS2.out; subst eu) | (go_at_call 110; (with_reducible refine (spec_l1Same.calls k _ _ s2 _ _ s3 false _ ?side1 ?side2 ?side3 ?side4 E6.out).mono ?_); (case side1 => repeat (first | exact (Kd.R_reads' HS1.out).2.2 | (with_reducible refine Kd.C_alloc ?_ _) | (with_reducible refine Kd.C_drewN ?_ _) | (with_reducible refine Kd.C_drew ?_))); (case side2 => exact (Kd.R_reads' HS1.out).2.1); (case side3 => repeat (first | exact (Kd.R_reads' HS2.out).2.2 | (with_reducible refine Kd.C_alloc ?_ _) | (with_reducible refine Kd.C_drewN ?_ _) | (with_reducible refine Kd.C_drew ?_))); (case side4 => exact (Kd.R_reads' HS2.out).2.1); rintro e wq_ ⟨rfl, ⟨nd, rfl⟩⟩))
  go_ret2
  exact ⟨_, by first | rfl | (simp; done) | (simp [*]; done), Kd.S_nil _ _ _ _ _, by repeat (first | (with_reducible first | exact HB.out | apply below_alloc | apply pw_below_drewN | apply below_drew1) | exact HB.out)⟩
 replace ce := Decidable.not_not.mp ce
 rw [if_pos ce] at H
 subst ce
 have E6 := Aside0.mk E60
 clear E60
 replace H := Option.bind_eq_some_iff.mp H
 obtain ⟨z, E70, H⟩ := H
 have E7 := Aside0.mk E70
 clear E70
 by_cases hl : ¬ 0 < z.length
 ·rw [if_neg hl] at H
  exact absurd H (by simp)
 replace hl := Decidable.not_not.mp hl
 rw [if_pos hl] at H
 have HL := Aside0.mk hl
 clear hl
 replace H := Option.bind_eq_some_iff.mp H
 obtain ⟨o, E80, H⟩ := H
 have E8 := Aside0.mk E80
 clear E80
 replace H := Option.bind_eq_some_iff.mp H
 obtain ⟨b, E90, H⟩ := H
 have E9 := Aside0.mk E90
 clear E90
 have HEND := Aside0.mk H
 clear H
 go_enter Try.func31, Try.ntmps31
 go_wp2_with (first | (go_at_call 93; (with_reducible refine (spec_plGood.calls k _ _ l0 true _ ?side1 ?side2 E1.out).mono ?_); (case side1 => repeat (first | exact (Kd.C_below HR0.out HB.out) | (with_reducible refine Kd.C_alloc ?_ _) | (with_reducible refine Kd.C_drewN ?_ _) | (with_reducible refine Kd.C_drew ?_))); (case side2 => exact HC0.out); rintro e wp_ ⟨rfl, ⟨nd, rfl⟩⟩) | (go_at_call 93; (with_reducible refine (spec_plGood.calls k _ _ l1 true _ ?side1 ?side2 E2.out).mono ?_); (case side1 => repeat (first | exact (Kd.C_below HR1.out HB.out) | (with_reducible refine Kd.C_alloc ?_ _) | (with_reducible refine Kd.C_drewN ?_ _) | (with_reducible refine Kd.C_drew ?_))); (case side2 => exact HC1.out); rintro e wp_ ⟨rfl, ⟨nd, rfl⟩⟩) | (go_at_call 101; (with_reducible refine (spec_plSums.calls k _ _ l0 s1 s2 _ ?side1 ?side2 E3.out).mono ?_); (case side1 => repeat (first | exact (Kd.C_below HR0.out HB.out) | (with_reducible refine Kd.C_alloc ?_ _) | (with_reducible refine Kd.C_drewN ?_ _) | (with_reducible refine Kd.C_drew ?_))); (case side2 => exact HC0.out); rintro e ws ⟨vx, vs, rfl, _, hS, hb⟩; (try (have n_ := Aside0.mk (Kd.S_below (by (with_reducible repeat (first | apply Kd.S_alloc | apply Kd.S_drewN | apply Kd.S_drew)); exact HZ.out) hb); clear HZ; have HZ := n_; clear n_)); (try (have n_ := Aside0.mk (Kd.R_below (by (with_reducible repeat (first | apply Kd.R_alloc | apply Kd.R_drewN | apply Kd.R_drew)); exact HS1.out) hb); clear HS1; have HS1 := n_; clear n_)); (try (have n_ := Aside0.mk (Kd.R_below (by (with_reducible repeat (first | apply Kd.R_alloc | apply Kd.R_drewN | apply Kd.R_drew)); exact HS2.out) hb); clear HS2; have HS2 := n_; clear n_)); have n_ := Aside0.mk (below_step (by repeat (first | (with_reducible first | exact HB.out | apply below_alloc | apply pw_below_drewN | apply below_drew1) | exact HB.out)) hb); clear HB; have HB := n_; clear n_; have HS1 := Aside0.mk hS; clear hS hb; obtain ⟨As, cs, es⟩ := Kd.R_slice HS1.out; subst es) | (go_at_call 101; (with_reducible refine (spec_plSums.calls k _ _ l1 s3 s4 _ ?side1 ?side2 E4.out).mono ?_); (case side1 => repeat (first | exact (Kd.C_below HR1.out HB.out) | (with_reducible refine Kd.C_alloc ?_ _) | (with_reducible refine Kd.C_drewN ?_ _) | (with_reducible refine Kd.C_drew ?_))); (case side2 => exact HC1.out); rintro e wu ⟨vu, vy, rfl, hS, _, hb⟩; (try (have n_ := Aside0.mk (Kd.S_below (by (with_reducible repeat (first | apply Kd.S_alloc | apply Kd.S_drewN | apply Kd.S_drew)); exact HZ.out) hb); clear HZ; have HZ := n_; clear n_)); (try (have n_ := Aside0.mk (Kd.R_below (by (with_reducible repeat (first | apply Kd.R_alloc | apply Kd.R_drewN | apply Kd.R_drew)); exact HS1.out) hb); clear HS1; have HS1 := n_; clear n_)); (try (have n_ := Aside0.mk (Kd.R_below (by (with_reducible repeat (first | apply Kd.R_alloc | apply Kd.R_drewN | apply Kd.R_drew)); exact HS2.out) hb); clear HS2; have HS2 := n_; clear n_)); have n_ := Aside0.mk (below_step (by repeat (first | (with_reducible first | exact HB.out | apply below_alloc | apply pw_below_drewN | apply below_drew1) | exact HB.out)) hb); clear HB; have HB := n_; clear n_; have HS2 := Aside0.mk hS; clear hS hb; obtain ⟨Au, cu, eu⟩ := Kd.R_slice HS2.out; subst eu) | (go_at_call 110; (with_reducible refine (spec_l1Same.calls k _ _ s2 _ _ s3 true _ ?side1 ?side2 ?side3 ?side4 E6.out).mono ?_); (case side1 => repeat (first | exact (Kd.R_reads' HS1.out).2.2 | (with_reducible refine Kd.C_alloc ?_ _) | (with_reducible refine Kd.C_drewN ?_ _) | (with_reducible refine Kd.C_drew ?_))); (case side2 => exact (Kd.R_reads' HS1.out).2.1); (case side3 => repeat (first | exact (Kd.R_reads' HS2.out).2.2 | (with_reducible refine Kd.C_alloc ?_ _) | (with_reducible refine Kd.C_drewN ?_ _) | (with_reducible refine Kd.C_drew ?_))); (case side4 => exact (Kd.R_reads' HS2.out).2.1); rintro e wq_ ⟨rfl, ⟨nd, rfl⟩⟩) | (go_at_call 105; (with_reducible refine (spec_plEmpty.calls k (l0.length : Int) z _ E7.out).mono ?_); rintro e w6 ⟨vz, rfl, hS, hb⟩; obtain ⟨g, cap, ev, _⟩ := Kd.S_form hS HL.out; subst ev; clear HS1 HS2; have hl6 := (show Below w.heap.size w _ from by repeat (first | (with_reducible first | exact HB.out | apply below_alloc | apply pw_below_drewN | apply below_drew1) | exact HB.out)); have hS2 := Aside0.mk (show Kd.S (Kd.slice 3 (Kd.int .i64)) 24 w6 w.heap.size (fun k => w.heap.size ≤ k ∧ k < w6.heap.size) _ z from Kd.S_lower (Kd.S_mono (Kd.S_bound hS) (fun k hk => ⟨by have h1_ := hk.2.1; have h2_ := hl6.size; first | exact Nat.le_trans h2_ h1_ | (simp at h1_ h2_ ⊢; omega), hk.2.2.1⟩)) (by have h2_ := hl6.size; first | exact h2_ | (simp; omega))); clear hl6; (try (have n_ := Aside0.mk (Kd.S_below (by (with_reducible repeat (first | apply Kd.S_alloc | apply Kd.S_drewN | apply Kd.S_drew)); exact HZ.out) hb); clear HZ; have HZ := n_; clear n_)); (try (have n_ := Aside0.mk (Kd.R_below (by (with_reducible repeat (first | apply Kd.R_alloc | apply Kd.R_drewN | apply Kd.R_drew)); exact HS1.out) hb); clear HS1; have HS1 := n_; clear n_)); (try (have n_ := Aside0.mk (Kd.R_below (by (with_reducible repeat (first | apply Kd.R_alloc | apply Kd.R_drewN | apply Kd.R_drew)); exact HS2.out) hb); clear HS2; have HS2 := n_; clear n_)); have n_ := Aside0.mk (below_step (by repeat (first | (with_reducible first | exact HB.out | apply below_alloc | apply pw_below_drewN | apply below_drew1) | exact HB.out)) hb); clear HB; have HB := n_; clear n_; have HZ := hS2; clear hS2 hS hb))
 have HW6 := Aside0.mk (Nat.le_refl w6.heap.size)
 go_loopg [43] k (fun kq v43 wr => ∃ (m' : List (List Int)) (q : Int), v43 = .int .i64 q ∧ Aside0 (spec_GluePlans.l0 kq l0 l1 m' q = some o) ∧ Aside0 (kq ≤ k) ∧ Aside0 (w6.heap.size ≤ wr.heap.size) ∧ Aside0 (Kd.S (Kd.slice 3 (Kd.int .i64)) 24 wr w.heap.size (fun k => w.heap.size ≤ k ∧ k < w6.heap.size) (.slice (some ⟨g, 0, none⟩) z.length cap) m') ∧ Aside0 (Below w.heap.size w wr))
 case atStart => exact ⟨z, 0, rfl, E8, ⟨Nat.le_refl _⟩, ⟨Nat.le_refl _⟩, HZ, HB⟩
 case round =>
  clear E8 HZ HB HW6
  obtain ⟨m', q, rfl, HQ, HKQ, HW6, HZ, HB⟩ := hrel
  cases gk with
  | zero => exact absurd HQ.out (by simp [spec_GluePlans.l0])
  | succ k1 =>
   have H := HQ.out
   clear HQ
   simp only [spec_GluePlans.l0] at H
   by_cases ci : q < (l0.length : Int)
   ·rw [if_pos ci] at H
    by_cases ci0 : ¬ 0 ≤ q
    ·rw [if_neg ci0] at H
     exact absurd H (by simp)
    replace ci0 := Decidable.not_not.mp ci0
    rw [if_pos ci0] at H
    by_cases cn : ¬ q < (l1.length : Int)
    ·rw [if_neg cn] at H
     exact absurd H (by simp)
    replace cn := Decidable.not_not.mp cn
    rw [if_pos cn] at H
    replace H := Option.bind_eq_some_iff.mp H
    obtain ⟨cc, hcc, H⟩ := H
    replace H := Option.bind_eq_some_iff.mp H
    obtain ⟨p, hpp, H⟩ := H
    have HCC := Aside0.mk hcc
    have HPP := Aside0.mk hpp
    have H' := Aside0.mk H
    clear H hcc hpp
    obtain ⟨ad2, B2, d2, e2, hx2, hl2, hi2⟩ := at_L2 (Kd.C_below HR1.out HB.out) q ci0 cn
    cases e2
    have HCN := Aside0.mk hi2
    have HLN := Aside0.mk hl2
    clear hi2 hl2
    have ci1 := eq_true ci
    have ci2 := eq_true ci0
    have cn1 := eq_true cn
    clear ci ci0 cn
    go_upto_region 11 with (fail)
    (try simp only [Act.put, List.setIfInBounds_toArray, List.set_cons_zero, List.set_cons_succ])
    go_cut [53, 54, 55] (fun v53 v54 v55 wc => ∃ (Ap : Option Addr) (cp : Nat), v53 = .slice Ap p.length cp ∧ v54 = .int .i64 p.length ∧ v55 = .int .i64 0 ∧ Aside0 (Kd.S (Kd.slice 3 (Kd.int .i64)) 24 wc w.heap.size (fun k => w6.heap.size ≤ k) (.slice Ap p.length cp) p) ∧ Aside0 (w6.heap.size ≤ wc.heap.size) ∧ Aside0 (Kd.S (Kd.slice 3 (Kd.int .i64)) 24 wc w.heap.size (fun k => w.heap.size ≤ k ∧ k < w6.heap.size) (.slice (some ⟨g, 0, none⟩) z.length cap) m') ∧ Aside0 (Below w.heap.size w wc))
    case first =>
     go_region_held3 (fun w' => w'.cell? (ad2.add q.toNat) = some (.slice B2 (rd_L2 l1 q).length d2)) (first | exact hx2 | exact (hcb.out.cell (p := ad2.add q.toNat) (World.block_lt_of_cell? _ _ hx2)).trans hx2 | exact (hpb.out.cell (p := ad2.add q.toNat) (Nat.lt_of_lt_of_le (World.block_lt_of_cell? _ _ hx2) hcb.out.size)).trans ((hcb.out.cell (p := ad2.add q.toNat) (World.block_lt_of_cell? _ _ hx2)).trans hx2) | go_keep)
       (first
        | (go_at_call 111; (with_reducible refine (spec_plColumn.calls k1 _ _ l0 q cc _ ?side1 ?side2 HCC.out).mono ?_); (case side1 => repeat (first | exact (Kd.C_below HR0.out HB.out) | (with_reducible refine Kd.C_alloc ?_ _) | (with_reducible refine Kd.C_drewN ?_ _) | (with_reducible refine Kd.C_drew ?_))); (case side2 => exact HC0.out); rintro e w1 ⟨vC, rfl, hC, hb⟩; have hcb := Aside0.mk hb; (try (have n_ := Aside0.mk (Kd.S_below (by (with_reducible repeat (first | apply Kd.S_alloc | apply Kd.S_drewN | apply Kd.S_drew)); exact HZ.out) hb); clear HZ; have HZ := n_; clear n_)); (try (have n_ := Aside0.mk (Kd.R_below (by (with_reducible repeat (first | apply Kd.R_alloc | apply Kd.R_drewN | apply Kd.R_drew)); exact HS1.out) hb); clear HS1; have HS1 := n_; clear n_)); (try (have n_ := Aside0.mk (Kd.R_below (by (with_reducible repeat (first | apply Kd.R_alloc | apply Kd.R_drewN | apply Kd.R_drew)); exact HS2.out) hb); clear HS2; have HS2 := n_; clear n_)); have n_ := Aside0.mk (below_step (by repeat (first | (with_reducible first | exact HB.out | apply below_alloc | apply pw_below_drewN | apply below_drew1) | exact HB.out)) hb); clear HB; have HB := n_; clear n_; have HCL := Aside0.mk hC; clear hC hb; obtain ⟨Ac, dc, ec⟩ := Kd.R_slice HCL.out; subst ec)
        | (go_at_call 82; (with_reducible refine (spec_plMonotone.calls k1 _ _ cc _ _ (rd_L2 l1 q) p _ ?side1 ?side2 ?side3 ?side4 HPP.out).mono ?_); (case side1 => repeat (first | exact (Kd.R_reads' HCL.out).2.2 | (with_reducible refine Kd.C_alloc ?_ _) | (with_reducible refine Kd.C_drewN ?_ _) | (with_reducible refine Kd.C_drew ?_))); (case side2 => exact (Kd.R_reads' HCL.out).2.1); (case side3 => repeat (first | exact (Kd.C_below (by repeat (first | exact HCN.out | (with_reducible refine Kd.C_drewN ?_ _) | (with_reducible refine Kd.C_drew ?_))) hcb.out) | (with_reducible refine Kd.C_alloc ?_ _) | (with_reducible refine Kd.C_drewN ?_ _) | (with_reducible refine Kd.C_drew ?_))); (case side4 => exact HLN.out); rintro e w2 ⟨vP, rfl, hP, hb⟩; have hpb := Aside0.mk hb; have hl6 := (show w6.heap.size ≤ _ from Nat.le_trans HW6.out (Nat.le_trans (show _ ≤ w1.heap.size from hcb.out.size) (Nat.le_refl _))); have hPw := (show Below w.heap.size w w1 from by repeat (first | (with_reducible first | exact HB.out | apply below_alloc | apply pw_below_drewN | apply below_drew1) | exact HB.out)); have HPL := Aside0.mk (show Kd.S (Kd.slice 3 (Kd.int .i64)) 24 w2 w.heap.size (fun k => w6.heap.size ≤ k) vP p from Kd.S_lower (Kd.S_mono (Kd.S_bound hP) (fun k hk => by have h1_ := hk.2.1; first | exact Nat.le_trans hl6 h1_ | (simp at h1_; omega))) (by have h2_ := hPw.size; first | exact h2_ | (simp; omega))); clear hl6 hPw; (try (have n_ := Aside0.mk (Kd.S_below (by (with_reducible repeat (first | apply Kd.S_alloc | apply Kd.S_drewN | apply Kd.S_drew)); exact HZ.out) hb); clear HZ; have HZ := n_; clear n_)); (try (have n_ := Aside0.mk (Kd.R_below (by (with_reducible repeat (first | apply Kd.R_alloc | apply Kd.R_drewN | apply Kd.R_drew)); exact HS1.out) hb); clear HS1; have HS1 := n_; clear n_)); (try (have n_ := Aside0.mk (Kd.R_below (by (with_reducible repeat (first | apply Kd.R_alloc | apply Kd.R_drewN | apply Kd.R_drew)); exact HS2.out) hb); clear HS2; have HS2 := n_; clear n_)); have n_ := Aside0.mk (below_step (by repeat (first | (with_reducible first | exact HB.out | apply below_alloc | apply pw_below_drewN | apply below_drew1) | exact HB.out)) hb); clear HB; have HB := n_; clear n_; clear hP hb; obtain ⟨Ap, cp, ep⟩ := Kd.S_slice HPL.out; subst ep))
     all_goals
      go_wp2
      go_meet
      case rel => exact ⟨Ap, cp, rfl, (by first | rfl | (simp; done)), (by first | rfl | (simp; done)), ⟨by (with_reducible repeat (first | apply Kd.S_alloc | apply Kd.S_drewN | apply Kd.S_drew)); exact HPL.out⟩, ⟨by have h1_ := HW6.out; have h2_ := hcb.out.size; have h3_ := hpb.out.size; simp at h1_ h2_ h3_ ⊢; omega⟩, ⟨by (with_reducible repeat (first | apply Kd.S_alloc | apply Kd.S_drewN | apply Kd.S_drew)); exact HZ.out⟩, ⟨by repeat (first | (with_reducible first | exact HB.out | apply below_alloc | apply pw_below_drewN | apply below_drew1) | exact HB.out)⟩⟩
    case rest =>
     clear HZ HB HW6 hx2
     obtain ⟨Ap, cp, rfl, rfl, rfl, HPL, HW6, HZ, HB⟩ := hcut
     have H := H'.out
     clear H'
     replace H := Option.bind_eq_some_iff.mp H
     obtain ⟨m2, hm2, H⟩ := H
     have HM2 := Aside0.mk hm2
     have H' := Aside0.mk H
     clear H hm2
     go_wp2
     go_loopg [55] k1 (fun kq v55 wr => ∃ (m1 : List (List Int)) (i : Int), v55 = .int .i64 i ∧ Aside0 (spec_GluePlans.l1 kq p m1 i = some m2) ∧ Aside0 (kq ≤ k1) ∧ Aside0 (w6.heap.size ≤ wr.heap.size) ∧ Aside0 (Kd.S (Kd.slice 3 (Kd.int .i64)) 24 wr w.heap.size (fun k => w.heap.size ≤ k ∧ k < w6.heap.size) (.slice (some ⟨g, 0, none⟩) z.length cap) m1) ∧ Aside0 (Kd.S (Kd.slice 3 (Kd.int .i64)) 24 wr w.heap.size (fun k => w6.heap.size ≤ k) (.slice Ap p.length cp) p) ∧ Aside0 (Below w.heap.size w wr))
     case atStart => exact ⟨m', 0, rfl, HM2, ⟨Nat.le_refl _⟩, HW6, HZ, HPL, HB⟩
     case round =>
      clear HM2 HZ HPL HB HW6
      obtain ⟨m1, i, rfl, HQ2, HKQ2, HW6, HZ, HPL, HB⟩ := hrel
      cases gk with
      | zero => exact absurd HQ2.out (by simp [spec_GluePlans.l1])
      | succ k2 =>
       have H := HQ2.out
       clear HQ2
       simp only [spec_GluePlans.l1] at H
       by_cases cp0 : i < (p.length : Int)
       ·rw [if_pos cp0] at H
        by_cases di0 : ¬ 0 ≤ i
        ·rw [if_neg di0] at H
         exact absurd H (by simp)
        replace di0 := Decidable.not_not.mp di0
        rw [if_pos di0] at H
        replace H := Option.bind_eq_some_iff.mp H
        obtain ⟨m5, hm5, H⟩ := H
        have HM5 := Aside0.mk hm5
        have H2' := Aside0.mk H
        clear H hm5
        obtain ⟨ad3, B3, d3, e3, hx3, hl3, hi3⟩ := at_L2 (Kd.S_reads' HPL.out).2.2 i di0 cp0
        cases e3
        clear hi3
        obtain ⟨g3, c3, ev3, _⟩ := Kd.S_form HPL.out (by omega)
        injection ev3 with ev3 _ ev4
        injection ev3 with ev3
        subst ev3
        clear ev4
        simp only [add_plain] at hx3
        have HG3 := Aside0.mk (show w6.heap.size ≤ g3 from (Kd.S_R HPL.out).1 _ rfl)
        have HI0 := Aside0.mk di0
        have HIP := Aside0.mk cp0
        replace di0 := eq_true di0
        replace cp0 := eq_true cp0
        go_wp2
        go_loopg [62] k2 (fun kq v62 wr => ∃ (m4 : List (List Int)) (j : Int), v62 = .int .i64 j ∧ Aside0 (spec_GluePlans.l2 kq (rd_L2 p i) m4 i j = some m5) ∧ Aside0 (kq ≤ k2) ∧ Aside0 (w6.heap.size ≤ wr.heap.size) ∧ Aside0 (Kd.S (Kd.slice 3 (Kd.int .i64)) 24 wr w.heap.size (fun k => w.heap.size ≤ k ∧ k < w6.heap.size) (.slice (some ⟨g, 0, none⟩) z.length cap) m4) ∧ Aside0 (Kd.S (Kd.slice 3 (Kd.int .i64)) 24 wr w.heap.size (fun k => w6.heap.size ≤ k) (.slice (some ⟨g3, 0, none⟩) p.length cp) p) ∧ Aside0 (wr.cell? ⟨g3, i.toNat, none⟩ = some (.slice B3 (rd_L2 p i).length d3)) ∧ Aside0 (Below w.heap.size w wr))
        case atStart => exact ⟨m1, 0, rfl, HM5, ⟨Nat.le_refl _⟩, HW6, HZ, HPL, ⟨hx3⟩, HB⟩
        case round =>
         clear HM5 HZ HPL HB HW6
         obtain ⟨m4, j, rfl, HQ3, HKQ3, HW6, HZ, HPL, HX3, HB⟩ := hrel
         cases gk with
         | zero => exact absurd HQ3.out (by simp [spec_GluePlans.l2])
         | succ k3 =>
          have H := HQ3.out
          clear HQ3
          simp only [spec_GluePlans.l2] at H
          by_cases cj : j < ((rd_L2 p i).length : Int)
          ·rw [if_pos cj] at H
           by_cases cj0 : ¬ 0 ≤ j
           ·rw [if_neg cj0] at H
            exact absurd H (by simp)
           replace cj0 := Decidable.not_not.mp cj0
           rw [if_pos cj0, if_pos HI0.out] at H
           by_cases cm : ¬ i < (m4.length : Int)
           ·rw [if_neg cm] at H
            exact absurd H (by simp)
           replace cm := Decidable.not_not.mp cm
           rw [if_pos cm] at H
           by_cases cr : ¬ j < ((rd_L2 m4 i).length : Int)
           ·rw [if_neg cr] at H
            exact absurd H (by simp)
           replace cr := Decidable.not_not.mp cr
           rw [if_pos cr] at H
           have HJ0 := Aside0.mk cj0
           have HRW := Aside0.mk cr
           have HCM := Aside0.mk cm
           obtain ⟨ad4, B4, d4, e4, hx4, hl4, hi4⟩ := at_L2 (Kd.S_reads' HPL.out).2.2 i HI0.out HIP.out
           cases e4
           simp only [add_plain] at hx4
           have e5 := hx4.symm.trans HX3.out
           injection e5 with e5
           injection e5 with e6 e7 e8
           subst e6
           subst e8
           clear e7 hl4
           obtain ⟨ad5, e9, hx5⟩ := Kd.at_int hi4 j cj0 cj
           cases e9
           clear hi4
           have hrn := (Kd.S_reads' HZ.out).1
           obtain ⟨m3, hm3⟩ : ∃ q_, q_ = m4.set i.toNat ((rd_L2 m4 i).set j.toNat (wrap64 (rd (rd_L2 m4 i) j + rd (rd_L2 p i) j))) := ⟨_, rfl⟩
           rw [← hm3] at H
           have Nm3 := Aside0.mk hm3
           have H3' := Aside0.mk H
           clear H hm3
           obtain ⟨oki, c, hcl, hM, hcell, hoki, hH⟩ := Kd.S_lend HZ.out [] i HI0.out (by omega)
           obtain ⟨u, hu, hR⟩ := hM
           replace hR : Kd.R (Kd.int .i64) 3 wr w.heap.size oki u (rd_L2 m4 i) := hR
           obtain ⟨gr, crr, er, hbr, hlr, _⟩ := Kd.R_form hR (by omega)
           subst er
           subst hu
           have hcell0 := hcell 0 _ rfl
           rw [show i.toNat * (Kd.slice 3 (Kd.int .i64)).sz + 0 = i.toNat from by show i.toNat * 1 + 0 = _; omega] at hcell0
           obtain ⟨hx0, hf0⟩ := Kd.R_celln 0 hR j cj0 cr
           have HPR := Kd.R_putg hR j (wrap64 (rd (rd_L2 m4 i) j + rd (rd_L2 p i) j))
           have HXR : wr.cell? ⟨gr, j.toNat, none⟩ = some (.int .i64 (rd (rd_L2 m4 i) j)) := hx0
           have HQO := Aside0.mk (show oki gr from hR.1 _ rfl)
           have HKI := Aside0.mk hoki
           have HHole := Aside0.mk hH
           have HIM := eq_true (show i < (z.length : Int) by omega)
           have HRQ := eq_true cr
           have cj1 := eq_true cj
           have cj2 := eq_true cj0
           clear hcell hcl hR hH hoki hbr hlr hx0 hrn cm cr cj cj0
           obtain ⟨rw_, hrow⟩ : ∃ q_, q_ = rd_L2 m4 i := ⟨_, rfl⟩
           rw [← hrow] at HXR hcell0 HPR HRQ HHole
           have Nrow := Aside0.mk hrow
           clear hrow
           go_wp2_with (first | ((with_reducible refine gate_store (t := 3) (p := 76) rfl ?_); refine store_event (t := 3) (p := 76) (v := ?vo_1) (w1 := (wr.setCell ⟨gr, j.toNat, none⟩ (.int .i64 (wrap64 (rd rw_ j + rd (rd_L2 p i) j))))) ?hg ?ho ?hn ?hr ?_; (case ho => rfl); (case hg => rfl); (case hn => rfl); (case hr => first | (go_simp; done) | (go_simp; rfl)); intro w8 hw; have hg : wr.grownBy w8 (some gr) := (by rw [hw]; exact HPR.2); have hp_ : Kd.S (Kd.slice 3 (Kd.int .i64)) 24 w8 w.heap.size (fun k => w.heap.size ≤ k ∧ k < w6.heap.size) (.slice (some ⟨g, 0, none⟩) z.length cap) m3 := (by rw [Nm3.out, ← Nrow.out]; exact spec_GluePlans.row_step rfl HKI.out HHole.out rfl HQO.out (by rw [hw]; exact HPR.1) hg); clear HPR; have n1_ := Aside0.mk (Kd.S_grown HPL.out hg (fun k hk e_ => by cases e_; have := (HKI.out _ HQO.out).1; omega)); have n2_ := Aside0.mk (Below.grown HB.out hg HB.out.size (fun k e_ => by cases e_; have := (HKI.out _ HQO.out).1; omega)); have n3_ := Aside0.mk (Nat.le_trans HW6.out hg.size); have n4_ := Aside0.mk hp_; have n5_ := Aside0.mk (show w8.cell? ⟨g3, i.toNat, none⟩ = some (.slice (some ad5) (rd_L2 p i).length _) from (World.cell?_of_block (w := wr) (hg.block _ (by have h_ := World.block_lt_of_cell? _ _ HX3.out; exact h_) (by intro e_; have h1_ := HG3.out; have h2_ := (HKI.out _ HQO.out).1; injection e_ with e_; (try simp only at e_); omega))).trans HX3.out); clear HZ HPL HB HW6 HHole HX3; have HPL := n1_; have HB := n2_; have HW6 := n3_; have HZ := n4_; have HX3 := n5_; clear n1_ n2_ n3_ n4_ n5_ hg hw hp_))
           go_roundg k3
           case measure => have := HKQ3.out; omega
           case rel => exact ⟨m3, (wrap64 (j + 1)), (by first | rfl | (simp; done) | (simp [*]; done)), H3', ⟨by have := HKQ3.out; omega⟩, HW6, HZ, HPL, HX3, HB⟩
          ·rw [if_neg cj] at H
           obtain rfl := Option.some.inj H
           clear H
           have cj1 := eq_false cj
           clear cj
           go_wp2
           go_roundg k2
           case measure => have := HKQ2.out; omega
           case rel => exact ⟨m4, (wrap64 (i + 1)), (by first | rfl | (simp; done) | (simp [*]; done)), H2', ⟨by have := HKQ2.out; omega⟩, HW6, HZ, HPL, HB⟩
       ·rw [if_neg cp0] at H
        obtain rfl := Option.some.inj H
        clear H
        have cp1 := eq_false cp0
        clear cp0
        go_wp2
        go_roundg k1
        case measure => have := HKQ.out; omega
        case rel => exact ⟨m1, (wrap64 (q + 1)), (by first | rfl | (simp; done) | (simp [*]; done)), H', ⟨by have := HKQ.out; omega⟩, HW6, HZ, HB⟩
   ·rw [if_neg ci] at H
    obtain rfl := Option.some.inj H
    clear H
    replace ci := eq_false ci
    have hlz := (Kd.S_reads' HZ.out).1
    have H := HEND.out
    clear HEND
    by_cases cb : ¬ b = true
    ·rw [if_neg cb] at H
     replace cb := Bool.eq_false_iff.mpr cb
     subst cb
     simp only [Option.some.injEq, Prod.mk.injEq] at H
     obtain ⟨rfl, rfl⟩ := H
     rw [hlz] at HZ
     simp only [hlz]
     clear hlz
     go_wp2_with (first | (go_at_call 93; (with_reducible refine (spec_plGood.calls k _ _ m' false _ ?side1 ?side2 E9.out).mono ?_); (case side1 => exact (Kd.S_reads' HZ.out).2.2); (case side2 => exact (Kd.S_reads' HZ.out).2.1); rintro e wp_ ⟨rfl, ⟨nd, rfl⟩⟩))
     go_ret2
     exact ⟨_, by first | rfl | (simp; done) | (simp [*]; done), Kd.S_nil _ _ _ _ _, by repeat (first | (with_reducible first | exact HB.out | apply below_alloc | apply pw_below_drewN | apply below_drew1) | exact HB.out)⟩
    ·replace cb := Decidable.not_not.mp cb
     rw [if_pos cb] at H
     subst cb
     simp only [Option.some.injEq, Prod.mk.injEq] at H
     obtain ⟨rfl, rfl⟩ := H
     rw [hlz] at HZ
     simp only [hlz]
     clear hlz
     go_wp2_with (first | (go_at_call 93; (with_reducible refine (spec_plGood.calls k _ _ m' true _ ?side1 ?side2 E9.out).mono ?_); (case side1 => exact (Kd.S_reads' HZ.out).2.2); (case side2 => exact (Kd.S_reads' HZ.out).2.1); rintro e wp_ ⟨rfl, ⟨nd, rfl⟩⟩))
     go_ret2
     exact ⟨_, by first | rfl | (simp; done) | (simp [*]; done), Kd.S_mono (by (with_reducible repeat (first | apply Kd.S_alloc | apply Kd.S_drewN | apply Kd.S_drew)); exact HZ.out) (fun _ _ => trivial), by repeat (first | (with_reducible first | exact HB.out | apply below_alloc | apply pw_below_drewN | apply below_drew1) | exact HB.out)⟩

/-! ### spec_DrawTurnPlan: function 32 -/
def spec_DrawTurnPlan.f (k : Nat) (l0 : List Int) : Option ((List (List Int))) := (spec_l1Cur_places.f l0 0 0).bind fun bt376 => ((spec_l1Cur_planOf.f k l0 bt376.2.1 bt376.2.2 bt376.1).bind fun bt379 => (some bt379.1))
theorem spec_DrawTurnPlan.mono : ∀ a0 k, LeO (spec_DrawTurnPlan.f k a0) (spec_DrawTurnPlan.f (k + 1) a0) := by
 intro a0 k
 unfold spec_DrawTurnPlan.f
 repeat' first
   | (with_reducible exact spec_l1Cur_planOf.mono _ _ _ _ _)
   | (with_reducible exact LeO.refl _)
   | (with_reducible exact LeO.none _)
   | (with_reducible refine LeO.ite ?_ ?_)
   | (with_reducible refine LeO.bind ?_ (fun _ => ?_))
   | exact spec_l1Cur_planOf.mono _ _ _ _ _
   | exact LeO.none _
   | refine LeO.ite ?_ ?_
   | refine LeO.bind ?_ (fun _ => ?_)
set_option maxHeartbeats 8000000 in
set_option maxRecDepth 100000 in
theorem spec_DrawTurnPlan.calls (k : Nat) (A0 : Option Addr) (c0 : Nat) (l0 : List Int) (r : List (List Int)) (w : World) (hr0 : Kd.C (Kd.int .u8) w A0 l0.length l0) (hc0 : l0.length ≤ c0) (h : spec_DrawTurnPlan.f k l0 = some r) :
  Calls Try.prog 32 #[.slice A0 l0.length c0] w fun e w' => ∃ v0_ : Value, e = .returned (v0_) ∧ Kd.S (Kd.slice 3 (Kd.int .i64)) 24 w' w.heap.size (fun _ => True) v0_ r ∧ Below w.heap.size w w' := by
 have hu71 := Try.underlying71
 have HR0 := Aside0.mk hr0
 have HC0 := Aside0.mk hc0
 clear hr0 hc0
 have HB := Aside0.mk (Below.refl w.heap.size w)
 have H : ((spec_l1Cur_places.f l0 0 0).bind fun bt376 => ((spec_l1Cur_planOf.f k l0 bt376.2.1 bt376.2.2 bt376.1).bind fun bt379 => (some bt379.1))) = some r := h
 clear h
 replace H := Option.bind_eq_some_iff.mp H
 obtain ⟨⟨t376, t377, t378⟩, A20, H⟩ := H
 replace H : ((spec_l1Cur_planOf.f k l0 t377 t378 t376).bind fun bt379 => (some bt379.1)) = some r := H
 have A2 := Aside0.mk A20
 clear A20
 replace H := Option.bind_eq_some_iff.mp H
 obtain ⟨⟨t379, t382, t383⟩, A30, H⟩ := H
 replace H : (some t379) = some r := H
 have A3 := Aside0.mk A30
 clear A30
 obtain rfl := Option.some.inj H
 go_enter Try.func32, Try.ntmps32
 go_wp2_with (first | ((with_reducible refine gate_dst (N := 6) rfl ?_); refine box_event ?hg (N := 6) ?hd (cs := #[.slice A0 l0.length c0, .int .i64 0, .int .u64 0]) (t := 71) ?hr ?_; (case hd => rfl); (case hg => rfl); (case hr => first | (go_simp; done) | (go_simp; rfl)); intro gb375 hg w4 hbox hb; have n0_ := Aside0.mk (below_step (by repeat (first | (with_reducible first | exact HB.out | apply below_alloc | apply pw_below_drewN | apply below_drew1) | exact HB.out)) hb); have n1_ := Aside0.mk ((by rw [hg]; exact (below_size (by repeat (first | (with_reducible first | exact HB.out | apply below_alloc | apply pw_below_drewN | apply below_drew1) | exact HB.out))) : w.heap.size ≤ gb375)); have n2_ := Aside0.mk ((by rw [hg]; exact (below_size (by repeat (first | (with_reducible first | exact HB.out | apply below_alloc | apply pw_below_drewN | apply below_drew1) | exact HB.out))) : w.heap.size ≤ gb375)); have n3_ := Aside0.mk ((show IsS71 w _ gb375 l0 0 0 from ⟨_, _, hbox, (by rw [hg]; exact (below_size (by repeat (first | (with_reducible first | exact HB.out | apply below_alloc | apply pw_below_drewN | apply below_drew1) | exact HB.out)))), HR0.out⟩)); clear HB; have HB := n0_; have GW375 := n1_; have GE375 := n2_; have HI375 := n3_; clear n0_ n1_ n2_ n3_; clear hb hbox hg) | ((with_reducible refine gate_callee (f := 92) rfl ?_); refine goesL_ (some 9) rfl rfl Try.func92 (by kernel_rfl) rfl #[.pointer (some ⟨gb375, 0, none⟩)] rfl (by (try simp only [List.map_toArray, List.map_cons, List.map_nil]); first | done | rfl | (simp only [List.length_drop, List.length_take]; rfl)) ?_; (with_reducible refine (spec_l1Cur_places.calls gb375 l0 0 0 t376 t377 t378 w _ ?side1 ?side2 A2.out).mono ?_); (case side1 => repeat (first | (with_reducible first | exact HI375.out | apply IsS71.alloc | apply IsS71.drewN | apply IsS71.drew | apply IsS71.set_1 | apply IsS71.set_2) | exact HI375.out)); (case side2 => repeat (first | (with_reducible first | exact HB.out | apply below_alloc | apply pw_below_drewN | apply below_drew1 | refine below_set ?_ (IsS71.ge HI375.out)) | exact HB.out)); rintro e w5 ⟨rfl, hi, hb, hk⟩; refine ⟨_, rfl, ?_⟩; have n0_ := Aside0.mk (hb); have n1_ := Aside0.mk (hi); clear HB; clear HI375; have HB := n0_; have HI375 := n1_; clear n0_ n1_; (try clear hb); (try clear hb2); (try clear hk); (try clear hi)) | ((with_reducible refine gate_callee (f := 91) rfl ?_); refine goesL_ (some 10) rfl rfl Try.func91 (by kernel_rfl) rfl #[.pointer (some ⟨gb375, 0, none⟩), .int .i64 t376] rfl (by (try simp only [List.map_toArray, List.map_cons, List.map_nil]); first | done | rfl | (simp only [List.length_drop, List.length_take]; rfl)) ?_; (with_reducible refine (spec_l1Cur_planOf.calls k gb375 l0 t377 t378 t376 t379 t382 t383 w _ ?side1 ?side2 A3.out).mono ?_); (case side1 => repeat (first | (with_reducible first | exact HI375.out | apply IsS71.alloc | apply IsS71.drewN | apply IsS71.drew | apply IsS71.set_1 | apply IsS71.set_2) | exact HI375.out)); (case side2 => repeat (first | (with_reducible first | exact HB.out | apply below_alloc | apply pw_below_drewN | apply below_drew1 | refine below_set ?_ (IsS71.ge HI375.out)) | exact HB.out)); rintro e w6 ⟨v380, rfl, ho0, hi, hb, hk⟩; refine ⟨_, rfl, ?_⟩; have n0_ := Aside0.mk (Kd.S_lower ho0 (below_size (by repeat (first | (with_reducible first | exact HB.out | apply below_alloc | apply pw_below_drewN | apply below_drew1 | refine below_set ?_ (IsS71.ge HI375.out)) | exact HB.out)))); have n1_ := Aside0.mk (hb); have n2_ := Aside0.mk (hi); clear HB; clear HI375; have HO381 := n0_; have HB := n1_; have HI375 := n2_; clear n0_ n1_ n2_; (try clear hb); (try clear hb2); (try clear hk); (try clear hi); (try clear ho0)))
 go_ret
 exact ⟨_, by first | rfl | (simp [errW_none, errW_some] <;> rfl) | (simp [*, errW_none, errW_some] <;> rfl), by (with_reducible repeat (first | apply Kd.S_alloc | apply Kd.S_drewN | apply Kd.S_drew)); exact HO381.out, by repeat (first | (with_reducible first | exact HB.out | apply below_alloc | apply pw_below_drewN | apply below_drew1 | refine below_set ?_ (IsS71.ge HI375.out)) | exact HB.out)⟩

/-! ### impl_TurnPlan: function 33 -/
def impl_TurnPlan.f (k : Nat) (l0 : List (List Int)) : Option ((List (List Int)) × Bool) := (impl_isPlan.f k l0).bind fun t384 => (if t384 = true then ((impl_turn.f k l0).bind fun t385 => (some (t385, true))) else (some (([] : List (List Int)), false)))
theorem impl_TurnPlan.mono : ∀ a0 k, LeO (impl_TurnPlan.f k a0) (impl_TurnPlan.f (k + 1) a0) := by
 intro a0 k
 unfold impl_TurnPlan.f
 repeat' first
   | (with_reducible exact impl_isPlan.mono _ _)
   | (with_reducible exact impl_turn.mono _ _)
   | (with_reducible exact LeO.refl _)
   | (with_reducible exact LeO.none _)
   | (with_reducible refine LeO.ite ?_ ?_)
   | (with_reducible refine LeO.bind ?_ (fun _ => ?_))
   | exact impl_isPlan.mono _ _
   | exact impl_turn.mono _ _
   | exact LeO.none _
   | refine LeO.ite ?_ ?_
   | refine LeO.bind ?_ (fun _ => ?_)
set_option maxHeartbeats 8000000 in
set_option maxRecDepth 100000 in
theorem impl_TurnPlan.calls (k : Nat) (A0 : Option Addr) (c0 : Nat) (l0 : List (List Int)) (r1 : List (List Int)) (r2 : Bool) (w : World) (hr0 : Kd.C (Kd.slice 3 (Kd.int .i64)) w A0 l0.length l0) (hc0 : l0.length ≤ c0) (h : impl_TurnPlan.f k l0 = some (r1, r2)) :
  Calls Try.prog 33 #[.slice A0 l0.length c0] w fun e w' => ∃ v0_ : Value, e = .returned (.tuple #[v0_, .bool r2]) ∧ Kd.S (Kd.slice 3 (Kd.int .i64)) 24 w' w.heap.size (fun _ => True) v0_ r1 ∧ Below w.heap.size w w' := by
 have HR0 := Aside0.mk hr0
 have HC0 := Aside0.mk hc0
 clear hr0 hc0
 have HB := Aside0.mk (Below.refl w.heap.size w)
 have H : ((impl_isPlan.f k l0).bind fun t384 => (if t384 = true then ((impl_turn.f k l0).bind fun t385 => (some (t385, true))) else (some (([] : List (List Int)), false)))) = some (r1, r2) := h
 clear h
 replace H := Option.bind_eq_some_iff.mp H
 obtain ⟨t384, A20, H⟩ := H
 replace H : (if t384 = true then ((impl_turn.f k l0).bind fun t385 => (some (t385, true))) else (some (([] : List (List Int)), false))) = some (r1, r2) := H
 have A2 := Aside0.mk A20
 clear A20
 by_cases c3 : t384 = true
 ·subst c3
  have H1 : ((impl_turn.f k l0).bind fun t385 => (some (t385, true))) = some (r1, r2) := by rw [if_pos rfl] at H; exact H
  clear H
  have H := H1
  clear H1
  replace H := Option.bind_eq_some_iff.mp H
  obtain ⟨t385, A40, H⟩ := H
  replace H : (some (t385, true)) = some (r1, r2) := H
  have A4 := Aside0.mk A40
  clear A40
  simp only [Option.some.injEq, Prod.mk.injEq] at H
  obtain ⟨rfl, rfl⟩ := H
  go_enter Try.func33, Try.ntmps33
  go_wp2_with (first | ((with_reducible refine gate_callee (f := 85) rfl ?_); refine goesL_ (some 5) rfl rfl Try.func85 (by kernel_rfl) rfl #[.slice A0 l0.length c0] rfl (by (try simp only [List.map_toArray, List.map_cons, List.map_nil]); first | done | rfl | (simp only [List.length_drop, List.length_take]; rfl)) ?_; (with_reducible refine (impl_isPlan.calls k _ _ l0 true _ ?side1 ?side2 A2.out).mono ?_); (case side1 => repeat (first | exact HR0.out | (with_reducible refine Kd.C_alloc ?_ _) | (with_reducible refine Kd.C_drewN ?_ _) | (with_reducible refine Kd.C_drew ?_))); (case side2 => exact HC0.out); rintro e w5 ⟨rfl, hb⟩; refine ⟨_, rfl, ?_⟩; have n0_ := Aside0.mk (below_step (by repeat (first | (with_reducible first | exact HB.out | apply below_alloc | apply pw_below_drewN | apply below_drew1) | exact HB.out)) hb); clear HB; have HB := n0_; clear n0_; (try clear hb); (try clear hb2); (try clear hk); (try clear hi)) | ((with_reducible refine gate_callee (f := 88) rfl ?_); refine goesL_ (some 8) rfl rfl Try.func88 (by kernel_rfl) rfl #[.slice A0 l0.length c0] rfl (by (try simp only [List.map_toArray, List.map_cons, List.map_nil]); first | done | rfl | (simp only [List.length_drop, List.length_take]; rfl)) ?_; (with_reducible refine (impl_turn.calls k _ _ l0 t385 _ ?side1 ?side2 A4.out).mono ?_); (case side1 => repeat (first | exact (Kd.C_below HR0.out HB.out) | (with_reducible refine Kd.C_alloc ?_ _) | (with_reducible refine Kd.C_drewN ?_ _) | (with_reducible refine Kd.C_drew ?_))); (case side2 => exact HC0.out); rintro e w6 ⟨v386, rfl, ho0, hb⟩; refine ⟨_, rfl, ?_⟩; have n0_ := Aside0.mk (Kd.S_lower ho0 (below_size (by repeat (first | (with_reducible first | exact HB.out | apply below_alloc | apply pw_below_drewN | apply below_drew1) | exact HB.out)))); have n1_ := Aside0.mk (below_step (by repeat (first | (with_reducible first | exact HB.out | apply below_alloc | apply pw_below_drewN | apply below_drew1) | exact HB.out)) hb); clear HB; have HO387 := n0_; have HB := n1_; clear n0_ n1_; (try clear hb); (try clear hb2); (try clear hk); (try clear hi); (try clear ho0)))
  go_ret2
  exact ⟨_, by first | rfl | (simp [errW_none, errW_some] <;> rfl) | (simp [*, errW_none, errW_some] <;> rfl), by (with_reducible repeat (first | apply Kd.S_alloc | apply Kd.S_drewN | apply Kd.S_drew)); exact HO387.out, by repeat (first | (with_reducible first | exact HB.out | apply below_alloc | apply pw_below_drewN | apply below_drew1) | exact HB.out)⟩
 ·replace c3 := Bool.eq_false_iff.mpr c3
  subst c3
  have H1 : (some (([] : List (List Int)), false)) = some (r1, r2) := by rw [if_neg (show ¬ (false = true) by decide)] at H; exact H
  clear H
  have H := H1
  clear H1
  simp only [Option.some.injEq, Prod.mk.injEq] at H
  obtain ⟨rfl, rfl⟩ := H
  go_enter Try.func33, Try.ntmps33
  go_wp2_with (first | ((with_reducible refine gate_callee (f := 85) rfl ?_); refine goesL_ (some 5) rfl rfl Try.func85 (by kernel_rfl) rfl #[.slice A0 l0.length c0] rfl (by (try simp only [List.map_toArray, List.map_cons, List.map_nil]); first | done | rfl | (simp only [List.length_drop, List.length_take]; rfl)) ?_; (with_reducible refine (impl_isPlan.calls k _ _ l0 false _ ?side1 ?side2 A2.out).mono ?_); (case side1 => repeat (first | exact HR0.out | (with_reducible refine Kd.C_alloc ?_ _) | (with_reducible refine Kd.C_drewN ?_ _) | (with_reducible refine Kd.C_drew ?_))); (case side2 => exact HC0.out); rintro e w7 ⟨rfl, hb⟩; refine ⟨_, rfl, ?_⟩; have n0_ := Aside0.mk (below_step (by repeat (first | (with_reducible first | exact HB.out | apply below_alloc | apply pw_below_drewN | apply below_drew1) | exact HB.out)) hb); clear HB; have HB := n0_; clear n0_; (try clear hb); (try clear hb2); (try clear hk); (try clear hi)))
  go_ret2
  exact ⟨_, by first | rfl | (simp [errW_none, errW_some] <;> rfl) | (simp [*, errW_none, errW_some] <;> rfl), by first | exact Kd.S_nil _ _ _ _ _ | exact Kd.N_nil _ _ _ _ _ | exact Kd.V_nil _ _ _ _ _ | exact Kd.Q_nil _ _ _ _ _ | exact Kd.R_nil _ _ _ _ _, by repeat (first | (with_reducible first | exact HB.out | apply below_alloc | apply pw_below_drewN | apply below_drew1) | exact HB.out)⟩

/-! ### spec_TurnPlan: function 34 -/
def spec_TurnPlan.l0 : Nat → List (List Int) → List (List Int) → Int → Int → Option ((List (List Int)) × Bool)
 | 0, _, _, _, _ => none
 | k + 1, x0, x4, x10, x11 => if x11 < x10 then ((spec_plColumn.f k x0 x11).bind fun t389 => (if x4.length < 5864062014805 then (spec_TurnPlan.l0 k x0 (x4 ++ [t389]) x10 (wrap64 (x11 + 1))) else (none))) else (some (x4, true))
def spec_TurnPlan.f (k : Nat) (l0 : List (List Int)) : Option ((List (List Int)) × Bool) := (spec_plGood.f k l0).bind fun t388 => (if t388 = true then (spec_TurnPlan.l0 k l0 ([] : List (List Int)) (l0.length : Int) 0) else (some (([] : List (List Int)), false)))
theorem spec_TurnPlan.mono_l : ∀ k, (∀ y0 y1 y2 y3, LeO (spec_TurnPlan.l0 k y0 y1 y2 y3) (spec_TurnPlan.l0 (k + 1) y0 y1 y2 y3))
 | 0 => fun _ _ _ _ r h => by simp [spec_TurnPlan.l0] at h
 | k + 1 => by
  have ih0 := spec_TurnPlan.mono_l k
  ·intro y0 y1 y2 y3
   unfold spec_TurnPlan.l0
   repeat' first
   | (with_reducible exact ih0 _ _ _ _)
   | (with_reducible exact spec_plColumn.mono _ _ _)
   | (with_reducible exact spec_plGood.mono _ _)
   | (with_reducible exact LeO.refl _)
   | (with_reducible exact LeO.none _)
   | (with_reducible refine LeO.ite ?_ ?_)
   | (with_reducible refine LeO.bind ?_ (fun _ => ?_))
   | exact ih0 _ _ _ _
   | exact spec_plColumn.mono _ _ _
   | exact spec_plGood.mono _ _
   | exact LeO.none _
   | refine LeO.ite ?_ ?_
   | refine LeO.bind ?_ (fun _ => ?_)
theorem spec_TurnPlan.mono : ∀ a0 k, LeO (spec_TurnPlan.f k a0) (spec_TurnPlan.f (k + 1) a0) := by
 intro a0 k
 have ih0 := spec_TurnPlan.mono_l k
 unfold spec_TurnPlan.f
 repeat' first
   | (with_reducible exact ih0 _ _ _ _)
   | (with_reducible exact spec_plColumn.mono _ _ _)
   | (with_reducible exact spec_plGood.mono _ _)
   | (with_reducible exact LeO.refl _)
   | (with_reducible exact LeO.none _)
   | (with_reducible refine LeO.ite ?_ ?_)
   | (with_reducible refine LeO.bind ?_ (fun _ => ?_))
   | exact ih0 _ _ _ _
   | exact spec_plColumn.mono _ _ _
   | exact spec_plGood.mono _ _
   | exact LeO.none _
   | refine LeO.ite ?_ ?_
   | refine LeO.bind ?_ (fun _ => ?_)
set_option maxHeartbeats 8000000 in
set_option maxRecDepth 100000 in
theorem spec_TurnPlan.calls (k : Nat) (A0 : Option Addr) (c0 : Nat) (l0 : List (List Int)) (r1 : List (List Int)) (r2 : Bool) (w : World) (hr0 : Kd.C (Kd.slice 3 (Kd.int .i64)) w A0 l0.length l0) (hc0 : l0.length ≤ c0) (h : spec_TurnPlan.f k l0 = some (r1, r2)) :
  Calls Try.prog 34 #[.slice A0 l0.length c0] w fun e w' => ∃ v0_ : Value, e = .returned (.tuple #[v0_, .bool r2]) ∧ Kd.S (Kd.slice 3 (Kd.int .i64)) 24 w' w.heap.size (fun _ => True) v0_ r1 ∧ Below w.heap.size w w' := by
 have HR0 := Aside0.mk hr0
 have HC0 := Aside0.mk hc0
 clear hr0 hc0
 have HB := Aside0.mk (Below.refl w.heap.size w)
 have H : ((spec_plGood.f k l0).bind fun t388 => (if t388 = true then (spec_TurnPlan.l0 k l0 ([] : List (List Int)) (l0.length : Int) 0) else (some (([] : List (List Int)), false)))) = some (r1, r2) := h
 clear h
 replace H := Option.bind_eq_some_iff.mp H
 obtain ⟨t388, A20, H⟩ := H
 replace H : (if t388 = true then (spec_TurnPlan.l0 k l0 ([] : List (List Int)) (l0.length : Int) 0) else (some (([] : List (List Int)), false))) = some (r1, r2) := H
 have A2 := Aside0.mk A20
 clear A20
 by_cases c3 : t388 = true
 ·subst c3
  have H1 : (spec_TurnPlan.l0 k l0 ([] : List (List Int)) (l0.length : Int) 0) = some (r1, r2) := by rw [if_pos rfl] at H; exact H
  clear H
  have H := H1
  clear H1
  have H' := Aside0.mk H
  clear H
  go_enter Try.func34, Try.ntmps34
  go_wp2_with (first | ((with_reducible refine gate_callee (f := 93) rfl ?_); refine goesL_ (some 7) rfl rfl Try.func93 (by kernel_rfl) rfl #[.slice A0 l0.length c0] rfl (by (try simp only [List.map_toArray, List.map_cons, List.map_nil]); first | done | rfl | (simp only [List.length_drop, List.length_take]; rfl)) ?_; (with_reducible refine (spec_plGood.calls k _ _ l0 true _ ?side1 ?side2 A2.out).mono ?_); (case side1 => repeat (first | exact HR0.out | (with_reducible refine Kd.C_alloc ?_ _) | (with_reducible refine Kd.C_drewN ?_ _) | (with_reducible refine Kd.C_drew ?_))); (case side2 => exact HC0.out); rintro e w' ⟨rfl, ⟨nd, rfl⟩⟩; refine ⟨_, rfl, ?_⟩))
  go_loopg [4, 11] k (fun kq v4 v11 w' => ∃ (x4_1 : List (List Int)) (x11_1 : Int), v11 = .int .i64 x11_1 ∧ Aside0 (spec_TurnPlan.l0 kq l0 x4_1 (l0.length : Int) x11_1 = some (r1, r2)) ∧ Aside0 (kq ≤ k) ∧ Aside0 (Kd.S (Kd.slice 3 (Kd.int .i64)) 24 w' w.heap.size (fun _ => True) v4 x4_1) ∧ Aside0 (Below w.heap.size w w'))
  case atStart => exact ⟨(([] : List (List Int))), (0), (by first | rfl | (simp; done) | (simp [*]; done)), H', ⟨Nat.le_refl _⟩, ⟨by first | exact Kd.S_nil _ _ _ _ _ | exact Kd.N_nil _ _ _ _ _ | exact Kd.V_nil _ _ _ _ _ | exact Kd.Q_nil _ _ _ _ _ | exact Kd.R_nil _ _ _ _ _⟩, ⟨by repeat (first | (with_reducible first | exact HB.out | apply below_alloc | apply pw_below_drewN | apply below_drew1) | exact HB.out)⟩⟩
  case round =>
   clear H'
   try clear p2
   try clear c3
   obtain ⟨x4_1, x11_1, rfl, HA, HK1, HO_4, HB⟩ := hrel
   cases gk with
   | zero => exact absurd HA.out (by simp [spec_TurnPlan.l0])
   | succ k1 =>
    have H := HA.out
    clear HA
    simp only [spec_TurnPlan.l0] at H
    by_cases c4 : x11_1 < (l0.length : Int)
    ·rw [if_pos c4] at H
     have c4b0 : decide (x11_1 < (l0.length : Int)) = true := decide_eq_true c4
     clear c4
     replace H := Option.bind_eq_some_iff.mp H
     obtain ⟨t389, A50, H⟩ := H
     replace H : (if x4_1.length < 5864062014805 then (spec_TurnPlan.l0 k1 l0 (x4_1 ++ [t389]) (l0.length : Int) (wrap64 (x11_1 + 1))) else (none)) = some (r1, r2) := H
     have A5 := Aside0.mk A50
     clear A50
     by_cases c6 : x4_1.length < 5864062014805
     ·rw [if_pos c6] at H
      have LMc6 := Aside0.mk c6
      clear c6
      obtain ⟨y392, hy392⟩ : ∃ y_ : List (List Int), y_ = (x4_1 ++ [t389]) := ⟨_, rfl⟩
      replace H : (spec_TurnPlan.l0 k1 l0 y392 (l0.length : Int) (wrap64 (x11_1 + 1))) = some (r1, r2) := by first | (rw [hy392]; with_reducible exact H) | (have H2_ := (Option.bind_some _ _).symm.trans H; rw [hy392]; with_reducible exact H2_) | (have H2_ := (Option.bind_some _ _).symm.trans H; with_reducible exact H2_) | with_reducible exact H | (rw [hy392]; exact H) | exact H
      have Ny392 := Aside0.mk hy392
      clear hy392
      have H' := Aside0.mk H
      clear H
      go_wp2_with (first | ((with_reducible refine gate_callee (f := 111) rfl ?_); refine goesL_ (some 17) rfl rfl Try.func111 (by kernel_rfl) rfl #[.slice A0 l0.length c0, .int .i64 x11_1] rfl (by (try simp only [List.map_toArray, List.map_cons, List.map_nil]); first | done | rfl | (simp only [List.length_drop, List.length_take]; rfl)) ?_; (with_reducible refine (spec_plColumn.calls k1 _ _ l0 x11_1 t389 _ ?side1 ?side2 A5.out).mono ?_); (case side1 => repeat (first | exact (Kd.C_below HR0.out HB.out) | (with_reducible refine Kd.C_alloc ?_ _) | (with_reducible refine Kd.C_drewN ?_ _) | (with_reducible refine Kd.C_drew ?_))); (case side2 => exact HC0.out); rintro e w7 ⟨v390, rfl, ho0, hb⟩; refine ⟨_, rfl, ?_⟩; have n0_ := Aside0.mk (Kd.S_elder' (by (with_reducible repeat (first | apply Kd.S_alloc | apply Kd.S_drewN | apply Kd.S_drew)); exact HO_4.out) (Kd.R_base ho0) hb); have n1_ := Aside0.mk (Kd.R_lower ho0 (below_size (by repeat (first | (with_reducible first | exact HB.out | apply below_alloc | apply pw_below_drewN | apply below_drew1) | exact HB.out)))); have n2_ := Aside0.mk (below_step (by repeat (first | (with_reducible first | exact HB.out | apply below_alloc | apply pw_below_drewN | apply below_drew1) | exact HB.out)) hb); clear HO_4; clear HB; have HO_4 := n0_; have HO391 := n1_; have HB := n2_; clear n0_ n1_ n2_; (try clear hb); (try clear hb2); (try clear hk); (try clear hi); (try clear ho0); obtain ⟨Ao9, co9, eo9⟩ := Kd.R_slice HO391.out; subst eo9) | ((with_reducible refine gate_builtin (b := .append) (xs := #[.tmp 14, .tmp 18]) rfl ?_); at_builtin; refine Kd.S_append (Kd.slice 3 (Kd.int .i64)) (w0 := w) w.heap.size rfl (.tmp 14) (.tmp 18) 27 24 (.slice none 0 0) 24 rfl Try.underlying27 info24 rfl (by decide) (by omega) u4 x4_1 t389 [.slice Ao9 t389.length co9] (fun _ => True) (fun k_ => some k_ = (.slice Ao9 t389.length co9 : Value).ownBlock) rfl rfl ?aP (fun k_ hk_ => ((Kd.R_mono (ok' := fun k_ => ((fun _ => True)) k_ ∧ some k_ ≠ (u4 : Value).ownBlock) (Kd.R_apart' (HO391.out) (Kd.S_typed HO_4.out) (by decide)) (fun k_ hk => ⟨trivial, hk.2⟩))).1 k_ hk_.symm) ?aF ?aO ?aB ?aS ?aL ?_; (case aP => exact Kd.M_row (Kd.R_mono (Kd.R_tight rfl (Kd.R_mono (ok' := fun k_ => ((fun _ => True)) k_ ∧ some k_ ≠ (u4 : Value).ownBlock) (Kd.R_apart' (HO391.out) (Kd.S_typed HO_4.out) (by decide)) (fun k_ hk => ⟨trivial, hk.2⟩))) (fun _ h_ => h_))); (case aB => exact (by repeat (first | (with_reducible first | exact HB.out | apply below_alloc | apply pw_below_drewN | apply below_drew1) | exact HB.out))); (case aF => exact (fun _ _ => trivial)); (case aO => exact (by (with_reducible repeat (first | apply Kd.S_alloc | apply Kd.S_drewN | apply Kd.S_drew)); exact Kd.S_mono HO_4.out (fun k_ hk => ⟨trivial, fun e_ => hk.2 e_⟩))); (case aS => exact (below_size (by repeat (first | (with_reducible first | exact HB.out | apply below_alloc | apply pw_below_drewN | apply below_drew1) | exact HB.out)))); (case aL => have := LMc6.out; omega); intro v393 w8 ho hb hg hat; rw [← Ny392.out] at ho; have n0_ := Aside0.mk (hb); have n1_ := Aside0.mk (ho); clear HB; clear HO_4; clear HO391; have HB := n0_; have HO394 := n1_; clear n0_ n1_; clear ho hb hg hat))
      go_roundg k1
      case measure => have := HK1.out; omega
      case rel => exact ⟨(y392), (wrap64 (x11_1 + 1)), (by first | rfl | (simp; done) | (simp [*]; done)), H', ⟨by have := HK1.out; omega⟩, ⟨by (with_reducible repeat (first | apply Kd.S_alloc | apply Kd.S_drewN | apply Kd.S_drew)); exact HO394.out⟩, ⟨by repeat (first | (with_reducible first | exact HB.out | apply below_alloc | apply pw_below_drewN | apply below_drew1) | exact HB.out)⟩⟩
     ·rw [if_neg c6] at H
      exact absurd H (by simp)
    ·rw [if_neg c4] at H
     have c4b0 : decide (x11_1 < (l0.length : Int)) = false := decide_eq_false c4
     clear c4
     simp only [Option.some.injEq, Prod.mk.injEq] at H
     obtain ⟨rfl, rfl⟩ := H
     go_wp2
     go_ret2
     exact ⟨_, by first | rfl | (simp [errW_none, errW_some] <;> rfl) | (simp [*, errW_none, errW_some] <;> rfl), by (with_reducible repeat (first | apply Kd.S_alloc | apply Kd.S_drewN | apply Kd.S_drew)); exact HO_4.out, by repeat (first | (with_reducible first | exact HB.out | apply below_alloc | apply pw_below_drewN | apply below_drew1) | exact HB.out)⟩
 ·replace c3 := Bool.eq_false_iff.mpr c3
  subst c3
  have H1 : (some (([] : List (List Int)), false)) = some (r1, r2) := by rw [if_neg (show ¬ (false = true) by decide)] at H; exact H
  clear H
  have H := H1
  clear H1
  simp only [Option.some.injEq, Prod.mk.injEq] at H
  obtain ⟨rfl, rfl⟩ := H
  go_enter Try.func34, Try.ntmps34
  go_wp2_with (first | ((with_reducible refine gate_callee (f := 93) rfl ?_); refine goesL_ (some 7) rfl rfl Try.func93 (by kernel_rfl) rfl #[.slice A0 l0.length c0] rfl (by (try simp only [List.map_toArray, List.map_cons, List.map_nil]); first | done | rfl | (simp only [List.length_drop, List.length_take]; rfl)) ?_; (with_reducible refine (spec_plGood.calls k _ _ l0 false _ ?side1 ?side2 A2.out).mono ?_); (case side1 => repeat (first | exact HR0.out | (with_reducible refine Kd.C_alloc ?_ _) | (with_reducible refine Kd.C_drewN ?_ _) | (with_reducible refine Kd.C_drew ?_))); (case side2 => exact HC0.out); rintro e w' ⟨rfl, ⟨nd, rfl⟩⟩; refine ⟨_, rfl, ?_⟩))
  go_ret2
  exact ⟨_, by first | rfl | (simp [errW_none, errW_some] <;> rfl) | (simp [*, errW_none, errW_some] <;> rfl), by first | exact Kd.S_nil _ _ _ _ _ | exact Kd.N_nil _ _ _ _ _ | exact Kd.V_nil _ _ _ _ _ | exact Kd.Q_nil _ _ _ _ _ | exact Kd.R_nil _ _ _ _ _, by repeat (first | (with_reducible first | exact HB.out | apply below_alloc | apply pw_below_drewN | apply below_drew1) | exact HB.out)⟩

end Go.Proofs.Ytojklddddedoeaa.PFnGluedPlans
-- SLIM
