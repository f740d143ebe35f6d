/- For each Go function that the law uses, a Lean function with the same answers and a proof that its call comes to them; the conditions stand in each theorem. (Written by a program of this session, turned from the print of the kit.) -/
import Derived.Test.YtojklddddedoeaaPFnUncrossingx0
import Derived.Test.YtojklddddedoeaaPFnUncrossingx3
import Derived.Test.YtojklddddedoeaaPFnUncrossingx4
import Derived.Test.YtojklddddedoeaaPFnUncrossingx7
namespace Go.Proofs.Ytojklddddedoeaa.PFnUncrossing
open Go.RowKit Go.Proofs.YtojklddddedoeaaW.PrintWords Go.Proofs.YtojklddddedoeaaW.PrintLast Go.Proofs.YtojklddddedoeaaW.PrintMore
attribute [local go_sem] max2_int min2_int max_two min_two max_three min_three max_four min_four   -- for this text's walks alone
set_option linter.unusedVariables false
set_option linter.unusedSimpArgs false

/-! ### impl_Uncross: function 24 -/
/-- A table in which one number is another one. -/
def impl_Uncross.pt (m : List (List Int)) (i j v : Int) : List (List Int) := m.set i.toNat ((rd_L2 m i).set j.toNat v)
def impl_Uncross.o1 (o : List (List Int)) (x0 x1 n : Int) : List (List Int) := impl_Uncross.pt o x0 x1 (wrap64 (rd (rd_L2 o x0) x1 - n))
def impl_Uncross.o2 (o : List (List Int)) (x0 x1 n : Int) : List (List Int) := impl_Uncross.pt o x0 x1 (wrap64 (rd (rd_L2 o x0) x1 + n))
/-- The indices lie in a table. -/
def impl_Uncross.inn (m : List (List Int)) (i j : Int) : Prop := 0 ≤ i ∧ i < (m.length : Int) ∧ 0 ≤ j ∧ j < ((rd_L2 m i).length : Int)
instance (m : List (List Int)) (i j : Int) : Decidable (impl_Uncross.inn m i j) := inferInstanceAs (Decidable (_ ∧ _))
def impl_Uncross.e (k : Nat) (l0 : List (List Int)) (x0 x1 y0 y1 n : Int) (o : List (List Int)) : Option (List (List Int) × Int × Bool) := if impl_Uncross.inn o x0 x1 then (if impl_Uncross.inn (impl_Uncross.o1 o x0 x1 n) y0 y1 then (if impl_Uncross.inn (impl_Uncross.o1 (impl_Uncross.o1 o x0 x1 n) y0 y1 n) x0 y1 then (if impl_Uncross.inn (impl_Uncross.o2 (impl_Uncross.o1 (impl_Uncross.o1 o x0 x1 n) y0 y1 n) x0 y1 n) y0 x1 then ((impl_isPlan.f k (impl_Uncross.o2 (impl_Uncross.o2 (impl_Uncross.o1 (impl_Uncross.o1 o x0 x1 n) y0 y1 n) x0 y1 n) y0 x1 n)).bind fun g => if g = true then ((impl_cost.f k l0).bind fun c => (impl_cost.f k (impl_Uncross.o2 (impl_Uncross.o2 (impl_Uncross.o1 (impl_Uncross.o1 o x0 x1 n) y0 y1 n) x0 y1 n) y0 x1 n)).bind fun d => some ((impl_Uncross.o2 (impl_Uncross.o2 (impl_Uncross.o1 (impl_Uncross.o1 o x0 x1 n) y0 y1 n) x0 y1 n) y0 x1 n), wrap64 (c - d), true)) else some ([], 0, false)) else none) else none) else none) else none
def impl_Uncross.f (k : Nat) (l0 : List (List Int)) : Option (List (List Int) × Int × Bool) := (impl_isPlan.f k l0).bind fun p => if p = true then ((impl_crossing.f k l0).bind fun c => if c.2.2.2.2 = true then (if impl_Uncross.inn l0 c.1 c.2.1 then (if impl_Uncross.inn l0 c.2.2.1 c.2.2.2.1 then ((impl_mapped.f k l0 0).bind fun o => impl_Uncross.e k l0 c.1 c.2.1 c.2.2.1 c.2.2.2.1 (mn (rd (rd_L2 l0 c.1) c.2.1) (rd (rd_L2 l0 c.2.2.1) c.2.2.2.1)) o) else none) else none) else some ([], 0, false)) else some ([], 0, false)
theorem impl_Uncross.mono : ∀ a0 k, LeO (impl_Uncross.f k a0) (impl_Uncross.f (k + 1) a0) := by
 intro a0 k
 unfold impl_Uncross.f impl_Uncross.e
 exact LeO.bind (impl_isPlan.mono _ _) (fun _ => LeO.ite (LeO.bind (impl_crossing.mono _ _) (fun _ => LeO.ite (LeO.ite (LeO.ite (LeO.bind (impl_mapped.mono _ _ _) (fun _ => LeO.ite (LeO.ite (LeO.ite (LeO.ite (LeO.bind (impl_isPlan.mono _ _) (fun _ => LeO.ite (LeO.bind (impl_cost.mono _ _) (fun _ => LeO.bind (impl_cost.mono _ _) (fun _ => LeO.refl _))) (LeO.refl _))) (LeO.none _)) (LeO.none _)) (LeO.none _)) (LeO.none _))) (LeO.none _)) (LeO.none _)) (LeO.refl _))) (LeO.refl _))

/-- One row of rows that are apart has been written. -/
theorem impl_Uncross.row_step {w w1 : World} {base : Nat} {P0_ : Nat → Prop} {g n cap : Nat} {m : List (List Int)} {r : List Int} {i : Int} {oki : Nat → Prop} {c : List Value} {u : Value} {q : Nat}
  (hu : c = [u]) (hoki : ∀ k, oki k → P0_ k ∧ k ≠ g) (hH : Kd.H (Kd.slice 3 (Kd.int .i64)) 24 w base P0_ (.slice (some ⟨g, 0, none⟩) n cap) m i oki c)
  (hq : u.ownBlock = some q) (hqo : oki q) {ok1 : Nat → Prop} (hr : Kd.R (Kd.int .i64) 3 w1 base ok1 u r) (hk : w.grownBy w1 (some q)) :
  Kd.S (Kd.slice 3 (Kd.int .i64)) 24 w1 base P0_ (.slice (some ⟨g, 0, none⟩) n cap) (m.set i.toNat r) := by
 have h1 := Kd.H_step (w1 := w1) hH (fun k _ hn hlt => hk.block k hlt (fun he => hn (by cases he; exact hqo)))
 refine Kd.H_back (okp := fun k => some k = u.ownBlock) h1 ?_ (fun k hk => by rw [hq] at hk; cases hk; exact hqo)
 rw [hu]
 exact Kd.M_row (Kd.R_tight rfl hr)

set_option maxHeartbeats 8000000 in
set_option maxRecDepth 100000 in
theorem impl_Uncross.calls (k : Nat) (A0 : Option Addr) (c0 : Nat) (l0 : List (List Int)) (r1 : List (List Int)) (r2 : Int) (r3 : Bool) (w : World) (hr0 : Kd.C (Kd.slice 3 (Kd.int .i64)) w A0 l0.length l0) (hc0 : l0.length ≤ c0) (h : impl_Uncross.f k l0 = some (r1, r2, r3)) :
  Calls Try.prog 24 #[.slice A0 l0.length c0] w fun e w' => ∃ v0_ : Value, e = .returned (.tuple #[v0_, .int .i64 r2, .bool r3]) ∧ Kd.S (Kd.slice 3 (Kd.int .i64)) 24 w' w.heap.size (fun _ => True) v0_ r1 ∧ Below w.heap.size w w' := by
 have HR0 := Aside0.mk hr0
 have HC0 := Aside0.mk hc0
 have HB := Aside0.mk (Below.refl w.heap.size w)
 clear hr0 hc0
 have H := h
 clear h
 unfold impl_Uncross.f at H
 replace H := Option.bind_eq_some_iff.mp H
 obtain ⟨p, E10, H⟩ := H
 by_cases cp : ¬ p = true
 ·rw [if_neg cp] at H
  replace cp := Bool.eq_false_iff.mpr cp
  subst cp
  have E1 := Aside0.mk E10
  clear E10
  simp only [Option.some.injEq, Prod.mk.injEq] at H
  obtain ⟨rfl, rfl, rfl⟩ := H
  go_enter Try.func24, Try.ntmps24
  go_wp2_with (first | (go_at_call 85; (with_reducible refine (impl_isPlan.calls k _ _ l0 false _ ?side1 ?side2 E1.out).mono ?_); (case side1 => repeat (first | exact (Kd.C_below HR0.out HB.out) | (with_reducible refine Kd.C_alloc ?_ _) | (with_reducible refine Kd.C_drewN ?_ _) | (with_reducible refine Kd.C_drew ?_))); (case side2 => exact HC0.out); rintro e wp_ ⟨rfl, hb⟩; have n_ := Aside0.mk (below_step (by repeat (first | (with_reducible first | exact HB.out | apply below_alloc | apply pw_below_drewN | apply below_drew1) | exact HB.out)) hb); clear HB; have HB := n_; clear n_; clear hb))
  exact bodyPost_ret (v := .tuple #[.slice none 0 0, .int .i64 0, .bool false]) (by simp [results, Try.results24, go_sem]) rfl ⟨_, rfl, Kd.S_nil _ _ _ _ _, by repeat (first | (with_reducible first | exact HB.out | apply below_alloc | apply pw_below_drewN | apply below_drew1) | exact HB.out)⟩
 replace cp := Decidable.not_not.mp cp
 rw [if_pos cp] at H
 subst cp
 have E1 := Aside0.mk E10
 clear E10
 replace H := Option.bind_eq_some_iff.mp H
 obtain ⟨⟨x0, x1, y0, y1, b⟩, E20, H⟩ := H
 dsimp only at H
 by_cases cb : ¬ b = true
 ·rw [if_neg cb] at H
  replace cb := Bool.eq_false_iff.mpr cb
  subst cb
  have E2 := Aside0.mk E20
  clear E20
  simp only [Option.some.injEq, Prod.mk.injEq] at H
  obtain ⟨rfl, rfl, rfl⟩ := H
  go_enter Try.func24, Try.ntmps24
  go_wp2_with (first | (go_at_call 85; (with_reducible refine (impl_isPlan.calls k _ _ l0 true _ ?side1 ?side2 E1.out).mono ?_); (case side1 => repeat (first | exact (Kd.C_below HR0.out HB.out) | (with_reducible refine Kd.C_alloc ?_ _) | (with_reducible refine Kd.C_drewN ?_ _) | (with_reducible refine Kd.C_drew ?_))); (case side2 => exact HC0.out); rintro e wp_ ⟨rfl, hb⟩; have n_ := Aside0.mk (below_step (by repeat (first | (with_reducible first | exact HB.out | apply below_alloc | apply pw_below_drewN | apply below_drew1) | exact HB.out)) hb); clear HB; have HB := n_; clear n_; clear hb) | (go_at_call 90; (with_reducible refine (impl_crossing.calls k _ _ l0 x0 x1 y0 y1 false _ ?side1 ?side2 E2.out).mono ?_); (case side1 => repeat (first | exact (Kd.C_below HR0.out HB.out) | (with_reducible refine Kd.C_alloc ?_ _) | (with_reducible refine Kd.C_drewN ?_ _) | (with_reducible refine Kd.C_drew ?_))); (case side2 => exact HC0.out); rintro e w1 ⟨rfl, hb⟩; have n_ := Aside0.mk (below_step (by repeat (first | (with_reducible first | exact HB.out | apply below_alloc | apply pw_below_drewN | apply below_drew1) | exact HB.out)) hb); clear HB; have HB := n_; clear n_; clear hb))
  exact bodyPost_ret (v := .tuple #[.slice none 0 0, .int .i64 0, .bool false]) (by simp [results, Try.results24, go_sem]) rfl ⟨_, rfl, Kd.S_nil _ _ _ _ _, by repeat (first | (with_reducible first | exact HB.out | apply below_alloc | apply pw_below_drewN | apply below_drew1) | exact HB.out)⟩
 replace cb := Decidable.not_not.mp cb
 rw [if_pos cb] at H
 subst cb
 have E2 := Aside0.mk E20
 clear E20
 by_cases c1 : ¬ impl_Uncross.inn l0 x0 x1
 ·rw [if_neg c1] at H
  exact absurd H (by simp)
 replace c1 := Decidable.not_not.mp c1
 rw [if_pos c1] at H
 by_cases c2 : ¬ impl_Uncross.inn l0 y0 y1
 ·rw [if_neg c2] at H
  exact absurd H (by simp)
 replace c2 := Decidable.not_not.mp c2
 rw [if_pos c2] at H
 replace H := Option.bind_eq_some_iff.mp H
 obtain ⟨o, E40, H⟩ := H
 have E4 := Aside0.mk E40
 clear E40
 obtain ⟨n, hn⟩ : ∃ q_, q_ = mn (rd (rd_L2 l0 x0) x1) (rd (rd_L2 l0 y0) y1) := ⟨_, rfl⟩
 rw [← hn] at H
 have NN_ := Aside0.mk hn
 clear hn
 unfold impl_Uncross.e at H
 by_cases dq1 : ¬ impl_Uncross.inn o x0 x1
 ·rw [if_neg dq1] at H
  exact absurd H (by simp)
 replace dq1 := Decidable.not_not.mp dq1
 rw [if_pos dq1] at H
 obtain ⟨q1, hq1⟩ : ∃ q_, q_ = impl_Uncross.o1 o x0 x1 n := ⟨_, rfl⟩
 rw [← hq1] at H
 have Nq1 := Aside0.mk hq1
 have Dq1 := Aside0.mk dq1
 clear hq1 dq1
 by_cases dq2 : ¬ impl_Uncross.inn q1 y0 y1
 ·rw [if_neg dq2] at H
  exact absurd H (by simp)
 replace dq2 := Decidable.not_not.mp dq2
 rw [if_pos dq2] at H
 obtain ⟨q2, hq2⟩ : ∃ q_, q_ = impl_Uncross.o1 q1 y0 y1 n := ⟨_, rfl⟩
 rw [← hq2] at H
 have Nq2 := Aside0.mk hq2
 have Dq2 := Aside0.mk dq2
 clear hq2 dq2
 by_cases dq3 : ¬ impl_Uncross.inn q2 x0 y1
 ·rw [if_neg dq3] at H
  exact absurd H (by simp)
 replace dq3 := Decidable.not_not.mp dq3
 rw [if_pos dq3] at H
 obtain ⟨q3, hq3⟩ : ∃ q_, q_ = impl_Uncross.o2 q2 x0 y1 n := ⟨_, rfl⟩
 rw [← hq3] at H
 have Nq3 := Aside0.mk hq3
 have Dq3 := Aside0.mk dq3
 clear hq3 dq3
 by_cases dq4 : ¬ impl_Uncross.inn q3 y0 x1
 ·rw [if_neg dq4] at H
  exact absurd H (by simp)
 replace dq4 := Decidable.not_not.mp dq4
 rw [if_pos dq4] at H
 obtain ⟨q4, hq4⟩ : ∃ q_, q_ = impl_Uncross.o2 q3 y0 x1 n := ⟨_, rfl⟩
 rw [← hq4] at H
 have Nq4 := Aside0.mk hq4
 have Dq4 := Aside0.mk dq4
 clear hq4 dq4
 have C1 := Aside0.mk c1
 have C2 := Aside0.mk c2
 clear c1 c2
 have HEND := Aside0.mk H
 clear H
 go_enter Try.func24, Try.ntmps24
 go_wp2_with (first | (go_at_call 85; (with_reducible refine (impl_isPlan.calls k _ _ l0 true _ ?side1 ?side2 E1.out).mono ?_); (case side1 => repeat (first | exact (Kd.C_below HR0.out HB.out) | (with_reducible refine Kd.C_alloc ?_ _) | (with_reducible refine Kd.C_drewN ?_ _) | (with_reducible refine Kd.C_drew ?_))); (case side2 => exact HC0.out); rintro e wp_ ⟨rfl, hb⟩; have n_ := Aside0.mk (below_step (by repeat (first | (with_reducible first | exact HB.out | apply below_alloc | apply pw_below_drewN | apply below_drew1) | exact HB.out)) hb); clear HB; have HB := n_; clear n_; clear hb) | (go_at_call 90; (with_reducible refine (impl_crossing.calls k _ _ l0 x0 x1 y0 y1 true _ ?side1 ?side2 E2.out).mono ?_); (case side1 => repeat (first | exact (Kd.C_below HR0.out HB.out) | (with_reducible refine Kd.C_alloc ?_ _) | (with_reducible refine Kd.C_drewN ?_ _) | (with_reducible refine Kd.C_drew ?_))); (case side2 => exact HC0.out); rintro e w1 ⟨rfl, hb⟩; have n_ := Aside0.mk (below_step (by repeat (first | (with_reducible first | exact HB.out | apply below_alloc | apply pw_below_drewN | apply below_drew1) | exact HB.out)) hb); clear HB; have HB := n_; clear n_; clear hb) | (go_at_call 95; (with_reducible refine (impl_mapped.calls k _ _ l0 0 o _ ?side1 ?side2 E4.out).mono ?_); (case side1 => repeat (first | exact (Kd.C_below HR0.out HB.out) | (with_reducible refine Kd.C_alloc ?_ _) | (with_reducible refine Kd.C_drewN ?_ _) | (with_reducible refine Kd.C_drew ?_))); (case side2 => exact HC0.out); rintro e w2 ⟨vo, rfl, hS, hb⟩; obtain ⟨g, cap, ev, _⟩ := Kd.S_form hS (by have := Dq1.out.1; have := Dq1.out.2.1; omega); subst ev; have hl_ := (show Below w.heap.size w ((w1.alloc (.cells #[.int .i64 x0, .int .i64 x1] 45)).alloc (.cells #[.int .i64 y0, .int .i64 y1] 45)) from by repeat (first | (with_reducible first | exact HB.out | apply below_alloc | apply pw_below_drewN | apply below_drew1) | exact HB.out)); have HCW := Aside0.mk hl_.size; have BX0 : ((w1.alloc (.cells #[.int .i64 x0, .int .i64 x1] 45)).alloc (.cells #[.int .i64 y0, .int .i64 y1] 45)).heap[w1.heap.size]? = some (.cells #[.int .i64 x0, .int .i64 x1] 45) := (Below.heap_alloc _ _ _ (by simp)).trans (heap_alloc_new w1 _); have BY0 : ((w1.alloc (.cells #[.int .i64 x0, .int .i64 x1] 45)).alloc (.cells #[.int .i64 y0, .int .i64 y1] 45)).heap[w1.heap.size + 1]? = some (.cells #[.int .i64 y0, .int .i64 y1] 45) := (by have h_ := heap_alloc_new (w1.alloc (.cells #[.int .i64 x0, .int .i64 x1] 45)) (.cells #[.int .i64 y0, .int .i64 y1] 45); rw [show (w1.alloc (.cells #[.int .i64 x0, .int .i64 x1] 45)).heap.size = w1.heap.size + 1 from by simp] at h_; exact h_); have HZ := Aside0.mk (show Kd.S (Kd.slice 3 (Kd.int .i64)) 24 w2 w.heap.size (fun k => w1.heap.size + 1 + 1 ≤ k) _ o from Kd.S_lower (Kd.S_mono (Kd.S_bound hS) (fun k hk => by have h_ := hk.2.1; simp at h_; omega)) hl_.size); have BX := Aside0.mk ((hb.block w1.heap.size (by simp; omega)).trans BX0); have BY := Aside0.mk ((hb.block (w1.heap.size + 1) (by simp)).trans BY0); have n_ := Aside0.mk (below_step (by repeat (first | (with_reducible first | exact HB.out | apply below_alloc | apply pw_below_drewN | apply below_drew1) | exact HB.out)) hb); clear HB; have HB := n_; clear n_; clear hS hb hl_ BX0 BY0))
 obtain ⟨gx, hgx⟩ : ∃ q_, q_ = w1.heap.size := ⟨_, rfl⟩
 obtain ⟨gy, hgy⟩ : ∃ q_, q_ = w1.heap.size + 1 := ⟨_, rfl⟩
 obtain ⟨wcs, hwcs⟩ : ∃ q_, q_ = w1.heap.size + 1 + 1 := ⟨_, rfl⟩
 have LX := Aside0.mk (show gx < wcs by omega)
 have LY := Aside0.mk (show gy < wcs by omega)
 have HCW2 := Aside0.mk (show w.heap.size ≤ wcs by have h_ := HCW.out; simp at h_; omega)
 clear HCW
 have HCW := HCW2
 clear HCW2
 rw [← hgx] at BX
 rw [← hgy] at BY
 rw [← hwcs] at HZ
 rw [← hgy, ← hgx]
 clear hgx hgy hwcs
 have hbx0 : w2.cell? ⟨gx, 0, none⟩ = some (.int .i64 x0) := (blk_cell BX.out 0).trans rfl
 have hbx1 : w2.cell? ⟨gx, 1, none⟩ = some (.int .i64 x1) := (blk_cell BX.out 1).trans rfl
 have hby0 : w2.cell? ⟨gy, 0, none⟩ = some (.int .i64 y0) := (blk_cell BY.out 0).trans rfl
 have hby1 : w2.cell? ⟨gy, 1, none⟩ = some (.int .i64 y1) := (blk_cell BY.out 1).trans rfl
 obtain ⟨ad3, B3, d3, e3, hr3, _, hc3⟩ := at_L2 (Kd.C_below HR0.out HB.out) x0 C1.out.1 C1.out.2.1
 cases e3
 obtain ⟨ad4, e4, hr4⟩ := Kd.at_int hc3 x1 C1.out.2.2.1 C1.out.2.2.2
 cases e4
 obtain ⟨ad5, B5, d5, e5, hr5, _, hc5⟩ := at_L2 (Kd.C_below HR0.out HB.out) y0 C2.out.1 C2.out.2.1
 cases e5
 obtain ⟨ad6, e6, hr6⟩ := Kd.at_int hc5 y1 C2.out.2.2.1 C2.out.2.2.2
 cases e6
 clear hc3 hc5
 have px0 := eq_true C1.out.1
 have px1 := eq_true C1.out.2.1
 have px2 := eq_true C1.out.2.2.1
 have px3 := eq_true C1.out.2.2.2
 have py0 := eq_true C2.out.1
 have py1 := eq_true C2.out.2.1
 have py2 := eq_true C2.out.2.2.1
 have py3 := eq_true C2.out.2.2.2
 go_quiet (fail)
 rw [show (if rd (rd_L2 l0 y0) y1 < rd (rd_L2 l0 x0) x1 then rd (rd_L2 l0 y0) y1 else rd (rd_L2 l0 x0) x1) = n from NN_.out.symm]
 obtain ⟨w3, hw3⟩ : ∃ q_, q_ = w2.drewN nq := ⟨_, rfl⟩
 have n1_ := Aside0.mk (show Kd.S (Kd.slice 3 (Kd.int .i64)) 24 w3 w.heap.size (fun k => wcs ≤ k) (.slice (some ⟨g, 0, none⟩) o.length cap) o from by rw [hw3]; exact Kd.S_drewN HZ.out nq)
 have n2_ := Aside0.mk (show w3.heap[gx]? = some (.cells #[.int .i64 x0, .int .i64 x1] 45) from by rw [hw3]; exact BX.out)
 have n3_ := Aside0.mk (show w3.heap[gy]? = some (.cells #[.int .i64 y0, .int .i64 y1] 45) from by rw [hw3]; exact BY.out)
 have n4_ := Aside0.mk (show Below w.heap.size w w3 from by rw [hw3]; exact pw_below_drewN HB.out nq)
 rw [← hw3]
 clear HZ BX BY HB hw3
 have HZ := n1_
 have BX := n2_
 have BY := n3_
 have HB := n4_
 clear n1_ n2_ n3_ n4_ hbx0 hbx1 hby0 hby1 px0 px1 px2 px3 py0 py1 py2 py3
 go_wp2
 have hb1a : w3.cell? ⟨gx, 0, none⟩ = some (.int .i64 x0) := (blk_cell BX.out 0).trans rfl
 have hb1b : w3.cell? ⟨gx, 1, none⟩ = some (.int .i64 x1) := (blk_cell BX.out 1).trans rfl
 obtain ⟨oki, c, hcl, hM, hcell, hoki, hH⟩ := Kd.S_lend HZ.out [] x0 Dq1.out.1 (by have := Dq1.out.2.1; have := (Kd.S_reads' HZ.out).1; omega)
 obtain ⟨u, hu, hR⟩ := hM
 replace hR : Kd.R (Kd.int .i64) 3 w3 w.heap.size oki u (rd_L2 o x0) := hR
 obtain ⟨gr, cr, er, hbr, hlr, _⟩ := Kd.R_form hR (by have := Dq1.out.2.2.1; have := Dq1.out.2.2.2; omega)
 subst er
 subst hu
 have hcell0 := hcell 0 _ rfl
 rw [show x0.toNat * (Kd.slice 3 (Kd.int .i64)).sz + 0 = x0.toNat from by show x0.toNat * 1 + 0 = _; omega] at hcell0
 obtain ⟨hrx, hf0⟩ := Kd.R_celln 0 hR x1 Dq1.out.2.2.1 Dq1.out.2.2.2
 have HPR := Kd.R_putg (Kd.R_drew hR) x1 (wrap64 (rd (rd_L2 o x0) x1 - n))
 have HX1 : w3.cell? ⟨gr, x1.toNat, none⟩ = some (.int .i64 (rd (rd_L2 o x0) x1)) := hrx
 have HQO := Aside0.mk (show oki gr from hR.1 _ rfl)
 have HKI := Aside0.mk hoki
 have HHole := Aside0.mk (show Kd.H (Kd.slice 3 (Kd.int .i64)) 24 w3.drew w.heap.size _ _ o x0 oki _ from Kd.H_step hH (fun _ _ _ _ => rfl))
 have hi1a := eq_true Dq1.out.1
 have hi1b := eq_true (show x0 < (o.length : Int) by have := Dq1.out.2.1; have := (Kd.S_reads' HZ.out).1; omega)
 have hi1c := eq_true Dq1.out.2.2.1
 have hi1d := eq_true Dq1.out.2.2.2
 clear hcell hcl hR hH hoki hbr hlr hrx
 obtain ⟨row, hrow⟩ : ∃ q_, q_ = rd_L2 o x0 := ⟨_, rfl⟩
 rw [← hrow] at HX1 hcell0 HPR HHole hi1d
 have Nrow := Aside0.mk hrow
 clear hrow
 go_still_tail 11, (by kernel_rfl)
 rw [show ({ heap := w3.heap, tape := w3.tape, drawn := w3.drawn + 1, os := w3.os, output := w3.output } : World) = w3.drew from rfl]
 (try simp only [i64_w])
 go_wp2_with (first | ((with_reducible refine gate_store (t := 3) (p := 53) rfl ?_); refine store_event (t := 3) (p := 53) (v := ?vo_1) (w1 := (w3.drew.setCell ⟨gr, x1.toNat, none⟩ (.int .i64 (wrap64 (rd row x1 - n))))) ?hg ?ho ?hn ?hr ?_; (case ho => rfl); (case hg => rfl); (case hn => rfl); (case hr => first | (go_simp; done) | (go_simp; rfl)); intro w4 hw; have hg : w3.drew.grownBy w4 (some gr) := (by rw [hw]; exact HPR.2); have hp_ : Kd.S (Kd.slice 3 (Kd.int .i64)) 24 w4 w.heap.size (fun k => wcs ≤ k) (.slice (some ⟨g, 0, none⟩) o.length cap) q1 := (by rw [Nq1.out]; unfold impl_Uncross.o1 impl_Uncross.pt; rw [← Nrow.out]; exact impl_Uncross.row_step rfl HKI.out HHole.out rfl HQO.out (by rw [hw]; exact HPR.1) hg); clear HPR; have n1_ := Aside0.mk ((hg.block gx (blk_lt BX.out) (by intro e_; have h1_ := (HKI.out _ HQO.out).1; have h2_ := LX.out; injection e_ with e_; omega)).trans BX.out); have n2_ := Aside0.mk ((hg.block gy (blk_lt BY.out) (by intro e_; have h1_ := (HKI.out _ HQO.out).1; have h2_ := LY.out; injection e_ with e_; omega)).trans BY.out); have n3_ := Aside0.mk (Below.grown (below_drew1 HB.out) hg HB.out.size (fun k e_ => by cases e_; have h1_ := (HKI.out _ HQO.out).1; have h2_ := HCW.out; omega)); have n4_ := Aside0.mk hp_; clear HZ BX BY HB HHole; have BX := n1_; have BY := n2_; have HB := n3_; have HZ := n4_; clear n1_ n2_ n3_ n4_ hg hw hp_))
 clear hb1a hb1b hcell0 hf0 HX1 HQO HKI Nrow hi1a hi1b hi1c hi1d
 have hb2a : w4.cell? ⟨gy, 0, none⟩ = some (.int .i64 y0) := (blk_cell BY.out 0).trans rfl
 have hb2b : w4.cell? ⟨gy, 1, none⟩ = some (.int .i64 y1) := (blk_cell BY.out 1).trans rfl
 obtain ⟨oki, c, hcl, hM, hcell, hoki, hH⟩ := Kd.S_lend HZ.out [] y0 Dq2.out.1 (by have := Dq2.out.2.1; have := (Kd.S_reads' HZ.out).1; omega)
 obtain ⟨u, hu, hR⟩ := hM
 replace hR : Kd.R (Kd.int .i64) 3 w4 w.heap.size oki u (rd_L2 q1 y0) := hR
 obtain ⟨gr, cr, er, hbr, hlr, _⟩ := Kd.R_form hR (by have := Dq2.out.2.2.1; have := Dq2.out.2.2.2; omega)
 subst er
 subst hu
 have hcell0 := hcell 0 _ rfl
 rw [show y0.toNat * (Kd.slice 3 (Kd.int .i64)).sz + 0 = y0.toNat from by show y0.toNat * 1 + 0 = _; omega] at hcell0
 obtain ⟨hrx, hf0⟩ := Kd.R_celln 0 hR y1 Dq2.out.2.2.1 Dq2.out.2.2.2
 have HPR := Kd.R_putg (Kd.R_drew hR) y1 (wrap64 (rd (rd_L2 q1 y0) y1 - n))
 have HX1 : w4.cell? ⟨gr, y1.toNat, none⟩ = some (.int .i64 (rd (rd_L2 q1 y0) y1)) := hrx
 have HQO := Aside0.mk (show oki gr from hR.1 _ rfl)
 have HKI := Aside0.mk hoki
 have HHole := Aside0.mk (show Kd.H (Kd.slice 3 (Kd.int .i64)) 24 w4.drew w.heap.size _ _ q1 y0 oki _ from Kd.H_step hH (fun _ _ _ _ => rfl))
 have hi2a := eq_true Dq2.out.1
 have hi2b := eq_true (show y0 < (o.length : Int) by have := Dq2.out.2.1; have := (Kd.S_reads' HZ.out).1; omega)
 have hi2c := eq_true Dq2.out.2.2.1
 have hi2d := eq_true Dq2.out.2.2.2
 clear hcell hcl hR hH hoki hbr hlr hrx
 obtain ⟨row, hrow⟩ : ∃ q_, q_ = rd_L2 q1 y0 := ⟨_, rfl⟩
 rw [← hrow] at HX1 hcell0 HPR HHole hi2d
 have Nrow := Aside0.mk hrow
 clear hrow
 go_still_tail 11, (by kernel_rfl)
 rw [show ({ heap := w4.heap, tape := w4.tape, drawn := w4.drawn + 1, os := w4.os, output := w4.output } : World) = w4.drew from rfl]
 (try simp only [i64_w])
 go_wp2_with (first | ((with_reducible refine gate_store (t := 3) (p := 65) rfl ?_); refine store_event (t := 3) (p := 65) (v := ?vo_2) (w1 := (w4.drew.setCell ⟨gr, y1.toNat, none⟩ (.int .i64 (wrap64 (rd row y1 - n))))) ?hg ?ho ?hn ?hr ?_; (case ho => rfl); (case hg => rfl); (case hn => rfl); (case hr => first | (go_simp; done) | (go_simp; rfl)); intro w5 hw; have hg : w4.drew.grownBy w5 (some gr) := (by rw [hw]; exact HPR.2); have hp_ : Kd.S (Kd.slice 3 (Kd.int .i64)) 24 w5 w.heap.size (fun k => wcs ≤ k) (.slice (some ⟨g, 0, none⟩) o.length cap) q2 := (by rw [Nq2.out]; unfold impl_Uncross.o1 impl_Uncross.pt; rw [← Nrow.out]; exact impl_Uncross.row_step rfl HKI.out HHole.out rfl HQO.out (by rw [hw]; exact HPR.1) hg); clear HPR; have n1_ := Aside0.mk ((hg.block gx (blk_lt BX.out) (by intro e_; have h1_ := (HKI.out _ HQO.out).1; have h2_ := LX.out; injection e_ with e_; omega)).trans BX.out); have n2_ := Aside0.mk ((hg.block gy (blk_lt BY.out) (by intro e_; have h1_ := (HKI.out _ HQO.out).1; have h2_ := LY.out; injection e_ with e_; omega)).trans BY.out); have n3_ := Aside0.mk (Below.grown (below_drew1 HB.out) hg HB.out.size (fun k e_ => by cases e_; have h1_ := (HKI.out _ HQO.out).1; have h2_ := HCW.out; omega)); have n4_ := Aside0.mk hp_; clear HZ BX BY HB HHole; have BX := n1_; have BY := n2_; have HB := n3_; have HZ := n4_; clear n1_ n2_ n3_ n4_ hg hw hp_))
 clear hb2a hb2b hcell0 hf0 HX1 HQO HKI Nrow hi2a hi2b hi2c hi2d
 have hb3a : w5.cell? ⟨gx, 0, none⟩ = some (.int .i64 x0) := (blk_cell BX.out 0).trans rfl
 have hb3b : w5.cell? ⟨gy, 1, none⟩ = some (.int .i64 y1) := (blk_cell BY.out 1).trans rfl
 obtain ⟨oki, c, hcl, hM, hcell, hoki, hH⟩ := Kd.S_lend HZ.out [] x0 Dq3.out.1 (by have := Dq3.out.2.1; have := (Kd.S_reads' HZ.out).1; omega)
 obtain ⟨u, hu, hR⟩ := hM
 replace hR : Kd.R (Kd.int .i64) 3 w5 w.heap.size oki u (rd_L2 q2 x0) := hR
 obtain ⟨gr, cr, er, hbr, hlr, _⟩ := Kd.R_form hR (by have := Dq3.out.2.2.1; have := Dq3.out.2.2.2; omega)
 subst er
 subst hu
 have hcell0 := hcell 0 _ rfl
 rw [show x0.toNat * (Kd.slice 3 (Kd.int .i64)).sz + 0 = x0.toNat from by show x0.toNat * 1 + 0 = _; omega] at hcell0
 obtain ⟨hrx, hf0⟩ := Kd.R_celln 0 hR y1 Dq3.out.2.2.1 Dq3.out.2.2.2
 have HPR := Kd.R_putg (Kd.R_drew hR) y1 (wrap64 (rd (rd_L2 q2 x0) y1 + n))
 have HX1 : w5.cell? ⟨gr, y1.toNat, none⟩ = some (.int .i64 (rd (rd_L2 q2 x0) y1)) := hrx
 have HQO := Aside0.mk (show oki gr from hR.1 _ rfl)
 have HKI := Aside0.mk hoki
 have HHole := Aside0.mk (show Kd.H (Kd.slice 3 (Kd.int .i64)) 24 w5.drew w.heap.size _ _ q2 x0 oki _ from Kd.H_step hH (fun _ _ _ _ => rfl))
 have hi3a := eq_true Dq3.out.1
 have hi3b := eq_true (show x0 < (o.length : Int) by have := Dq3.out.2.1; have := (Kd.S_reads' HZ.out).1; omega)
 have hi3c := eq_true Dq3.out.2.2.1
 have hi3d := eq_true Dq3.out.2.2.2
 clear hcell hcl hR hH hoki hbr hlr hrx
 obtain ⟨row, hrow⟩ : ∃ q_, q_ = rd_L2 q2 x0 := ⟨_, rfl⟩
 rw [← hrow] at HX1 hcell0 HPR HHole hi3d
 have Nrow := Aside0.mk hrow
 clear hrow
 go_still_tail 11, (by kernel_rfl)
 rw [show ({ heap := w5.heap, tape := w5.tape, drawn := w5.drawn + 1, os := w5.os, output := w5.output } : World) = w5.drew from rfl]
 (try simp only [i64_w])
 go_wp2_with (first | ((with_reducible refine gate_store (t := 3) (p := 77) rfl ?_); refine store_event (t := 3) (p := 77) (v := ?vo_3) (w1 := (w5.drew.setCell ⟨gr, y1.toNat, none⟩ (.int .i64 (wrap64 (rd row y1 + n))))) ?hg ?ho ?hn ?hr ?_; (case ho => rfl); (case hg => rfl); (case hn => rfl); (case hr => first | (go_simp; done) | (go_simp; rfl)); intro w6 hw; have hg : w5.drew.grownBy w6 (some gr) := (by rw [hw]; exact HPR.2); have hp_ : Kd.S (Kd.slice 3 (Kd.int .i64)) 24 w6 w.heap.size (fun k => wcs ≤ k) (.slice (some ⟨g, 0, none⟩) o.length cap) q3 := (by rw [Nq3.out]; unfold impl_Uncross.o2 impl_Uncross.pt; rw [← Nrow.out]; exact impl_Uncross.row_step rfl HKI.out HHole.out rfl HQO.out (by rw [hw]; exact HPR.1) hg); clear HPR; have n1_ := Aside0.mk ((hg.block gx (blk_lt BX.out) (by intro e_; have h1_ := (HKI.out _ HQO.out).1; have h2_ := LX.out; injection e_ with e_; omega)).trans BX.out); have n2_ := Aside0.mk ((hg.block gy (blk_lt BY.out) (by intro e_; have h1_ := (HKI.out _ HQO.out).1; have h2_ := LY.out; injection e_ with e_; omega)).trans BY.out); have n3_ := Aside0.mk (Below.grown (below_drew1 HB.out) hg HB.out.size (fun k e_ => by cases e_; have h1_ := (HKI.out _ HQO.out).1; have h2_ := HCW.out; omega)); have n4_ := Aside0.mk hp_; clear HZ BX BY HB HHole; have BX := n1_; have BY := n2_; have HB := n3_; have HZ := n4_; clear n1_ n2_ n3_ n4_ hg hw hp_))
 clear hb3a hb3b hcell0 hf0 HX1 HQO HKI Nrow hi3a hi3b hi3c hi3d
 have hb4a : w6.cell? ⟨gy, 0, none⟩ = some (.int .i64 y0) := (blk_cell BY.out 0).trans rfl
 have hb4b : w6.cell? ⟨gx, 1, none⟩ = some (.int .i64 x1) := (blk_cell BX.out 1).trans rfl
 obtain ⟨oki, c, hcl, hM, hcell, hoki, hH⟩ := Kd.S_lend HZ.out [] y0 Dq4.out.1 (by have := Dq4.out.2.1; have := (Kd.S_reads' HZ.out).1; omega)
 obtain ⟨u, hu, hR⟩ := hM
 replace hR : Kd.R (Kd.int .i64) 3 w6 w.heap.size oki u (rd_L2 q3 y0) := hR
 obtain ⟨gr, cr, er, hbr, hlr, _⟩ := Kd.R_form hR (by have := Dq4.out.2.2.1; have := Dq4.out.2.2.2; omega)
 subst er
 subst hu
 have hcell0 := hcell 0 _ rfl
 rw [show y0.toNat * (Kd.slice 3 (Kd.int .i64)).sz + 0 = y0.toNat from by show y0.toNat * 1 + 0 = _; omega] at hcell0
 obtain ⟨hrx, hf0⟩ := Kd.R_celln 0 hR x1 Dq4.out.2.2.1 Dq4.out.2.2.2
 have HPR := Kd.R_putg (Kd.R_drew hR) x1 (wrap64 (rd (rd_L2 q3 y0) x1 + n))
 have HX1 : w6.cell? ⟨gr, x1.toNat, none⟩ = some (.int .i64 (rd (rd_L2 q3 y0) x1)) := hrx
 have HQO := Aside0.mk (show oki gr from hR.1 _ rfl)
 have HKI := Aside0.mk hoki
 have HHole := Aside0.mk (show Kd.H (Kd.slice 3 (Kd.int .i64)) 24 w6.drew w.heap.size _ _ q3 y0 oki _ from Kd.H_step hH (fun _ _ _ _ => rfl))
 have hi4a := eq_true Dq4.out.1
 have hi4b := eq_true (show y0 < (o.length : Int) by have := Dq4.out.2.1; have := (Kd.S_reads' HZ.out).1; omega)
 have hi4c := eq_true Dq4.out.2.2.1
 have hi4d := eq_true Dq4.out.2.2.2
 clear hcell hcl hR hH hoki hbr hlr hrx
 obtain ⟨row, hrow⟩ : ∃ q_, q_ = rd_L2 q3 y0 := ⟨_, rfl⟩
 rw [← hrow] at HX1 hcell0 HPR HHole hi4d
 have Nrow := Aside0.mk hrow
 clear hrow
 go_still_tail 11, (by kernel_rfl)
 rw [show ({ heap := w6.heap, tape := w6.tape, drawn := w6.drawn + 1, os := w6.os, output := w6.output } : World) = w6.drew from rfl]
 (try simp only [i64_w])
 go_wp2_with (first | ((with_reducible refine gate_store (t := 3) (p := 89) rfl ?_); refine store_event (t := 3) (p := 89) (v := ?vo_4) (w1 := (w6.drew.setCell ⟨gr, x1.toNat, none⟩ (.int .i64 (wrap64 (rd row x1 + n))))) ?hg ?ho ?hn ?hr ?_; (case ho => rfl); (case hg => rfl); (case hn => rfl); (case hr => first | (go_simp; done) | (go_simp; rfl)); intro w7 hw; have hg : w6.drew.grownBy w7 (some gr) := (by rw [hw]; exact HPR.2); have hp_ : Kd.S (Kd.slice 3 (Kd.int .i64)) 24 w7 w.heap.size (fun k => wcs ≤ k) (.slice (some ⟨g, 0, none⟩) o.length cap) q4 := (by rw [Nq4.out]; unfold impl_Uncross.o2 impl_Uncross.pt; rw [← Nrow.out]; exact impl_Uncross.row_step rfl HKI.out HHole.out rfl HQO.out (by rw [hw]; exact HPR.1) hg); clear HPR; have n1_ := Aside0.mk ((hg.block gx (blk_lt BX.out) (by intro e_; have h1_ := (HKI.out _ HQO.out).1; have h2_ := LX.out; injection e_ with e_; omega)).trans BX.out); have n2_ := Aside0.mk ((hg.block gy (blk_lt BY.out) (by intro e_; have h1_ := (HKI.out _ HQO.out).1; have h2_ := LY.out; injection e_ with e_; omega)).trans BY.out); have n3_ := Aside0.mk (Below.grown (below_drew1 HB.out) hg HB.out.size (fun k e_ => by cases e_; have h1_ := (HKI.out _ HQO.out).1; have h2_ := HCW.out; omega)); have n4_ := Aside0.mk hp_; clear HZ BX BY HB HHole; have BX := n1_; have BY := n2_; have HB := n3_; have HZ := n4_; clear n1_ n2_ n3_ n4_ hg hw hp_))
 clear hb4a hb4b hcell0 hf0 HX1 HQO HKI Nrow hi4a hi4b hi4c hi4d
 have hlz := (Kd.S_reads' HZ.out).1
 rw [hlz] at HZ
 simp only [hlz]
 clear hlz
 have H := HEND.out
 clear HEND
 replace H := Option.bind_eq_some_iff.mp H
 obtain ⟨gb, hgb, H⟩ := H
 have E5 := Aside0.mk hgb
 clear hgb
 by_cases cg : ¬ gb = true
 ·rw [if_neg cg] at H
  replace cg := Bool.eq_false_iff.mpr cg
  subst cg
  simp only [Option.some.injEq, Prod.mk.injEq] at H
  obtain ⟨rfl, rfl, rfl⟩ := H
  go_wp2_with (first | (go_at_call 85; (with_reducible refine (impl_isPlan.calls k _ _ q4 false _ ?side1 ?side2 E5.out).mono ?_); (case side1 => repeat (first | exact (Kd.S_reads' HZ.out).2.2 | (with_reducible refine Kd.C_alloc ?_ _) | (with_reducible refine Kd.C_drewN ?_ _) | (with_reducible refine Kd.C_drew ?_))); (case side2 => exact (Kd.S_reads' HZ.out).2.1); rintro e wp_ ⟨rfl, hb⟩; have n0_ := Aside0.mk (Kd.S_below (by (with_reducible repeat (first | apply Kd.S_alloc | apply Kd.S_drewN | apply Kd.S_drew)); exact HZ.out) hb); clear HZ; have HZ := n0_; clear n0_; have n_ := Aside0.mk (below_step (by repeat (first | (with_reducible first | exact HB.out | apply below_alloc | apply pw_below_drewN | apply below_drew1) | exact HB.out)) hb); clear HB; have HB := n_; clear n_; clear hb))
  exact bodyPost_ret (v := .tuple #[.slice none 0 0, .int .i64 0, .bool false]) (by simp [results, Try.results24, go_sem]) rfl ⟨_, rfl, Kd.S_nil _ _ _ _ _, by repeat (first | (with_reducible first | exact HB.out | apply below_alloc | apply pw_below_drewN | apply below_drew1) | exact HB.out)⟩
 replace cg := Decidable.not_not.mp cg
 rw [if_pos cg] at H
 subst cg
 replace H := Option.bind_eq_some_iff.mp H
 obtain ⟨c, hc, H⟩ := H
 replace H := Option.bind_eq_some_iff.mp H
 obtain ⟨d, hd, H⟩ := H
 have E6 := Aside0.mk hc
 have E7 := Aside0.mk hd
 simp only [Option.some.injEq, Prod.mk.injEq] at H
 obtain ⟨rfl, rfl, rfl⟩ := H
 clear hc hd
 go_wp2_with (first | (go_at_call 85; (with_reducible refine (impl_isPlan.calls k _ _ q4 true _ ?side1 ?side2 E5.out).mono ?_); (case side1 => repeat (first | exact (Kd.S_reads' HZ.out).2.2 | (with_reducible refine Kd.C_alloc ?_ _) | (with_reducible refine Kd.C_drewN ?_ _) | (with_reducible refine Kd.C_drew ?_))); (case side2 => exact (Kd.S_reads' HZ.out).2.1); rintro e wp_ ⟨rfl, hb⟩; have n0_ := Aside0.mk (Kd.S_below (by (with_reducible repeat (first | apply Kd.S_alloc | apply Kd.S_drewN | apply Kd.S_drew)); exact HZ.out) hb); clear HZ; have HZ := n0_; clear n0_; have n_ := Aside0.mk (below_step (by repeat (first | (with_reducible first | exact HB.out | apply below_alloc | apply pw_below_drewN | apply below_drew1) | exact HB.out)) hb); clear HB; have HB := n_; clear n_; clear hb) | (go_at_call 89; (with_reducible refine (impl_cost.calls k _ _ l0 c _ ?side1 ?side2 E6.out).mono ?_); (case side1 => repeat (first | exact (Kd.C_below HR0.out HB.out) | (with_reducible refine Kd.C_alloc ?_ _) | (with_reducible refine Kd.C_drewN ?_ _) | (with_reducible refine Kd.C_drew ?_))); (case side2 => exact HC0.out); rintro e wq_ ⟨rfl, hb⟩; have n0_ := Aside0.mk (Kd.S_below (by (with_reducible repeat (first | apply Kd.S_alloc | apply Kd.S_drewN | apply Kd.S_drew)); exact HZ.out) hb); clear HZ; have HZ := n0_; clear n0_; have n_ := Aside0.mk (below_step (by repeat (first | (with_reducible first | exact HB.out | apply below_alloc | apply pw_below_drewN | apply below_drew1) | exact HB.out)) hb); clear HB; have HB := n_; clear n_; clear hb) | (go_at_call 89; (with_reducible refine (impl_cost.calls k _ _ q4 d _ ?side1 ?side2 E7.out).mono ?_); (case side1 => repeat (first | exact (Kd.S_reads' HZ.out).2.2 | (with_reducible refine Kd.C_alloc ?_ _) | (with_reducible refine Kd.C_drewN ?_ _) | (with_reducible refine Kd.C_drew ?_))); (case side2 => exact (Kd.S_reads' HZ.out).2.1); rintro e wq_ ⟨rfl, hb⟩; have n0_ := Aside0.mk (Kd.S_below (by (with_reducible repeat (first | apply Kd.S_alloc | apply Kd.S_drewN | apply Kd.S_drew)); exact HZ.out) hb); clear HZ; have HZ := n0_; clear n0_; have n_ := Aside0.mk (below_step (by repeat (first | (with_reducible first | exact HB.out | apply below_alloc | apply pw_below_drewN | apply below_drew1) | exact HB.out)) hb); clear HB; have HB := n_; clear n_; clear hb))
 exact bodyPost_ret (v := .tuple #[.slice (some ⟨g, 0, none⟩) q4.length cap, .int .i64 (wrap64 (c - d)), .bool true]) (by simp [results, Try.results24, go_sem]) rfl ⟨_, rfl, Kd.S_mono (by (with_reducible repeat (first | apply Kd.S_alloc | apply Kd.S_drewN | apply Kd.S_drew)); exact HZ.out) (fun _ _ => trivial), by repeat (first | (with_reducible first | exact HB.out | apply below_alloc | apply pw_below_drewN | apply below_drew1) | exact HB.out)⟩

/-! ### spec_l1In: function 165 -/
def spec_l1In.f (a0 : Int) (a1 : Int) (a2 : Int) : Option (Bool) := if a0 ≥ a1 then (some (decide (a0 ≤ a2))) else (some false)
set_option maxHeartbeats 8000000 in
set_option maxRecDepth 100000 in
theorem spec_l1In.calls (a0 : Int) (a1 : Int) (a2 : Int) (r : Bool) (w : World) (h : spec_l1In.f a0 a1 a2 = some r) :
  Calls Try.prog 165 #[.int .i64 a0, .int .i64 a1, .int .i64 a2] w fun e w' => e = .returned (.bool r) ∧ Drawn0 w w' := by
 have H : (if a0 ≥ a1 then (some (decide (a0 ≤ a2))) else (some false)) = some r := h
 clear h
 by_cases c4 : a0 ≥ a1
 ·rw [if_pos c4] at H
  have c4b0 : decide (a1 ≤ a0) = true := decide_eq_true c4
  clear c4
  obtain rfl := Option.some.inj H
  go_enter Try.func165, Try.ntmps165
  go_wp2
  go_ret
  exact ⟨by first | rfl | (simp; done) | (simp [*]; done), by repeat (first | exact Drawn0.refl _ | apply Drawn0.step)⟩
 ·rw [if_neg c4] at H
  have c4b0 : decide (a1 ≤ a0) = false := decide_eq_false c4
  clear c4
  obtain rfl := Option.some.inj H
  go_enter Try.func165, Try.ntmps165
  go_wp2
  go_ret
  exact ⟨by first | rfl | (simp; done) | (simp [*]; done), by repeat (first | exact Drawn0.refl _ | apply Drawn0.step)⟩

/-! ### spec_l1All: function 166 -/
def spec_l1All.l0 : Nat → Int → Int → List Int → Int → Int → Option (Bool)
 | 0, _, _, _, _, _ => none
 | k + 1, x1, x2, x9, x10, x11 => if x11 < x10 then (if 0 ≤ x11 then (if x11 < (x9.length : Int) then ((spec_l1In.f (rd x9 x11) x1 x2).bind fun t267 => (if t267 = true then (spec_l1All.l0 k x1 x2 x9 x10 (wrap64 (x11 + 1))) else (some false))) else (none)) else (none)) else (some true)
def spec_l1All.f (k : Nat) (l0 : List Int) (a1 : Int) (a2 : Int) : Option (Bool) := spec_l1All.l0 k a1 a2 l0 (l0.length : Int) 0
theorem spec_l1All.mono_l : ∀ k, (∀ y0 y1 y2 y3 y4, LeO (spec_l1All.l0 k y0 y1 y2 y3 y4) (spec_l1All.l0 (k + 1) y0 y1 y2 y3 y4))
 | 0 => fun _ _ _ _ _ r h => by simp [spec_l1All.l0] at h
 | k + 1 => by
  have ih0 := spec_l1All.mono_l k
  ·intro y0 y1 y2 y3 y4
   unfold spec_l1All.l0
   repeat' first
   | (with_reducible exact ih0 _ _ _ _ _)
   | (with_reducible exact LeO.refl _)
   | (with_reducible exact LeO.none _)
   | (with_reducible refine LeO.ite ?_ ?_)
   | (with_reducible refine LeO.bind ?_ (fun _ => ?_))
   | exact ih0 _ _ _ _ _
   | exact LeO.none _
   | refine LeO.ite ?_ ?_
   | refine LeO.bind ?_ (fun _ => ?_)
theorem spec_l1All.mono : ∀ a0 a1 a2 k, LeO (spec_l1All.f k a0 a1 a2) (spec_l1All.f (k + 1) a0 a1 a2) := by
 intro a0 a1 a2 k
 have ih0 := spec_l1All.mono_l k
 unfold spec_l1All.f
 repeat' first
   | (with_reducible exact ih0 _ _ _ _ _)
   | (with_reducible exact LeO.refl _)
   | (with_reducible exact LeO.none _)
   | (with_reducible refine LeO.ite ?_ ?_)
   | (with_reducible refine LeO.bind ?_ (fun _ => ?_))
   | exact ih0 _ _ _ _ _
   | exact LeO.none _
   | refine LeO.ite ?_ ?_
   | refine LeO.bind ?_ (fun _ => ?_)
set_option maxHeartbeats 8000000 in
set_option maxRecDepth 100000 in
theorem spec_l1All.calls (k : Nat) (A0 : Option Addr) (c0 : Nat) (l0 : List Int) (a1 : Int) (a2 : Int) (r : Bool) (w : World) (hr0 : Kd.C (Kd.int .i64) w A0 l0.length l0) (hc0 : l0.length ≤ c0) (h : spec_l1All.f k l0 a1 a2 = some r) :
  Calls Try.prog 166 #[.slice A0 l0.length c0, .int .i64 a1, .int .i64 a2] w fun e w' => e = .returned (.bool r) ∧ Drawn0 w w' := by
 have HR0 := Aside0.mk hr0
 have HC0 := Aside0.mk hc0
 clear hr0 hc0
 have H : (spec_l1All.l0 k a1 a2 l0 (l0.length : Int) 0) = some r := h
 clear h
 have H' := Aside0.mk H
 clear H
 go_enter Try.func166, Try.ntmps166
 go_wp2
 go_loopg [11] k (fun kq v11 w' => ∃ (x11_1 : Int), v11 = .int .i64 x11_1 ∧ Aside0 (spec_l1All.l0 kq a1 a2 l0 (l0.length : Int) x11_1 = some r) ∧ Aside0 (kq ≤ k) ∧ Drawn0 w w')
 case atStart => exact ⟨(0), (by first | rfl | (simp; done) | (simp [*]; done)), H', ⟨Nat.le_refl _⟩, by repeat (first | exact Drawn0.refl _ | apply Drawn0.step)⟩
 case round =>
  clear H'
  try clear c1
  try clear p2
  obtain ⟨x11_1, rfl, HA, HK1, ⟨m1, rfl⟩⟩ := hrel
  cases gk with
  | zero => exact absurd HA.out (by simp [spec_l1All.l0])
  | succ k1 =>
   have H := HA.out
   clear HA
   simp only [spec_l1All.l0] at H
   by_cases c4 : x11_1 < (l0.length : Int)
   ·rw [if_pos c4] at H
    have c4b0 : decide (x11_1 < (l0.length : Int)) = true := decide_eq_true c4
    clear c4
    by_cases c5 : 0 ≤ x11_1
    ·rw [if_pos c5] at H
     have c5b0 : decide (0 ≤ x11_1) = true := decide_eq_true c5
     clear c5
     by_cases c6 : x11_1 < (l0.length : Int)
     ·rw [if_pos c6] at H
      have c6b0 : decide (x11_1 < (l0.length : Int)) = true := decide_eq_true c6
      clear c6
      replace H := Option.bind_eq_some_iff.mp H
      obtain ⟨t267, A70, H⟩ := H
      replace H : (if t267 = true then (spec_l1All.l0 k1 a1 a2 l0 (l0.length : Int) (wrap64 (x11_1 + 1))) else (some false)) = some r := H
      have A7 := Aside0.mk A70
      clear A70
      by_cases c8 : t267 = true
      ·subst c8
       have H1 : (spec_l1All.l0 k1 a1 a2 l0 (l0.length : Int) (wrap64 (x11_1 + 1))) = some r := by rw [if_pos rfl] at H; exact H
       clear H
       have H := H1
       clear H1
       have H' := Aside0.mk H
       clear H
       have p266 : 0 ≤ (x11_1 : Int) := of_decide_eq_true (by first | (with_reducible assumption) | assumption)
       have q266 : x11_1 < (l0.length : Int) := of_decide_eq_true (by first | (with_reducible assumption) | assumption)
       obtain ⟨ad266, e266, hx266_0⟩ := Kd.at_int HR0.out x11_1 p266 q266
       cases e266
       replace p266 := eq_true p266
       replace q266 := eq_true q266
       go_wp2_with (first | ((with_reducible refine gate_callee (f := 165) rfl ?_); refine goesL_ (some 18) rfl rfl Try.func165 (by kernel_rfl) rfl #[.int .i64 (rd l0 x11_1), .int .i64 a1, .int .i64 a2] rfl (by (try simp only [List.map_toArray, List.map_cons, List.map_nil]); first | done | rfl | (simp only [List.length_drop, List.length_take]; rfl)) ?_; (with_reducible refine (spec_l1In.calls (rd l0 x11_1) a1 a2 true _ A7.out).mono ?_); rintro e w' ⟨rfl, ⟨nd, rfl⟩⟩; refine ⟨_, rfl, ?_⟩))
       go_roundg k1
       case measure => have := HK1.out; omega
       case rel => exact ⟨(wrap64 (x11_1 + 1)), (by first | rfl | (simp; done) | (simp [*]; done)), H', ⟨by have := HK1.out; omega⟩, by repeat (first | exact Drawn0.refl _ | apply Drawn0.step)⟩
      ·replace c8 := Bool.eq_false_iff.mpr c8
       subst c8
       have H1 : (some false) = some r := by rw [if_neg (show ¬ (false = true) by decide)] at H; exact H
       clear H
       have H := H1
       clear H1
       obtain rfl := Option.some.inj H
       have p266 : 0 ≤ (x11_1 : Int) := of_decide_eq_true (by first | (with_reducible assumption) | assumption)
       have q266 : x11_1 < (l0.length : Int) := of_decide_eq_true (by first | (with_reducible assumption) | assumption)
       obtain ⟨ad266, e266, hx266_0⟩ := Kd.at_int HR0.out x11_1 p266 q266
       cases e266
       replace p266 := eq_true p266
       replace q266 := eq_true q266
       go_wp2_with (first | ((with_reducible refine gate_callee (f := 165) rfl ?_); refine goesL_ (some 18) rfl rfl Try.func165 (by kernel_rfl) rfl #[.int .i64 (rd l0 x11_1), .int .i64 a1, .int .i64 a2] rfl (by (try simp only [List.map_toArray, List.map_cons, List.map_nil]); first | done | rfl | (simp only [List.length_drop, List.length_take]; rfl)) ?_; (with_reducible refine (spec_l1In.calls (rd l0 x11_1) a1 a2 false _ A7.out).mono ?_); rintro e w' ⟨rfl, ⟨nd, rfl⟩⟩; refine ⟨_, rfl, ?_⟩))
       go_ret
       exact ⟨by first | rfl | (simp; done) | (simp [*]; done), by repeat (first | exact Drawn0.refl _ | apply Drawn0.step)⟩
     ·rw [if_neg c6] at H
      exact absurd H (by simp)
    ·rw [if_neg c5] at H
     exact absurd H (by simp)
   ·rw [if_neg c4] at H
    have c4b0 : decide (x11_1 < (l0.length : Int)) = false := decide_eq_false c4
    clear c4
    obtain rfl := Option.some.inj H
    go_wp2
    go_ret
    exact ⟨by first | rfl | (simp; done) | (simp [*]; done), by repeat (first | exact Drawn0.refl _ | apply Drawn0.step)⟩

/-! ### spec_plGood: function 93 -/
def spec_plGood.l0 : Nat → List (List Int) → List (List Int) → Int → Int → Option (Bool)
 | 0, _, _, _, _ => none
 | k + 1, x0, x9, x10, x11 => if x11 < x10 then (if 0 ≤ x11 then (if x11 < (x9.length : Int) then (if ((rd_L2 x9 x11).length : Int) = (x0.length : Int) then ((spec_l1All.f k (rd_L2 x9 x11) 0 60).bind fun t270 => (if t270 = true then (spec_plGood.l0 k x0 x9 x10 (wrap64 (x11 + 1))) else (some false))) else (some false)) else (none)) else (none)) else (some true)
def spec_plGood.f (k : Nat) (l0 : List (List Int)) : Option (Bool) := (spec_l1In.f (l0.length : Int) 1 8).bind fun t268 => (if t268 = true then (spec_plGood.l0 k l0 l0 (l0.length : Int) 0) else (some false))
theorem spec_plGood.mono_l : ∀ k, (∀ y0 y1 y2 y3, LeO (spec_plGood.l0 k y0 y1 y2 y3) (spec_plGood.l0 (k + 1) y0 y1 y2 y3))
 | 0 => fun _ _ _ _ r h => by simp [spec_plGood.l0] at h
 | k + 1 => by
  have ih0 := spec_plGood.mono_l k
  ·intro y0 y1 y2 y3
   unfold spec_plGood.l0
   repeat' first
   | (with_reducible exact ih0 _ _ _ _)
   | (with_reducible exact spec_l1All.mono _ _ _ _)
   | (with_reducible exact LeO.refl _)
   | (with_reducible exact LeO.none _)
   | (with_reducible refine LeO.ite ?_ ?_)
   | (with_reducible refine LeO.bind ?_ (fun _ => ?_))
   | exact ih0 _ _ _ _
   | exact spec_l1All.mono _ _ _ _
   | exact LeO.none _
   | refine LeO.ite ?_ ?_
   | refine LeO.bind ?_ (fun _ => ?_)
theorem spec_plGood.mono : ∀ a0 k, LeO (spec_plGood.f k a0) (spec_plGood.f (k + 1) a0) := by
 intro a0 k
 have ih0 := spec_plGood.mono_l k
 unfold spec_plGood.f
 repeat' first
   | (with_reducible exact ih0 _ _ _ _)
   | (with_reducible exact spec_l1All.mono _ _ _ _)
   | (with_reducible exact LeO.refl _)
   | (with_reducible exact LeO.none _)
   | (with_reducible refine LeO.ite ?_ ?_)
   | (with_reducible refine LeO.bind ?_ (fun _ => ?_))
   | exact ih0 _ _ _ _
   | exact spec_l1All.mono _ _ _ _
   | exact LeO.none _
   | refine LeO.ite ?_ ?_
   | refine LeO.bind ?_ (fun _ => ?_)
set_option maxHeartbeats 8000000 in
set_option maxRecDepth 100000 in
theorem spec_plGood.calls (k : Nat) (A0 : Option Addr) (c0 : Nat) (l0 : List (List Int)) (r : Bool) (w : World) (hr0 : Kd.C (Kd.slice 3 (Kd.int .i64)) w A0 l0.length l0) (hc0 : l0.length ≤ c0) (h : spec_plGood.f k l0 = some r) :
  Calls Try.prog 93 #[.slice A0 l0.length c0] w fun e w' => e = .returned (.bool r) ∧ Drawn0 w w' := by
 have HR0 := Aside0.mk hr0
 have HC0 := Aside0.mk hc0
 clear hr0 hc0
 have H : ((spec_l1In.f (l0.length : Int) 1 8).bind fun t268 => (if t268 = true then (spec_plGood.l0 k l0 l0 (l0.length : Int) 0) else (some false))) = some r := h
 clear h
 replace H := Option.bind_eq_some_iff.mp H
 obtain ⟨t268, A20, H⟩ := H
 replace H : (if t268 = true then (spec_plGood.l0 k l0 l0 (l0.length : Int) 0) else (some false)) = some r := H
 have A2 := Aside0.mk A20
 clear A20
 by_cases c3 : t268 = true
 ·subst c3
  have H1 : (spec_plGood.l0 k l0 l0 (l0.length : Int) 0) = some r := by rw [if_pos rfl] at H; exact H
  clear H
  have H := H1
  clear H1
  have H' := Aside0.mk H
  clear H
  go_enter Try.func93, Try.ntmps93
  go_wp2_with (first | ((with_reducible refine gate_callee (f := 165) rfl ?_); refine goesL_ (some 7) rfl rfl Try.func165 (by kernel_rfl) rfl #[.int .i64 (l0.length : Int), .int .i64 1, .int .i64 8] rfl (by (try simp only [List.map_toArray, List.map_cons, List.map_nil]); first | done | rfl | (simp only [List.length_drop, List.length_take]; rfl)) ?_; (with_reducible refine (spec_l1In.calls (l0.length : Int) 1 8 true _ A2.out).mono ?_); rintro e w' ⟨rfl, ⟨nd, rfl⟩⟩; refine ⟨_, rfl, ?_⟩))
  go_loopg [11] k (fun kq v11 w' => ∃ (x11_1 : Int), v11 = .int .i64 x11_1 ∧ Aside0 (spec_plGood.l0 kq l0 l0 (l0.length : Int) x11_1 = some r) ∧ Aside0 (kq ≤ k) ∧ Drawn0 w w')
  case atStart => exact ⟨(0), (by first | rfl | (simp; done) | (simp [*]; done)), H', ⟨Nat.le_refl _⟩, by repeat (first | exact Drawn0.refl _ | apply Drawn0.step)⟩
  case round =>
   clear H'
   try clear c1
   try clear p2
   try clear c3
   obtain ⟨x11_1, rfl, HA, HK1, ⟨m1, rfl⟩⟩ := hrel
   cases gk with
   | zero => exact absurd HA.out (by simp [spec_plGood.l0])
   | succ k1 =>
    have H := HA.out
    clear HA
    simp only [spec_plGood.l0] at H
    by_cases c4 : x11_1 < (l0.length : Int)
    ·rw [if_pos c4] at H
     have c4b0 : decide (x11_1 < (l0.length : Int)) = true := decide_eq_true c4
     clear c4
     by_cases c5 : 0 ≤ x11_1
     ·rw [if_pos c5] at H
      have c5b0 : decide (0 ≤ x11_1) = true := decide_eq_true c5
      clear c5
      by_cases c6 : x11_1 < (l0.length : Int)
      ·rw [if_pos c6] at H
       have c6b0 : decide (x11_1 < (l0.length : Int)) = true := decide_eq_true c6
       clear c6
       by_cases c7 : ((rd_L2 l0 x11_1).length : Int) = (l0.length : Int)
       ·rw [if_pos c7] at H
        have c7b0 : (((rd_L2 l0 x11_1).length : Int) == (l0.length : Int)) = true := beq_iff_eq.mpr c7
        have c7b1 : (((rd_L2 l0 x11_1).length : Int) != (l0.length : Int)) = false := bne_eq_false_iff_eq.mpr c7
        have c7b2 : ((rd_L2 l0 x11_1).length == l0.length) = true := by first | simpa using c7 | (simp at c7 ⊢; omega)
        clear c7
        replace H := Option.bind_eq_some_iff.mp H
        obtain ⟨t270, A80, H⟩ := H
        replace H : (if t270 = true then (spec_plGood.l0 k1 l0 l0 (l0.length : Int) (wrap64 (x11_1 + 1))) else (some false)) = some r := H
        have A8 := Aside0.mk A80
        clear A80
        by_cases c9 : t270 = true
        ·subst c9
         have H1 : (spec_plGood.l0 k1 l0 l0 (l0.length : Int) (wrap64 (x11_1 + 1))) = some r := by rw [if_pos rfl] at H; exact H
         clear H
         have H := H1
         clear H1
         have H' := Aside0.mk H
         clear H
         have p269 : 0 ≤ (x11_1 : Int) := of_decide_eq_true (by first | (with_reducible assumption) | assumption)
         have q269 : x11_1 < (l0.length : Int) := of_decide_eq_true (by first | (with_reducible assumption) | assumption)
         obtain ⟨ad269, A269_0, c269_0, e269, hx269_0, hl269_0, hi269_0⟩ := at_L2 HR0.out x11_1 p269 q269
         cases e269
         have HR269_0 := Aside0.mk hi269_0
         have HC269_0 := Aside0.mk hl269_0
         clear hi269_0 hl269_0
         replace p269 := eq_true p269
         replace q269 := eq_true q269
         go_wp2_with (first | (go_at_call 166; (with_reducible refine (spec_l1All.calls k1 _ _ (rd_L2 l0 x11_1) 0 60 true _ ?side1 ?side2 A8.out).mono ?_); (case side1 => repeat (first | exact HR269_0.out | (with_reducible refine Kd.C_alloc ?_ _) | (with_reducible refine Kd.C_drewN ?_ _) | (with_reducible refine Kd.C_drew ?_))); (case side2 => exact HC269_0.out); rintro e w' ⟨rfl, ⟨nd, rfl⟩⟩))
         go_roundg k1
         case measure => have := HK1.out; omega
         case rel => exact ⟨(wrap64 (x11_1 + 1)), (by first | rfl | (simp; done) | (simp [*]; done)), H', ⟨by have := HK1.out; omega⟩, by repeat (first | exact Drawn0.refl _ | apply Drawn0.step)⟩
        ·replace c9 := Bool.eq_false_iff.mpr c9
         subst c9
         have H1 : (some false) = some r := by rw [if_neg (show ¬ (false = true) by decide)] at H; exact H
         clear H
         have H := H1
         clear H1
         obtain rfl := Option.some.inj H
         have p269 : 0 ≤ (x11_1 : Int) := of_decide_eq_true (by first | (with_reducible assumption) | assumption)
         have q269 : x11_1 < (l0.length : Int) := of_decide_eq_true (by first | (with_reducible assumption) | assumption)
         obtain ⟨ad269, A269_0, c269_0, e269, hx269_0, hl269_0, hi269_0⟩ := at_L2 HR0.out x11_1 p269 q269
         cases e269
         have HR269_0 := Aside0.mk hi269_0
         have HC269_0 := Aside0.mk hl269_0
         clear hi269_0 hl269_0
         replace p269 := eq_true p269
         replace q269 := eq_true q269
         go_wp2_with (first | (go_at_call 166; (with_reducible refine (spec_l1All.calls k1 _ _ (rd_L2 l0 x11_1) 0 60 false _ ?side1 ?side2 A8.out).mono ?_); (case side1 => repeat (first | exact HR269_0.out | (with_reducible refine Kd.C_alloc ?_ _) | (with_reducible refine Kd.C_drewN ?_ _) | (with_reducible refine Kd.C_drew ?_))); (case side2 => exact HC269_0.out); rintro e w' ⟨rfl, ⟨nd, rfl⟩⟩))
         go_ret
         exact ⟨by first | rfl | (simp; done) | (simp [*]; done), by repeat (first | exact Drawn0.refl _ | apply Drawn0.step)⟩
       ·rw [if_neg c7] at H
        have c7b0 : (((rd_L2 l0 x11_1).length : Int) == (l0.length : Int)) = false := beq_eq_false_iff_ne.mpr c7
        have c7b1 : (((rd_L2 l0 x11_1).length : Int) != (l0.length : Int)) = true := bne_iff_ne.mpr c7
        have c7b2 : ((rd_L2 l0 x11_1).length == l0.length) = false := by first | simpa using c7 | (simp at c7 ⊢; omega)
        obtain rfl := Option.some.inj H
        have p269 : 0 ≤ (x11_1 : Int) := of_decide_eq_true (by first | (with_reducible assumption) | assumption)
        have q269 : x11_1 < (l0.length : Int) := of_decide_eq_true (by first | (with_reducible assumption) | assumption)
        obtain ⟨ad269, A269_0, c269_0, e269, hx269_0, hl269_0, hi269_0⟩ := at_L2 HR0.out x11_1 p269 q269
        cases e269
        have HR269_0 := Aside0.mk hi269_0
        have HC269_0 := Aside0.mk hl269_0
        clear hi269_0 hl269_0
        replace p269 := eq_true p269
        replace q269 := eq_true q269
        go_wp2
        go_ret
        exact ⟨by first | rfl | (simp; done) | (simp [*]; done), by repeat (first | exact Drawn0.refl _ | apply Drawn0.step)⟩
      ·rw [if_neg c6] at H
       exact absurd H (by simp)
     ·rw [if_neg c5] at H
      exact absurd H (by simp)
    ·rw [if_neg c4] at H
     have c4b0 : decide (x11_1 < (l0.length : Int)) = false := decide_eq_false c4
     clear c4
     obtain rfl := Option.some.inj H
     go_wp2
     go_ret
     exact ⟨by first | rfl | (simp; done) | (simp [*]; done), by repeat (first | exact Drawn0.refl _ | apply Drawn0.step)⟩
 ·replace c3 := Bool.eq_false_iff.mpr c3
  subst c3
  have H1 : (some false) = some r := by rw [if_neg (show ¬ (false = true) by decide)] at H; exact H
  clear H
  have H := H1
  clear H1
  obtain rfl := Option.some.inj H
  go_enter Try.func93, Try.ntmps93
  go_wp2_with (first | ((with_reducible refine gate_callee (f := 165) rfl ?_); refine goesL_ (some 7) rfl rfl Try.func165 (by kernel_rfl) rfl #[.int .i64 (l0.length : Int), .int .i64 1, .int .i64 8] rfl (by (try simp only [List.map_toArray, List.map_cons, List.map_nil]); first | done | rfl | (simp only [List.length_drop, List.length_take]; rfl)) ?_; (with_reducible refine (spec_l1In.calls (l0.length : Int) 1 8 false _ A2.out).mono ?_); rintro e w' ⟨rfl, ⟨nd, rfl⟩⟩; refine ⟨_, rfl, ?_⟩))
  go_ret
  exact ⟨by first | rfl | (simp; done) | (simp [*]; done), by repeat (first | exact Drawn0.refl _ | apply Drawn0.step)⟩

/-! ### spec_plCells: function 167 -/
mutual
def spec_plCells.l0 : Nat → List (S45) → List (List Int) → Int → Int → Option ((List (S45)))
 | 0, _, _, _, _ => none
 | k + 1, x3, x8, x9, x10 => if x10 < x9 then (if 0 ≤ x10 then (if x10 < (x8.length : Int) then (spec_plCells.l1 k x3 x10 x8 x9 x10 (rd_L2 x8 x10) ((rd_L2 x8 x10).length : Int) 0) else (none)) else (none)) else (some x3)
def spec_plCells.l1 : Nat → List (S45) → Int → List (List Int) → Int → Int → List Int → Int → Int → Option ((List (S45)))
 | 0, _, _, _, _, _, _, _, _ => none
 | k + 1, x3, x4, x8, x9, x10, x15, x16, x17 => if x17 < x16 then (if 0 ≤ x17 then (if x17 < (x15.length : Int) then (if (rd x15 x17) > 0 then (if x3.length < 8796093022208 then (spec_plCells.l1 k (x3 ++ [(⟨x4, x17⟩ : S45)]) x4 x8 x9 x10 x15 x16 (wrap64 (x17 + 1))) else (none)) else (spec_plCells.l1 k x3 x4 x8 x9 x10 x15 x16 (wrap64 (x17 + 1)))) else (none)) else (none)) else (spec_plCells.l0 k x3 x8 x9 (wrap64 (x10 + 1)))
end
def spec_plCells.f (k : Nat) (l0 : List (List Int)) : Option ((List (S45))) := spec_plCells.l0 k ([] : List (S45)) l0 (l0.length : Int) 0
theorem spec_plCells.mono_l : ∀ k, (∀ y0 y1 y2 y3, LeO (spec_plCells.l0 k y0 y1 y2 y3) (spec_plCells.l0 (k + 1) y0 y1 y2 y3)) ∧ (∀ y0 y1 y2 y3 y4 y5 y6 y7, LeO (spec_plCells.l1 k y0 y1 y2 y3 y4 y5 y6 y7) (spec_plCells.l1 (k + 1) y0 y1 y2 y3 y4 y5 y6 y7))
 | 0 => ⟨fun _ _ _ _ r h => by simp [spec_plCells.l0] at h, fun _ _ _ _ _ _ _ _ r h => by simp [spec_plCells.l1] at h⟩
 | k + 1 => by
  obtain ⟨ih0, ih1⟩ := spec_plCells.mono_l k
  refine ⟨?_, ?_⟩
  ·intro y0 y1 y2 y3
   unfold spec_plCells.l0
   repeat' first
   | (with_reducible exact ih0 _ _ _ _)
   | (with_reducible exact ih1 _ _ _ _ _ _ _ _)
   | (with_reducible exact LeO.refl _)
   | (with_reducible exact LeO.none _)
   | (with_reducible refine LeO.ite ?_ ?_)
   | (with_reducible refine LeO.bind ?_ (fun _ => ?_))
   | exact ih0 _ _ _ _
   | exact ih1 _ _ _ _ _ _ _ _
   | exact LeO.none _
   | refine LeO.ite ?_ ?_
   | refine LeO.bind ?_ (fun _ => ?_)
  ·intro y0 y1 y2 y3 y4 y5 y6 y7
   unfold spec_plCells.l1
   repeat' first
   | (with_reducible exact ih0 _ _ _ _)
   | (with_reducible exact ih1 _ _ _ _ _ _ _ _)
   | (with_reducible exact LeO.refl _)
   | (with_reducible exact LeO.none _)
   | (with_reducible refine LeO.ite ?_ ?_)
   | (with_reducible refine LeO.bind ?_ (fun _ => ?_))
   | exact ih0 _ _ _ _
   | exact ih1 _ _ _ _ _ _ _ _
   | exact LeO.none _
   | refine LeO.ite ?_ ?_
   | refine LeO.bind ?_ (fun _ => ?_)
theorem spec_plCells.mono : ∀ a0 k, LeO (spec_plCells.f k a0) (spec_plCells.f (k + 1) a0) := by
 intro a0 k
 obtain ⟨ih0, ih1⟩ := spec_plCells.mono_l k
 unfold spec_plCells.f
 repeat' first
   | (with_reducible exact ih0 _ _ _ _)
   | (with_reducible exact ih1 _ _ _ _ _ _ _ _)
   | (with_reducible exact LeO.refl _)
   | (with_reducible exact LeO.none _)
   | (with_reducible refine LeO.ite ?_ ?_)
   | (with_reducible refine LeO.bind ?_ (fun _ => ?_))
   | exact ih0 _ _ _ _
   | exact ih1 _ _ _ _ _ _ _ _
   | exact LeO.none _
   | refine LeO.ite ?_ ?_
   | refine LeO.bind ?_ (fun _ => ?_)
set_option maxHeartbeats 8000000 in
set_option maxRecDepth 100000 in
theorem spec_plCells.calls (k : Nat) (A0 : Option Addr) (c0 : Nat) (l0 : List (List Int)) (r : List (S45)) (w : World) (hr0 : Kd.C (Kd.slice 3 (Kd.int .i64)) w A0 l0.length l0) (hc0 : l0.length ≤ c0) (h : spec_plCells.f k l0 = some r) :
  Calls Try.prog 167 #[.slice A0 l0.length c0] w fun e w' => ∃ v0_ : Value, e = .returned (v0_) ∧ Kd.R k45 45 w' w.heap.size (fun _ => True) v0_ r ∧ Below w.heap.size w w' := by
 have hu45 := Try.underlying45
 have HR0 := Aside0.mk hr0
 have HC0 := Aside0.mk hc0
 clear hr0 hc0
 have HB := Aside0.mk (Below.refl w.heap.size w)
 have H : (spec_plCells.l0 k ([] : List (S45)) l0 (l0.length : Int) 0) = some r := h
 clear h
 have H' := Aside0.mk H
 clear H
 go_enter Try.func167, Try.ntmps167
 go_wp2
 go_loopg [3, 10] k (fun kq v3 v10 w' => ∃ (x3_1 : List (S45)) (x10_1 : Int), v10 = .int .i64 x10_1 ∧ Aside0 (spec_plCells.l0 kq x3_1 l0 (l0.length : Int) x10_1 = some r) ∧ Aside0 (kq ≤ k) ∧ Aside0 (Kd.R k45 45 w' w.heap.size (fun _ => True) v3 x3_1) ∧ Aside0 (Below w.heap.size w w'))
 case atStart => exact ⟨(([] : List (S45))), (0), (by first | rfl | (simp; done) | (simp [*]; done)), H', ⟨Nat.le_refl _⟩, ⟨by first | exact Kd.R_nil _ _ _ _ _ | exact Kd.N_nil _ _ _ _ _ | exact Kd.V_nil _ _ _ _ _ | exact Kd.Q_nil _ _ _ _ _ | exact Kd.S_nil _ _ _ _ _⟩, ⟨by repeat (first | (with_reducible first | exact HB.out | apply below_alloc | apply pw_below_drewN | apply below_drew1) | exact HB.out)⟩⟩
 case round =>
  clear H'
  try clear c1
  obtain ⟨x3_1, x10_1, rfl, HA, HK1, HO_3, HB⟩ := hrel
  cases gk with
  | zero => exact absurd HA.out (by simp [spec_plCells.l0])
  | succ k1 =>
   have H := HA.out
   clear HA
   simp only [spec_plCells.l0] at H
   by_cases c2 : x10_1 < (l0.length : Int)
   ·rw [if_pos c2] at H
    have c2b0 : decide (x10_1 < (l0.length : Int)) = true := decide_eq_true c2
    clear c2
    by_cases c3 : 0 ≤ x10_1
    ·rw [if_pos c3] at H
     have c3b0 : decide (0 ≤ x10_1) = true := decide_eq_true c3
     clear c3
     by_cases c4 : x10_1 < (l0.length : Int)
     ·rw [if_pos c4] at H
      have c4b0 : decide (x10_1 < (l0.length : Int)) = true := decide_eq_true c4
      clear c4
      have H' := Aside0.mk H
      clear H
      have p271 : 0 ≤ (x10_1 : Int) := of_decide_eq_true (by first | (with_reducible assumption) | assumption)
      have q271 : x10_1 < (l0.length : Int) := of_decide_eq_true (by first | (with_reducible assumption) | assumption)
      obtain ⟨ad271, A271_0, c271_0, e271, hx271_0, hl271_0, hi271_0⟩ := at_L2 HR0.out x10_1 p271 q271
      cases e271
      try replace hx271_0 := (HB.out.cell (World.block_lt_of_cell? w _ hx271_0)).trans hx271_0
      have HR271_0 := Aside0.mk hi271_0
      have HC271_0 := Aside0.mk hl271_0
      clear hi271_0 hl271_0
      replace p271 := eq_true p271
      replace q271 := eq_true q271
      go_wp2
      go_loopg [3, 17] k1 (fun kq v3 v17 w' => ∃ (x3_2 : List (S45)) (x17_2 : Int), v17 = .int .i64 x17_2 ∧ Aside0 (spec_plCells.l1 kq x3_2 x10_1 l0 (l0.length : Int) x10_1 (rd_L2 l0 x10_1) ((rd_L2 l0 x10_1).length : Int) x17_2 = some r) ∧ Aside0 (kq ≤ k1) ∧ Aside0 (Kd.R k45 45 w' w.heap.size (fun _ => True) v3 x3_2) ∧ Aside0 (Below w.heap.size w w'))
      case atStart => exact ⟨(x3_1), (0), (by first | rfl | (simp; done) | (simp [*]; done)), H', ⟨Nat.le_refl _⟩, ⟨by (with_reducible repeat (first | apply Kd.R_alloc | apply Kd.R_drewN | apply Kd.R_drew)); exact HO_3.out⟩, ⟨by repeat (first | (with_reducible first | exact HB.out | apply below_alloc | apply pw_below_drewN | apply below_drew1) | exact HB.out)⟩⟩
      case round =>
       clear H'
       try clear c1
       try clear c2
       try clear c2b0
       try clear p2
       try clear q2
       try clear hx2
       try clear c3
       try clear c3b0
       try clear c4
       try clear c4b0
       try clear hx271_0
       try clear p271
       try clear q271
       obtain ⟨x3_2, x17_2, rfl, HA, HK2, HO_3, HB⟩ := hrel
       cases gk with
       | zero => exact absurd HA.out (by simp [spec_plCells.l1])
       | succ k2 =>
        have H := HA.out
        clear HA
        simp only [spec_plCells.l1] at H
        by_cases c5 : x17_2 < ((rd_L2 l0 x10_1).length : Int)
        ·rw [if_pos c5] at H
         have c5b0 : decide (x17_2 < ((rd_L2 l0 x10_1).length : Int)) = true := decide_eq_true c5
         clear c5
         by_cases c6 : 0 ≤ x17_2
         ·rw [if_pos c6] at H
          have c6b0 : decide (0 ≤ x17_2) = true := decide_eq_true c6
          clear c6
          by_cases c7 : x17_2 < ((rd_L2 l0 x10_1).length : Int)
          ·rw [if_pos c7] at H
           have c7b0 : decide (x17_2 < ((rd_L2 l0 x10_1).length : Int)) = true := decide_eq_true c7
           clear c7
           by_cases c8 : (rd (rd_L2 l0 x10_1) x17_2) > 0
           ·rw [if_pos c8] at H
            have c8b0 : decide (0 < (rd (rd_L2 l0 x10_1) x17_2)) = true := decide_eq_true c8
            clear c8
            by_cases c9 : x3_2.length < 8796093022208
            ·rw [if_pos c9] at H
             have LMc9 := Aside0.mk c9
             clear c9
             obtain ⟨y273, hy273⟩ : ∃ y_ : List (S45), y_ = (x3_2 ++ [(⟨x10_1, x17_2⟩ : S45)]) := ⟨_, rfl⟩
             replace H : (spec_plCells.l1 k2 y273 x10_1 l0 (l0.length : Int) x10_1 (rd_L2 l0 x10_1) ((rd_L2 l0 x10_1).length : Int) (wrap64 (x17_2 + 1))) = some r := by first | (rw [hy273]; with_reducible exact H) | (have H2_ := (Option.bind_some _ _).symm.trans H; rw [hy273]; with_reducible exact H2_) | (have H2_ := (Option.bind_some _ _).symm.trans H; with_reducible exact H2_) | with_reducible exact H | (rw [hy273]; exact H) | exact H
             have Ny273 := Aside0.mk hy273
             clear hy273
             have H' := Aside0.mk H
             clear H
             have p272 : 0 ≤ (x17_2 : Int) := of_decide_eq_true (by first | (with_reducible assumption) | assumption)
             have q272 : x17_2 < ((rd_L2 l0 x10_1).length : Int) := of_decide_eq_true (by first | (with_reducible assumption) | assumption)
             obtain ⟨ad272, e272, hx272_0⟩ := Kd.at_int HR271_0.out x17_2 p272 q272
             cases e272
             try replace hx272_0 := (HB.out.cell (World.block_lt_of_cell? w _ hx272_0)).trans hx272_0
             replace p272 := eq_true p272
             replace q272 := eq_true q272
             go_wp2_with (first | ((with_reducible refine gate_builtin (b := .append) (xs := #[.tmp 24, .tmp 28]) rfl ?_); at_builtin; refine Kd.R_append k45 (w0 := w) w.heap.size rfl (.tmp 24) (.tmp 28) 41 45 (.agg #[(.int .i64 0), (.int .i64 0)]) 16 rfl Try.underlying41 info45 rfl (by decide) (by omega) u3 x3_2 (⟨x10_1, x17_2⟩ : S45) [.int .i64 x10_1, .int .i64 x17_2] (fun _ => True) (fun _ => False) rfl rfl ?aP (fun _ hk => hk.elim) ?aF ?aO ?aB ?aS ?aL ?_; (case aP => exact k45_mkM _ _ _ (⟨x10_1, x17_2⟩ : S45)); (case aB => exact (by repeat (first | (with_reducible first | exact HB.out | apply below_alloc | apply pw_below_drewN | apply below_drew1) | exact HB.out))); (case aF => exact (fun _ _ => trivial)); (case aO => exact (by (with_reducible repeat (first | apply Kd.R_alloc | apply Kd.R_drewN | apply Kd.R_drew)); exact HO_3.out)); (case aS => exact (below_size (by repeat (first | (with_reducible first | exact HB.out | apply below_alloc | apply pw_below_drewN | apply below_drew1) | exact HB.out)))); (case aL => have := LMc9.out; omega); intro v274 w10 ho hb hg hat; rw [← Ny273.out] at ho; have n0_ := Aside0.mk (hb); have n1_ := Aside0.mk (ho); clear HB; clear HO_3; have HB := n0_; have HO275 := n1_; clear n0_ n1_; clear ho hb hg hat))
             go_roundg k2
             case measure => have := HK1.out; have := HK2.out; omega
             case rel => exact ⟨(y273), (wrap64 (x17_2 + 1)), (by first | rfl | (simp; done) | (simp [*]; done)), H', ⟨by have := HK1.out; have := HK2.out; omega⟩, ⟨by (with_reducible repeat (first | apply Kd.R_alloc | apply Kd.R_drewN | apply Kd.R_drew)); exact HO275.out⟩, ⟨by repeat (first | (with_reducible first | exact HB.out | apply below_alloc | apply pw_below_drewN | apply below_drew1) | exact HB.out)⟩⟩
            ·rw [if_neg c9] at H
             exact absurd H (by simp)
           ·rw [if_neg c8] at H
            have c8b0 : decide (0 < (rd (rd_L2 l0 x10_1) x17_2)) = false := decide_eq_false c8
            clear c8
            have H' := Aside0.mk H
            clear H
            have p272 : 0 ≤ (x17_2 : Int) := of_decide_eq_true (by first | (with_reducible assumption) | assumption)
            have q272 : x17_2 < ((rd_L2 l0 x10_1).length : Int) := of_decide_eq_true (by first | (with_reducible assumption) | assumption)
            obtain ⟨ad272, e272, hx272_0⟩ := Kd.at_int HR271_0.out x17_2 p272 q272
            cases e272
            try replace hx272_0 := (HB.out.cell (World.block_lt_of_cell? w _ hx272_0)).trans hx272_0
            replace p272 := eq_true p272
            replace q272 := eq_true q272
            go_wp2
            go_roundg k2
            case measure => have := HK1.out; have := HK2.out; omega
            case rel => exact ⟨(x3_2), (wrap64 (x17_2 + 1)), (by first | rfl | (simp; done) | (simp [*]; done)), H', ⟨by have := HK1.out; have := HK2.out; omega⟩, ⟨by (with_reducible repeat (first | apply Kd.R_alloc | apply Kd.R_drewN | apply Kd.R_drew)); exact HO_3.out⟩, ⟨by repeat (first | (with_reducible first | exact HB.out | apply below_alloc | apply pw_below_drewN | apply below_drew1) | exact HB.out)⟩⟩
          ·rw [if_neg c7] at H
           exact absurd H (by simp)
         ·rw [if_neg c6] at H
          exact absurd H (by simp)
        ·rw [if_neg c5] at H
         have c5b0 : decide (x17_2 < ((rd_L2 l0 x10_1).length : Int)) = false := decide_eq_false c5
         clear c5
         have H' := Aside0.mk H
         clear H
         go_wp2
         go_roundg k2
         case measure => have := HK1.out; have := HK2.out; omega
         case rel => exact ⟨(x3_2), (wrap64 (x10_1 + 1)), (by first | rfl | (simp; done) | (simp [*]; done)), H', ⟨by have := HK1.out; have := HK2.out; omega⟩, ⟨by (with_reducible repeat (first | apply Kd.R_alloc | apply Kd.R_drewN | apply Kd.R_drew)); exact HO_3.out⟩, ⟨by repeat (first | (with_reducible first | exact HB.out | apply below_alloc | apply pw_below_drewN | apply below_drew1) | exact HB.out)⟩⟩
     ·rw [if_neg c4] at H
      exact absurd H (by simp)
    ·rw [if_neg c3] at H
     exact absurd H (by simp)
   ·rw [if_neg c2] at H
    have c2b0 : decide (x10_1 < (l0.length : Int)) = false := decide_eq_false c2
    clear c2
    obtain rfl := Option.some.inj H
    go_wp2
    go_ret
    exact ⟨_, by first | rfl | (simp [errW_none, errW_some] <;> rfl) | (simp [*, errW_none, errW_some] <;> rfl), by (with_reducible repeat (first | apply Kd.R_alloc | apply Kd.R_drewN | apply Kd.R_drew)); exact HO_3.out, by repeat (first | (with_reducible first | exact HB.out | apply below_alloc | apply pw_below_drewN | apply below_drew1) | exact HB.out)⟩

end Go.Proofs.Ytojklddddedoeaa.PFnUncrossing
-- SLIM
