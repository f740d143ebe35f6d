/- For each Go function that the law uses, a Lean function with the same answers and a proof that its call comes to them; the conditions stand in each theorem. (Written by a program of this session, turned from the print of the kit.) -/
import Derived.Test.YtbnlfhdjcpegkaaPFnExactUncrossx0
import Derived.Test.YtbnlfhdjcpegkaaPFnExactUncrossx4
import Derived.Test.YtbnlfhdjcpegkaaPFnExactUncrossx5
namespace Go.Proofs.Ytbnlfhdjcpegkaa.PFnExactUncross
open Go.RowKit Go.Proofs.YtbnlfhdjcpegkaaW.PrintWords Go.Proofs.YtbnlfhdjcpegkaaW.PrintLast Go.Proofs.YtbnlfhdjcpegkaaW.PrintMore
attribute [local go_sem] max2_int min2_int max_two min_two max_three min_three max_four min_four   -- for this text's walks alone
set_option linter.unusedVariables false
set_option linter.unusedSimpArgs false

/-! ### impl_Uncross: function 31 -/
/-- A table in which one number is another one. -/
def impl_Uncross.pt (m : List (List Int)) (i j v : Int) : List (List Int) := m.set i.toNat ((rd_L1 m i).set j.toNat v)
def impl_Uncross.o1 (o : List (List Int)) (x0 x1 n : Int) : List (List Int) := impl_Uncross.pt o x0 x1 (wrap64 (rd (rd_L1 o x0) x1 - n))
def impl_Uncross.o2 (o : List (List Int)) (x0 x1 n : Int) : List (List Int) := impl_Uncross.pt o x0 x1 (wrap64 (rd (rd_L1 o x0) x1 + n))
/-- The indices lie in a table. -/
def impl_Uncross.inn (m : List (List Int)) (i j : Int) : Prop := 0 ≤ i ∧ i < (m.length : Int) ∧ 0 ≤ j ∧ j < ((rd_L1 m i).length : Int)
instance (m : List (List Int)) (i j : Int) : Decidable (impl_Uncross.inn m i j) := inferInstanceAs (Decidable (_ ∧ _))
def impl_Uncross.e (k : Nat) (l0 : List (List Int)) (x0 x1 y0 y1 n : Int) (o : List (List Int)) : Option (List (List Int) × Int × Bool) := if impl_Uncross.inn o x0 x1 then (if impl_Uncross.inn (impl_Uncross.o1 o x0 x1 n) y0 y1 then (if impl_Uncross.inn (impl_Uncross.o1 (impl_Uncross.o1 o x0 x1 n) y0 y1 n) x0 y1 then (if impl_Uncross.inn (impl_Uncross.o2 (impl_Uncross.o1 (impl_Uncross.o1 o x0 x1 n) y0 y1 n) x0 y1 n) y0 x1 then ((impl_isPlan.f k (impl_Uncross.o2 (impl_Uncross.o2 (impl_Uncross.o1 (impl_Uncross.o1 o x0 x1 n) y0 y1 n) x0 y1 n) y0 x1 n)).bind fun g => if g = true then ((impl_cost.f k l0).bind fun c => (impl_cost.f k (impl_Uncross.o2 (impl_Uncross.o2 (impl_Uncross.o1 (impl_Uncross.o1 o x0 x1 n) y0 y1 n) x0 y1 n) y0 x1 n)).bind fun d => some ((impl_Uncross.o2 (impl_Uncross.o2 (impl_Uncross.o1 (impl_Uncross.o1 o x0 x1 n) y0 y1 n) x0 y1 n) y0 x1 n), wrap64 (c - d), true)) else some ([], 0, false)) else none) else none) else none) else none
def impl_Uncross.f (k : Nat) (l0 : List (List Int)) : Option (List (List Int) × Int × Bool) := (impl_isPlan.f k l0).bind fun p => if p = true then ((impl_crossing.f k l0).bind fun c => if c.2.2.2.2 = true then (if impl_Uncross.inn l0 c.1 c.2.1 then (if impl_Uncross.inn l0 c.2.2.1 c.2.2.2.1 then ((impl_mapped.f k l0 0).bind fun o => impl_Uncross.e k l0 c.1 c.2.1 c.2.2.1 c.2.2.2.1 (mn (rd (rd_L1 l0 c.1) c.2.1) (rd (rd_L1 l0 c.2.2.1) c.2.2.2.1)) o) else none) else none) else some ([], 0, false)) else some ([], 0, false)
theorem impl_Uncross.mono : ∀ a0 k, LeO (impl_Uncross.f k a0) (impl_Uncross.f (k + 1) a0) := by
  intro a0 k
  unfold impl_Uncross.f impl_Uncross.e
  exact LeO.bind (impl_isPlan.mono _ _) (fun _ => LeO.ite (LeO.bind (impl_crossing.mono _ _) (fun _ => LeO.ite (LeO.ite (LeO.ite (LeO.bind (impl_mapped.mono _ _ _) (fun _ => LeO.ite (LeO.ite (LeO.ite (LeO.ite (LeO.bind (impl_isPlan.mono _ _) (fun _ => LeO.ite (LeO.bind (impl_cost.mono _ _) (fun _ => LeO.bind (impl_cost.mono _ _) (fun _ => LeO.refl _))) (LeO.refl _))) (LeO.none _)) (LeO.none _)) (LeO.none _)) (LeO.none _))) (LeO.none _)) (LeO.none _)) (LeO.refl _))) (LeO.refl _))

/-- One row of rows that are apart has been written. -/
theorem impl_Uncross.row_step {w w1 : World} {base : Nat} {P0_ : Nat → Prop} {g n cap : Nat} {m : List (List Int)} {r : List Int} {i : Int} {oki : Nat → Prop} {c : List Value} {u : Value} {q : Nat}
    (hu : c = [u]) (hoki : ∀ k, oki k → P0_ k ∧ k ≠ g) (hH : Kd.H (Kd.slice 3 (Kd.int .i64)) 34 w base P0_ (.slice (some ⟨g, 0, none⟩) n cap) m i oki c)
    (hq : u.ownBlock = some q) (hqo : oki q) {ok1 : Nat → Prop} (hr : Kd.R (Kd.int .i64) 3 w1 base ok1 u r) (hk : w.grownBy w1 (some q)) :
    Kd.S (Kd.slice 3 (Kd.int .i64)) 34 w1 base P0_ (.slice (some ⟨g, 0, none⟩) n cap) (m.set i.toNat r) := by
  have h1 := Kd.H_step (w1 := w1) hH (fun k _ hn hlt => hk.block k hlt (fun he => hn (by cases he; exact hqo)))
  refine Kd.H_back (okp := fun k => some k = u.ownBlock) h1 ?_ (fun k hk => by rw [hq] at hk; cases hk; exact hqo)
  rw [hu]
  exact Kd.M_row (Kd.R_tight rfl hr)

set_option maxHeartbeats 8000000 in
set_option maxRecDepth 100000 in
theorem impl_Uncross.calls (k : Nat) (A0 : Option Addr) (c0 : Nat) (l0 : List (List Int)) (r1 : List (List Int)) (r2 : Int) (r3 : Bool) (w : World) (hr0 : Kd.C (Kd.slice 3 (Kd.int .i64)) w A0 l0.length l0) (hc0 : l0.length ≤ c0) (h : impl_Uncross.f k l0 = some (r1, r2, r3)) :
    Calls Try.prog 31 #[.slice A0 l0.length c0] w fun e w' => ∃ v0_ : Value, e = .returned (.tuple #[v0_, .int .i64 r2, .bool r3]) ∧ Kd.S (Kd.slice 3 (Kd.int .i64)) 34 w' w.heap.size (fun _ => True) v0_ r1 ∧ Below w.heap.size w w' := by
  have HR0 := Aside0.mk hr0
  have HC0 := Aside0.mk hc0
  have HB := Aside0.mk (Below.refl w.heap.size w)
  clear hr0 hc0
  have H := h
  clear h
  unfold impl_Uncross.f at H
  replace H := Option.bind_eq_some_iff.mp H
  obtain ⟨p, E10, H⟩ := H
  by_cases cp : ¬ p = true
  · rw [if_neg cp] at H
    replace cp := Bool.eq_false_iff.mpr cp
    subst cp
    have E1 := Aside0.mk E10
    clear E10
    simp only [Option.some.injEq, Prod.mk.injEq] at H
    obtain ⟨rfl, rfl, rfl⟩ := H
    go_enter Try.func31, Try.ntmps31
    go_wp2_with (first | (go_at_call 47; (with_reducible refine (impl_isPlan.calls k _ _ l0 false _ ?side1 ?side2 E1.out).mono ?_); (case side1 => repeat (first | exact (Kd.C_below HR0.out HB.out) | (with_reducible refine Kd.C_alloc ?_ _) | (with_reducible refine Kd.C_drewN ?_ _) | (with_reducible refine Kd.C_drew ?_))); (case side2 => exact HC0.out); rintro e wp_ ⟨rfl, hb⟩; have n_ := Aside0.mk (below_step (by repeat (first | (with_reducible first | exact HB.out | apply below_alloc | apply pw_below_drewN | apply below_drew1) | exact HB.out)) hb); clear HB; have HB := n_; clear n_; clear hb))
    exact bodyPost_ret (v := .tuple #[.slice none 0 0, .int .i64 0, .bool false]) (by simp [results, Try.results31, go_sem]) rfl ⟨_, rfl, Kd.S_nil _ _ _ _ _, by repeat (first | (with_reducible first | exact HB.out | apply below_alloc | apply pw_below_drewN | apply below_drew1) | exact HB.out)⟩
  replace cp := Decidable.not_not.mp cp
  rw [if_pos cp] at H
  subst cp
  have E1 := Aside0.mk E10
  clear E10
  replace H := Option.bind_eq_some_iff.mp H
  obtain ⟨⟨x0, x1, y0, y1, b⟩, E20, H⟩ := H
  dsimp only at H
  by_cases cb : ¬ b = true
  · rw [if_neg cb] at H
    replace cb := Bool.eq_false_iff.mpr cb
    subst cb
    have E2 := Aside0.mk E20
    clear E20
    simp only [Option.some.injEq, Prod.mk.injEq] at H
    obtain ⟨rfl, rfl, rfl⟩ := H
    go_enter Try.func31, Try.ntmps31
    go_wp2_with (first | (go_at_call 47; (with_reducible refine (impl_isPlan.calls k _ _ l0 true _ ?side1 ?side2 E1.out).mono ?_); (case side1 => repeat (first | exact (Kd.C_below HR0.out HB.out) | (with_reducible refine Kd.C_alloc ?_ _) | (with_reducible refine Kd.C_drewN ?_ _) | (with_reducible refine Kd.C_drew ?_))); (case side2 => exact HC0.out); rintro e wp_ ⟨rfl, hb⟩; have n_ := Aside0.mk (below_step (by repeat (first | (with_reducible first | exact HB.out | apply below_alloc | apply pw_below_drewN | apply below_drew1) | exact HB.out)) hb); clear HB; have HB := n_; clear n_; clear hb) | (go_at_call 50; (with_reducible refine (impl_crossing.calls k _ _ l0 x0 x1 y0 y1 false _ ?side1 ?side2 E2.out).mono ?_); (case side1 => repeat (first | exact (Kd.C_below HR0.out HB.out) | (with_reducible refine Kd.C_alloc ?_ _) | (with_reducible refine Kd.C_drewN ?_ _) | (with_reducible refine Kd.C_drew ?_))); (case side2 => exact HC0.out); rintro e w1 ⟨rfl, hb⟩; have n_ := Aside0.mk (below_step (by repeat (first | (with_reducible first | exact HB.out | apply below_alloc | apply pw_below_drewN | apply below_drew1) | exact HB.out)) hb); clear HB; have HB := n_; clear n_; clear hb))
    exact bodyPost_ret (v := .tuple #[.slice none 0 0, .int .i64 0, .bool false]) (by simp [results, Try.results31, go_sem]) rfl ⟨_, rfl, Kd.S_nil _ _ _ _ _, by repeat (first | (with_reducible first | exact HB.out | apply below_alloc | apply pw_below_drewN | apply below_drew1) | exact HB.out)⟩
  replace cb := Decidable.not_not.mp cb
  rw [if_pos cb] at H
  subst cb
  have E2 := Aside0.mk E20
  clear E20
  by_cases c1 : ¬ impl_Uncross.inn l0 x0 x1
  · rw [if_neg c1] at H
    exact absurd H (by simp)
  replace c1 := Decidable.not_not.mp c1
  rw [if_pos c1] at H
  by_cases c2 : ¬ impl_Uncross.inn l0 y0 y1
  · rw [if_neg c2] at H
    exact absurd H (by simp)
  replace c2 := Decidable.not_not.mp c2
  rw [if_pos c2] at H
  replace H := Option.bind_eq_some_iff.mp H
  obtain ⟨o, E40, H⟩ := H
  have E4 := Aside0.mk E40
  clear E40
  obtain ⟨n, hn⟩ : ∃ q_, q_ = mn (rd (rd_L1 l0 x0) x1) (rd (rd_L1 l0 y0) y1) := ⟨_, rfl⟩
  rw [← hn] at H
  have NN_ := Aside0.mk hn
  clear hn
  unfold impl_Uncross.e at H
  by_cases dq1 : ¬ impl_Uncross.inn o x0 x1
  · rw [if_neg dq1] at H
    exact absurd H (by simp)
  replace dq1 := Decidable.not_not.mp dq1
  rw [if_pos dq1] at H
  obtain ⟨q1, hq1⟩ : ∃ q_, q_ = impl_Uncross.o1 o x0 x1 n := ⟨_, rfl⟩
  rw [← hq1] at H
  have Nq1 := Aside0.mk hq1
  have Dq1 := Aside0.mk dq1
  clear hq1 dq1
  by_cases dq2 : ¬ impl_Uncross.inn q1 y0 y1
  · rw [if_neg dq2] at H
    exact absurd H (by simp)
  replace dq2 := Decidable.not_not.mp dq2
  rw [if_pos dq2] at H
  obtain ⟨q2, hq2⟩ : ∃ q_, q_ = impl_Uncross.o1 q1 y0 y1 n := ⟨_, rfl⟩
  rw [← hq2] at H
  have Nq2 := Aside0.mk hq2
  have Dq2 := Aside0.mk dq2
  clear hq2 dq2
  by_cases dq3 : ¬ impl_Uncross.inn q2 x0 y1
  · rw [if_neg dq3] at H
    exact absurd H (by simp)
  replace dq3 := Decidable.not_not.mp dq3
  rw [if_pos dq3] at H
  obtain ⟨q3, hq3⟩ : ∃ q_, q_ = impl_Uncross.o2 q2 x0 y1 n := ⟨_, rfl⟩
  rw [← hq3] at H
  have Nq3 := Aside0.mk hq3
  have Dq3 := Aside0.mk dq3
  clear hq3 dq3
  by_cases dq4 : ¬ impl_Uncross.inn q3 y0 x1
  · rw [if_neg dq4] at H
    exact absurd H (by simp)
  replace dq4 := Decidable.not_not.mp dq4
  rw [if_pos dq4] at H
  obtain ⟨q4, hq4⟩ : ∃ q_, q_ = impl_Uncross.o2 q3 y0 x1 n := ⟨_, rfl⟩
  rw [← hq4] at H
  have Nq4 := Aside0.mk hq4
  have Dq4 := Aside0.mk dq4
  clear hq4 dq4
  have C1 := Aside0.mk c1
  have C2 := Aside0.mk c2
  clear c1 c2
  have HEND := Aside0.mk H
  clear H
  go_enter Try.func31, Try.ntmps31
  go_wp2_with (first | (go_at_call 47; (with_reducible refine (impl_isPlan.calls k _ _ l0 true _ ?side1 ?side2 E1.out).mono ?_); (case side1 => repeat (first | exact (Kd.C_below HR0.out HB.out) | (with_reducible refine Kd.C_alloc ?_ _) | (with_reducible refine Kd.C_drewN ?_ _) | (with_reducible refine Kd.C_drew ?_))); (case side2 => exact HC0.out); rintro e wp_ ⟨rfl, hb⟩; have n_ := Aside0.mk (below_step (by repeat (first | (with_reducible first | exact HB.out | apply below_alloc | apply pw_below_drewN | apply below_drew1) | exact HB.out)) hb); clear HB; have HB := n_; clear n_; clear hb) | (go_at_call 50; (with_reducible refine (impl_crossing.calls k _ _ l0 x0 x1 y0 y1 true _ ?side1 ?side2 E2.out).mono ?_); (case side1 => repeat (first | exact (Kd.C_below HR0.out HB.out) | (with_reducible refine Kd.C_alloc ?_ _) | (with_reducible refine Kd.C_drewN ?_ _) | (with_reducible refine Kd.C_drew ?_))); (case side2 => exact HC0.out); rintro e w1 ⟨rfl, hb⟩; have n_ := Aside0.mk (below_step (by repeat (first | (with_reducible first | exact HB.out | apply below_alloc | apply pw_below_drewN | apply below_drew1) | exact HB.out)) hb); clear HB; have HB := n_; clear n_; clear hb) | (go_at_call 61; (with_reducible refine (impl_mapped.calls k _ _ l0 0 o _ ?side1 ?side2 E4.out).mono ?_); (case side1 => repeat (first | exact (Kd.C_below HR0.out HB.out) | (with_reducible refine Kd.C_alloc ?_ _) | (with_reducible refine Kd.C_drewN ?_ _) | (with_reducible refine Kd.C_drew ?_))); (case side2 => exact HC0.out); rintro e w2 ⟨vo, rfl, hS, hb⟩; obtain ⟨g, cap, ev, _⟩ := Kd.S_form hS (by have := Dq1.out.1; have := Dq1.out.2.1; omega); subst ev; have hl_ := (show Below w.heap.size w ((w1.alloc (.cells #[.int .i64 x0, .int .i64 x1] 59)).alloc (.cells #[.int .i64 y0, .int .i64 y1] 59)) from by repeat (first | (with_reducible first | exact HB.out | apply below_alloc | apply pw_below_drewN | apply below_drew1) | exact HB.out)); have HCW := Aside0.mk hl_.size; have BX0 : ((w1.alloc (.cells #[.int .i64 x0, .int .i64 x1] 59)).alloc (.cells #[.int .i64 y0, .int .i64 y1] 59)).heap[w1.heap.size]? = some (.cells #[.int .i64 x0, .int .i64 x1] 59) := (Below.heap_alloc _ _ _ (by simp)).trans (heap_alloc_new w1 _); have BY0 : ((w1.alloc (.cells #[.int .i64 x0, .int .i64 x1] 59)).alloc (.cells #[.int .i64 y0, .int .i64 y1] 59)).heap[w1.heap.size + 1]? = some (.cells #[.int .i64 y0, .int .i64 y1] 59) := (by have h_ := heap_alloc_new (w1.alloc (.cells #[.int .i64 x0, .int .i64 x1] 59)) (.cells #[.int .i64 y0, .int .i64 y1] 59); rw [show (w1.alloc (.cells #[.int .i64 x0, .int .i64 x1] 59)).heap.size = w1.heap.size + 1 from by simp] at h_; exact h_); have HZ := Aside0.mk (show Kd.S (Kd.slice 3 (Kd.int .i64)) 34 w2 w.heap.size (fun k => w1.heap.size + 1 + 1 ≤ k) _ o from Kd.S_lower (Kd.S_mono (Kd.S_bound hS) (fun k hk => by have h_ := hk.2.1; simp at h_; omega)) hl_.size); have BX := Aside0.mk ((hb.block w1.heap.size (by simp; omega)).trans BX0); have BY := Aside0.mk ((hb.block (w1.heap.size + 1) (by simp)).trans BY0); have n_ := Aside0.mk (below_step (by repeat (first | (with_reducible first | exact HB.out | apply below_alloc | apply pw_below_drewN | apply below_drew1) | exact HB.out)) hb); clear HB; have HB := n_; clear n_; clear hS hb hl_ BX0 BY0))
  obtain ⟨gx, hgx⟩ : ∃ q_, q_ = w1.heap.size := ⟨_, rfl⟩
  obtain ⟨gy, hgy⟩ : ∃ q_, q_ = w1.heap.size + 1 := ⟨_, rfl⟩
  obtain ⟨wcs, hwcs⟩ : ∃ q_, q_ = w1.heap.size + 1 + 1 := ⟨_, rfl⟩
  have LX := Aside0.mk (show gx < wcs by omega)
  have LY := Aside0.mk (show gy < wcs by omega)
  have HCW2 := Aside0.mk (show w.heap.size ≤ wcs by have h_ := HCW.out; simp at h_; omega)
  clear HCW
  have HCW := HCW2
  clear HCW2
  rw [← hgx] at BX
  rw [← hgy] at BY
  rw [← hwcs] at HZ
  rw [← hgy, ← hgx]
  clear hgx hgy hwcs
  have hbx0 : w2.cell? ⟨gx, 0, none⟩ = some (.int .i64 x0) := (blk_cell BX.out 0).trans rfl
  have hbx1 : w2.cell? ⟨gx, 1, none⟩ = some (.int .i64 x1) := (blk_cell BX.out 1).trans rfl
  have hby0 : w2.cell? ⟨gy, 0, none⟩ = some (.int .i64 y0) := (blk_cell BY.out 0).trans rfl
  have hby1 : w2.cell? ⟨gy, 1, none⟩ = some (.int .i64 y1) := (blk_cell BY.out 1).trans rfl
  obtain ⟨ad3, B3, d3, e3, hr3, _, hc3⟩ := at_L1 (Kd.C_below HR0.out HB.out) x0 C1.out.1 C1.out.2.1
  cases e3
  obtain ⟨ad4, e4, hr4⟩ := Kd.at_int hc3 x1 C1.out.2.2.1 C1.out.2.2.2
  cases e4
  obtain ⟨ad5, B5, d5, e5, hr5, _, hc5⟩ := at_L1 (Kd.C_below HR0.out HB.out) y0 C2.out.1 C2.out.2.1
  cases e5
  obtain ⟨ad6, e6, hr6⟩ := Kd.at_int hc5 y1 C2.out.2.2.1 C2.out.2.2.2
  cases e6
  clear hc3 hc5
  have px0 := eq_true C1.out.1
  have px1 := eq_true C1.out.2.1
  have px2 := eq_true C1.out.2.2.1
  have px3 := eq_true C1.out.2.2.2
  have py0 := eq_true C2.out.1
  have py1 := eq_true C2.out.2.1
  have py2 := eq_true C2.out.2.2.1
  have py3 := eq_true C2.out.2.2.2
  go_quiet (fail)
  rw [show (if rd (rd_L1 l0 y0) y1 < rd (rd_L1 l0 x0) x1 then rd (rd_L1 l0 y0) y1 else rd (rd_L1 l0 x0) x1) = n from NN_.out.symm]
  obtain ⟨w3, hw3⟩ : ∃ q_, q_ = w2.drewN nq := ⟨_, rfl⟩
  have n1_ := Aside0.mk (show Kd.S (Kd.slice 3 (Kd.int .i64)) 34 w3 w.heap.size (fun k => wcs ≤ k) (.slice (some ⟨g, 0, none⟩) o.length cap) o from by rw [hw3]; exact Kd.S_drewN HZ.out nq)
  have n2_ := Aside0.mk (show w3.heap[gx]? = some (.cells #[.int .i64 x0, .int .i64 x1] 59) from by rw [hw3]; exact BX.out)
  have n3_ := Aside0.mk (show w3.heap[gy]? = some (.cells #[.int .i64 y0, .int .i64 y1] 59) from by rw [hw3]; exact BY.out)
  have n4_ := Aside0.mk (show Below w.heap.size w w3 from by rw [hw3]; exact pw_below_drewN HB.out nq)
  rw [← hw3]
  clear HZ BX BY HB hw3
  have HZ := n1_
  have BX := n2_
  have BY := n3_
  have HB := n4_
  clear n1_ n2_ n3_ n4_ hbx0 hbx1 hby0 hby1 px0 px1 px2 px3 py0 py1 py2 py3
  go_wp2
  have hb1a : w3.cell? ⟨gx, 0, none⟩ = some (.int .i64 x0) := (blk_cell BX.out 0).trans rfl
  have hb1b : w3.cell? ⟨gx, 1, none⟩ = some (.int .i64 x1) := (blk_cell BX.out 1).trans rfl
  obtain ⟨oki, c, hcl, hM, hcell, hoki, hH⟩ := Kd.S_lend HZ.out [] x0 Dq1.out.1 (by have := Dq1.out.2.1; have := (Kd.S_reads' HZ.out).1; omega)
  obtain ⟨u, hu, hR⟩ := hM
  replace hR : Kd.R (Kd.int .i64) 3 w3 w.heap.size oki u (rd_L1 o x0) := hR
  obtain ⟨gr, cr, er, hbr, hlr, _⟩ := Kd.R_form hR (by have := Dq1.out.2.2.1; have := Dq1.out.2.2.2; omega)
  subst er
  subst hu
  have hcell0 := hcell 0 _ rfl
  rw [show x0.toNat * (Kd.slice 3 (Kd.int .i64)).sz + 0 = x0.toNat from by show x0.toNat * 1 + 0 = _; omega] at hcell0
  obtain ⟨hrx, hf0⟩ := Kd.R_celln 0 hR x1 Dq1.out.2.2.1 Dq1.out.2.2.2
  have HPR := Kd.R_putg (Kd.R_drew hR) x1 (wrap64 (rd (rd_L1 o x0) x1 - n))
  have HX1 : w3.cell? ⟨gr, x1.toNat, none⟩ = some (.int .i64 (rd (rd_L1 o x0) x1)) := hrx
  have HQO := Aside0.mk (show oki gr from hR.1 _ rfl)
  have HKI := Aside0.mk hoki
  have HHole := Aside0.mk (show Kd.H (Kd.slice 3 (Kd.int .i64)) 34 w3.drew w.heap.size _ _ o x0 oki _ from Kd.H_step hH (fun _ _ _ _ => rfl))
  have hi1a := eq_true Dq1.out.1
  have hi1b := eq_true (show x0 < (o.length : Int) by have := Dq1.out.2.1; have := (Kd.S_reads' HZ.out).1; omega)
  have hi1c := eq_true Dq1.out.2.2.1
  have hi1d := eq_true Dq1.out.2.2.2
  clear hcell hcl hR hH hoki hbr hlr hrx
  obtain ⟨row, hrow⟩ : ∃ q_, q_ = rd_L1 o x0 := ⟨_, rfl⟩
  rw [← hrow] at HX1 hcell0 HPR HHole hi1d
  have Nrow := Aside0.mk hrow
  clear hrow
  go_still_tail 11, (by kernel_rfl)
  rw [show ({ heap := w3.heap, tape := w3.tape, drawn := w3.drawn + 1, os := w3.os, output := w3.output } : World) = w3.drew from rfl]
  (try simp only [i64_w])
  go_wp2_with (first | ((with_reducible refine gate_store (t := 3) (p := 53) rfl ?_); refine store_event (t := 3) (p := 53) (v := ?vo_1) (w1 := (w3.drew.setCell ⟨gr, x1.toNat, none⟩ (.int .i64 (wrap64 (rd row x1 - n))))) ?hg ?ho ?hn ?hr ?_; (case ho => rfl); (case hg => rfl); (case hn => rfl); (case hr => first | (go_simp; done) | (go_simp; rfl)); intro w4 hw; have hg : w3.drew.grownBy w4 (some gr) := (by rw [hw]; exact HPR.2); have hp_ : Kd.S (Kd.slice 3 (Kd.int .i64)) 34 w4 w.heap.size (fun k => wcs ≤ k) (.slice (some ⟨g, 0, none⟩) o.length cap) q1 := (by rw [Nq1.out]; unfold impl_Uncross.o1 impl_Uncross.pt; rw [← Nrow.out]; exact impl_Uncross.row_step rfl HKI.out HHole.out rfl HQO.out (by rw [hw]; exact HPR.1) hg); clear HPR; have n1_ := Aside0.mk ((hg.block gx (blk_lt BX.out) (by intro e_; have h1_ := (HKI.out _ HQO.out).1; have h2_ := LX.out; injection e_ with e_; omega)).trans BX.out); have n2_ := Aside0.mk ((hg.block gy (blk_lt BY.out) (by intro e_; have h1_ := (HKI.out _ HQO.out).1; have h2_ := LY.out; injection e_ with e_; omega)).trans BY.out); have n3_ := Aside0.mk (Below.grown (below_drew1 HB.out) hg HB.out.size (fun k e_ => by cases e_; have h1_ := (HKI.out _ HQO.out).1; have h2_ := HCW.out; omega)); have n4_ := Aside0.mk hp_; clear HZ BX BY HB HHole; have BX := n1_; have BY := n2_; have HB := n3_; have HZ := n4_; clear n1_ n2_ n3_ n4_ hg hw hp_))
  clear hb1a hb1b hcell0 hf0 HX1 HQO HKI Nrow hi1a hi1b hi1c hi1d
  have hb2a : w4.cell? ⟨gy, 0, none⟩ = some (.int .i64 y0) := (blk_cell BY.out 0).trans rfl
  have hb2b : w4.cell? ⟨gy, 1, none⟩ = some (.int .i64 y1) := (blk_cell BY.out 1).trans rfl
  obtain ⟨oki, c, hcl, hM, hcell, hoki, hH⟩ := Kd.S_lend HZ.out [] y0 Dq2.out.1 (by have := Dq2.out.2.1; have := (Kd.S_reads' HZ.out).1; omega)
  obtain ⟨u, hu, hR⟩ := hM
  replace hR : Kd.R (Kd.int .i64) 3 w4 w.heap.size oki u (rd_L1 q1 y0) := hR
  obtain ⟨gr, cr, er, hbr, hlr, _⟩ := Kd.R_form hR (by have := Dq2.out.2.2.1; have := Dq2.out.2.2.2; omega)
  subst er
  subst hu
  have hcell0 := hcell 0 _ rfl
  rw [show y0.toNat * (Kd.slice 3 (Kd.int .i64)).sz + 0 = y0.toNat from by show y0.toNat * 1 + 0 = _; omega] at hcell0
  obtain ⟨hrx, hf0⟩ := Kd.R_celln 0 hR y1 Dq2.out.2.2.1 Dq2.out.2.2.2
  have HPR := Kd.R_putg (Kd.R_drew hR) y1 (wrap64 (rd (rd_L1 q1 y0) y1 - n))
  have HX1 : w4.cell? ⟨gr, y1.toNat, none⟩ = some (.int .i64 (rd (rd_L1 q1 y0) y1)) := hrx
  have HQO := Aside0.mk (show oki gr from hR.1 _ rfl)
  have HKI := Aside0.mk hoki
  have HHole := Aside0.mk (show Kd.H (Kd.slice 3 (Kd.int .i64)) 34 w4.drew w.heap.size _ _ q1 y0 oki _ from Kd.H_step hH (fun _ _ _ _ => rfl))
  have hi2a := eq_true Dq2.out.1
  have hi2b := eq_true (show y0 < (o.length : Int) by have := Dq2.out.2.1; have := (Kd.S_reads' HZ.out).1; omega)
  have hi2c := eq_true Dq2.out.2.2.1
  have hi2d := eq_true Dq2.out.2.2.2
  clear hcell hcl hR hH hoki hbr hlr hrx
  obtain ⟨row, hrow⟩ : ∃ q_, q_ = rd_L1 q1 y0 := ⟨_, rfl⟩
  rw [← hrow] at HX1 hcell0 HPR HHole hi2d
  have Nrow := Aside0.mk hrow
  clear hrow
  go_still_tail 11, (by kernel_rfl)
  rw [show ({ heap := w4.heap, tape := w4.tape, drawn := w4.drawn + 1, os := w4.os, output := w4.output } : World) = w4.drew from rfl]
  (try simp only [i64_w])
  go_wp2_with (first | ((with_reducible refine gate_store (t := 3) (p := 65) rfl ?_); refine store_event (t := 3) (p := 65) (v := ?vo_2) (w1 := (w4.drew.setCell ⟨gr, y1.toNat, none⟩ (.int .i64 (wrap64 (rd row y1 - n))))) ?hg ?ho ?hn ?hr ?_; (case ho => rfl); (case hg => rfl); (case hn => rfl); (case hr => first | (go_simp; done) | (go_simp; rfl)); intro w5 hw; have hg : w4.drew.grownBy w5 (some gr) := (by rw [hw]; exact HPR.2); have hp_ : Kd.S (Kd.slice 3 (Kd.int .i64)) 34 w5 w.heap.size (fun k => wcs ≤ k) (.slice (some ⟨g, 0, none⟩) o.length cap) q2 := (by rw [Nq2.out]; unfold impl_Uncross.o1 impl_Uncross.pt; rw [← Nrow.out]; exact impl_Uncross.row_step rfl HKI.out HHole.out rfl HQO.out (by rw [hw]; exact HPR.1) hg); clear HPR; have n1_ := Aside0.mk ((hg.block gx (blk_lt BX.out) (by intro e_; have h1_ := (HKI.out _ HQO.out).1; have h2_ := LX.out; injection e_ with e_; omega)).trans BX.out); have n2_ := Aside0.mk ((hg.block gy (blk_lt BY.out) (by intro e_; have h1_ := (HKI.out _ HQO.out).1; have h2_ := LY.out; injection e_ with e_; omega)).trans BY.out); have n3_ := Aside0.mk (Below.grown (below_drew1 HB.out) hg HB.out.size (fun k e_ => by cases e_; have h1_ := (HKI.out _ HQO.out).1; have h2_ := HCW.out; omega)); have n4_ := Aside0.mk hp_; clear HZ BX BY HB HHole; have BX := n1_; have BY := n2_; have HB := n3_; have HZ := n4_; clear n1_ n2_ n3_ n4_ hg hw hp_))
  clear hb2a hb2b hcell0 hf0 HX1 HQO HKI Nrow hi2a hi2b hi2c hi2d
  have hb3a : w5.cell? ⟨gx, 0, none⟩ = some (.int .i64 x0) := (blk_cell BX.out 0).trans rfl
  have hb3b : w5.cell? ⟨gy, 1, none⟩ = some (.int .i64 y1) := (blk_cell BY.out 1).trans rfl
  obtain ⟨oki, c, hcl, hM, hcell, hoki, hH⟩ := Kd.S_lend HZ.out [] x0 Dq3.out.1 (by have := Dq3.out.2.1; have := (Kd.S_reads' HZ.out).1; omega)
  obtain ⟨u, hu, hR⟩ := hM
  replace hR : Kd.R (Kd.int .i64) 3 w5 w.heap.size oki u (rd_L1 q2 x0) := hR
  obtain ⟨gr, cr, er, hbr, hlr, _⟩ := Kd.R_form hR (by have := Dq3.out.2.2.1; have := Dq3.out.2.2.2; omega)
  subst er
  subst hu
  have hcell0 := hcell 0 _ rfl
  rw [show x0.toNat * (Kd.slice 3 (Kd.int .i64)).sz + 0 = x0.toNat from by show x0.toNat * 1 + 0 = _; omega] at hcell0
  obtain ⟨hrx, hf0⟩ := Kd.R_celln 0 hR y1 Dq3.out.2.2.1 Dq3.out.2.2.2
  have HPR := Kd.R_putg (Kd.R_drew hR) y1 (wrap64 (rd (rd_L1 q2 x0) y1 + n))
  have HX1 : w5.cell? ⟨gr, y1.toNat, none⟩ = some (.int .i64 (rd (rd_L1 q2 x0) y1)) := hrx
  have HQO := Aside0.mk (show oki gr from hR.1 _ rfl)
  have HKI := Aside0.mk hoki
  have HHole := Aside0.mk (show Kd.H (Kd.slice 3 (Kd.int .i64)) 34 w5.drew w.heap.size _ _ q2 x0 oki _ from Kd.H_step hH (fun _ _ _ _ => rfl))
  have hi3a := eq_true Dq3.out.1
  have hi3b := eq_true (show x0 < (o.length : Int) by have := Dq3.out.2.1; have := (Kd.S_reads' HZ.out).1; omega)
  have hi3c := eq_true Dq3.out.2.2.1
  have hi3d := eq_true Dq3.out.2.2.2
  clear hcell hcl hR hH hoki hbr hlr hrx
  obtain ⟨row, hrow⟩ : ∃ q_, q_ = rd_L1 q2 x0 := ⟨_, rfl⟩
  rw [← hrow] at HX1 hcell0 HPR HHole hi3d
  have Nrow := Aside0.mk hrow
  clear hrow
  go_still_tail 11, (by kernel_rfl)
  rw [show ({ heap := w5.heap, tape := w5.tape, drawn := w5.drawn + 1, os := w5.os, output := w5.output } : World) = w5.drew from rfl]
  (try simp only [i64_w])
  go_wp2_with (first | ((with_reducible refine gate_store (t := 3) (p := 77) rfl ?_); refine store_event (t := 3) (p := 77) (v := ?vo_3) (w1 := (w5.drew.setCell ⟨gr, y1.toNat, none⟩ (.int .i64 (wrap64 (rd row y1 + n))))) ?hg ?ho ?hn ?hr ?_; (case ho => rfl); (case hg => rfl); (case hn => rfl); (case hr => first | (go_simp; done) | (go_simp; rfl)); intro w6 hw; have hg : w5.drew.grownBy w6 (some gr) := (by rw [hw]; exact HPR.2); have hp_ : Kd.S (Kd.slice 3 (Kd.int .i64)) 34 w6 w.heap.size (fun k => wcs ≤ k) (.slice (some ⟨g, 0, none⟩) o.length cap) q3 := (by rw [Nq3.out]; unfold impl_Uncross.o2 impl_Uncross.pt; rw [← Nrow.out]; exact impl_Uncross.row_step rfl HKI.out HHole.out rfl HQO.out (by rw [hw]; exact HPR.1) hg); clear HPR; have n1_ := Aside0.mk ((hg.block gx (blk_lt BX.out) (by intro e_; have h1_ := (HKI.out _ HQO.out).1; have h2_ := LX.out; injection e_ with e_; omega)).trans BX.out); have n2_ := Aside0.mk ((hg.block gy (blk_lt BY.out) (by intro e_; have h1_ := (HKI.out _ HQO.out).1; have h2_ := LY.out; injection e_ with e_; omega)).trans BY.out); have n3_ := Aside0.mk (Below.grown (below_drew1 HB.out) hg HB.out.size (fun k e_ => by cases e_; have h1_ := (HKI.out _ HQO.out).1; have h2_ := HCW.out; omega)); have n4_ := Aside0.mk hp_; clear HZ BX BY HB HHole; have BX := n1_; have BY := n2_; have HB := n3_; have HZ := n4_; clear n1_ n2_ n3_ n4_ hg hw hp_))
  clear hb3a hb3b hcell0 hf0 HX1 HQO HKI Nrow hi3a hi3b hi3c hi3d
  have hb4a : w6.cell? ⟨gy, 0, none⟩ = some (.int .i64 y0) := (blk_cell BY.out 0).trans rfl
  have hb4b : w6.cell? ⟨gx, 1, none⟩ = some (.int .i64 x1) := (blk_cell BX.out 1).trans rfl
  obtain ⟨oki, c, hcl, hM, hcell, hoki, hH⟩ := Kd.S_lend HZ.out [] y0 Dq4.out.1 (by have := Dq4.out.2.1; have := (Kd.S_reads' HZ.out).1; omega)
  obtain ⟨u, hu, hR⟩ := hM
  replace hR : Kd.R (Kd.int .i64) 3 w6 w.heap.size oki u (rd_L1 q3 y0) := hR
  obtain ⟨gr, cr, er, hbr, hlr, _⟩ := Kd.R_form hR (by have := Dq4.out.2.2.1; have := Dq4.out.2.2.2; omega)
  subst er
  subst hu
  have hcell0 := hcell 0 _ rfl
  rw [show y0.toNat * (Kd.slice 3 (Kd.int .i64)).sz + 0 = y0.toNat from by show y0.toNat * 1 + 0 = _; omega] at hcell0
  obtain ⟨hrx, hf0⟩ := Kd.R_celln 0 hR x1 Dq4.out.2.2.1 Dq4.out.2.2.2
  have HPR := Kd.R_putg (Kd.R_drew hR) x1 (wrap64 (rd (rd_L1 q3 y0) x1 + n))
  have HX1 : w6.cell? ⟨gr, x1.toNat, none⟩ = some (.int .i64 (rd (rd_L1 q3 y0) x1)) := hrx
  have HQO := Aside0.mk (show oki gr from hR.1 _ rfl)
  have HKI := Aside0.mk hoki
  have HHole := Aside0.mk (show Kd.H (Kd.slice 3 (Kd.int .i64)) 34 w6.drew w.heap.size _ _ q3 y0 oki _ from Kd.H_step hH (fun _ _ _ _ => rfl))
  have hi4a := eq_true Dq4.out.1
  have hi4b := eq_true (show y0 < (o.length : Int) by have := Dq4.out.2.1; have := (Kd.S_reads' HZ.out).1; omega)
  have hi4c := eq_true Dq4.out.2.2.1
  have hi4d := eq_true Dq4.out.2.2.2
  clear hcell hcl hR hH hoki hbr hlr hrx
  obtain ⟨row, hrow⟩ : ∃ q_, q_ = rd_L1 q3 y0 := ⟨_, rfl⟩
  rw [← hrow] at HX1 hcell0 HPR HHole hi4d
  have Nrow := Aside0.mk hrow
  clear hrow
  go_still_tail 11, (by kernel_rfl)
  rw [show ({ heap := w6.heap, tape := w6.tape, drawn := w6.drawn + 1, os := w6.os, output := w6.output } : World) = w6.drew from rfl]
  (try simp only [i64_w])
  go_wp2_with (first | ((with_reducible refine gate_store (t := 3) (p := 89) rfl ?_); refine store_event (t := 3) (p := 89) (v := ?vo_4) (w1 := (w6.drew.setCell ⟨gr, x1.toNat, none⟩ (.int .i64 (wrap64 (rd row x1 + n))))) ?hg ?ho ?hn ?hr ?_; (case ho => rfl); (case hg => rfl); (case hn => rfl); (case hr => first | (go_simp; done) | (go_simp; rfl)); intro w7 hw; have hg : w6.drew.grownBy w7 (some gr) := (by rw [hw]; exact HPR.2); have hp_ : Kd.S (Kd.slice 3 (Kd.int .i64)) 34 w7 w.heap.size (fun k => wcs ≤ k) (.slice (some ⟨g, 0, none⟩) o.length cap) q4 := (by rw [Nq4.out]; unfold impl_Uncross.o2 impl_Uncross.pt; rw [← Nrow.out]; exact impl_Uncross.row_step rfl HKI.out HHole.out rfl HQO.out (by rw [hw]; exact HPR.1) hg); clear HPR; have n1_ := Aside0.mk ((hg.block gx (blk_lt BX.out) (by intro e_; have h1_ := (HKI.out _ HQO.out).1; have h2_ := LX.out; injection e_ with e_; omega)).trans BX.out); have n2_ := Aside0.mk ((hg.block gy (blk_lt BY.out) (by intro e_; have h1_ := (HKI.out _ HQO.out).1; have h2_ := LY.out; injection e_ with e_; omega)).trans BY.out); have n3_ := Aside0.mk (Below.grown (below_drew1 HB.out) hg HB.out.size (fun k e_ => by cases e_; have h1_ := (HKI.out _ HQO.out).1; have h2_ := HCW.out; omega)); have n4_ := Aside0.mk hp_; clear HZ BX BY HB HHole; have BX := n1_; have BY := n2_; have HB := n3_; have HZ := n4_; clear n1_ n2_ n3_ n4_ hg hw hp_))
  clear hb4a hb4b hcell0 hf0 HX1 HQO HKI Nrow hi4a hi4b hi4c hi4d
  have hlz := (Kd.S_reads' HZ.out).1
  rw [hlz] at HZ
  simp only [hlz]
  clear hlz
  have H := HEND.out
  clear HEND
  replace H := Option.bind_eq_some_iff.mp H
  obtain ⟨gb, hgb, H⟩ := H
  have E5 := Aside0.mk hgb
  clear hgb
  by_cases cg : ¬ gb = true
  · rw [if_neg cg] at H
    replace cg := Bool.eq_false_iff.mpr cg
    subst cg
    simp only [Option.some.injEq, Prod.mk.injEq] at H
    obtain ⟨rfl, rfl, rfl⟩ := H
    go_wp2_with (first | (go_at_call 47; (with_reducible refine (impl_isPlan.calls k _ _ q4 false _ ?side1 ?side2 E5.out).mono ?_); (case side1 => repeat (first | exact (Kd.S_reads' HZ.out).2.2 | (with_reducible refine Kd.C_alloc ?_ _) | (with_reducible refine Kd.C_drewN ?_ _) | (with_reducible refine Kd.C_drew ?_))); (case side2 => exact (Kd.S_reads' HZ.out).2.1); rintro e wp_ ⟨rfl, hb⟩; have n0_ := Aside0.mk (Kd.S_below (by (with_reducible repeat (first | apply Kd.S_alloc | apply Kd.S_drewN | apply Kd.S_drew)); exact HZ.out) hb); clear HZ; have HZ := n0_; clear n0_; have n_ := Aside0.mk (below_step (by repeat (first | (with_reducible first | exact HB.out | apply below_alloc | apply pw_below_drewN | apply below_drew1) | exact HB.out)) hb); clear HB; have HB := n_; clear n_; clear hb))
    exact bodyPost_ret (v := .tuple #[.slice none 0 0, .int .i64 0, .bool false]) (by simp [results, Try.results31, go_sem]) rfl ⟨_, rfl, Kd.S_nil _ _ _ _ _, by repeat (first | (with_reducible first | exact HB.out | apply below_alloc | apply pw_below_drewN | apply below_drew1) | exact HB.out)⟩
  replace cg := Decidable.not_not.mp cg
  rw [if_pos cg] at H
  subst cg
  replace H := Option.bind_eq_some_iff.mp H
  obtain ⟨c, hc, H⟩ := H
  replace H := Option.bind_eq_some_iff.mp H
  obtain ⟨d, hd, H⟩ := H
  have E6 := Aside0.mk hc
  have E7 := Aside0.mk hd
  simp only [Option.some.injEq, Prod.mk.injEq] at H
  obtain ⟨rfl, rfl, rfl⟩ := H
  clear hc hd
  go_wp2_with (first | (go_at_call 47; (with_reducible refine (impl_isPlan.calls k _ _ q4 true _ ?side1 ?side2 E5.out).mono ?_); (case side1 => repeat (first | exact (Kd.S_reads' HZ.out).2.2 | (with_reducible refine Kd.C_alloc ?_ _) | (with_reducible refine Kd.C_drewN ?_ _) | (with_reducible refine Kd.C_drew ?_))); (case side2 => exact (Kd.S_reads' HZ.out).2.1); rintro e wp_ ⟨rfl, hb⟩; have n0_ := Aside0.mk (Kd.S_below (by (with_reducible repeat (first | apply Kd.S_alloc | apply Kd.S_drewN | apply Kd.S_drew)); exact HZ.out) hb); clear HZ; have HZ := n0_; clear n0_; have n_ := Aside0.mk (below_step (by repeat (first | (with_reducible first | exact HB.out | apply below_alloc | apply pw_below_drewN | apply below_drew1) | exact HB.out)) hb); clear HB; have HB := n_; clear n_; clear hb) | (go_at_call 63; (with_reducible refine (impl_cost.calls k _ _ l0 c _ ?side1 ?side2 E6.out).mono ?_); (case side1 => repeat (first | exact (Kd.C_below HR0.out HB.out) | (with_reducible refine Kd.C_alloc ?_ _) | (with_reducible refine Kd.C_drewN ?_ _) | (with_reducible refine Kd.C_drew ?_))); (case side2 => exact HC0.out); rintro e wq_ ⟨rfl, hb⟩; have n0_ := Aside0.mk (Kd.S_below (by (with_reducible repeat (first | apply Kd.S_alloc | apply Kd.S_drewN | apply Kd.S_drew)); exact HZ.out) hb); clear HZ; have HZ := n0_; clear n0_; have n_ := Aside0.mk (below_step (by repeat (first | (with_reducible first | exact HB.out | apply below_alloc | apply pw_below_drewN | apply below_drew1) | exact HB.out)) hb); clear HB; have HB := n_; clear n_; clear hb) | (go_at_call 63; (with_reducible refine (impl_cost.calls k _ _ q4 d _ ?side1 ?side2 E7.out).mono ?_); (case side1 => repeat (first | exact (Kd.S_reads' HZ.out).2.2 | (with_reducible refine Kd.C_alloc ?_ _) | (with_reducible refine Kd.C_drewN ?_ _) | (with_reducible refine Kd.C_drew ?_))); (case side2 => exact (Kd.S_reads' HZ.out).2.1); rintro e wq_ ⟨rfl, hb⟩; have n0_ := Aside0.mk (Kd.S_below (by (with_reducible repeat (first | apply Kd.S_alloc | apply Kd.S_drewN | apply Kd.S_drew)); exact HZ.out) hb); clear HZ; have HZ := n0_; clear n0_; have n_ := Aside0.mk (below_step (by repeat (first | (with_reducible first | exact HB.out | apply below_alloc | apply pw_below_drewN | apply below_drew1) | exact HB.out)) hb); clear HB; have HB := n_; clear n_; clear hb))
  exact bodyPost_ret (v := .tuple #[.slice (some ⟨g, 0, none⟩) q4.length cap, .int .i64 (wrap64 (c - d)), .bool true]) (by simp [results, Try.results31, go_sem]) rfl ⟨_, rfl, Kd.S_mono (by (with_reducible repeat (first | apply Kd.S_alloc | apply Kd.S_drewN | apply Kd.S_drew)); exact HZ.out) (fun _ _ => trivial), by repeat (first | (with_reducible first | exact HB.out | apply below_alloc | apply pw_below_drewN | apply below_drew1) | exact HB.out)⟩

-- NOT PRINTED: function 7 (laws_FnExactUncross)

end Go.Proofs.Ytbnlfhdjcpegkaa.PFnExactUncross
