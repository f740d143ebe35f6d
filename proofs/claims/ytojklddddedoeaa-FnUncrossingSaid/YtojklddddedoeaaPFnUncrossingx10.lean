/- For each Go function that the law uses, a Lean function with the same answers and a proof that its call comes to them; the conditions stand in each theorem. (Written by a program of this session, turned from the print of the kit.) -/
import Derived.Test.YtojklddddedoeaaPFnUncrossingx0
import Derived.Test.YtojklddddedoeaaPFnUncrossingx3
import Derived.Test.YtojklddddedoeaaPFnUncrossingx7
import Derived.Test.YtojklddddedoeaaPFnUncrossingx8
import Derived.Test.YtojklddddedoeaaPFnUncrossingx9
namespace Go.Proofs.Ytojklddddedoeaa.PFnUncrossing
open Go.RowKit Go.Proofs.YtojklddddedoeaaW.PrintWords Go.Proofs.YtojklddddedoeaaW.PrintLast Go.Proofs.YtojklddddedoeaaW.PrintMore
attribute [local go_sem] max2_int min2_int max_two min_two max_three min_three max_four min_four   -- for this text's walks alone
set_option linter.unusedVariables false
set_option linter.unusedSimpArgs false

/-! ### spec_Uncross: function 25 -/
/-- A table in which one number is another one. -/
def spec_Uncross.pt (m : List (List Int)) (i j v : Int) : List (List Int) := m.set i.toNat ((rd_L2 m i).set j.toNat v)
def spec_Uncross.o1 (o : List (List Int)) (x0 x1 n : Int) : List (List Int) := spec_Uncross.pt o x0 x1 (wrap64 (rd (rd_L2 o x0) x1 - n))
def spec_Uncross.o2 (o : List (List Int)) (x0 x1 n : Int) : List (List Int) := spec_Uncross.pt o x0 x1 (wrap64 (rd (rd_L2 o x0) x1 + n))
/-- The indices lie in a table. -/
def spec_Uncross.inn (m : List (List Int)) (i j : Int) : Prop := 0 ≤ i ∧ i < (m.length : Int) ∧ 0 ≤ j ∧ j < ((rd_L2 m i).length : Int)
instance (m : List (List Int)) (i j : Int) : Decidable (spec_Uncross.inn m i j) := inferInstanceAs (Decidable (_ ∧ _))
def spec_Uncross.e (k : Nat) (l0 : List (List Int)) (x0 x1 y0 y1 : Int) : Option (List (List Int) × Int × Bool) := if spec_Uncross.inn l0 x0 x1 then (if spec_Uncross.inn l0 y0 y1 then ((spec_l1Least.f (rd (rd_L2 l0 x0) x1) (rd (rd_L2 l0 y0) y1)).bind fun n => (spec_plOwn.f k l0).bind fun o => if spec_Uncross.inn o x0 x1 then (if spec_Uncross.inn (spec_Uncross.o1 o x0 x1 n) y0 y1 then (if spec_Uncross.inn (spec_Uncross.o1 (spec_Uncross.o1 o x0 x1 n) y0 y1 n) x0 y1 then (if spec_Uncross.inn (spec_Uncross.o2 (spec_Uncross.o1 (spec_Uncross.o1 o x0 x1 n) y0 y1 n) x0 y1 n) y0 x1 then ((spec_plGood.f k (spec_Uncross.o2 (spec_Uncross.o2 (spec_Uncross.o1 (spec_Uncross.o1 o x0 x1 n) y0 y1 n) x0 y1 n) y0 x1 n)).bind fun g => if g = true then ((spec_plCost.f k l0).bind fun c => (spec_plCost.f k (spec_Uncross.o2 (spec_Uncross.o2 (spec_Uncross.o1 (spec_Uncross.o1 o x0 x1 n) y0 y1 n) x0 y1 n) y0 x1 n)).bind fun d => some ((spec_Uncross.o2 (spec_Uncross.o2 (spec_Uncross.o1 (spec_Uncross.o1 o x0 x1 n) y0 y1 n) x0 y1 n) y0 x1 n), wrap64 (c - d), true)) else some ([], 0, false)) else none) else none) else none) else none) else none) else none
def spec_Uncross.f (k : Nat) (l0 : List (List Int)) : Option (List (List Int) × Int × Bool) := (spec_plGood.f k l0).bind fun p => if p = true then ((spec_plCrossing.f k l0).bind fun L => if L.2 = true then (if L.1.length = 2 then spec_Uncross.e k l0 (rd_T45 L.1 0).f0 (rd_T45 L.1 0).f1 (rd_T45 L.1 1).f0 (rd_T45 L.1 1).f1 else none) else some ([], 0, false)) else some ([], 0, false)
theorem spec_Uncross.mono : ∀ a0 k, LeO (spec_Uncross.f k a0) (spec_Uncross.f (k + 1) a0) := by
 intro a0 k
 unfold spec_Uncross.f spec_Uncross.e
 exact LeO.bind (spec_plGood.mono _ _) (fun _ => LeO.ite (LeO.bind (spec_plCrossing.mono _ _) (fun _ => LeO.ite (LeO.ite (LeO.ite (LeO.ite (LeO.bind (LeO.refl _) (fun _ => LeO.bind (spec_plOwn.mono _ _) (fun _ => LeO.ite (LeO.ite (LeO.ite (LeO.ite (LeO.bind (spec_plGood.mono _ _) (fun _ => LeO.ite (LeO.bind (spec_plCost.mono _ _) (fun _ => LeO.bind (spec_plCost.mono _ _) (fun _ => LeO.refl _))) (LeO.refl _))) (LeO.none _)) (LeO.none _)) (LeO.none _)) (LeO.none _)))) (LeO.none _)) (LeO.none _)) (LeO.none _)) (LeO.refl _))) (LeO.refl _))

/-- One row of rows that are apart has been written. -/
theorem spec_Uncross.row_step {w w1 : World} {base : Nat} {P0_ : Nat → Prop} {g n cap : Nat} {m : List (List Int)} {r : List Int} {i : Int} {oki : Nat → Prop} {c : List Value} {u : Value} {q : Nat}
  (hu : c = [u]) (hoki : ∀ k, oki k → P0_ k ∧ k ≠ g) (hH : Kd.H (Kd.slice 3 (Kd.int .i64)) 24 w base P0_ (.slice (some ⟨g, 0, none⟩) n cap) m i oki c)
  (hq : u.ownBlock = some q) (hqo : oki q) {ok1 : Nat → Prop} (hr : Kd.R (Kd.int .i64) 3 w1 base ok1 u r) (hk : w.grownBy w1 (some q)) :
  Kd.S (Kd.slice 3 (Kd.int .i64)) 24 w1 base P0_ (.slice (some ⟨g, 0, none⟩) n cap) (m.set i.toNat r) := by
 have h1 := Kd.H_step (w1 := w1) hH (fun k _ hn hlt => hk.block k hlt (fun he => hn (by cases he; exact hqo)))
 refine Kd.H_back (okp := fun k => some k = u.ownBlock) h1 ?_ (fun k hk => by rw [hq] at hk; cases hk; exact hqo)
 rw [hu]
 exact Kd.M_row (Kd.R_tight rfl hr)

set_option maxHeartbeats 8000000 in
set_option maxRecDepth 100000 in
theorem spec_Uncross.calls (k : Nat) (A0 : Option Addr) (c0 : Nat) (l0 : List (List Int)) (r1 : List (List Int)) (r2 : Int) (r3 : Bool) (w : World) (hr0 : Kd.C (Kd.slice 3 (Kd.int .i64)) w A0 l0.length l0) (hc0 : l0.length ≤ c0) (h : spec_Uncross.f k l0 = some (r1, r2, r3)) :
  Calls Try.prog 25 #[.slice A0 l0.length c0] w fun e w' => ∃ v0_ : Value, e = .returned (.tuple #[v0_, .int .i64 r2, .bool r3]) ∧ Kd.S (Kd.slice 3 (Kd.int .i64)) 24 w' w.heap.size (fun _ => True) v0_ r1 ∧ Below w.heap.size w w' := by
 have HR0 := Aside0.mk hr0
 have HC0 := Aside0.mk hc0
 have HB := Aside0.mk (Below.refl w.heap.size w)
 clear hr0 hc0
 have H := h
 clear h
 unfold spec_Uncross.f at H
 replace H := Option.bind_eq_some_iff.mp H
 obtain ⟨p, E10, H⟩ := H
 by_cases cp : ¬ p = true
 ·rw [if_neg cp] at H
  replace cp := Bool.eq_false_iff.mpr cp
  subst cp
  have E1 := Aside0.mk E10
  clear E10
  simp only [Option.some.injEq, Prod.mk.injEq] at H
  obtain ⟨rfl, rfl, rfl⟩ := H
  go_enter Try.func25, Try.ntmps25
  go_wp2_with (first | (go_at_call 93; (with_reducible refine (spec_plGood.calls k _ _ l0 false _ ?side1 ?side2 E1.out).mono ?_); (case side1 => repeat (first | exact (Kd.C_below HR0.out HB.out) | (with_reducible refine Kd.C_alloc ?_ _) | (with_reducible refine Kd.C_drewN ?_ _) | (with_reducible refine Kd.C_drew ?_))); (case side2 => exact HC0.out); rintro e wp_ ⟨rfl, ⟨nd, rfl⟩⟩))
  exact bodyPost_ret (v := .tuple #[.slice none 0 0, .int .i64 0, .bool false]) (by simp [results, Try.results25, go_sem]) rfl ⟨_, rfl, Kd.S_nil _ _ _ _ _, by repeat (first | (with_reducible first | exact HB.out | apply below_alloc | apply pw_below_drewN | apply below_drew1) | exact HB.out)⟩
 replace cp := Decidable.not_not.mp cp
 rw [if_pos cp] at H
 subst cp
 have E1 := Aside0.mk E10
 clear E10
 replace H := Option.bind_eq_some_iff.mp H
 obtain ⟨⟨L, b⟩, E20, H⟩ := H
 dsimp only at H
 by_cases cb : ¬ b = true
 ·rw [if_neg cb] at H
  replace cb := Bool.eq_false_iff.mpr cb
  subst cb
  have E2 := Aside0.mk E20
  clear E20
  simp only [Option.some.injEq, Prod.mk.injEq] at H
  obtain ⟨rfl, rfl, rfl⟩ := H
  go_enter Try.func25, Try.ntmps25
  go_wp2_with (first | (go_at_call 93; (with_reducible refine (spec_plGood.calls k _ _ l0 true _ ?side1 ?side2 E1.out).mono ?_); (case side1 => repeat (first | exact (Kd.C_below HR0.out HB.out) | (with_reducible refine Kd.C_alloc ?_ _) | (with_reducible refine Kd.C_drewN ?_ _) | (with_reducible refine Kd.C_drew ?_))); (case side2 => exact HC0.out); rintro e wp_ ⟨rfl, ⟨nd, rfl⟩⟩) | (go_at_call 97; (with_reducible refine (spec_plCrossing.calls k _ _ l0 L false _ ?side1 ?side2 E2.out).mono ?_); (case side1 => repeat (first | exact (Kd.C_below HR0.out HB.out) | (with_reducible refine Kd.C_alloc ?_ _) | (with_reducible refine Kd.C_drewN ?_ _) | (with_reducible refine Kd.C_drew ?_))); (case side2 => exact HC0.out); rintro e w1 ⟨vL, rfl, hL, hb⟩; have n_ := Aside0.mk (below_step (by repeat (first | (with_reducible first | exact HB.out | apply below_alloc | apply pw_below_drewN | apply below_drew1) | exact HB.out)) hb); clear HB; have HB := n_; clear n_; have HL := Aside0.mk hL; clear hL hb; obtain ⟨As, cs, es⟩ := Kd.R_slice HL.out; subst es))
  exact bodyPost_ret (v := .tuple #[.slice none 0 0, .int .i64 0, .bool false]) (by simp [results, Try.results25, go_sem]) rfl ⟨_, rfl, Kd.S_nil _ _ _ _ _, by repeat (first | (with_reducible first | exact HB.out | apply below_alloc | apply pw_below_drewN | apply below_drew1) | exact HB.out)⟩
 replace cb := Decidable.not_not.mp cb
 rw [if_pos cb] at H
 subst cb
 have E2 := Aside0.mk E20
 clear E20
 by_cases hL : ¬ L.length = 2
 ·rw [if_neg hL] at H
  exact absurd H (by simp)
 replace hL := Decidable.not_not.mp hL
 rw [if_pos hL] at H
 obtain ⟨x0, hx0⟩ : ∃ q_, q_ = (rd_T45 L 0).f0 := ⟨_, rfl⟩
 obtain ⟨x1, hx1⟩ : ∃ q_, q_ = (rd_T45 L 0).f1 := ⟨_, rfl⟩
 obtain ⟨y0, hy0⟩ : ∃ q_, q_ = (rd_T45 L 1).f0 := ⟨_, rfl⟩
 obtain ⟨y1, hy1⟩ : ∃ q_, q_ = (rd_T45 L 1).f1 := ⟨_, rfl⟩
 rw [← hx0, ← hx1, ← hy0, ← hy1] at H
 have NX0 := Aside0.mk hx0
 have NX1 := Aside0.mk hx1
 have NY0 := Aside0.mk hy0
 have NY1 := Aside0.mk hy1
 have HLL := Aside0.mk hL
 clear hx0 hx1 hy0 hy1 hL
 unfold spec_Uncross.e at H
 by_cases c1 : ¬ spec_Uncross.inn l0 x0 x1
 ·rw [if_neg c1] at H
  exact absurd H (by simp)
 replace c1 := Decidable.not_not.mp c1
 rw [if_pos c1] at H
 by_cases c2 : ¬ spec_Uncross.inn l0 y0 y1
 ·rw [if_neg c2] at H
  exact absurd H (by simp)
 replace c2 := Decidable.not_not.mp c2
 rw [if_pos c2] at H
 replace H := Option.bind_eq_some_iff.mp H
 obtain ⟨n, E30, H⟩ := H
 have E3 := Aside0.mk E30
 clear E30
 replace H := Option.bind_eq_some_iff.mp H
 obtain ⟨o, E40, H⟩ := H
 have E4 := Aside0.mk E40
 clear E40
 by_cases dq1 : ¬ spec_Uncross.inn o x0 x1
 ·rw [if_neg dq1] at H
  exact absurd H (by simp)
 replace dq1 := Decidable.not_not.mp dq1
 rw [if_pos dq1] at H
 obtain ⟨q1, hq1⟩ : ∃ q_, q_ = spec_Uncross.o1 o x0 x1 n := ⟨_, rfl⟩
 rw [← hq1] at H
 have Nq1 := Aside0.mk hq1
 have Dq1 := Aside0.mk dq1
 clear hq1 dq1
 by_cases dq2 : ¬ spec_Uncross.inn q1 y0 y1
 ·rw [if_neg dq2] at H
  exact absurd H (by simp)
 replace dq2 := Decidable.not_not.mp dq2
 rw [if_pos dq2] at H
 obtain ⟨q2, hq2⟩ : ∃ q_, q_ = spec_Uncross.o1 q1 y0 y1 n := ⟨_, rfl⟩
 rw [← hq2] at H
 have Nq2 := Aside0.mk hq2
 have Dq2 := Aside0.mk dq2
 clear hq2 dq2
 by_cases dq3 : ¬ spec_Uncross.inn q2 x0 y1
 ·rw [if_neg dq3] at H
  exact absurd H (by simp)
 replace dq3 := Decidable.not_not.mp dq3
 rw [if_pos dq3] at H
 obtain ⟨q3, hq3⟩ : ∃ q_, q_ = spec_Uncross.o2 q2 x0 y1 n := ⟨_, rfl⟩
 rw [← hq3] at H
 have Nq3 := Aside0.mk hq3
 have Dq3 := Aside0.mk dq3
 clear hq3 dq3
 by_cases dq4 : ¬ spec_Uncross.inn q3 y0 x1
 ·rw [if_neg dq4] at H
  exact absurd H (by simp)
 replace dq4 := Decidable.not_not.mp dq4
 rw [if_pos dq4] at H
 obtain ⟨q4, hq4⟩ : ∃ q_, q_ = spec_Uncross.o2 q3 y0 x1 n := ⟨_, rfl⟩
 rw [← hq4] at H
 have Nq4 := Aside0.mk hq4
 have Dq4 := Aside0.mk dq4
 clear hq4 dq4
 have C1 := Aside0.mk c1
 have C2 := Aside0.mk c2
 clear c1 c2
 have HEND := Aside0.mk H
 clear H
 go_enter Try.func25, Try.ntmps25
 go_wp2_with (first | (go_at_call 93; (with_reducible refine (spec_plGood.calls k _ _ l0 true _ ?side1 ?side2 E1.out).mono ?_); (case side1 => repeat (first | exact (Kd.C_below HR0.out HB.out) | (with_reducible refine Kd.C_alloc ?_ _) | (with_reducible refine Kd.C_drewN ?_ _) | (with_reducible refine Kd.C_drew ?_))); (case side2 => exact HC0.out); rintro e wp_ ⟨rfl, ⟨nd, rfl⟩⟩) | (go_at_call 97; (with_reducible refine (spec_plCrossing.calls k _ _ l0 L true _ ?side1 ?side2 E2.out).mono ?_); (case side1 => repeat (first | exact (Kd.C_below HR0.out HB.out) | (with_reducible refine Kd.C_alloc ?_ _) | (with_reducible refine Kd.C_drewN ?_ _) | (with_reducible refine Kd.C_drew ?_))); (case side2 => exact HC0.out); rintro e w1 ⟨vL, rfl, hL, hb⟩; have n_ := Aside0.mk (below_step (by repeat (first | (with_reducible first | exact HB.out | apply below_alloc | apply pw_below_drewN | apply below_drew1) | exact HB.out)) hb); clear HB; have HB := n_; clear n_; have HL := Aside0.mk hL; clear hL hb; obtain ⟨As, cs, es⟩ := Kd.R_slice HL.out; subst es))
 have hl0 : (0 : Int) < (L.length : Int) := by have := HLL.out; omega
 have hl1 : (1 : Int) < (L.length : Int) := by have := HLL.out; omega
 obtain ⟨ad1, e1, hxa, hxb⟩ := at_T45 (Kd.R_reads' HL.out).2.2 0 (by omega) hl0
 obtain ⟨ad2, e2, hya, hyb⟩ := at_T45 (Kd.R_reads' HL.out).2.2 1 (by omega) hl1
 cases e1
 cases e2
 rw [← NX0.out] at hxa
 rw [← NX1.out] at hxb
 rw [← NY0.out] at hya
 rw [← NY1.out] at hyb
 replace hl0 := eq_true hl0
 replace hl1 := eq_true hl1
 have hn0 := eq_true (show 0 < L.length by have := HLL.out; omega)
 have hn1 := eq_true (show 1 < L.length by have := HLL.out; omega)
 replace hxa : w1.cell? ad1 = some (.int .i64 x0) := by simpa [Addr.add] using hxa
 replace hxb : w1.cell? ⟨ad1.block, ad1.off + 1, none⟩ = some (.int .i64 x1) := by simpa [Addr.add] using hxb
 replace hya : w1.cell? ⟨ad1.block, ad1.off + 2, none⟩ = some (.int .i64 y0) := by simpa [Addr.add] using hya
 replace hyb : w1.cell? ⟨ad1.block, ad1.off + 2 + 1, none⟩ = some (.int .i64 y1) := by simpa [Addr.add] using hyb
 have hblt : ad1.block < w1.heap.size := World.block_lt_of_cell? w1 _ hxa
 go_cut [7, 8] (fun v7 v8 wc => ∃ gx gy : Nat, v7 = .pointer (some ⟨gx, 0, none⟩) ∧ v8 = .pointer (some ⟨gy, 0, none⟩) ∧ Aside0 (wc.heap[gx]? = some (.cells #[.int .i64 x0, .int .i64 x1] 45 (0, 0))) ∧ Aside0 (wc.heap[gy]? = some (.cells #[.int .i64 y0, .int .i64 y1] 45 (0, 0))) ∧ Aside0 (Below w.heap.size w wc))
 case first =>
  go_region_held3 (fun w' => w'.cell? ad1 = some (.int .i64 x0) ∧ w'.cell? ⟨ad1.block, ad1.off + 1, none⟩ = some (.int .i64 x1) ∧ w'.cell? ⟨ad1.block, ad1.off + 2, none⟩ = some (.int .i64 y0) ∧ w'.cell? ⟨ad1.block, ad1.off + 2 + 1, none⟩ = some (.int .i64 y1)) (first | exact ⟨hxa, hxb, hya, hyb⟩ | go_keep)
    (first
     | fail)
  ·go_wp2
   go_meet
   case rel => exact ⟨w1.heap.size, w1.heap.size + 1, rfl, rfl, ⟨(Below.heap_alloc _ _ _ (by simp)).trans (heap_alloc_new w1 _)⟩, ⟨by have h_ := heap_alloc_new (w1.alloc (.cells #[.int .i64 x0, .int .i64 x1] 45)) (.cells #[.int .i64 y0, .int .i64 y1] 45); rw [show (w1.alloc (.cells #[.int .i64 x0, .int .i64 x1] 45)).heap.size = w1.heap.size + 1 from by simp] at h_; exact h_⟩, ⟨by repeat (first | (with_reducible first | exact HB.out | apply below_alloc | apply pw_below_drewN | apply below_drew1) | exact HB.out)⟩⟩
  ·go_wp2
   go_meet
   case rel => exact ⟨w1.heap.size + 1, w1.heap.size, rfl, rfl, ⟨by have h_ := heap_alloc_new (w1.alloc (.cells #[.int .i64 y0, .int .i64 y1] 45)) (.cells #[.int .i64 x0, .int .i64 x1] 45); rw [show (w1.alloc (.cells #[.int .i64 y0, .int .i64 y1] 45)).heap.size = w1.heap.size + 1 from by simp] at h_; exact h_⟩, ⟨(Below.heap_alloc _ _ _ (by simp)).trans (heap_alloc_new w1 _)⟩, ⟨by repeat (first | (with_reducible first | exact HB.out | apply below_alloc | apply pw_below_drewN | apply below_drew1) | exact HB.out)⟩⟩
 case rest =>
  clear HB hxa hxb hya hyb hblt hl0 hl1 hn0 hn1
  obtain ⟨gx, gy, rfl, rfl, BX, BY, HB⟩ := hcut
  have HCW := Aside0.mk (show w.heap.size ≤ wc.heap.size from HB.out.size)
  have hbx0 : wc.cell? ⟨gx, 0, none⟩ = some (.int .i64 x0) := (blk_cell BX.out 0).trans rfl
  have hbx1 : wc.cell? ⟨gx, 1, none⟩ = some (.int .i64 x1) := (blk_cell BX.out 1).trans rfl
  have hby0 : wc.cell? ⟨gy, 0, none⟩ = some (.int .i64 y0) := (blk_cell BY.out 0).trans rfl
  have hby1 : wc.cell? ⟨gy, 1, none⟩ = some (.int .i64 y1) := (blk_cell BY.out 1).trans rfl
  obtain ⟨ad3, B3, d3, e3, hr3, _, hc3⟩ := at_L2 (Kd.C_below HR0.out HB.out) x0 C1.out.1 C1.out.2.1
  cases e3
  obtain ⟨ad4, e4, hr4⟩ := Kd.at_int hc3 x1 C1.out.2.2.1 C1.out.2.2.2
  cases e4
  obtain ⟨ad5, B5, d5, e5, hr5, _, hc5⟩ := at_L2 (Kd.C_below HR0.out HB.out) y0 C2.out.1 C2.out.2.1
  cases e5
  obtain ⟨ad6, e6, hr6⟩ := Kd.at_int hc5 y1 C2.out.2.2.1 C2.out.2.2.2
  cases e6
  clear hc3 hc5
  have px0 := eq_true C1.out.1
  have px1 := eq_true C1.out.2.1
  have px2 := eq_true C1.out.2.2.1
  have px3 := eq_true C1.out.2.2.2
  have py0 := eq_true C2.out.1
  have py1 := eq_true C2.out.2.1
  have py2 := eq_true C2.out.2.2.1
  have py3 := eq_true C2.out.2.2.2
  go_wp2
  go_quiet ((go_at_call 98; (with_reducible refine (spec_l1Least.calls (rd (rd_L2 l0 x0) x1) (rd (rd_L2 l0 y0) y1) n _ E3.out).mono ?_); rintro e w' ⟨rfl, ⟨nd, rfl⟩⟩; (try first | exact ⟨rfl, _, World.drewN_drewN _ _ _⟩ | exact ⟨rfl, _, Eq.trans (World.drewN_drewN _ _ _) (congrArg (World.drewN _) (Nat.add_assoc _ _ _))⟩)))
  go_wp2_with (first | (go_at_call 99; (with_reducible refine (spec_plOwn.calls k _ _ l0 o _ ?side1 ?side2 E4.out).mono ?_); (case side1 => repeat (first | exact (Kd.C_below HR0.out HB.out) | (with_reducible refine Kd.C_alloc ?_ _) | (with_reducible refine Kd.C_drewN ?_ _) | (with_reducible refine Kd.C_drew ?_))); (case side2 => exact HC0.out); rintro e w2 ⟨vo, rfl, hS, hb⟩; obtain ⟨g, cap, ev, _⟩ := Kd.S_form hS (by have := Dq1.out.1; have := Dq1.out.2.1; omega); subst ev; have HZ := Aside0.mk (show Kd.S (Kd.slice 3 (Kd.int .i64)) 24 w2 w.heap.size (fun k => wc.heap.size ≤ k) _ o from Kd.S_lower (Kd.S_mono (Kd.S_bound hS) (fun k hk => hk.2.1)) HB.out.size); have n1_ := Aside0.mk ((hb.block gx (blk_lt BX.out)).trans BX.out); have n2_ := Aside0.mk ((hb.block gy (blk_lt BY.out)).trans BY.out); have n3_ := Aside0.mk (blk_lt BX.out); have n4_ := Aside0.mk (blk_lt BY.out); clear BX BY; have BX := n1_; have BY := n2_; have LX := n3_; have LY := n4_; clear n1_ n2_ n3_ n4_; have n_ := Aside0.mk (below_step (by repeat (first | (with_reducible first | exact HB.out | apply below_alloc | apply pw_below_drewN | apply below_drew1) | exact HB.out)) hb); clear HB; have HB := n_; clear n_; clear hS hb))
  clear hbx0 hbx1 hby0 hby1 px0 px1 px2 px3 py0 py1 py2 py3
  have hb1a : w2.cell? ⟨gx, 0, none⟩ = some (.int .i64 x0) := (blk_cell BX.out 0).trans rfl
  have hb1b : w2.cell? ⟨gx, 1, none⟩ = some (.int .i64 x1) := (blk_cell BX.out 1).trans rfl
  obtain ⟨oki, c, hcl, hM, hcell, hoki, hH⟩ := Kd.S_lend HZ.out [] x0 Dq1.out.1 (by have := Dq1.out.2.1; have := (Kd.S_reads' HZ.out).1; omega)
  obtain ⟨u, hu, hR⟩ := hM
  replace hR : Kd.R (Kd.int .i64) 3 w2 w.heap.size oki u (rd_L2 o x0) := hR
  obtain ⟨gr, cr, er, hbr, hlr, _⟩ := Kd.R_form hR (by have := Dq1.out.2.2.1; have := Dq1.out.2.2.2; omega)
  subst er
  subst hu
  have hcell0 := hcell 0 _ rfl
  rw [show x0.toNat * (Kd.slice 3 (Kd.int .i64)).sz + 0 = x0.toNat from by show x0.toNat * 1 + 0 = _; omega] at hcell0
  obtain ⟨hrx, hf0⟩ := Kd.R_celln 0 hR x1 Dq1.out.2.2.1 Dq1.out.2.2.2
  have HPR := Kd.R_putg (Kd.R_drew hR) x1 (wrap64 (rd (rd_L2 o x0) x1 - n))
  have HX1 : w2.cell? ⟨gr, x1.toNat, none⟩ = some (.int .i64 (rd (rd_L2 o x0) x1)) := hrx
  have HQO := Aside0.mk (show oki gr from hR.1 _ rfl)
  have HKI := Aside0.mk hoki
  have HHole := Aside0.mk (show Kd.H (Kd.slice 3 (Kd.int .i64)) 24 w2.drew w.heap.size _ _ o x0 oki _ from Kd.H_step hH (fun _ _ _ _ => rfl))
  have hi1a := eq_true Dq1.out.1
  have hi1b := eq_true (show x0 < (o.length : Int) by have := Dq1.out.2.1; have := (Kd.S_reads' HZ.out).1; omega)
  have hi1c := eq_true Dq1.out.2.2.1
  have hi1d := eq_true Dq1.out.2.2.2
  clear hcell hcl hR hH hoki hbr hlr hrx
  obtain ⟨row, hrow⟩ : ∃ q_, q_ = rd_L2 o x0 := ⟨_, rfl⟩
  rw [← hrow] at HX1 hcell0 HPR HHole hi1d
  have Nrow := Aside0.mk hrow
  clear hrow
  go_still_tail 11, (by kernel_rfl)
  rw [show ({ heap := w2.heap, tape := w2.tape, drawn := w2.drawn + 1, os := w2.os, output := w2.output } : World) = w2.drew from rfl]
  (try simp only [i64_w])
  go_wp2_with (first | ((with_reducible refine gate_store (t := 3) (p := 59) rfl ?_); refine store_event (t := 3) (p := 59) (v := ?vo_1) (w1 := (w2.drew.setCell ⟨gr, x1.toNat, none⟩ (.int .i64 (wrap64 (rd row x1 - n))))) ?hg ?ho ?hn ?hr ?_; (case ho => rfl); (case hg => rfl); (case hn => rfl); (case hr => first | (go_simp; done) | (go_simp; rfl)); intro w3 hw; have hg : w2.drew.grownBy w3 (some gr) := (by rw [hw]; exact HPR.2); have hp_ : Kd.S (Kd.slice 3 (Kd.int .i64)) 24 w3 w.heap.size (fun k => wc.heap.size ≤ k) (.slice (some ⟨g, 0, none⟩) o.length cap) q1 := (by rw [Nq1.out]; unfold spec_Uncross.o1 spec_Uncross.pt; rw [← Nrow.out]; exact spec_Uncross.row_step rfl HKI.out HHole.out rfl HQO.out (by rw [hw]; exact HPR.1) hg); clear HPR; have n1_ := Aside0.mk ((hg.block gx (blk_lt BX.out) (by intro e_; have h1_ := (HKI.out _ HQO.out).1; have h2_ := LX.out; injection e_ with e_; omega)).trans BX.out); have n2_ := Aside0.mk ((hg.block gy (blk_lt BY.out) (by intro e_; have h1_ := (HKI.out _ HQO.out).1; have h2_ := LY.out; injection e_ with e_; omega)).trans BY.out); have n3_ := Aside0.mk (Below.grown (below_drew1 HB.out) hg HB.out.size (fun k e_ => by cases e_; have h1_ := (HKI.out _ HQO.out).1; have h2_ := HCW.out; omega)); have n4_ := Aside0.mk hp_; clear HZ BX BY HB HHole; have BX := n1_; have BY := n2_; have HB := n3_; have HZ := n4_; clear n1_ n2_ n3_ n4_ hg hw hp_))
  clear hb1a hb1b hcell0 hf0 HX1 HQO HKI Nrow hi1a hi1b hi1c hi1d
  have hb2a : w3.cell? ⟨gy, 0, none⟩ = some (.int .i64 y0) := (blk_cell BY.out 0).trans rfl
  have hb2b : w3.cell? ⟨gy, 1, none⟩ = some (.int .i64 y1) := (blk_cell BY.out 1).trans rfl
  obtain ⟨oki, c, hcl, hM, hcell, hoki, hH⟩ := Kd.S_lend HZ.out [] y0 Dq2.out.1 (by have := Dq2.out.2.1; have := (Kd.S_reads' HZ.out).1; omega)
  obtain ⟨u, hu, hR⟩ := hM
  replace hR : Kd.R (Kd.int .i64) 3 w3 w.heap.size oki u (rd_L2 q1 y0) := hR
  obtain ⟨gr, cr, er, hbr, hlr, _⟩ := Kd.R_form hR (by have := Dq2.out.2.2.1; have := Dq2.out.2.2.2; omega)
  subst er
  subst hu
  have hcell0 := hcell 0 _ rfl
  rw [show y0.toNat * (Kd.slice 3 (Kd.int .i64)).sz + 0 = y0.toNat from by show y0.toNat * 1 + 0 = _; omega] at hcell0
  obtain ⟨hrx, hf0⟩ := Kd.R_celln 0 hR y1 Dq2.out.2.2.1 Dq2.out.2.2.2
  have HPR := Kd.R_putg (Kd.R_drew hR) y1 (wrap64 (rd (rd_L2 q1 y0) y1 - n))
  have HX1 : w3.cell? ⟨gr, y1.toNat, none⟩ = some (.int .i64 (rd (rd_L2 q1 y0) y1)) := hrx
  have HQO := Aside0.mk (show oki gr from hR.1 _ rfl)
  have HKI := Aside0.mk hoki
  have HHole := Aside0.mk (show Kd.H (Kd.slice 3 (Kd.int .i64)) 24 w3.drew w.heap.size _ _ q1 y0 oki _ from Kd.H_step hH (fun _ _ _ _ => rfl))
  have hi2a := eq_true Dq2.out.1
  have hi2b := eq_true (show y0 < (o.length : Int) by have := Dq2.out.2.1; have := (Kd.S_reads' HZ.out).1; omega)
  have hi2c := eq_true Dq2.out.2.2.1
  have hi2d := eq_true Dq2.out.2.2.2
  clear hcell hcl hR hH hoki hbr hlr hrx
  obtain ⟨row, hrow⟩ : ∃ q_, q_ = rd_L2 q1 y0 := ⟨_, rfl⟩
  rw [← hrow] at HX1 hcell0 HPR HHole hi2d
  have Nrow := Aside0.mk hrow
  clear hrow
  go_still_tail 11, (by kernel_rfl)
  rw [show ({ heap := w3.heap, tape := w3.tape, drawn := w3.drawn + 1, os := w3.os, output := w3.output } : World) = w3.drew from rfl]
  (try simp only [i64_w])
  go_wp2_with (first | ((with_reducible refine gate_store (t := 3) (p := 71) rfl ?_); refine store_event (t := 3) (p := 71) (v := ?vo_2) (w1 := (w3.drew.setCell ⟨gr, y1.toNat, none⟩ (.int .i64 (wrap64 (rd row y1 - n))))) ?hg ?ho ?hn ?hr ?_; (case ho => rfl); (case hg => rfl); (case hn => rfl); (case hr => first | (go_simp; done) | (go_simp; rfl)); intro w4 hw; have hg : w3.drew.grownBy w4 (some gr) := (by rw [hw]; exact HPR.2); have hp_ : Kd.S (Kd.slice 3 (Kd.int .i64)) 24 w4 w.heap.size (fun k => wc.heap.size ≤ k) (.slice (some ⟨g, 0, none⟩) o.length cap) q2 := (by rw [Nq2.out]; unfold spec_Uncross.o1 spec_Uncross.pt; rw [← Nrow.out]; exact spec_Uncross.row_step rfl HKI.out HHole.out rfl HQO.out (by rw [hw]; exact HPR.1) hg); clear HPR; have n1_ := Aside0.mk ((hg.block gx (blk_lt BX.out) (by intro e_; have h1_ := (HKI.out _ HQO.out).1; have h2_ := LX.out; injection e_ with e_; omega)).trans BX.out); have n2_ := Aside0.mk ((hg.block gy (blk_lt BY.out) (by intro e_; have h1_ := (HKI.out _ HQO.out).1; have h2_ := LY.out; injection e_ with e_; omega)).trans BY.out); have n3_ := Aside0.mk (Below.grown (below_drew1 HB.out) hg HB.out.size (fun k e_ => by cases e_; have h1_ := (HKI.out _ HQO.out).1; have h2_ := HCW.out; omega)); have n4_ := Aside0.mk hp_; clear HZ BX BY HB HHole; have BX := n1_; have BY := n2_; have HB := n3_; have HZ := n4_; clear n1_ n2_ n3_ n4_ hg hw hp_))
  clear hb2a hb2b hcell0 hf0 HX1 HQO HKI Nrow hi2a hi2b hi2c hi2d
  have hb3a : w4.cell? ⟨gx, 0, none⟩ = some (.int .i64 x0) := (blk_cell BX.out 0).trans rfl
  have hb3b : w4.cell? ⟨gy, 1, none⟩ = some (.int .i64 y1) := (blk_cell BY.out 1).trans rfl
  obtain ⟨oki, c, hcl, hM, hcell, hoki, hH⟩ := Kd.S_lend HZ.out [] x0 Dq3.out.1 (by have := Dq3.out.2.1; have := (Kd.S_reads' HZ.out).1; omega)
  obtain ⟨u, hu, hR⟩ := hM
  replace hR : Kd.R (Kd.int .i64) 3 w4 w.heap.size oki u (rd_L2 q2 x0) := hR
  obtain ⟨gr, cr, er, hbr, hlr, _⟩ := Kd.R_form hR (by have := Dq3.out.2.2.1; have := Dq3.out.2.2.2; omega)
  subst er
  subst hu
  have hcell0 := hcell 0 _ rfl
  rw [show x0.toNat * (Kd.slice 3 (Kd.int .i64)).sz + 0 = x0.toNat from by show x0.toNat * 1 + 0 = _; omega] at hcell0
  obtain ⟨hrx, hf0⟩ := Kd.R_celln 0 hR y1 Dq3.out.2.2.1 Dq3.out.2.2.2
  have HPR := Kd.R_putg (Kd.R_drew hR) y1 (wrap64 (rd (rd_L2 q2 x0) y1 + n))
  have HX1 : w4.cell? ⟨gr, y1.toNat, none⟩ = some (.int .i64 (rd (rd_L2 q2 x0) y1)) := hrx
  have HQO := Aside0.mk (show oki gr from hR.1 _ rfl)
  have HKI := Aside0.mk hoki
  have HHole := Aside0.mk (show Kd.H (Kd.slice 3 (Kd.int .i64)) 24 w4.drew w.heap.size _ _ q2 x0 oki _ from Kd.H_step hH (fun _ _ _ _ => rfl))
  have hi3a := eq_true Dq3.out.1
  have hi3b := eq_true (show x0 < (o.length : Int) by have := Dq3.out.2.1; have := (Kd.S_reads' HZ.out).1; omega)
  have hi3c := eq_true Dq3.out.2.2.1
  have hi3d := eq_true Dq3.out.2.2.2
  clear hcell hcl hR hH hoki hbr hlr hrx
  obtain ⟨row, hrow⟩ : ∃ q_, q_ = rd_L2 q2 x0 := ⟨_, rfl⟩
  rw [← hrow] at HX1 hcell0 HPR HHole hi3d
  have Nrow := Aside0.mk hrow
  clear hrow
  go_still_tail 11, (by kernel_rfl)
  rw [show ({ heap := w4.heap, tape := w4.tape, drawn := w4.drawn + 1, os := w4.os, output := w4.output } : World) = w4.drew from rfl]
  (try simp only [i64_w])
  go_wp2_with (first | ((with_reducible refine gate_store (t := 3) (p := 83) rfl ?_); refine store_event (t := 3) (p := 83) (v := ?vo_3) (w1 := (w4.drew.setCell ⟨gr, y1.toNat, none⟩ (.int .i64 (wrap64 (rd row y1 + n))))) ?hg ?ho ?hn ?hr ?_; (case ho => rfl); (case hg => rfl); (case hn => rfl); (case hr => first | (go_simp; done) | (go_simp; rfl)); intro w5 hw; have hg : w4.drew.grownBy w5 (some gr) := (by rw [hw]; exact HPR.2); have hp_ : Kd.S (Kd.slice 3 (Kd.int .i64)) 24 w5 w.heap.size (fun k => wc.heap.size ≤ k) (.slice (some ⟨g, 0, none⟩) o.length cap) q3 := (by rw [Nq3.out]; unfold spec_Uncross.o2 spec_Uncross.pt; rw [← Nrow.out]; exact spec_Uncross.row_step rfl HKI.out HHole.out rfl HQO.out (by rw [hw]; exact HPR.1) hg); clear HPR; have n1_ := Aside0.mk ((hg.block gx (blk_lt BX.out) (by intro e_; have h1_ := (HKI.out _ HQO.out).1; have h2_ := LX.out; injection e_ with e_; omega)).trans BX.out); have n2_ := Aside0.mk ((hg.block gy (blk_lt BY.out) (by intro e_; have h1_ := (HKI.out _ HQO.out).1; have h2_ := LY.out; injection e_ with e_; omega)).trans BY.out); have n3_ := Aside0.mk (Below.grown (below_drew1 HB.out) hg HB.out.size (fun k e_ => by cases e_; have h1_ := (HKI.out _ HQO.out).1; have h2_ := HCW.out; omega)); have n4_ := Aside0.mk hp_; clear HZ BX BY HB HHole; have BX := n1_; have BY := n2_; have HB := n3_; have HZ := n4_; clear n1_ n2_ n3_ n4_ hg hw hp_))
  clear hb3a hb3b hcell0 hf0 HX1 HQO HKI Nrow hi3a hi3b hi3c hi3d
  have hb4a : w5.cell? ⟨gy, 0, none⟩ = some (.int .i64 y0) := (blk_cell BY.out 0).trans rfl
  have hb4b : w5.cell? ⟨gx, 1, none⟩ = some (.int .i64 x1) := (blk_cell BX.out 1).trans rfl
  obtain ⟨oki, c, hcl, hM, hcell, hoki, hH⟩ := Kd.S_lend HZ.out [] y0 Dq4.out.1 (by have := Dq4.out.2.1; have := (Kd.S_reads' HZ.out).1; omega)
  obtain ⟨u, hu, hR⟩ := hM
  replace hR : Kd.R (Kd.int .i64) 3 w5 w.heap.size oki u (rd_L2 q3 y0) := hR
  obtain ⟨gr, cr, er, hbr, hlr, _⟩ := Kd.R_form hR (by have := Dq4.out.2.2.1; have := Dq4.out.2.2.2; omega)
  subst er
  subst hu
  have hcell0 := hcell 0 _ rfl
  rw [show y0.toNat * (Kd.slice 3 (Kd.int .i64)).sz + 0 = y0.toNat from by show y0.toNat * 1 + 0 = _; omega] at hcell0
  obtain ⟨hrx, hf0⟩ := Kd.R_celln 0 hR x1 Dq4.out.2.2.1 Dq4.out.2.2.2
  have HPR := Kd.R_putg (Kd.R_drew hR) x1 (wrap64 (rd (rd_L2 q3 y0) x1 + n))
  have HX1 : w5.cell? ⟨gr, x1.toNat, none⟩ = some (.int .i64 (rd (rd_L2 q3 y0) x1)) := hrx
  have HQO := Aside0.mk (show oki gr from hR.1 _ rfl)
  have HKI := Aside0.mk hoki
  have HHole := Aside0.mk (show Kd.H (Kd.slice 3 (Kd.int .i64)) 24 w5.drew w.heap.size _ _ q3 y0 oki _ from Kd.H_step hH (fun _ _ _ _ => rfl))
  have hi4a := eq_true Dq4.out.1
  have hi4b := eq_true (show y0 < (o.length : Int) by have := Dq4.out.2.1; have := (Kd.S_reads' HZ.out).1; omega)
  have hi4c := eq_true Dq4.out.2.2.1
  have hi4d := eq_true Dq4.out.2.2.2
  clear hcell hcl hR hH hoki hbr hlr hrx
  obtain ⟨row, hrow⟩ : ∃ q_, q_ = rd_L2 q3 y0 := ⟨_, rfl⟩
  rw [← hrow] at HX1 hcell0 HPR HHole hi4d
  have Nrow := Aside0.mk hrow
  clear hrow
  go_still_tail 11, (by kernel_rfl)
  rw [show ({ heap := w5.heap, tape := w5.tape, drawn := w5.drawn + 1, os := w5.os, output := w5.output } : World) = w5.drew from rfl]
  (try simp only [i64_w])
  go_wp2_with (first | ((with_reducible refine gate_store (t := 3) (p := 95) rfl ?_); refine store_event (t := 3) (p := 95) (v := ?vo_4) (w1 := (w5.drew.setCell ⟨gr, x1.toNat, none⟩ (.int .i64 (wrap64 (rd row x1 + n))))) ?hg ?ho ?hn ?hr ?_; (case ho => rfl); (case hg => rfl); (case hn => rfl); (case hr => first | (go_simp; done) | (go_simp; rfl)); intro w6 hw; have hg : w5.drew.grownBy w6 (some gr) := (by rw [hw]; exact HPR.2); have hp_ : Kd.S (Kd.slice 3 (Kd.int .i64)) 24 w6 w.heap.size (fun k => wc.heap.size ≤ k) (.slice (some ⟨g, 0, none⟩) o.length cap) q4 := (by rw [Nq4.out]; unfold spec_Uncross.o2 spec_Uncross.pt; rw [← Nrow.out]; exact spec_Uncross.row_step rfl HKI.out HHole.out rfl HQO.out (by rw [hw]; exact HPR.1) hg); clear HPR; have n1_ := Aside0.mk ((hg.block gx (blk_lt BX.out) (by intro e_; have h1_ := (HKI.out _ HQO.out).1; have h2_ := LX.out; injection e_ with e_; omega)).trans BX.out); have n2_ := Aside0.mk ((hg.block gy (blk_lt BY.out) (by intro e_; have h1_ := (HKI.out _ HQO.out).1; have h2_ := LY.out; injection e_ with e_; omega)).trans BY.out); have n3_ := Aside0.mk (Below.grown (below_drew1 HB.out) hg HB.out.size (fun k e_ => by cases e_; have h1_ := (HKI.out _ HQO.out).1; have h2_ := HCW.out; omega)); have n4_ := Aside0.mk hp_; clear HZ BX BY HB HHole; have BX := n1_; have BY := n2_; have HB := n3_; have HZ := n4_; clear n1_ n2_ n3_ n4_ hg hw hp_))
  clear hb4a hb4b hcell0 hf0 HX1 HQO HKI Nrow hi4a hi4b hi4c hi4d
  have hlz := (Kd.S_reads' HZ.out).1
  rw [hlz] at HZ
  simp only [hlz]
  clear hlz
  have H := HEND.out
  clear HEND
  replace H := Option.bind_eq_some_iff.mp H
  obtain ⟨gb, hgb, H⟩ := H
  have E5 := Aside0.mk hgb
  clear hgb
  by_cases cg : ¬ gb = true
  ·rw [if_neg cg] at H
   replace cg := Bool.eq_false_iff.mpr cg
   subst cg
   simp only [Option.some.injEq, Prod.mk.injEq] at H
   obtain ⟨rfl, rfl, rfl⟩ := H
   go_wp2_with (first | (go_at_call 93; (with_reducible refine (spec_plGood.calls k _ _ q4 false _ ?side1 ?side2 E5.out).mono ?_); (case side1 => repeat (first | exact (Kd.S_reads' HZ.out).2.2 | (with_reducible refine Kd.C_alloc ?_ _) | (with_reducible refine Kd.C_drewN ?_ _) | (with_reducible refine Kd.C_drew ?_))); (case side2 => exact (Kd.S_reads' HZ.out).2.1); rintro e wp_ ⟨rfl, ⟨nd, rfl⟩⟩))
   exact bodyPost_ret (v := .tuple #[.slice none 0 0, .int .i64 0, .bool false]) (by simp [results, Try.results25, go_sem]) rfl ⟨_, rfl, Kd.S_nil _ _ _ _ _, by repeat (first | (with_reducible first | exact HB.out | apply below_alloc | apply pw_below_drewN | apply below_drew1) | exact HB.out)⟩
  replace cg := Decidable.not_not.mp cg
  rw [if_pos cg] at H
  subst cg
  replace H := Option.bind_eq_some_iff.mp H
  obtain ⟨c, hc, H⟩ := H
  replace H := Option.bind_eq_some_iff.mp H
  obtain ⟨d, hd, H⟩ := H
  have E6 := Aside0.mk hc
  have E7 := Aside0.mk hd
  simp only [Option.some.injEq, Prod.mk.injEq] at H
  obtain ⟨rfl, rfl, rfl⟩ := H
  clear hc hd
  go_wp2_with (first | (go_at_call 93; (with_reducible refine (spec_plGood.calls k _ _ q4 true _ ?side1 ?side2 E5.out).mono ?_); (case side1 => repeat (first | exact (Kd.S_reads' HZ.out).2.2 | (with_reducible refine Kd.C_alloc ?_ _) | (with_reducible refine Kd.C_drewN ?_ _) | (with_reducible refine Kd.C_drew ?_))); (case side2 => exact (Kd.S_reads' HZ.out).2.1); rintro e wp_ ⟨rfl, ⟨nd, rfl⟩⟩) | (go_at_call 94; (with_reducible refine (spec_plCost.calls k _ _ l0 c _ ?side1 ?side2 E6.out).mono ?_); (case side1 => repeat (first | exact (Kd.C_below HR0.out HB.out) | (with_reducible refine Kd.C_alloc ?_ _) | (with_reducible refine Kd.C_drewN ?_ _) | (with_reducible refine Kd.C_drew ?_))); (case side2 => exact HC0.out); rintro e wq_ ⟨rfl, ⟨nd, rfl⟩⟩) | (go_at_call 94; (with_reducible refine (spec_plCost.calls k _ _ q4 d _ ?side1 ?side2 E7.out).mono ?_); (case side1 => repeat (first | exact (Kd.S_reads' HZ.out).2.2 | (with_reducible refine Kd.C_alloc ?_ _) | (with_reducible refine Kd.C_drewN ?_ _) | (with_reducible refine Kd.C_drew ?_))); (case side2 => exact (Kd.S_reads' HZ.out).2.1); rintro e wq_ ⟨rfl, ⟨nd, rfl⟩⟩))
  exact bodyPost_ret (v := .tuple #[.slice (some ⟨g, 0, none⟩) q4.length cap, .int .i64 (wrap64 (c - d)), .bool true]) (by simp [results, Try.results25, go_sem]) rfl ⟨_, rfl, Kd.S_mono (by (with_reducible repeat (first | apply Kd.S_alloc | apply Kd.S_drewN | apply Kd.S_drew)); exact HZ.out) (fun _ _ => trivial), by repeat (first | (with_reducible first | exact HB.out | apply below_alloc | apply pw_below_drewN | apply below_drew1) | exact HB.out)⟩

/-! ### impl_CrossingOf: function 26 -/
def impl_CrossingOf.f (k : Nat) (l0 : List (List Int)) : Option ((List (S45)) × Bool) := (impl_isPlan.f k l0).bind fun t302 => (if t302 = true then ((impl_crossing.f k l0).bind fun bt303 => (if bt303.2.2.2.2 = true then (some ((([(⟨bt303.1, bt303.2.1⟩ : S45), (⟨bt303.2.2.1, bt303.2.2.2.1⟩ : S45)] : List (S45))), true)) else (some (([] : List (S45)), false)))) else (some (([] : List (S45)), false)))
theorem impl_CrossingOf.mono : ∀ a0 k, LeO (impl_CrossingOf.f k a0) (impl_CrossingOf.f (k + 1) a0) := by
 intro a0 k
 unfold impl_CrossingOf.f
 repeat' first
   | (with_reducible exact impl_crossing.mono _ _)
   | (with_reducible exact impl_isPlan.mono _ _)
   | (with_reducible exact LeO.refl _)
   | (with_reducible exact LeO.none _)
   | (with_reducible refine LeO.ite ?_ ?_)
   | (with_reducible refine LeO.bind ?_ (fun _ => ?_))
   | exact impl_crossing.mono _ _
   | exact impl_isPlan.mono _ _
   | exact LeO.none _
   | refine LeO.ite ?_ ?_
   | refine LeO.bind ?_ (fun _ => ?_)
set_option maxHeartbeats 8000000 in
set_option maxRecDepth 100000 in
theorem impl_CrossingOf.calls (k : Nat) (A0 : Option Addr) (c0 : Nat) (l0 : List (List Int)) (r1 : List (S45)) (r2 : Bool) (w : World) (hr0 : Kd.C (Kd.slice 3 (Kd.int .i64)) w A0 l0.length l0) (hc0 : l0.length ≤ c0) (h : impl_CrossingOf.f k l0 = some (r1, r2)) :
  Calls Try.prog 26 #[.slice A0 l0.length c0] w fun e w' => ∃ v0_ : Value, e = .returned (.tuple #[v0_, .bool r2]) ∧ Kd.R k45 45 w' w.heap.size (fun _ => True) v0_ r1 ∧ Below w.heap.size w w' := by
 have hu45 := Try.underlying45
 have HR0 := Aside0.mk hr0
 have HC0 := Aside0.mk hc0
 clear hr0 hc0
 have HB := Aside0.mk (Below.refl w.heap.size w)
 have H : ((impl_isPlan.f k l0).bind fun t302 => (if t302 = true then ((impl_crossing.f k l0).bind fun bt303 => (if bt303.2.2.2.2 = true then (some ((([(⟨bt303.1, bt303.2.1⟩ : S45), (⟨bt303.2.2.1, bt303.2.2.2.1⟩ : S45)] : List (S45))), true)) else (some (([] : List (S45)), false)))) else (some (([] : List (S45)), false)))) = some (r1, r2) := h
 clear h
 replace H := Option.bind_eq_some_iff.mp H
 obtain ⟨t302, A20, H⟩ := H
 replace H : (if t302 = true then ((impl_crossing.f k l0).bind fun bt303 => (if bt303.2.2.2.2 = true then (some ((([(⟨bt303.1, bt303.2.1⟩ : S45), (⟨bt303.2.2.1, bt303.2.2.2.1⟩ : S45)] : List (S45))), true)) else (some (([] : List (S45)), false)))) else (some (([] : List (S45)), false))) = some (r1, r2) := H
 have A2 := Aside0.mk A20
 clear A20
 by_cases c3 : t302 = true
 ·subst c3
  have H1 : ((impl_crossing.f k l0).bind fun bt303 => (if bt303.2.2.2.2 = true then (some ((([(⟨bt303.1, bt303.2.1⟩ : S45), (⟨bt303.2.2.1, bt303.2.2.2.1⟩ : S45)] : List (S45))), true)) else (some (([] : List (S45)), false)))) = some (r1, r2) := by rw [if_pos rfl] at H; exact H
  clear H
  have H := H1
  clear H1
  replace H := Option.bind_eq_some_iff.mp H
  obtain ⟨⟨t303, t304, t305, t306, t307⟩, A40, H⟩ := H
  replace H : (if t307 = true then (some ((([(⟨t303, t304⟩ : S45), (⟨t305, t306⟩ : S45)] : List (S45))), true)) else (some (([] : List (S45)), false))) = some (r1, r2) := H
  have A4 := Aside0.mk A40
  clear A40
  by_cases c5 : t307 = true
  ·subst c5
   have H1 : (some ((([(⟨t303, t304⟩ : S45), (⟨t305, t306⟩ : S45)] : List (S45))), true)) = some (r1, r2) := by rw [if_pos rfl] at H; exact H
   clear H
   have H := H1
   clear H1
   obtain ⟨y310, hy310⟩ : ∃ y_ : List (S45), y_ = (([(⟨t303, t304⟩ : S45), (⟨t305, t306⟩ : S45)] : List (S45))) := ⟨_, rfl⟩
   replace H : (some (y310, true)) = some (r1, r2) := by first | (rw [hy310]; with_reducible exact H) | (have H2_ := (Option.bind_some _ _).symm.trans H; rw [hy310]; with_reducible exact H2_) | (have H2_ := (Option.bind_some _ _).symm.trans H; with_reducible exact H2_) | with_reducible exact H | (rw [hy310]; exact H) | exact H
   have Ny310 := Aside0.mk hy310
   clear hy310
   simp only [Option.some.injEq, Prod.mk.injEq] at H
   obtain ⟨rfl, rfl⟩ := H
   go_enter Try.func26, Try.ntmps26
   go_wp2_with (first | ((with_reducible refine gate_callee (f := 85) rfl ?_); refine goesL_ (some 8) rfl rfl Try.func85 (by kernel_rfl) rfl #[.slice A0 l0.length c0] rfl (by (try simp only [List.map_toArray, List.map_cons, List.map_nil]); first | done | rfl | (simp only [List.length_drop, List.length_take]; rfl)) ?_; (with_reducible refine (impl_isPlan.calls k _ _ l0 true _ ?side1 ?side2 A2.out).mono ?_); (case side1 => repeat (first | exact HR0.out | (with_reducible refine Kd.C_alloc ?_ _) | (with_reducible refine Kd.C_drewN ?_ _) | (with_reducible refine Kd.C_drew ?_))); (case side2 => exact HC0.out); rintro e w6 ⟨rfl, hb⟩; refine ⟨_, rfl, ?_⟩; have n0_ := Aside0.mk (below_step (by repeat (first | (with_reducible first | exact HB.out | apply below_alloc | apply pw_below_drewN | apply below_drew1) | exact HB.out)) hb); clear HB; have HB := n0_; clear n0_; (try clear hb); (try clear hb2); (try clear hk); (try clear hi)) | ((with_reducible refine gate_callee (f := 90) rfl ?_); refine goesL_ (some 12) rfl rfl Try.func90 (by kernel_rfl) rfl #[.slice A0 l0.length c0] rfl (by (try simp only [List.map_toArray, List.map_cons, List.map_nil]); first | done | rfl | (simp only [List.length_drop, List.length_take]; rfl)) ?_; (with_reducible refine (impl_crossing.calls k _ _ l0 t303 t304 t305 t306 true _ ?side1 ?side2 A4.out).mono ?_); (case side1 => repeat (first | exact (Kd.C_below HR0.out HB.out) | (with_reducible refine Kd.C_alloc ?_ _) | (with_reducible refine Kd.C_drewN ?_ _) | (with_reducible refine Kd.C_drew ?_))); (case side2 => exact HC0.out); rintro e w7 ⟨rfl, hb⟩; refine ⟨_, rfl, ?_⟩; have n0_ := Aside0.mk (below_step (by repeat (first | (with_reducible first | exact HB.out | apply below_alloc | apply pw_below_drewN | apply below_drew1) | exact HB.out)) hb); clear HB; have HB := n0_; clear n0_; (try clear hb); (try clear hb2); (try clear hk); (try clear hi)) | ((with_reducible refine gate_dst (N := 4) rfl ?_); refine box_event ?hg (N := 4) ?hd (cs := #[.int .i64 0, .int .i64 0]) (t := 45) ?hr ?_; (case hd => rfl); (case hg => rfl); (case hr => first | (go_simp; done) | (go_simp; rfl)); intro gb308 hg w8 hbox hb; have n0_ := Aside0.mk (below_step (by repeat (first | (with_reducible first | exact HB.out | apply below_alloc | apply pw_below_drewN | apply below_drew1) | exact HB.out)) hb); have n1_ := Aside0.mk (hbox); have n2_ := Aside0.mk ((by rw [hg]; exact (below_size (by repeat (first | (with_reducible first | exact HB.out | apply below_alloc | apply pw_below_drewN | apply below_drew1) | exact HB.out))) : w.heap.size ≤ gb308)); have n3_ := Aside0.mk ((by rw [hg]; exact (below_size (by repeat (first | (with_reducible first | exact HB.out | apply below_alloc | apply pw_below_drewN | apply below_drew1) | exact HB.out))) : w.heap.size ≤ gb308)); clear HB; have HB := n0_; have BK308 := n1_; have GW308 := n2_; have GE308 := n3_; clear n0_ n1_ n2_ n3_; clear hb hbox hg) | ((with_reducible refine gate_dst (N := 5) rfl ?_); refine box_event ?hg (N := 5) ?hd (cs := #[.int .i64 0, .int .i64 0]) (t := 45) ?hr ?_; (case hd => rfl); (case hg => rfl); (case hr => first | (go_simp; done) | (go_simp; rfl)); intro gb309 hg w9 hbox hb; have n0_ := Aside0.mk (blk_below (g := gb308) (o := .cells #[.int .i64 0, .int .i64 0] 45 (0, 0)) (by (with_reducible repeat (first | refine blk_drewN ?_ _ | refine blk_drew ?_ | refine blk_alloc ?_ _)); exact BK308.out) hb); have n1_ := Aside0.mk (below_step (by repeat (first | (with_reducible first | exact HB.out | apply below_alloc | apply pw_below_drewN | apply below_drew1 | refine below_set ?_ GE308.out) | exact HB.out)) hb); have n2_ := Aside0.mk (hbox); have n3_ := Aside0.mk ((by rw [hg]; exact (below_size (by repeat (first | (with_reducible first | exact HB.out | apply below_alloc | apply pw_below_drewN | apply below_drew1 | refine below_set ?_ GE308.out) | exact HB.out))) : w.heap.size ≤ gb309)); have n4_ := Aside0.mk ((by rw [hg]; exact (below_size (by repeat (first | (with_reducible first | exact HB.out | apply below_alloc | apply pw_below_drewN | apply below_drew1 | refine below_set ?_ GE308.out) | exact HB.out))) : w.heap.size ≤ gb309)); have n5_ := Aside0.mk ((by rw [hg]; exact Nat.ne_of_lt (blk_lt (g := gb308) (o := .cells #[.int .i64 0, .int .i64 0] 45 (0, 0)) (by (with_reducible repeat (first | refine blk_drewN ?_ _ | refine blk_drew ?_ | refine blk_alloc ?_ _)); exact BK308.out)) : gb308 ≠ gb309)); have n6_ := Aside0.mk ((by rw [hg]; exact Nat.ne_of_gt (blk_lt (g := gb308) (o := .cells #[.int .i64 0, .int .i64 0] 45 (0, 0)) (by (with_reducible repeat (first | refine blk_drewN ?_ _ | refine blk_drew ?_ | refine blk_alloc ?_ _)); exact BK308.out)) : gb309 ≠ gb308)); clear BK308; clear HB; have BK308 := n0_; have HB := n1_; have BK309 := n2_; have GW309 := n3_; have GE309 := n4_; have NB308_309 := n5_; have NB309_308 := n6_; clear n0_ n1_ n2_ n3_ n4_ n5_ n6_; clear hb hbox hg; have hnb10 := NB308_309.out; have hnc10 := NB309_308.out; have hcz11_0 : w9.cell? ⟨gb308, 0, none⟩ = some (.int .i64 0) := (blk_cell BK308.out 0).trans rfl; have hcz11_1 : w9.cell? ⟨gb308, 1, none⟩ = some (.int .i64 0) := (blk_cell BK308.out 1).trans rfl; have hfz11_0 := blk_frozen BK308.out 0; have hfz11_1 := blk_frozen BK308.out 1; have hcz12_0 : w9.cell? ⟨gb309, 0, none⟩ = some (.int .i64 0) := (blk_cell BK309.out 0).trans rfl; have hcz12_1 : w9.cell? ⟨gb309, 1, none⟩ = some (.int .i64 0) := (blk_cell BK309.out 1).trans rfl; have hfz12_0 := blk_frozen BK309.out 0; have hfz12_1 := blk_frozen BK309.out 1) | ((with_reducible refine gate_dst (N := 20) rfl ?_); refine Kd.R_lit k45 _ 45 ?hg (N := 20) ?hd (xs := ([(⟨t303, t304⟩ : S45), (⟨t305, t306⟩ : S45)] : List (S45))) (inner := [.int .i64 t303, .int .i64 t304, .int .i64 t305, .int .i64 t306]) (ok := fun _ => True) (okp := fun _ => True) ?hr ?hp (fun _ hk => hk) trivial (Below.refl _ _) (Nat.le_refl _) (by simp) ?_; (case hd => rfl); (case hg => rfl); (case hr => first | (go_simp; done) | (go_simp; rfl)); (case hp => exact (Reps.c2 (show Kd.M k45 _ _ _ (⟨t303, t304⟩ : S45) [.int .i64 t303, .int .i64 t304] from (k45_mkM _ _ _ (⟨t303, t304⟩ : S45) )) (Reps.c2 (show Kd.M k45 _ _ _ (⟨t305, t306⟩ : S45) [.int .i64 t305, .int .i64 t306] from (k45_mkM _ _ _ (⟨t305, t306⟩ : S45) )) (Reps.none _ _)))); intro v311 w13 ho14 hb hg_ hnew_; clear hg_ hnew_; (first | rw [← Ny310.out] at ho14 | (simp only [Int.reduceToNat] at ho14; rw [← Ny310.out] at ho14)); have n0_ := Aside0.mk (Kd.R_lower (Kd.R_newB (Kd.R_newB ho14 (g := gb308) (o := .cells #[.int .i64 t303, .int .i64 t304] 45 (0, 0)) (by (with_reducible repeat (first | refine blk_drewN ?_ _ | refine blk_drew ?_ | refine blk_alloc ?_ _)); refine blk_far ?_ NB308_309.out _; (with_reducible repeat (first | refine blk_drewN ?_ _ | refine blk_drew ?_ | refine blk_alloc ?_ _)); refine blk_far ?_ NB308_309.out _; (with_reducible repeat (first | refine blk_drewN ?_ _ | refine blk_drew ?_ | refine blk_alloc ?_ _)); refine blk_put (cs := #[.int .i64 t303, .int .i64 0]) ?_ 1 _ rfl; (with_reducible repeat (first | refine blk_drewN ?_ _ | refine blk_drew ?_ | refine blk_alloc ?_ _)); refine blk_put (cs := #[.int .i64 0, .int .i64 0]) ?_ 0 _ rfl; (with_reducible repeat (first | refine blk_drewN ?_ _ | refine blk_drew ?_ | refine blk_alloc ?_ _)); exact BK308.out)) (g := gb309) (o := .cells #[.int .i64 t305, .int .i64 t306] 45 (0, 0)) (by (with_reducible repeat (first | refine blk_drewN ?_ _ | refine blk_drew ?_ | refine blk_alloc ?_ _)); refine blk_put (cs := #[.int .i64 t305, .int .i64 0]) ?_ 1 _ rfl; (with_reducible repeat (first | refine blk_drewN ?_ _ | refine blk_drew ?_ | refine blk_alloc ?_ _)); refine blk_put (cs := #[.int .i64 0, .int .i64 0]) ?_ 0 _ rfl; (with_reducible repeat (first | refine blk_drewN ?_ _ | refine blk_drew ?_ | refine blk_alloc ?_ _)); refine blk_far ?_ NB309_308.out _; (with_reducible repeat (first | refine blk_drewN ?_ _ | refine blk_drew ?_ | refine blk_alloc ?_ _)); refine blk_far ?_ NB309_308.out _; (with_reducible repeat (first | refine blk_drewN ?_ _ | refine blk_drew ?_ | refine blk_alloc ?_ _)); exact BK309.out)) (below_size (by repeat (first | (with_reducible first | exact HB.out | apply below_alloc | apply pw_below_drewN | apply below_drew1 | refine below_set ?_ GE308.out | refine below_set ?_ GE309.out) | exact HB.out)))); have n1_ := Aside0.mk (blk_below (g := gb308) (o := .cells #[.int .i64 t303, .int .i64 t304] 45 (0, 0)) (by (with_reducible repeat (first | refine blk_drewN ?_ _ | refine blk_drew ?_ | refine blk_alloc ?_ _)); refine blk_far ?_ NB308_309.out _; (with_reducible repeat (first | refine blk_drewN ?_ _ | refine blk_drew ?_ | refine blk_alloc ?_ _)); refine blk_far ?_ NB308_309.out _; (with_reducible repeat (first | refine blk_drewN ?_ _ | refine blk_drew ?_ | refine blk_alloc ?_ _)); refine blk_put (cs := #[.int .i64 t303, .int .i64 0]) ?_ 1 _ rfl; (with_reducible repeat (first | refine blk_drewN ?_ _ | refine blk_drew ?_ | refine blk_alloc ?_ _)); refine blk_put (cs := #[.int .i64 0, .int .i64 0]) ?_ 0 _ rfl; (with_reducible repeat (first | refine blk_drewN ?_ _ | refine blk_drew ?_ | refine blk_alloc ?_ _)); exact BK308.out) hb); have n2_ := Aside0.mk (blk_below (g := gb309) (o := .cells #[.int .i64 t305, .int .i64 t306] 45 (0, 0)) (by (with_reducible repeat (first | refine blk_drewN ?_ _ | refine blk_drew ?_ | refine blk_alloc ?_ _)); refine blk_put (cs := #[.int .i64 t305, .int .i64 0]) ?_ 1 _ rfl; (with_reducible repeat (first | refine blk_drewN ?_ _ | refine blk_drew ?_ | refine blk_alloc ?_ _)); refine blk_put (cs := #[.int .i64 0, .int .i64 0]) ?_ 0 _ rfl; (with_reducible repeat (first | refine blk_drewN ?_ _ | refine blk_drew ?_ | refine blk_alloc ?_ _)); refine blk_far ?_ NB309_308.out _; (with_reducible repeat (first | refine blk_drewN ?_ _ | refine blk_drew ?_ | refine blk_alloc ?_ _)); refine blk_far ?_ NB309_308.out _; (with_reducible repeat (first | refine blk_drewN ?_ _ | refine blk_drew ?_ | refine blk_alloc ?_ _)); exact BK309.out) hb); have n3_ := Aside0.mk (below_step (by repeat (first | (with_reducible first | exact HB.out | apply below_alloc | apply pw_below_drewN | apply below_drew1 | refine below_set ?_ GE308.out | refine below_set ?_ GE309.out) | exact HB.out)) hb); clear BK308; clear BK309; clear HB; have HO312 := n0_; have BK308 := n1_; have BK309 := n2_; have HB := n3_; clear n0_ n1_ n2_ n3_; clear hb ho14))
   go_ret2
   exact ⟨_, by first | rfl | (simp [errW_none, errW_some] <;> rfl) | (simp [*, errW_none, errW_some] <;> rfl), by (with_reducible repeat (first | apply Kd.R_alloc | apply Kd.R_drewN | apply Kd.R_drew)); exact Kd.R_mono HO312.out (fun _ hk => trivial), by repeat (first | (with_reducible first | exact HB.out | apply below_alloc | apply pw_below_drewN | apply below_drew1 | refine below_set ?_ GE308.out | refine below_set ?_ GE309.out) | exact HB.out)⟩
  ·replace c5 := Bool.eq_false_iff.mpr c5
   subst c5
   have H1 : (some (([] : List (S45)), false)) = some (r1, r2) := by rw [if_neg (show ¬ (false = true) by decide)] at H; exact H
   clear H
   have H := H1
   clear H1
   simp only [Option.some.injEq, Prod.mk.injEq] at H
   obtain ⟨rfl, rfl⟩ := H
   go_enter Try.func26, Try.ntmps26
   go_wp2_with (first | ((with_reducible refine gate_callee (f := 85) rfl ?_); refine goesL_ (some 8) rfl rfl Try.func85 (by kernel_rfl) rfl #[.slice A0 l0.length c0] rfl (by (try simp only [List.map_toArray, List.map_cons, List.map_nil]); first | done | rfl | (simp only [List.length_drop, List.length_take]; rfl)) ?_; (with_reducible refine (impl_isPlan.calls k _ _ l0 true _ ?side1 ?side2 A2.out).mono ?_); (case side1 => repeat (first | exact HR0.out | (with_reducible refine Kd.C_alloc ?_ _) | (with_reducible refine Kd.C_drewN ?_ _) | (with_reducible refine Kd.C_drew ?_))); (case side2 => exact HC0.out); rintro e w15 ⟨rfl, hb⟩; refine ⟨_, rfl, ?_⟩; have n0_ := Aside0.mk (below_step (by repeat (first | (with_reducible first | exact HB.out | apply below_alloc | apply pw_below_drewN | apply below_drew1) | exact HB.out)) hb); clear HB; have HB := n0_; clear n0_; (try clear hb); (try clear hb2); (try clear hk); (try clear hi)) | ((with_reducible refine gate_callee (f := 90) rfl ?_); refine goesL_ (some 12) rfl rfl Try.func90 (by kernel_rfl) rfl #[.slice A0 l0.length c0] rfl (by (try simp only [List.map_toArray, List.map_cons, List.map_nil]); first | done | rfl | (simp only [List.length_drop, List.length_take]; rfl)) ?_; (with_reducible refine (impl_crossing.calls k _ _ l0 t303 t304 t305 t306 false _ ?side1 ?side2 A4.out).mono ?_); (case side1 => repeat (first | exact (Kd.C_below HR0.out HB.out) | (with_reducible refine Kd.C_alloc ?_ _) | (with_reducible refine Kd.C_drewN ?_ _) | (with_reducible refine Kd.C_drew ?_))); (case side2 => exact HC0.out); rintro e w16 ⟨rfl, hb⟩; refine ⟨_, rfl, ?_⟩; have n0_ := Aside0.mk (below_step (by repeat (first | (with_reducible first | exact HB.out | apply below_alloc | apply pw_below_drewN | apply below_drew1) | exact HB.out)) hb); clear HB; have HB := n0_; clear n0_; (try clear hb); (try clear hb2); (try clear hk); (try clear hi)) | ((with_reducible refine gate_dst (N := 4) rfl ?_); refine box_event ?hg (N := 4) ?hd (cs := #[.int .i64 0, .int .i64 0]) (t := 45) ?hr ?_; (case hd => rfl); (case hg => rfl); (case hr => first | (go_simp; done) | (go_simp; rfl)); intro gb308 hg w17 hbox hb; have n0_ := Aside0.mk (below_step (by repeat (first | (with_reducible first | exact HB.out | apply below_alloc | apply pw_below_drewN | apply below_drew1) | exact HB.out)) hb); have n1_ := Aside0.mk (hbox); have n2_ := Aside0.mk ((by rw [hg]; exact (below_size (by repeat (first | (with_reducible first | exact HB.out | apply below_alloc | apply pw_below_drewN | apply below_drew1) | exact HB.out))) : w.heap.size ≤ gb308)); have n3_ := Aside0.mk ((by rw [hg]; exact (below_size (by repeat (first | (with_reducible first | exact HB.out | apply below_alloc | apply pw_below_drewN | apply below_drew1) | exact HB.out))) : w.heap.size ≤ gb308)); clear HB; have HB := n0_; have BK308 := n1_; have GW308 := n2_; have GE308 := n3_; clear n0_ n1_ n2_ n3_; clear hb hbox hg) | ((with_reducible refine gate_dst (N := 5) rfl ?_); refine box_event ?hg (N := 5) ?hd (cs := #[.int .i64 0, .int .i64 0]) (t := 45) ?hr ?_; (case hd => rfl); (case hg => rfl); (case hr => first | (go_simp; done) | (go_simp; rfl)); intro gb309 hg w18 hbox hb; have n0_ := Aside0.mk (blk_below (g := gb308) (o := .cells #[.int .i64 0, .int .i64 0] 45 (0, 0)) (by (with_reducible repeat (first | refine blk_drewN ?_ _ | refine blk_drew ?_ | refine blk_alloc ?_ _)); exact BK308.out) hb); have n1_ := Aside0.mk (below_step (by repeat (first | (with_reducible first | exact HB.out | apply below_alloc | apply pw_below_drewN | apply below_drew1 | refine below_set ?_ GE308.out) | exact HB.out)) hb); have n2_ := Aside0.mk (hbox); have n3_ := Aside0.mk ((by rw [hg]; exact (below_size (by repeat (first | (with_reducible first | exact HB.out | apply below_alloc | apply pw_below_drewN | apply below_drew1 | refine below_set ?_ GE308.out) | exact HB.out))) : w.heap.size ≤ gb309)); have n4_ := Aside0.mk ((by rw [hg]; exact (below_size (by repeat (first | (with_reducible first | exact HB.out | apply below_alloc | apply pw_below_drewN | apply below_drew1 | refine below_set ?_ GE308.out) | exact HB.out))) : w.heap.size ≤ gb309)); have n5_ := Aside0.mk ((by rw [hg]; exact Nat.ne_of_lt (blk_lt (g := gb308) (o := .cells #[.int .i64 0, .int .i64 0] 45 (0, 0)) (by (with_reducible repeat (first | refine blk_drewN ?_ _ | refine blk_drew ?_ | refine blk_alloc ?_ _)); exact BK308.out)) : gb308 ≠ gb309)); have n6_ := Aside0.mk ((by rw [hg]; exact Nat.ne_of_gt (blk_lt (g := gb308) (o := .cells #[.int .i64 0, .int .i64 0] 45 (0, 0)) (by (with_reducible repeat (first | refine blk_drewN ?_ _ | refine blk_drew ?_ | refine blk_alloc ?_ _)); exact BK308.out)) : gb309 ≠ gb308)); clear BK308; clear HB; have BK308 := n0_; have HB := n1_; have BK309 := n2_; have GW309 := n3_; have GE309 := n4_; have NB308_309 := n5_; have NB309_308 := n6_; clear n0_ n1_ n2_ n3_ n4_ n5_ n6_; clear hb hbox hg; have hnb19 := NB308_309.out; have hnc19 := NB309_308.out; have hcz20_0 : w18.cell? ⟨gb308, 0, none⟩ = some (.int .i64 0) := (blk_cell BK308.out 0).trans rfl; have hcz20_1 : w18.cell? ⟨gb308, 1, none⟩ = some (.int .i64 0) := (blk_cell BK308.out 1).trans rfl; have hfz20_0 := blk_frozen BK308.out 0; have hfz20_1 := blk_frozen BK308.out 1; have hcz21_0 : w18.cell? ⟨gb309, 0, none⟩ = some (.int .i64 0) := (blk_cell BK309.out 0).trans rfl; have hcz21_1 : w18.cell? ⟨gb309, 1, none⟩ = some (.int .i64 0) := (blk_cell BK309.out 1).trans rfl; have hfz21_0 := blk_frozen BK309.out 0; have hfz21_1 := blk_frozen BK309.out 1))
   go_ret2
   exact ⟨_, by first | rfl | (simp [errW_none, errW_some] <;> rfl) | (simp [*, errW_none, errW_some] <;> rfl), by first | exact Kd.R_nil _ _ _ _ _ | exact Kd.N_nil _ _ _ _ _ | exact Kd.V_nil _ _ _ _ _ | exact Kd.Q_nil _ _ _ _ _ | exact Kd.S_nil _ _ _ _ _, by repeat (first | (with_reducible first | exact HB.out | apply below_alloc | apply pw_below_drewN | apply below_drew1 | refine below_set ?_ GE308.out | refine below_set ?_ GE309.out) | exact HB.out)⟩
 ·replace c3 := Bool.eq_false_iff.mpr c3
  subst c3
  have H1 : (some (([] : List (S45)), false)) = some (r1, r2) := by rw [if_neg (show ¬ (false = true) by decide)] at H; exact H
  clear H
  have H := H1
  clear H1
  simp only [Option.some.injEq, Prod.mk.injEq] at H
  obtain ⟨rfl, rfl⟩ := H
  go_enter Try.func26, Try.ntmps26
  go_wp2_with (first | ((with_reducible refine gate_callee (f := 85) rfl ?_); refine goesL_ (some 8) rfl rfl Try.func85 (by kernel_rfl) rfl #[.slice A0 l0.length c0] rfl (by (try simp only [List.map_toArray, List.map_cons, List.map_nil]); first | done | rfl | (simp only [List.length_drop, List.length_take]; rfl)) ?_; (with_reducible refine (impl_isPlan.calls k _ _ l0 false _ ?side1 ?side2 A2.out).mono ?_); (case side1 => repeat (first | exact HR0.out | (with_reducible refine Kd.C_alloc ?_ _) | (with_reducible refine Kd.C_drewN ?_ _) | (with_reducible refine Kd.C_drew ?_))); (case side2 => exact HC0.out); rintro e w22 ⟨rfl, hb⟩; refine ⟨_, rfl, ?_⟩; have n0_ := Aside0.mk (below_step (by repeat (first | (with_reducible first | exact HB.out | apply below_alloc | apply pw_below_drewN | apply below_drew1) | exact HB.out)) hb); clear HB; have HB := n0_; clear n0_; (try clear hb); (try clear hb2); (try clear hk); (try clear hi)))
  go_ret2
  exact ⟨_, by first | rfl | (simp [errW_none, errW_some] <;> rfl) | (simp [*, errW_none, errW_some] <;> rfl), by first | exact Kd.R_nil _ _ _ _ _ | exact Kd.N_nil _ _ _ _ _ | exact Kd.V_nil _ _ _ _ _ | exact Kd.Q_nil _ _ _ _ _ | exact Kd.S_nil _ _ _ _ _, by repeat (first | (with_reducible first | exact HB.out | apply below_alloc | apply pw_below_drewN | apply below_drew1) | exact HB.out)⟩

/-! ### spec_CrossingOf: function 27 -/
def spec_CrossingOf.f (k : Nat) (l0 : List (List Int)) : Option ((List (S45)) × Bool) := (spec_plGood.f k l0).bind fun t313 => (if t313 = true then ((spec_plCrossing.f k l0).bind fun bt314 => (some (bt314.1, bt314.2))) else (some (([] : List (S45)), false)))
theorem spec_CrossingOf.mono : ∀ a0 k, LeO (spec_CrossingOf.f k a0) (spec_CrossingOf.f (k + 1) a0) := by
 intro a0 k
 unfold spec_CrossingOf.f
 repeat' first
   | (with_reducible exact spec_plCrossing.mono _ _)
   | (with_reducible exact spec_plGood.mono _ _)
   | (with_reducible exact LeO.refl _)
   | (with_reducible exact LeO.none _)
   | (with_reducible refine LeO.ite ?_ ?_)
   | (with_reducible refine LeO.bind ?_ (fun _ => ?_))
   | exact spec_plCrossing.mono _ _
   | exact spec_plGood.mono _ _
   | exact LeO.none _
   | refine LeO.ite ?_ ?_
   | refine LeO.bind ?_ (fun _ => ?_)
set_option maxHeartbeats 8000000 in
set_option maxRecDepth 100000 in
theorem spec_CrossingOf.calls (k : Nat) (A0 : Option Addr) (c0 : Nat) (l0 : List (List Int)) (r1 : List (S45)) (r2 : Bool) (w : World) (hr0 : Kd.C (Kd.slice 3 (Kd.int .i64)) w A0 l0.length l0) (hc0 : l0.length ≤ c0) (h : spec_CrossingOf.f k l0 = some (r1, r2)) :
  Calls Try.prog 27 #[.slice A0 l0.length c0] w fun e w' => ∃ v0_ : Value, e = .returned (.tuple #[v0_, .bool r2]) ∧ Kd.R k45 45 w' w.heap.size (fun _ => True) v0_ r1 ∧ Below w.heap.size w w' := by
 have HR0 := Aside0.mk hr0
 have HC0 := Aside0.mk hc0
 clear hr0 hc0
 have HB := Aside0.mk (Below.refl w.heap.size w)
 have H : ((spec_plGood.f k l0).bind fun t313 => (if t313 = true then ((spec_plCrossing.f k l0).bind fun bt314 => (some (bt314.1, bt314.2))) else (some (([] : List (S45)), false)))) = some (r1, r2) := h
 clear h
 replace H := Option.bind_eq_some_iff.mp H
 obtain ⟨t313, A20, H⟩ := H
 replace H : (if t313 = true then ((spec_plCrossing.f k l0).bind fun bt314 => (some (bt314.1, bt314.2))) else (some (([] : List (S45)), false))) = some (r1, r2) := H
 have A2 := Aside0.mk A20
 clear A20
 by_cases c3 : t313 = true
 ·subst c3
  have H1 : ((spec_plCrossing.f k l0).bind fun bt314 => (some (bt314.1, bt314.2))) = some (r1, r2) := by rw [if_pos rfl] at H; exact H
  clear H
  have H := H1
  clear H1
  replace H := Option.bind_eq_some_iff.mp H
  obtain ⟨⟨t314, t315⟩, A40, H⟩ := H
  replace H : (some (t314, t315)) = some (r1, r2) := H
  have A4 := Aside0.mk A40
  clear A40
  simp only [Option.some.injEq, Prod.mk.injEq] at H
  obtain ⟨rfl, rfl⟩ := H
  go_enter Try.func27, Try.ntmps27
  go_wp2_with (first | ((with_reducible refine gate_callee (f := 93) rfl ?_); refine goesL_ (some 5) rfl rfl Try.func93 (by kernel_rfl) rfl #[.slice A0 l0.length c0] rfl (by (try simp only [List.map_toArray, List.map_cons, List.map_nil]); first | done | rfl | (simp only [List.length_drop, List.length_take]; rfl)) ?_; (with_reducible refine (spec_plGood.calls k _ _ l0 true _ ?side1 ?side2 A2.out).mono ?_); (case side1 => repeat (first | exact HR0.out | (with_reducible refine Kd.C_alloc ?_ _) | (with_reducible refine Kd.C_drewN ?_ _) | (with_reducible refine Kd.C_drew ?_))); (case side2 => exact HC0.out); rintro e w' ⟨rfl, ⟨nd, rfl⟩⟩; refine ⟨_, rfl, ?_⟩) | ((with_reducible refine gate_callee (f := 97) rfl ?_); refine goesL_ (some 8) rfl rfl Try.func97 (by kernel_rfl) rfl #[.slice A0 l0.length c0] rfl (by (try simp only [List.map_toArray, List.map_cons, List.map_nil]); first | done | rfl | (simp only [List.length_drop, List.length_take]; rfl)) ?_; (with_reducible refine (spec_plCrossing.calls k _ _ l0 t314 t315 _ ?side1 ?side2 A4.out).mono ?_); (case side1 => repeat (first | exact HR0.out | (with_reducible refine Kd.C_alloc ?_ _) | (with_reducible refine Kd.C_drewN ?_ _) | (with_reducible refine Kd.C_drew ?_))); (case side2 => exact HC0.out); rintro e w5 ⟨v316, rfl, ho0, hb⟩; refine ⟨_, rfl, ?_⟩; have n0_ := Aside0.mk (Kd.R_lower ho0 (below_size (by repeat (first | (with_reducible first | exact HB.out | apply below_alloc | apply pw_below_drewN | apply below_drew1) | exact HB.out)))); have n1_ := Aside0.mk (below_step (by repeat (first | (with_reducible first | exact HB.out | apply below_alloc | apply pw_below_drewN | apply below_drew1) | exact HB.out)) hb); clear HB; have HO317 := n0_; have HB := n1_; clear n0_ n1_; (try clear hb); (try clear hb2); (try clear hk); (try clear hi); (try clear ho0)))
  go_ret2
  exact ⟨_, by first | rfl | (simp [errW_none, errW_some] <;> rfl) | (simp [*, errW_none, errW_some] <;> rfl), by (with_reducible repeat (first | apply Kd.R_alloc | apply Kd.R_drewN | apply Kd.R_drew)); exact HO317.out, by repeat (first | (with_reducible first | exact HB.out | apply below_alloc | apply pw_below_drewN | apply below_drew1) | exact HB.out)⟩
 ·replace c3 := Bool.eq_false_iff.mpr c3
  subst c3
  have H1 : (some (([] : List (S45)), false)) = some (r1, r2) := by rw [if_neg (show ¬ (false = true) by decide)] at H; exact H
  clear H
  have H := H1
  clear H1
  simp only [Option.some.injEq, Prod.mk.injEq] at H
  obtain ⟨rfl, rfl⟩ := H
  go_enter Try.func27, Try.ntmps27
  go_wp2_with (first | ((with_reducible refine gate_callee (f := 93) rfl ?_); refine goesL_ (some 5) rfl rfl Try.func93 (by kernel_rfl) rfl #[.slice A0 l0.length c0] rfl (by (try simp only [List.map_toArray, List.map_cons, List.map_nil]); first | done | rfl | (simp only [List.length_drop, List.length_take]; rfl)) ?_; (with_reducible refine (spec_plGood.calls k _ _ l0 false _ ?side1 ?side2 A2.out).mono ?_); (case side1 => repeat (first | exact HR0.out | (with_reducible refine Kd.C_alloc ?_ _) | (with_reducible refine Kd.C_drewN ?_ _) | (with_reducible refine Kd.C_drew ?_))); (case side2 => exact HC0.out); rintro e w' ⟨rfl, ⟨nd, rfl⟩⟩; refine ⟨_, rfl, ?_⟩))
  go_ret2
  exact ⟨_, by first | rfl | (simp [errW_none, errW_some] <;> rfl) | (simp [*, errW_none, errW_some] <;> rfl), by first | exact Kd.R_nil _ _ _ _ _ | exact Kd.N_nil _ _ _ _ _ | exact Kd.V_nil _ _ _ _ _ | exact Kd.Q_nil _ _ _ _ _ | exact Kd.S_nil _ _ _ _ _, by repeat (first | (with_reducible first | exact HB.out | apply below_alloc | apply pw_below_drewN | apply below_drew1) | exact HB.out)⟩

end Go.Proofs.Ytojklddddedoeaa.PFnUncrossing
-- SLIM
