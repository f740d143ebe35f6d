/- For each Go function that the law uses, a Lean function with the same answers and a proof that its call comes to them; the conditions stand in each theorem. (Written by a program of this session, turned from the print of the kit.) -/
import Derived.Test.YtojklddddedoeaaPFnGluedPlansx0
import Derived.Test.YtojklddddedoeaaPFnGluedPlansx2
import Derived.Test.YtojklddddedoeaaPFnGluedPlansx7
import Derived.Test.YtojklddddedoeaaPFnGluedPlansx8
namespace Go.Proofs.Ytojklddddedoeaa.PFnGluedPlans
open Go.RowKit Go.Proofs.YtojklddddedoeaaW.PrintWords Go.Proofs.YtojklddddedoeaaW.PrintLast Go.Proofs.YtojklddddedoeaaW.PrintMore
attribute [local go_sem] max2_int min2_int max_two min_two max_three min_three max_four min_four   -- for this text's walks alone
set_option linter.unusedVariables false
set_option linter.unusedSimpArgs false

/-! ### impl_GluePlans: function 30 -/
/-- The rounds of carrying: what stands in the table, and what is left at both sides. -/
def impl_GluePlans.l0 : Nat → List (List Int) → List Int → List Int → Int → Int → Option (List (List Int))
 | 0, _, _, _, _, _ => none
 | k + 1, m, a, b, i, j => if i < (a.length : Int) then (if j < (b.length : Int) then (if 0 ≤ i then (if 0 ≤ j then (if i < (m.length : Int) then (if j < ((rd_L2 m i).length : Int) then (if rd (a.set i.toNat (wrap64 (rd a i - mn (rd a i) (rd b j)))) i = 0 then impl_GluePlans.l0 k (m.set i.toNat ((rd_L2 m i).set j.toNat (wrap64 (rd (rd_L2 m i) j + mn (rd a i) (rd b j))))) (a.set i.toNat (wrap64 (rd a i - mn (rd a i) (rd b j)))) (b.set j.toNat (wrap64 (rd b j - mn (rd a i) (rd b j)))) (wrap64 (i + 1)) j else impl_GluePlans.l0 k (m.set i.toNat ((rd_L2 m i).set j.toNat (wrap64 (rd (rd_L2 m i) j + mn (rd a i) (rd b j))))) (a.set i.toNat (wrap64 (rd a i - mn (rd a i) (rd b j)))) (b.set j.toNat (wrap64 (rd b j - mn (rd a i) (rd b j)))) i (wrap64 (j + 1))) else none) else none) else none) else none) else some m) else some m
def impl_GluePlans.c (k : Nat) (m : List (List Int)) (l0 l1 : List Int) : Option (List (List Int)) := (slices_Clone_int_int.f l0).bind fun a => (slices_Clone_int_int.f l1).bind fun b => impl_GluePlans.l0 k m a b 0 0
theorem impl_GluePlans.l0_mono : ∀ k m a b i j, LeO (impl_GluePlans.l0 k m a b i j) (impl_GluePlans.l0 (k + 1) m a b i j)
 | 0, _, _, _, _, _ => fun r h => by simp [impl_GluePlans.l0] at h
 | k + 1, m, a, b, i, j => by
  rw [impl_GluePlans.l0, impl_GluePlans.l0]
  exact LeO.ite (LeO.ite (LeO.ite (LeO.ite (LeO.ite (LeO.ite (LeO.ite (impl_GluePlans.l0_mono k _ _ _ _ _) (impl_GluePlans.l0_mono k _ _ _ _ _)) (LeO.none _)) (LeO.none _)) (LeO.none _)) (LeO.none _)) (LeO.refl _)) (LeO.refl _)
theorem impl_GluePlans.c_mono (m : List (List Int)) (l0 l1 : List Int) (k : Nat) : LeO (impl_GluePlans.c k m l0 l1) (impl_GluePlans.c (k + 1) m l0 l1) := by
 unfold impl_GluePlans.c
 exact LeO.bind (LeO.refl _) (fun _ => LeO.bind (LeO.refl _) (fun _ => impl_GluePlans.l0_mono k _ _ _ _ _))
/-- One row of rows that are apart has been written. -/
theorem impl_GluePlans.row_step {w w1 : World} {base : Nat} {P0_ : Nat → Prop} {g n cap : Nat} {m : List (List Int)} {r : List Int} {i : Int} {oki : Nat → Prop} {c : List Value} {u : Value} {q : Nat}
  (hu : c = [u]) (hoki : ∀ k, oki k → P0_ k ∧ k ≠ g) (hH : Kd.H (Kd.slice 3 (Kd.int .i64)) 24 w base P0_ (.slice (some ⟨g, 0, none⟩) n cap) m i oki c)
  (hq : u.ownBlock = some q) (hqo : oki q) {ok1 : Nat → Prop} (hr : Kd.R (Kd.int .i64) 3 w1 base ok1 u r) (hk : w.grownBy w1 (some q)) :
  Kd.S (Kd.slice 3 (Kd.int .i64)) 24 w1 base P0_ (.slice (some ⟨g, 0, none⟩) n cap) (m.set i.toNat r) := by
 have h1 := Kd.H_step (w1 := w1) hH (fun k _ hn hlt => hk.block k hlt (fun he => hn (by cases he; exact hqo)))
 refine Kd.H_back (okp := fun k => some k = u.ownBlock) h1 ?_ (fun k hk => by rw [hq] at hk; cases hk; exact hqo)
 rw [hu]
 exact Kd.M_row (Kd.R_tight rfl hr)
set_option maxHeartbeats 8000000 in
set_option maxRecDepth 100000 in
/-- Units are put: one cell of the table is greater by them. -/
theorem impl_GluePlans.put (Bo g cap n : Nat) (m : List (List Int)) (i j x : Int) (base : Nat) (ok : Nat → Prop) (w : World) (hBo : Boxed w Bo 27 (.slice (some ⟨g, 0, none⟩) n cap)) (hS : Kd.S (Kd.slice 3 (Kd.int .i64)) 24 w base ok (.slice (some ⟨g, 0, none⟩) n cap) m) (hi0 : 0 ≤ i) (hi : i < (m.length : Int)) (hj0 : 0 ≤ j) (hj : j < ((rd_L2 m i).length : Int)) :
  Calls Try.prog 109 #[.int .i64 i, .int .i64 j, .int .i64 x, .pointer (some ⟨Bo, 0, none⟩)] w fun e w' => e = .returned (.tuple #[]) ∧ Kd.S (Kd.slice 3 (Kd.int .i64)) 24 w' base ok (.slice (some ⟨g, 0, none⟩) n cap) (m.set i.toNat ((rd_L2 m i).set j.toNat (wrap64 (rd (rd_L2 m i) j + x)))) ∧ ∃ q, ok q ∧ base ≤ q ∧ w.grownBy w' (some q) := by
 have hn := (Kd.S_reads' hS).1
 obtain ⟨oki, c, hcl, hM, hcell, hoki, hH⟩ := Kd.S_lend hS [] i hi0 (by omega)
 obtain ⟨u, hu, hR⟩ := hM
 have hrow : m.getD i.toNat [] = rd_L2 m i := rfl
 rw [hrow] at hR
 obtain ⟨gr, cr, er, hbr, hlr, _⟩ := Kd.R_form hR (by omega)
 subst er
 subst hu
 have hcell0 := hcell 0 _ rfl
 rw [show i.toNat * (Kd.slice 3 (Kd.int .i64)).sz + 0 = i.toNat from by show i.toNat * 1 + 0 = _; omega] at hcell0
 obtain ⟨hx0, hf0⟩ := Kd.R_celln 0 hR j hj0 hj
 have hb := hBo.cell
 have HP := Kd.R_putg hR j (wrap64 (rd (rd_L2 m i) j + x))
 have hqo : oki gr := hR.1 _ rfl
 have hx1 : w.cell? ⟨gr, j.toNat, none⟩ = some (.int .i64 (rd (rd_L2 m i) j)) := hx0
 have HR := Aside0.mk hR
 have HH := Aside0.mk hH
 have HO := Aside0.mk hoki
 have HQ := Aside0.mk hqo
 have HBQ := Aside0.mk hbr
 have p1 := eq_true hi0
 have q1 := eq_true (show i < (n : Int) by omega)
 have p2 := eq_true hj0
 have q2 := eq_true hj
 clear hBo hS hi0 hi hj0 hj hn hcell hcl hR hH hoki hqo hbr hlr hrow hx0
 have HX1 := hx1
 have HC0 := hcell0
 clear hx1 hcell0
 obtain ⟨row, hrow⟩ : ∃ q_, q_ = rd_L2 m i := ⟨_, rfl⟩
 rw [← hrow] at HX1 HC0 HP q2 HR HH ⊢
 have Nrow := Aside0.mk hrow
 clear hrow
 go_enter Try.func109, Try.ntmps109
 go_wp2_with (first | ((with_reducible refine gate_store (t := 3) (p := 16) rfl ?_); refine store_event (t := 3) (p := 16) (v := ?vo_w8) (w1 := (w.setCell ⟨gr, j.toNat, none⟩ (.int .i64 (wrap64 (rd row j + x))))) ?hg ?ho ?hn ?hr ?_; (case ho => rfl); (case hg => rfl); (case hn => rfl); (case hr => first | (go_simp; done) | (go_simp; rfl)); intro w8 hw; have h8 := Aside0.mk hw; clear hw))
 go_end0
 refine ⟨rfl, ?_, gr, (HO.out _ HQ.out).1, HBQ.out, ?_⟩
 ·have hw := h8.out
  rw [hw]
  exact impl_GluePlans.row_step rfl HO.out HH.out rfl HQ.out HP.1 HP.2
 ·rw [h8.out]; exact HP.2
theorem impl_GluePlans.blk_drewN {w : World} {B : Nat} {t : TypeId} {v : Value} (h : Boxed w B t v) (m : Nat) : Boxed (w.drewN m) B t v := by
 have : (w.drewN m).heap = w.heap := rfl
 unfold Boxed; rw [this]; exact h
theorem impl_GluePlans.block_lt {w : World} {A : Option Addr} {n cap base : Nat} {ok : Nat → Prop} {l : List Int} (h : Kd.R (Kd.int .i64) 3 w base ok (.slice A n cap) l) (hp : 0 < l.length) : ∃ g, A = some ⟨g, 0, none⟩ ∧ base ≤ g ∧ ok g := by
 obtain ⟨g, c, e, hb, _⟩ := Kd.R_form h hp
 injection e with e1 e2 e3
 exact ⟨g, e1, hb, h.1 _ (by rw [e1]; rfl)⟩
set_option maxHeartbeats 8000000 in
set_option maxRecDepth 100000 in
/-- Carrying, with the putting that writes a table. -/
theorem impl_GluePlans.carry (k Bo g cap n base : Nat) (ok : Nat → Prop) (A0 : Option Addr) (c0 : Nat) (l0 : List Int) (A1 : Option Addr) (c1 : Nat) (l1 : List Int) (m r : List (List Int)) (w0 w : World) (hB : Below w0.heap.size w0 w) (hBo : Boxed w Bo 27 (.slice (some ⟨g, 0, none⟩) n cap)) (hS : Kd.S (Kd.slice 3 (Kd.int .i64)) 24 w base ok (.slice (some ⟨g, 0, none⟩) n cap) m) (hbase : w0.heap.size ≤ base) (hokB : ∀ k, ok k → k ≠ Bo) (hok : ∀ k, ok k → k < w.heap.size)
  (hr0 : Kd.C (Kd.int .i64) w A0 l0.length l0) (hc0 : l0.length ≤ c0) (hr1 : Kd.C (Kd.int .i64) w A1 l1.length l1) (hc1 : l1.length ≤ c1) (h : impl_GluePlans.c k m l0 l1 = some r) :
  Calls Try.prog 108 #[.slice A0 l0.length c0, .slice A1 l1.length c1, .func (.func 109) #[] #[.pointer (some ⟨Bo, 0, none⟩)]] w fun e w' => e = .returned (.tuple #[]) ∧ Kd.S (Kd.slice 3 (Kd.int .i64)) 24 w' base ok (.slice (some ⟨g, 0, none⟩) n cap) r ∧ Below w0.heap.size w0 w' ∧ Kept w w' ok := by
 unfold impl_GluePlans.c at h
 replace h := Option.bind_eq_some_iff.mp h
 obtain ⟨a, ha, h⟩ := h
 replace h := Option.bind_eq_some_iff.mp h
 obtain ⟨b, hb, h⟩ := h
 have HA := Aside0.mk ha
 have HB := Aside0.mk hb
 have HH := Aside0.mk h
 have HR0 := Aside0.mk hr0
 have HC0 := Aside0.mk hc0
 have HR1 := Aside0.mk hr1
 have HC1 := Aside0.mk hc1
 have HO := Aside0.mk hS
 have HBo := Aside0.mk hBo
 have HBW := Aside0.mk hB
 have HBA := Aside0.mk hbase
 have HOB := Aside0.mk hokB
 have HOK := Aside0.mk hok
 clear ha hb h hr0 hc0 hr1 hc1 hS hBo hB hbase hokB hok
 go_enter Try.func108, Try.ntmps108
 go_wp2_with (first
  | (go_at_call 170; (with_reducible refine (slices_Clone_int_int.calls A0 c0 l0 a _ ?side1 ?side2 HA.out).mono ?_); (case side1 => repeat (first | exact HR0.out | (with_reducible refine Kd.C_alloc ?_ _) | (with_reducible refine Kd.C_drewN ?_ _) | (with_reducible refine Kd.C_drew ?_))); (case side2 => exact HC0.out); rintro e w1 ⟨va, rfl, hA, hb1⟩; have HVA := Aside0.mk hA; have HB1 := Aside0.mk hb1; clear hA hb1)
  | (go_at_call 170; (with_reducible refine (slices_Clone_int_int.calls A1 c1 l1 b _ ?side1 ?side2 HB.out).mono ?_); (case side1 => exact Kd.C_below HR1.out HB1.out); (case side2 => exact HC1.out); rintro e w2 ⟨vb, rfl, hB, hb2⟩; have HVB := Aside0.mk hB; have HB2 := Aside0.mk hb2; clear hB hb2))
 obtain ⟨NA, hNA⟩ : ∃ q_, q_ = w.heap.size := ⟨_, rfl⟩
 obtain ⟨NB, hNB⟩ : ∃ q_, q_ = w1.heap.size := ⟨_, rfl⟩
 obtain ⟨NC, hNC⟩ : ∃ q_, q_ = w2.heap.size := ⟨_, rfl⟩
 have LA : w.heap.size ≤ NA := by omega
 have LA' : NA ≤ w.heap.size := by omega
 have LB : NA ≤ NB := by have := HB1.out.size; omega
 have LC : NB ≤ NC := by have := HB2.out.size; omega
 have HVA2 := Aside0.mk (show Kd.R (Kd.int .i64) 3 w2 w.heap.size (fun k => NA ≤ k ∧ k < NB) va a from Kd.R_below (Kd.R_mono (Kd.R_bound HVA.out) (fun k hk => ⟨by have := hk.2.1; omega, by have := hk.2.2.1; omega⟩)) HB2.out)
 have HVB2 := Aside0.mk (show Kd.R (Kd.int .i64) 3 w2 w.heap.size (fun k => NB ≤ k ∧ k < NC) vb b from Kd.R_lower (Kd.R_mono (Kd.R_bound HVB.out) (fun k hk => ⟨by have := hk.2.1; omega, by have := hk.2.2.1; omega⟩)) HB1.out.size)
 have HK0 := Aside0.mk (Kept.of_below (HB1.out.trans (HB2.out.mono HB1.out.size)) ok)
 have HW0 := Aside0.mk ((HBW.out.trans (HB1.out.mono HBW.out.size)).trans (HB2.out.mono (Nat.le_trans HBW.out.size HB1.out.size)))
 have HO2 := Aside0.mk (Kd.S_below (Kd.S_below HO.out HB1.out) HB2.out)
 have HOL := Aside0.mk (show ∀ k, ok k → k < NA from fun k hk => by have := HOK.out k hk; omega)
 clear HVA HVB HB1 HB2 hNA hNB hNC HO HOK HR0 HC0 HR1 HC1
 obtain ⟨Aa, ca, ea⟩ := Kd.R_slice HVA2.out
 subst ea
 obtain ⟨Ab, cb, eb⟩ := Kd.R_slice HVB2.out
 subst eb
 go_loopg [6, 7] k (fun kq v6 v7 wr => ∃ (m' : List (List Int)) (a' b' : List Int) (i j : Int), v6 = .int .i64 i ∧ v7 = .int .i64 j ∧ Aside0 (a'.length = a.length) ∧ Aside0 (b'.length = b.length) ∧ Aside0 (impl_GluePlans.l0 kq m' a' b' i j = some r) ∧ Aside0 (kq ≤ k) ∧ Aside0 (Kd.S (Kd.slice 3 (Kd.int .i64)) 24 wr base ok (.slice (some ⟨g, 0, none⟩) n cap) m') ∧ Aside0 (Kd.R (Kd.int .i64) 3 wr w.heap.size (fun k => NA ≤ k ∧ k < NB) (.slice Aa a.length ca) a') ∧ Aside0 (Kd.R (Kd.int .i64) 3 wr w.heap.size (fun k => NB ≤ k ∧ k < NC) (.slice Ab b.length cb) b') ∧ Aside0 (Below w0.heap.size w0 wr) ∧ Aside0 (Kept w wr ok))
 case atStart => exact ⟨m, a, b, 0, 0, rfl, rfl, ⟨rfl⟩, ⟨rfl⟩, HH, ⟨Nat.le_refl _⟩, HO2, HVA2, HVB2, HW0, HK0⟩
 case round =>
  clear HH HO2 HVA2 HVB2 HW0 HK0
  obtain ⟨m', a', b', i, j, rfl, rfl, HLA, HLB, HQ, HKQ, HO, HVA, HVB, HW, HK⟩ := hrel
  cases gk with
  | zero => exact absurd HQ.out (by simp [impl_GluePlans.l0])
  | succ k1 =>
   have H := HQ.out
   clear HQ
   simp only [impl_GluePlans.l0] at H
   rw [HLA.out, HLB.out] at H
   by_cases ci : i < (a.length : Int)
   ·rw [if_pos ci] at H
    by_cases cj : j < (b.length : Int)
    ·rw [if_pos cj] at H
     by_cases ci0 : 0 ≤ i
     ·rw [if_pos ci0] at H
      by_cases cj0 : 0 ≤ j
      ·rw [if_pos cj0] at H
       by_cases cm : i < (m'.length : Int)
       ·rw [if_pos cm] at H
        by_cases cr : j < ((rd_L2 m' i).length : Int)
        ·rw [if_pos cr] at H
         have HM := Aside0.mk cm
         have HRW := Aside0.mk cr
         have HI := Aside0.mk ci
         have HJ := Aside0.mk cj
         have HI0 := Aside0.mk ci0
         have HJ0 := Aside0.mk cj0
         obtain ⟨ga, eA, hbA, hoA⟩ := impl_GluePlans.block_lt HVA.out (by have := HLA.out; omega)
         obtain ⟨gb, eB, hbB, hoB⟩ := impl_GluePlans.block_lt HVB.out (by have := HLB.out; omega)
         subst eA
         subst eB
         obtain ⟨hxa, hfa⟩ := Kd.R_celln 0 HVA.out i ci0 ci
         obtain ⟨hxb, hfb⟩ := Kd.R_celln 0 HVB.out j cj0 cj
         replace hxa : wr.cell? ⟨ga, i.toNat, none⟩ = some (.int .i64 (rd a' i)) := hxa
         replace hxb : wr.cell? ⟨gb, j.toNat, none⟩ = some (.int .i64 (rd b' j)) := hxb
         have HGA := Aside0.mk (show NA ≤ ga ∧ ga < NB from hoA)
         have HGB := Aside0.mk (show NB ≤ gb ∧ gb < NC from hoB)
         clear hbA hoA hbB hoB
         obtain ⟨x, hx⟩ : ∃ q_, q_ = mn (rd a' i) (rd b' j) := ⟨_, rfl⟩
         rw [← hx] at H
         obtain ⟨y, hy⟩ : ∃ q_, q_ = a'.set i.toNat (wrap64 (rd a' i - x)) := ⟨_, rfl⟩
         rw [← hy] at H
         obtain ⟨z, hz⟩ : ∃ q_, q_ = b'.set j.toNat (wrap64 (rd b' j - x)) := ⟨_, rfl⟩
         rw [← hz] at H
         obtain ⟨m2, hm2⟩ : ∃ q_, q_ = m'.set i.toNat ((rd_L2 m' i).set j.toNat (wrap64 (rd (rd_L2 m' i) j + x))) := ⟨_, rfl⟩
         rw [← hm2] at H
         have Nx := Aside0.mk hx
         have Ny := Aside0.mk hy
         have Nz := Aside0.mk hz
         have Nm2 := Aside0.mk hm2
         clear hx hy hz hm2
         have hb := ((HK.out.2 Bo HBo.out.lt (fun h_ => HOB.out Bo h_ rfl)).trans HBo.out : Boxed wr Bo 27 (.slice (some ⟨g, 0, none⟩) n cap))
         have HBX := Aside0.mk hb
         clear hb cm cr
         replace ci := eq_true ci
         replace cj := eq_true cj
         replace ci0 := eq_true ci0
         replace cj0 := eq_true cj0
         by_cases cz : rd y i = 0
         ·rw [if_pos cz] at H
          have H' := Aside0.mk H
          clear H
          have cz0 : (rd y i == 0) = true := beq_iff_eq.mpr cz
          clear cz
          go_wp2
          go_quiet (fail)
          rw [show (if rd b' j < rd a' i then rd b' j else rd a' i) = x from Nx.out.symm]
          go_wp2_with (first | (go_at_call 109; refine (impl_GluePlans.put Bo g cap n m' i j x base ok _ (impl_GluePlans.blk_drewN HBX.out nq) (Kd.S_drewN HO.out nq) HI0.out HM.out HJ0.out HRW.out).mono ?_; rintro e w6 ⟨rfl, hS6, q, hqo, hqb, hg⟩; have n0_ := Aside0.mk (show Kd.S (Kd.slice 3 (Kd.int .i64)) 24 w6 base ok (.slice (some ⟨g, 0, none⟩) n cap) m2 from by rw [Nm2.out]; exact hS6); have n1_ := Aside0.mk (Kd.R_grown (Kd.R_drewN HVA.out nq) hg (fun k hk e_ => by cases e_; have := HOL.out _ hqo; omega)); have n2_ := Aside0.mk (Kd.R_grown (Kd.R_drewN HVB.out nq) hg (fun k hk e_ => by cases e_; have := HOL.out _ hqo; omega)); have n3_ := Aside0.mk (Below.grown (pw_below_drewN HW.out nq) hg (by have := HW.out.size; first | exact this | (simp; omega)) (fun k e_ => by cases e_; have := HBA.out; omega)); have n4_ := Aside0.mk (Kept.of_grown hg (Kept.drewN HK.out nq) (fun k e_ => .inl (by cases e_; exact hqo))); clear HO HVA HVB HW HK hS6 hg hqo hqb; have HO := n0_; have HVA := n1_; have HVB := n2_; have HW := n3_; have HK := n4_; clear n0_ n1_ n2_ n3_ n4_; have HP := Kd.R_putg HVA.out i (wrap64 (rd a' i - x)); obtain ⟨hxd, hfd⟩ := Kd.R_celln 0 HVA.out i HI0.out HI.out; replace hxd : w6.cell? ⟨ga, i.toNat, none⟩ = some (.int .i64 (rd a' i)) := hxd) | ((with_reducible refine gate_store (t := 3) (p := 43) rfl ?_); refine store_event (t := 3) (p := 43) (v := ?vo_1) (w1 := (w6.setCell ⟨ga, i.toNat, none⟩ (.int .i64 (wrap64 (rd a' i - x))))) ?hg ?ho ?hn ?hr ?_; (case ho => rfl); (case hg => rfl); (case hn => rfl); (case hr => first | (go_simp; done) | (go_simp; rfl)); intro w8 hw; have hg : w6.grownBy w8 (some ga) := (by rw [hw]; exact HP.2); have hp_ : Kd.R (Kd.int .i64) 3 w8 w.heap.size (fun k => NA ≤ k ∧ k < NB) (.slice (some ⟨ga, 0, none⟩) a.length ca) y := (by rw [hw, Ny.out]; exact HP.1); clear HP; have n0_ := Aside0.mk (Kd.S_grown HO.out hg (fun k hk e_ => by cases e_; have := HOL.out _ hk; have := HGA.out; omega)); have n1_ := Aside0.mk (Kd.R_grown HVB.out hg (fun k hk e_ => by cases e_; have := HGA.out; omega)); have n2_ := Aside0.mk (Below.grown HW.out hg (by have := HW.out.size; omega) (fun k e_ => by cases e_; have := HBW.out.size; have := HGA.out; omega)); have n3_ := Aside0.mk (Kept.of_grown hg HK.out (fun k e_ => .inr (by cases e_; have := HGA.out; omega))); have n4_ := Aside0.mk hp_; clear HO HVA HVB HW HK; have HO := n0_; have HVB := n1_; have HW := n2_; have HK := n3_; have HVA := n4_; clear n0_ n1_ n2_ n3_ n4_ hg hw hp_; have HP := Kd.R_putg HVB.out j (wrap64 (rd b' j - x)); obtain ⟨hxc, hfc⟩ := Kd.R_celln 0 HVB.out j HJ0.out HJ.out; replace hxc : w8.cell? ⟨gb, j.toNat, none⟩ = some (.int .i64 (rd b' j)) := hxc) | ((with_reducible refine gate_store (t := 3) (p := 50) rfl ?_); refine store_event (t := 3) (p := 50) (v := ?vo_2) (w1 := (w8.setCell ⟨gb, j.toNat, none⟩ (.int .i64 (wrap64 (rd b' j - x))))) ?hg ?ho ?hn ?hr ?_; (case ho => rfl); (case hg => rfl); (case hn => rfl); (case hr => first | (go_simp; done) | (go_simp; rfl)); intro w9 hw; have hg : w8.grownBy w9 (some gb) := (by rw [hw]; exact HP.2); have hp_ : Kd.R (Kd.int .i64) 3 w9 w.heap.size (fun k => NB ≤ k ∧ k < NC) (.slice (some ⟨gb, 0, none⟩) b.length cb) z := (by rw [hw, Nz.out]; exact HP.1); clear HP; have n0_ := Aside0.mk (Kd.S_grown HO.out hg (fun k hk e_ => by cases e_; have := HOL.out _ hk; have := HGB.out; omega)); have n1_ := Aside0.mk (Kd.R_grown HVA.out hg (fun k hk e_ => by cases e_; have := HGB.out; omega)); have n2_ := Aside0.mk (Below.grown HW.out hg (by have := HW.out.size; omega) (fun k e_ => by cases e_; have := HBW.out.size; have := HGB.out; omega)); have n3_ := Aside0.mk (Kept.of_grown hg HK.out (fun k e_ => .inr (by cases e_; have := HGB.out; omega))); have n4_ := Aside0.mk hp_; clear HO HVA HVB HW HK; have HO := n0_; have HVA := n1_; have HW := n2_; have HK := n3_; have HVB := n4_; clear n0_ n1_ n2_ n3_ n4_ hg hw hp_; obtain ⟨hxc, hfc⟩ := Kd.R_celln 0 HVA.out i HI0.out HI.out; replace hxc : w9.cell? ⟨ga, i.toNat, none⟩ = some (.int .i64 (rd y i)) := hxc))
          go_roundg k1
          case measure => have := HKQ.out; omega
          case rel => exact ⟨m2, y, z, (wrap64 (i + 1)), j, (by first | rfl | (simp; done) | (simp [*]; done)), (by first | rfl | (simp; done) | (simp [*]; done)), ⟨by rw [Ny.out, List.length_set]; exact HLA.out⟩, ⟨by rw [Nz.out, List.length_set]; exact HLB.out⟩, H', ⟨by have := HKQ.out; omega⟩, HO, HVA, HVB, HW, HK⟩
         ·rw [if_neg cz] at H
          have H' := Aside0.mk H
          clear H
          have cz0 : (rd y i == 0) = false := beq_eq_false_iff_ne.mpr cz
          clear cz
          go_wp2
          go_quiet (fail)
          rw [show (if rd b' j < rd a' i then rd b' j else rd a' i) = x from Nx.out.symm]
          go_wp2_with (first | (go_at_call 109; refine (impl_GluePlans.put Bo g cap n m' i j x base ok _ (impl_GluePlans.blk_drewN HBX.out nq) (Kd.S_drewN HO.out nq) HI0.out HM.out HJ0.out HRW.out).mono ?_; rintro e w6 ⟨rfl, hS6, q, hqo, hqb, hg⟩; have n0_ := Aside0.mk (show Kd.S (Kd.slice 3 (Kd.int .i64)) 24 w6 base ok (.slice (some ⟨g, 0, none⟩) n cap) m2 from by rw [Nm2.out]; exact hS6); have n1_ := Aside0.mk (Kd.R_grown (Kd.R_drewN HVA.out nq) hg (fun k hk e_ => by cases e_; have := HOL.out _ hqo; omega)); have n2_ := Aside0.mk (Kd.R_grown (Kd.R_drewN HVB.out nq) hg (fun k hk e_ => by cases e_; have := HOL.out _ hqo; omega)); have n3_ := Aside0.mk (Below.grown (pw_below_drewN HW.out nq) hg (by have := HW.out.size; first | exact this | (simp; omega)) (fun k e_ => by cases e_; have := HBA.out; omega)); have n4_ := Aside0.mk (Kept.of_grown hg (Kept.drewN HK.out nq) (fun k e_ => .inl (by cases e_; exact hqo))); clear HO HVA HVB HW HK hS6 hg hqo hqb; have HO := n0_; have HVA := n1_; have HVB := n2_; have HW := n3_; have HK := n4_; clear n0_ n1_ n2_ n3_ n4_; have HP := Kd.R_putg HVA.out i (wrap64 (rd a' i - x)); obtain ⟨hxd, hfd⟩ := Kd.R_celln 0 HVA.out i HI0.out HI.out; replace hxd : w6.cell? ⟨ga, i.toNat, none⟩ = some (.int .i64 (rd a' i)) := hxd) | ((with_reducible refine gate_store (t := 3) (p := 43) rfl ?_); refine store_event (t := 3) (p := 43) (v := ?vo_3) (w1 := (w6.setCell ⟨ga, i.toNat, none⟩ (.int .i64 (wrap64 (rd a' i - x))))) ?hg ?ho ?hn ?hr ?_; (case ho => rfl); (case hg => rfl); (case hn => rfl); (case hr => first | (go_simp; done) | (go_simp; rfl)); intro w8 hw; have hg : w6.grownBy w8 (some ga) := (by rw [hw]; exact HP.2); have hp_ : Kd.R (Kd.int .i64) 3 w8 w.heap.size (fun k => NA ≤ k ∧ k < NB) (.slice (some ⟨ga, 0, none⟩) a.length ca) y := (by rw [hw, Ny.out]; exact HP.1); clear HP; have n0_ := Aside0.mk (Kd.S_grown HO.out hg (fun k hk e_ => by cases e_; have := HOL.out _ hk; have := HGA.out; omega)); have n1_ := Aside0.mk (Kd.R_grown HVB.out hg (fun k hk e_ => by cases e_; have := HGA.out; omega)); have n2_ := Aside0.mk (Below.grown HW.out hg (by have := HW.out.size; omega) (fun k e_ => by cases e_; have := HBW.out.size; have := HGA.out; omega)); have n3_ := Aside0.mk (Kept.of_grown hg HK.out (fun k e_ => .inr (by cases e_; have := HGA.out; omega))); have n4_ := Aside0.mk hp_; clear HO HVA HVB HW HK; have HO := n0_; have HVB := n1_; have HW := n2_; have HK := n3_; have HVA := n4_; clear n0_ n1_ n2_ n3_ n4_ hg hw hp_; have HP := Kd.R_putg HVB.out j (wrap64 (rd b' j - x)); obtain ⟨hxc, hfc⟩ := Kd.R_celln 0 HVB.out j HJ0.out HJ.out; replace hxc : w8.cell? ⟨gb, j.toNat, none⟩ = some (.int .i64 (rd b' j)) := hxc) | ((with_reducible refine gate_store (t := 3) (p := 50) rfl ?_); refine store_event (t := 3) (p := 50) (v := ?vo_4) (w1 := (w8.setCell ⟨gb, j.toNat, none⟩ (.int .i64 (wrap64 (rd b' j - x))))) ?hg ?ho ?hn ?hr ?_; (case ho => rfl); (case hg => rfl); (case hn => rfl); (case hr => first | (go_simp; done) | (go_simp; rfl)); intro w9 hw; have hg : w8.grownBy w9 (some gb) := (by rw [hw]; exact HP.2); have hp_ : Kd.R (Kd.int .i64) 3 w9 w.heap.size (fun k => NB ≤ k ∧ k < NC) (.slice (some ⟨gb, 0, none⟩) b.length cb) z := (by rw [hw, Nz.out]; exact HP.1); clear HP; have n0_ := Aside0.mk (Kd.S_grown HO.out hg (fun k hk e_ => by cases e_; have := HOL.out _ hk; have := HGB.out; omega)); have n1_ := Aside0.mk (Kd.R_grown HVA.out hg (fun k hk e_ => by cases e_; have := HGB.out; omega)); have n2_ := Aside0.mk (Below.grown HW.out hg (by have := HW.out.size; omega) (fun k e_ => by cases e_; have := HBW.out.size; have := HGB.out; omega)); have n3_ := Aside0.mk (Kept.of_grown hg HK.out (fun k e_ => .inr (by cases e_; have := HGB.out; omega))); have n4_ := Aside0.mk hp_; clear HO HVA HVB HW HK; have HO := n0_; have HVA := n1_; have HW := n2_; have HK := n3_; have HVB := n4_; clear n0_ n1_ n2_ n3_ n4_ hg hw hp_; obtain ⟨hxc, hfc⟩ := Kd.R_celln 0 HVA.out i HI0.out HI.out; replace hxc : w9.cell? ⟨ga, i.toNat, none⟩ = some (.int .i64 (rd y i)) := hxc))
          go_roundg k1
          case measure => have := HKQ.out; omega
          case rel => exact ⟨m2, y, z, i, (wrap64 (j + 1)), (by first | rfl | (simp; done) | (simp [*]; done)), (by first | rfl | (simp; done) | (simp [*]; done)), ⟨by rw [Ny.out, List.length_set]; exact HLA.out⟩, ⟨by rw [Nz.out, List.length_set]; exact HLB.out⟩, H', ⟨by have := HKQ.out; omega⟩, HO, HVA, HVB, HW, HK⟩
        ·rw [if_neg cr] at H
         exact absurd H (by simp)
       ·rw [if_neg cm] at H
        exact absurd H (by simp)
      ·rw [if_neg cj0] at H
       exact absurd H (by simp)
     ·rw [if_neg ci0] at H
      exact absurd H (by simp)
    ·rw [if_neg cj] at H
     obtain rfl := Option.some.inj H
     clear H
     replace ci := eq_true ci
     replace cj := eq_false cj
     go_wp2
     go_end0
     exact ⟨rfl, HO.out, HW.out, HK.out⟩
   ·rw [if_neg ci] at H
    obtain rfl := Option.some.inj H
    clear H
    replace ci := eq_false ci
    go_wp2
    go_end0
    exact ⟨rfl, HO.out, HW.out, HK.out⟩
/-- The rounds over the columns. -/
def impl_GluePlans.l1 : Nat → List (List Int) → List (List Int) → List (List Int) → Int → Option (List (List Int))
 | 0, _, _, _, _ => none
 | k + 1, t, n, m, i => if i < (t.length : Int) then (if 0 ≤ i then (if i < (n.length : Int) then ((impl_GluePlans.c k m (rd_L2 t i) (rd_L2 n i)).bind fun m' => impl_GluePlans.l1 k t n m' (wrap64 (i + 1))) else none) else none) else some m
def impl_GluePlans.f (k : Nat) (l0 l1 : List (List Int)) : Option (List (List Int) × Bool) := (impl_isPlan.f k l0).bind fun p => if p = true then ((impl_isPlan.f k l1).bind fun q => if q = true then ((impl_turn.f k l0).bind fun t => (impl_rowSums.f k t).bind fun s => (impl_rowSums.f k l1).bind fun s2 => (slices_Equal_int_int.f k s s2).bind fun e => if e = true then ((impl_square.f k (l0.length : Int) 0).bind fun z => if 0 < z.length then ((impl_GluePlans.l1 k t l1 z 0).bind fun o => (impl_isPlan.f k o).bind fun b => if b = true then some (o, true) else some ([], false)) else none) else some ([], false)) else some ([], false)) else some ([], false)
theorem impl_GluePlans.l1_mono : ∀ k t n m i, LeO (impl_GluePlans.l1 k t n m i) (impl_GluePlans.l1 (k + 1) t n m i)
 | 0, _, _, _, _ => fun r h => by simp [impl_GluePlans.l1] at h
 | k + 1, t, n, m, i => by
  rw [impl_GluePlans.l1, impl_GluePlans.l1]
  exact LeO.ite (LeO.ite (LeO.ite (LeO.bind (impl_GluePlans.c_mono _ _ _ k) (fun _ => impl_GluePlans.l1_mono k _ _ _ _)) (LeO.none _)) (LeO.none _)) (LeO.refl _)
theorem impl_GluePlans.mono : ∀ a0 a1 k, LeO (impl_GluePlans.f k a0 a1) (impl_GluePlans.f (k + 1) a0 a1) := by
 intro a0 a1 k
 unfold impl_GluePlans.f
 exact LeO.bind (impl_isPlan.mono _ _) (fun _ => LeO.ite (LeO.bind (impl_isPlan.mono _ _) (fun _ => LeO.ite (LeO.bind (impl_turn.mono _ _) (fun _ => LeO.bind (impl_rowSums.mono _ _) (fun _ => LeO.bind (impl_rowSums.mono _ _) (fun _ => LeO.bind (slices_Equal_int_int.mono _ _ _) (fun _ => LeO.ite (LeO.bind (impl_square.mono _ _ _) (fun _ => LeO.ite (LeO.bind (impl_GluePlans.l1_mono k _ _ _ _) (fun _ => LeO.bind (impl_isPlan.mono _ _) (fun _ => LeO.refl _))) (LeO.none _))) (LeO.refl _)))))) (LeO.refl _))) (LeO.refl _))
set_option maxHeartbeats 8000000 in
set_option maxRecDepth 100000 in
theorem impl_GluePlans.calls (k : Nat) (A0 : Option Addr) (c0 : Nat) (l0 : List (List Int)) (A1 : Option Addr) (c1 : Nat) (l1 : List (List Int)) (r1 : List (List Int)) (r2 : Bool) (w : World) (hr0 : Kd.C (Kd.slice 3 (Kd.int .i64)) w A0 l0.length l0) (hc0 : l0.length ≤ c0) (hr1 : Kd.C (Kd.slice 3 (Kd.int .i64)) w A1 l1.length l1) (hc1 : l1.length ≤ c1) (h : impl_GluePlans.f k l0 l1 = some (r1, r2)) :
  Calls Try.prog 30 #[.slice A0 l0.length c0, .slice A1 l1.length c1] w fun e w' => ∃ v0_ : Value, e = .returned (.tuple #[v0_, .bool r2]) ∧ Kd.S (Kd.slice 3 (Kd.int .i64)) 24 w' w.heap.size (fun _ => True) v0_ r1 ∧ Below w.heap.size w w' := by
 have HR0 := Aside0.mk hr0
 have HC0 := Aside0.mk hc0
 have HR1 := Aside0.mk hr1
 have HC1 := Aside0.mk hc1
 have HB := Aside0.mk (Below.refl w.heap.size w)
 clear hr0 hc0 hr1 hc1
 have H := h
 clear h
 unfold impl_GluePlans.f at H
 replace H := Option.bind_eq_some_iff.mp H
 obtain ⟨p, E10, H⟩ := H
 by_cases cp : ¬ p = true
 ·rw [if_neg cp] at H
  replace cp := Bool.eq_false_iff.mpr cp
  subst cp
  have E1 := Aside0.mk E10
  clear E10
  simp only [Option.some.injEq, Prod.mk.injEq] at H
  obtain ⟨rfl, rfl⟩ := H
  go_enter Try.func30, Try.ntmps30
  go_wp2_with (first | (go_at_call 85; (with_reducible refine (impl_isPlan.calls k _ _ l0 false _ ?side1 ?side2 E1.out).mono ?_); (case side1 => repeat (first | exact (Kd.C_below HR0.out HB.out) | (with_reducible refine Kd.C_alloc ?_ _) | (with_reducible refine Kd.C_drewN ?_ _) | (with_reducible refine Kd.C_drew ?_))); (case side2 => exact HC0.out); rintro e wp_ ⟨rfl, hb⟩; (try (have n_ := Aside0.mk (Kd.S_below (by (with_reducible repeat (first | apply Kd.S_alloc | apply Kd.S_drewN | apply Kd.S_drew)); exact HT.out) hb); clear HT; have HT := n_; clear n_)); (try (have n_ := Aside0.mk (Kd.S_below (by (with_reducible repeat (first | apply Kd.S_alloc | apply Kd.S_drewN | apply Kd.S_drew)); exact HZ.out) hb); clear HZ; have HZ := n_; clear n_)); (try (have n_ := Aside0.mk (Kd.R_below (by (with_reducible repeat (first | apply Kd.R_alloc | apply Kd.R_drewN | apply Kd.R_drew)); exact HS1.out) hb); clear HS1; have HS1 := n_; clear n_)); (try (have n_ := Aside0.mk (Kd.R_below (by (with_reducible repeat (first | apply Kd.R_alloc | apply Kd.R_drewN | apply Kd.R_drew)); exact HS2.out) hb); clear HS2; have HS2 := n_; clear n_)); (try (have n_ := Aside0.mk (show Boxed _ _ _ _ from (hb.block _ HF.out.lt).trans HF.out); clear HF; have HF := n_; clear n_)); have n_ := Aside0.mk (below_step (by repeat (first | (with_reducible first | exact HB.out | apply below_alloc | apply pw_below_drewN | apply below_drew1) | exact HB.out)) hb); clear HB; have HB := n_; clear n_; clear hb))
  go_ret2
  exact ⟨_, by first | rfl | (simp; done) | (simp [*]; done), Kd.S_nil _ _ _ _ _, by repeat (first | (with_reducible first | exact HB.out | apply below_alloc | apply pw_below_drewN | apply below_drew1) | exact HB.out)⟩
 replace cp := Decidable.not_not.mp cp
 rw [if_pos cp] at H
 subst cp
 have E1 := Aside0.mk E10
 clear E10
 replace H := Option.bind_eq_some_iff.mp H
 obtain ⟨q, E20, H⟩ := H
 by_cases cq : ¬ q = true
 ·rw [if_neg cq] at H
  replace cq := Bool.eq_false_iff.mpr cq
  subst cq
  have E2 := Aside0.mk E20
  clear E20
  simp only [Option.some.injEq, Prod.mk.injEq] at H
  obtain ⟨rfl, rfl⟩ := H
  go_enter Try.func30, Try.ntmps30
  go_wp2_with (first | (go_at_call 85; (with_reducible refine (impl_isPlan.calls k _ _ l0 true _ ?side1 ?side2 E1.out).mono ?_); (case side1 => repeat (first | exact (Kd.C_below HR0.out HB.out) | (with_reducible refine Kd.C_alloc ?_ _) | (with_reducible refine Kd.C_drewN ?_ _) | (with_reducible refine Kd.C_drew ?_))); (case side2 => exact HC0.out); rintro e wp_ ⟨rfl, hb⟩; (try (have n_ := Aside0.mk (Kd.S_below (by (with_reducible repeat (first | apply Kd.S_alloc | apply Kd.S_drewN | apply Kd.S_drew)); exact HT.out) hb); clear HT; have HT := n_; clear n_)); (try (have n_ := Aside0.mk (Kd.S_below (by (with_reducible repeat (first | apply Kd.S_alloc | apply Kd.S_drewN | apply Kd.S_drew)); exact HZ.out) hb); clear HZ; have HZ := n_; clear n_)); (try (have n_ := Aside0.mk (Kd.R_below (by (with_reducible repeat (first | apply Kd.R_alloc | apply Kd.R_drewN | apply Kd.R_drew)); exact HS1.out) hb); clear HS1; have HS1 := n_; clear n_)); (try (have n_ := Aside0.mk (Kd.R_below (by (with_reducible repeat (first | apply Kd.R_alloc | apply Kd.R_drewN | apply Kd.R_drew)); exact HS2.out) hb); clear HS2; have HS2 := n_; clear n_)); (try (have n_ := Aside0.mk (show Boxed _ _ _ _ from (hb.block _ HF.out.lt).trans HF.out); clear HF; have HF := n_; clear n_)); have n_ := Aside0.mk (below_step (by repeat (first | (with_reducible first | exact HB.out | apply below_alloc | apply pw_below_drewN | apply below_drew1) | exact HB.out)) hb); clear HB; have HB := n_; clear n_; clear hb) | (go_at_call 85; (with_reducible refine (impl_isPlan.calls k _ _ l1 false _ ?side1 ?side2 E2.out).mono ?_); (case side1 => repeat (first | exact (Kd.C_below HR1.out HB.out) | (with_reducible refine Kd.C_alloc ?_ _) | (with_reducible refine Kd.C_drewN ?_ _) | (with_reducible refine Kd.C_drew ?_))); (case side2 => exact HC1.out); rintro e wp_ ⟨rfl, hb⟩; (try (have n_ := Aside0.mk (Kd.S_below (by (with_reducible repeat (first | apply Kd.S_alloc | apply Kd.S_drewN | apply Kd.S_drew)); exact HT.out) hb); clear HT; have HT := n_; clear n_)); (try (have n_ := Aside0.mk (Kd.S_below (by (with_reducible repeat (first | apply Kd.S_alloc | apply Kd.S_drewN | apply Kd.S_drew)); exact HZ.out) hb); clear HZ; have HZ := n_; clear n_)); (try (have n_ := Aside0.mk (Kd.R_below (by (with_reducible repeat (first | apply Kd.R_alloc | apply Kd.R_drewN | apply Kd.R_drew)); exact HS1.out) hb); clear HS1; have HS1 := n_; clear n_)); (try (have n_ := Aside0.mk (Kd.R_below (by (with_reducible repeat (first | apply Kd.R_alloc | apply Kd.R_drewN | apply Kd.R_drew)); exact HS2.out) hb); clear HS2; have HS2 := n_; clear n_)); (try (have n_ := Aside0.mk (show Boxed _ _ _ _ from (hb.block _ HF.out.lt).trans HF.out); clear HF; have HF := n_; clear n_)); have n_ := Aside0.mk (below_step (by repeat (first | (with_reducible first | exact HB.out | apply below_alloc | apply pw_below_drewN | apply below_drew1) | exact HB.out)) hb); clear HB; have HB := n_; clear n_; clear hb))
  go_ret2
  exact ⟨_, by first | rfl | (simp; done) | (simp [*]; done), Kd.S_nil _ _ _ _ _, by repeat (first | (with_reducible first | exact HB.out | apply below_alloc | apply pw_below_drewN | apply below_drew1) | exact HB.out)⟩
 replace cq := Decidable.not_not.mp cq
 rw [if_pos cq] at H
 subst cq
 have E2 := Aside0.mk E20
 clear E20
 replace H := Option.bind_eq_some_iff.mp H
 obtain ⟨t, E30, H⟩ := H
 have E3 := Aside0.mk E30
 clear E30
 replace H := Option.bind_eq_some_iff.mp H
 obtain ⟨s, E40, H⟩ := H
 have E4 := Aside0.mk E40
 clear E40
 replace H := Option.bind_eq_some_iff.mp H
 obtain ⟨s2, E50, H⟩ := H
 have E5 := Aside0.mk E50
 clear E50
 replace H := Option.bind_eq_some_iff.mp H
 obtain ⟨e, E60, H⟩ := H
 by_cases ce : ¬ e = true
 ·rw [if_neg ce] at H
  replace ce := Bool.eq_false_iff.mpr ce
  subst ce
  have E6 := Aside0.mk E60
  clear E60
  simp only [Option.some.injEq, Prod.mk.injEq] at H
  obtain ⟨rfl, rfl⟩ := H
  go_enter Try.func30, Try.ntmps30
  go_wp2_with (first | (go_at_call 85; (with_reducible refine (impl_isPlan.calls k _ _ l0 true _ ?side1 ?side2 E1.out).mono ?_); (case side1 => repeat (first | exact (Kd.C_below HR0.out HB.out) | (with_reducible refine Kd.C_alloc ?_ _) | (with_reducible refine Kd.C_drewN ?_ _) | (with_reducible refine Kd.C_drew ?_))); (case side2 => exact HC0.out); rintro e wp_ ⟨rfl, hb⟩; (try (have n_ := Aside0.mk (Kd.S_below (by (with_reducible repeat (first | apply Kd.S_alloc | apply Kd.S_drewN | apply Kd.S_drew)); exact HT.out) hb); clear HT; have HT := n_; clear n_)); (try (have n_ := Aside0.mk (Kd.S_below (by (with_reducible repeat (first | apply Kd.S_alloc | apply Kd.S_drewN | apply Kd.S_drew)); exact HZ.out) hb); clear HZ; have HZ := n_; clear n_)); (try (have n_ := Aside0.mk (Kd.R_below (by (with_reducible repeat (first | apply Kd.R_alloc | apply Kd.R_drewN | apply Kd.R_drew)); exact HS1.out) hb); clear HS1; have HS1 := n_; clear n_)); (try (have n_ := Aside0.mk (Kd.R_below (by (with_reducible repeat (first | apply Kd.R_alloc | apply Kd.R_drewN | apply Kd.R_drew)); exact HS2.out) hb); clear HS2; have HS2 := n_; clear n_)); (try (have n_ := Aside0.mk (show Boxed _ _ _ _ from (hb.block _ HF.out.lt).trans HF.out); clear HF; have HF := n_; clear n_)); have n_ := Aside0.mk (below_step (by repeat (first | (with_reducible first | exact HB.out | apply below_alloc | apply pw_below_drewN | apply below_drew1) | exact HB.out)) hb); clear HB; have HB := n_; clear n_; clear hb) | (go_at_call 85; (with_reducible refine (impl_isPlan.calls k _ _ l1 true _ ?side1 ?side2 E2.out).mono ?_); (case side1 => repeat (first | exact (Kd.C_below HR1.out HB.out) | (with_reducible refine Kd.C_alloc ?_ _) | (with_reducible refine Kd.C_drewN ?_ _) | (with_reducible refine Kd.C_drew ?_))); (case side2 => exact HC1.out); rintro e wp_ ⟨rfl, hb⟩; (try (have n_ := Aside0.mk (Kd.S_below (by (with_reducible repeat (first | apply Kd.S_alloc | apply Kd.S_drewN | apply Kd.S_drew)); exact HT.out) hb); clear HT; have HT := n_; clear n_)); (try (have n_ := Aside0.mk (Kd.S_below (by (with_reducible repeat (first | apply Kd.S_alloc | apply Kd.S_drewN | apply Kd.S_drew)); exact HZ.out) hb); clear HZ; have HZ := n_; clear n_)); (try (have n_ := Aside0.mk (Kd.R_below (by (with_reducible repeat (first | apply Kd.R_alloc | apply Kd.R_drewN | apply Kd.R_drew)); exact HS1.out) hb); clear HS1; have HS1 := n_; clear n_)); (try (have n_ := Aside0.mk (Kd.R_below (by (with_reducible repeat (first | apply Kd.R_alloc | apply Kd.R_drewN | apply Kd.R_drew)); exact HS2.out) hb); clear HS2; have HS2 := n_; clear n_)); (try (have n_ := Aside0.mk (show Boxed _ _ _ _ from (hb.block _ HF.out.lt).trans HF.out); clear HF; have HF := n_; clear n_)); have n_ := Aside0.mk (below_step (by repeat (first | (with_reducible first | exact HB.out | apply below_alloc | apply pw_below_drewN | apply below_drew1) | exact HB.out)) hb); clear HB; have HB := n_; clear n_; clear hb) | (go_at_call 88; (with_reducible refine (impl_turn.calls k _ _ l0 t _ ?side1 ?side2 E3.out).mono ?_); (case side1 => repeat (first | exact (Kd.C_below HR0.out HB.out) | (with_reducible refine Kd.C_alloc ?_ _) | (with_reducible refine Kd.C_drewN ?_ _) | (with_reducible refine Kd.C_drew ?_))); (case side2 => exact HC0.out); rintro e wt ⟨vt, rfl, hT, hb⟩; have hTl := (show Below w.heap.size w _ from by repeat (first | (with_reducible first | exact HB.out | apply below_alloc | apply pw_below_drewN | apply below_drew1) | exact HB.out)); have hT2 := Aside0.mk (show Kd.S (Kd.slice 3 (Kd.int .i64)) 24 wt w.heap.size _ vt t from Kd.S_lower (Kd.S_bound hT) (by have h_ := hTl.size; first | exact h_ | (simp; omega))); clear hTl; (try (have n_ := Aside0.mk (Kd.S_below (by (with_reducible repeat (first | apply Kd.S_alloc | apply Kd.S_drewN | apply Kd.S_drew)); exact HT.out) hb); clear HT; have HT := n_; clear n_)); (try (have n_ := Aside0.mk (Kd.S_below (by (with_reducible repeat (first | apply Kd.S_alloc | apply Kd.S_drewN | apply Kd.S_drew)); exact HZ.out) hb); clear HZ; have HZ := n_; clear n_)); (try (have n_ := Aside0.mk (Kd.R_below (by (with_reducible repeat (first | apply Kd.R_alloc | apply Kd.R_drewN | apply Kd.R_drew)); exact HS1.out) hb); clear HS1; have HS1 := n_; clear n_)); (try (have n_ := Aside0.mk (Kd.R_below (by (with_reducible repeat (first | apply Kd.R_alloc | apply Kd.R_drewN | apply Kd.R_drew)); exact HS2.out) hb); clear HS2; have HS2 := n_; clear n_)); (try (have n_ := Aside0.mk (show Boxed _ _ _ _ from (hb.block _ HF.out.lt).trans HF.out); clear HF; have HF := n_; clear n_)); have n_ := Aside0.mk (below_step (by repeat (first | (with_reducible first | exact HB.out | apply below_alloc | apply pw_below_drewN | apply below_drew1) | exact HB.out)) hb); clear HB; have HB := n_; clear n_; have HT := hT2; clear hT2 hT hb; obtain ⟨At, ct, et⟩ := Kd.S_slice HT.out; subst et) | (go_at_call 87; (with_reducible refine (impl_rowSums.calls k _ _ t s _ ?side1 ?side2 E4.out).mono ?_); (case side1 => repeat (first | exact (Kd.S_reads' HT.out).2.2 | (with_reducible refine Kd.C_alloc ?_ _) | (with_reducible refine Kd.C_drewN ?_ _) | (with_reducible refine Kd.C_drew ?_))); (case side2 => exact (Kd.S_reads' HT.out).2.1); rintro e ws ⟨vs, rfl, hS, hb⟩; (try (have n_ := Aside0.mk (Kd.S_below (by (with_reducible repeat (first | apply Kd.S_alloc | apply Kd.S_drewN | apply Kd.S_drew)); exact HT.out) hb); clear HT; have HT := n_; clear n_)); (try (have n_ := Aside0.mk (Kd.S_below (by (with_reducible repeat (first | apply Kd.S_alloc | apply Kd.S_drewN | apply Kd.S_drew)); exact HZ.out) hb); clear HZ; have HZ := n_; clear n_)); (try (have n_ := Aside0.mk (Kd.R_below (by (with_reducible repeat (first | apply Kd.R_alloc | apply Kd.R_drewN | apply Kd.R_drew)); exact HS1.out) hb); clear HS1; have HS1 := n_; clear n_)); (try (have n_ := Aside0.mk (Kd.R_below (by (with_reducible repeat (first | apply Kd.R_alloc | apply Kd.R_drewN | apply Kd.R_drew)); exact HS2.out) hb); clear HS2; have HS2 := n_; clear n_)); (try (have n_ := Aside0.mk (show Boxed _ _ _ _ from (hb.block _ HF.out.lt).trans HF.out); clear HF; have HF := n_; clear n_)); have n_ := Aside0.mk (below_step (by repeat (first | (with_reducible first | exact HB.out | apply below_alloc | apply pw_below_drewN | apply below_drew1) | exact HB.out)) hb); clear HB; have HB := n_; clear n_; have HS1 := Aside0.mk hS; clear hS hb; obtain ⟨As, cs, es⟩ := Kd.R_slice HS1.out; subst es) | (go_at_call 87; (with_reducible refine (impl_rowSums.calls k _ _ l1 s2 _ ?side1 ?side2 E5.out).mono ?_); (case side1 => repeat (first | exact (Kd.C_below HR1.out HB.out) | (with_reducible refine Kd.C_alloc ?_ _) | (with_reducible refine Kd.C_drewN ?_ _) | (with_reducible refine Kd.C_drew ?_))); (case side2 => exact HC1.out); rintro e wu ⟨vu, rfl, hS, hb⟩; (try (have n_ := Aside0.mk (Kd.S_below (by (with_reducible repeat (first | apply Kd.S_alloc | apply Kd.S_drewN | apply Kd.S_drew)); exact HT.out) hb); clear HT; have HT := n_; clear n_)); (try (have n_ := Aside0.mk (Kd.S_below (by (with_reducible repeat (first | apply Kd.S_alloc | apply Kd.S_drewN | apply Kd.S_drew)); exact HZ.out) hb); clear HZ; have HZ := n_; clear n_)); (try (have n_ := Aside0.mk (Kd.R_below (by (with_reducible repeat (first | apply Kd.R_alloc | apply Kd.R_drewN | apply Kd.R_drew)); exact HS1.out) hb); clear HS1; have HS1 := n_; clear n_)); (try (have n_ := Aside0.mk (Kd.R_below (by (with_reducible repeat (first | apply Kd.R_alloc | apply Kd.R_drewN | apply Kd.R_drew)); exact HS2.out) hb); clear HS2; have HS2 := n_; clear n_)); (try (have n_ := Aside0.mk (show Boxed _ _ _ _ from (hb.block _ HF.out.lt).trans HF.out); clear HF; have HF := n_; clear n_)); have n_ := Aside0.mk (below_step (by repeat (first | (with_reducible first | exact HB.out | apply below_alloc | apply pw_below_drewN | apply below_drew1) | exact HB.out)) hb); clear HB; have HB := n_; clear n_; have HS2 := Aside0.mk hS; clear hS hb; obtain ⟨Au, cu, eu⟩ := Kd.R_slice HS2.out; subst eu) | (go_at_call 86; (with_reducible refine (slices_Equal_int_int.calls k _ _ s _ _ s2 false _ ?side1 ?side2 ?side3 ?side4 E6.out).mono ?_); (case side1 => repeat (first | exact (Kd.R_reads' HS1.out).2.2 | (with_reducible refine Kd.C_alloc ?_ _) | (with_reducible refine Kd.C_drewN ?_ _) | (with_reducible refine Kd.C_drew ?_))); (case side2 => exact (Kd.R_reads' HS1.out).2.1); (case side3 => repeat (first | exact (Kd.R_reads' HS2.out).2.2 | (with_reducible refine Kd.C_alloc ?_ _) | (with_reducible refine Kd.C_drewN ?_ _) | (with_reducible refine Kd.C_drew ?_))); (case side4 => exact (Kd.R_reads' HS2.out).2.1); rintro e wq_ ⟨rfl, ⟨nd, rfl⟩⟩))
  go_ret2
  exact ⟨_, by first | rfl | (simp; done) | (simp [*]; done), Kd.S_nil _ _ _ _ _, by repeat (first | (with_reducible first | exact HB.out | apply below_alloc | apply pw_below_drewN | apply below_drew1) | exact HB.out)⟩
 replace ce := Decidable.not_not.mp ce
 rw [if_pos ce] at H
 subst ce
 have E6 := Aside0.mk E60
 clear E60
 replace H := Option.bind_eq_some_iff.mp H
 obtain ⟨z, E70, H⟩ := H
 have E7 := Aside0.mk E70
 clear E70
 by_cases hl : ¬ 0 < z.length
 ·rw [if_neg hl] at H
  exact absurd H (by simp)
 replace hl := Decidable.not_not.mp hl
 rw [if_pos hl] at H
 have HL := Aside0.mk hl
 clear hl
 replace H := Option.bind_eq_some_iff.mp H
 obtain ⟨o, E80, H⟩ := H
 have E8 := Aside0.mk E80
 clear E80
 replace H := Option.bind_eq_some_iff.mp H
 obtain ⟨b, E90, H⟩ := H
 have E9 := Aside0.mk E90
 clear E90
 have HEND := Aside0.mk H
 clear H
 go_enter Try.func30, Try.ntmps30
 go_wp2_with (first | (go_at_call 85; (with_reducible refine (impl_isPlan.calls k _ _ l0 true _ ?side1 ?side2 E1.out).mono ?_); (case side1 => repeat (first | exact (Kd.C_below HR0.out HB.out) | (with_reducible refine Kd.C_alloc ?_ _) | (with_reducible refine Kd.C_drewN ?_ _) | (with_reducible refine Kd.C_drew ?_))); (case side2 => exact HC0.out); rintro e wp_ ⟨rfl, hb⟩; (try (have n_ := Aside0.mk (Kd.S_below (by (with_reducible repeat (first | apply Kd.S_alloc | apply Kd.S_drewN | apply Kd.S_drew)); exact HT.out) hb); clear HT; have HT := n_; clear n_)); (try (have n_ := Aside0.mk (Kd.S_below (by (with_reducible repeat (first | apply Kd.S_alloc | apply Kd.S_drewN | apply Kd.S_drew)); exact HZ.out) hb); clear HZ; have HZ := n_; clear n_)); (try (have n_ := Aside0.mk (Kd.R_below (by (with_reducible repeat (first | apply Kd.R_alloc | apply Kd.R_drewN | apply Kd.R_drew)); exact HS1.out) hb); clear HS1; have HS1 := n_; clear n_)); (try (have n_ := Aside0.mk (Kd.R_below (by (with_reducible repeat (first | apply Kd.R_alloc | apply Kd.R_drewN | apply Kd.R_drew)); exact HS2.out) hb); clear HS2; have HS2 := n_; clear n_)); (try (have n_ := Aside0.mk (show Boxed _ _ _ _ from (hb.block _ HF.out.lt).trans HF.out); clear HF; have HF := n_; clear n_)); have n_ := Aside0.mk (below_step (by repeat (first | (with_reducible first | exact HB.out | apply below_alloc | apply pw_below_drewN | apply below_drew1) | exact HB.out)) hb); clear HB; have HB := n_; clear n_; clear hb) | (go_at_call 85; (with_reducible refine (impl_isPlan.calls k _ _ l1 true _ ?side1 ?side2 E2.out).mono ?_); (case side1 => repeat (first | exact (Kd.C_below HR1.out HB.out) | (with_reducible refine Kd.C_alloc ?_ _) | (with_reducible refine Kd.C_drewN ?_ _) | (with_reducible refine Kd.C_drew ?_))); (case side2 => exact HC1.out); rintro e wp_ ⟨rfl, hb⟩; (try (have n_ := Aside0.mk (Kd.S_below (by (with_reducible repeat (first | apply Kd.S_alloc | apply Kd.S_drewN | apply Kd.S_drew)); exact HT.out) hb); clear HT; have HT := n_; clear n_)); (try (have n_ := Aside0.mk (Kd.S_below (by (with_reducible repeat (first | apply Kd.S_alloc | apply Kd.S_drewN | apply Kd.S_drew)); exact HZ.out) hb); clear HZ; have HZ := n_; clear n_)); (try (have n_ := Aside0.mk (Kd.R_below (by (with_reducible repeat (first | apply Kd.R_alloc | apply Kd.R_drewN | apply Kd.R_drew)); exact HS1.out) hb); clear HS1; have HS1 := n_; clear n_)); (try (have n_ := Aside0.mk (Kd.R_below (by (with_reducible repeat (first | apply Kd.R_alloc | apply Kd.R_drewN | apply Kd.R_drew)); exact HS2.out) hb); clear HS2; have HS2 := n_; clear n_)); (try (have n_ := Aside0.mk (show Boxed _ _ _ _ from (hb.block _ HF.out.lt).trans HF.out); clear HF; have HF := n_; clear n_)); have n_ := Aside0.mk (below_step (by repeat (first | (with_reducible first | exact HB.out | apply below_alloc | apply pw_below_drewN | apply below_drew1) | exact HB.out)) hb); clear HB; have HB := n_; clear n_; clear hb) | (go_at_call 88; (with_reducible refine (impl_turn.calls k _ _ l0 t _ ?side1 ?side2 E3.out).mono ?_); (case side1 => repeat (first | exact (Kd.C_below HR0.out HB.out) | (with_reducible refine Kd.C_alloc ?_ _) | (with_reducible refine Kd.C_drewN ?_ _) | (with_reducible refine Kd.C_drew ?_))); (case side2 => exact HC0.out); rintro e wt ⟨vt, rfl, hT, hb⟩; have hTl := (show Below w.heap.size w _ from by repeat (first | (with_reducible first | exact HB.out | apply below_alloc | apply pw_below_drewN | apply below_drew1) | exact HB.out)); have hT2 := Aside0.mk (show Kd.S (Kd.slice 3 (Kd.int .i64)) 24 wt w.heap.size _ vt t from Kd.S_lower (Kd.S_bound hT) (by have h_ := hTl.size; first | exact h_ | (simp; omega))); clear hTl; (try (have n_ := Aside0.mk (Kd.S_below (by (with_reducible repeat (first | apply Kd.S_alloc | apply Kd.S_drewN | apply Kd.S_drew)); exact HT.out) hb); clear HT; have HT := n_; clear n_)); (try (have n_ := Aside0.mk (Kd.S_below (by (with_reducible repeat (first | apply Kd.S_alloc | apply Kd.S_drewN | apply Kd.S_drew)); exact HZ.out) hb); clear HZ; have HZ := n_; clear n_)); (try (have n_ := Aside0.mk (Kd.R_below (by (with_reducible repeat (first | apply Kd.R_alloc | apply Kd.R_drewN | apply Kd.R_drew)); exact HS1.out) hb); clear HS1; have HS1 := n_; clear n_)); (try (have n_ := Aside0.mk (Kd.R_below (by (with_reducible repeat (first | apply Kd.R_alloc | apply Kd.R_drewN | apply Kd.R_drew)); exact HS2.out) hb); clear HS2; have HS2 := n_; clear n_)); (try (have n_ := Aside0.mk (show Boxed _ _ _ _ from (hb.block _ HF.out.lt).trans HF.out); clear HF; have HF := n_; clear n_)); have n_ := Aside0.mk (below_step (by repeat (first | (with_reducible first | exact HB.out | apply below_alloc | apply pw_below_drewN | apply below_drew1) | exact HB.out)) hb); clear HB; have HB := n_; clear n_; have HT := hT2; clear hT2 hT hb; obtain ⟨At, ct, et⟩ := Kd.S_slice HT.out; subst et) | (go_at_call 87; (with_reducible refine (impl_rowSums.calls k _ _ t s _ ?side1 ?side2 E4.out).mono ?_); (case side1 => repeat (first | exact (Kd.S_reads' HT.out).2.2 | (with_reducible refine Kd.C_alloc ?_ _) | (with_reducible refine Kd.C_drewN ?_ _) | (with_reducible refine Kd.C_drew ?_))); (case side2 => exact (Kd.S_reads' HT.out).2.1); rintro e ws ⟨vs, rfl, hS, hb⟩; (try (have n_ := Aside0.mk (Kd.S_below (by (with_reducible repeat (first | apply Kd.S_alloc | apply Kd.S_drewN | apply Kd.S_drew)); exact HT.out) hb); clear HT; have HT := n_; clear n_)); (try (have n_ := Aside0.mk (Kd.S_below (by (with_reducible repeat (first | apply Kd.S_alloc | apply Kd.S_drewN | apply Kd.S_drew)); exact HZ.out) hb); clear HZ; have HZ := n_; clear n_)); (try (have n_ := Aside0.mk (Kd.R_below (by (with_reducible repeat (first | apply Kd.R_alloc | apply Kd.R_drewN | apply Kd.R_drew)); exact HS1.out) hb); clear HS1; have HS1 := n_; clear n_)); (try (have n_ := Aside0.mk (Kd.R_below (by (with_reducible repeat (first | apply Kd.R_alloc | apply Kd.R_drewN | apply Kd.R_drew)); exact HS2.out) hb); clear HS2; have HS2 := n_; clear n_)); (try (have n_ := Aside0.mk (show Boxed _ _ _ _ from (hb.block _ HF.out.lt).trans HF.out); clear HF; have HF := n_; clear n_)); have n_ := Aside0.mk (below_step (by repeat (first | (with_reducible first | exact HB.out | apply below_alloc | apply pw_below_drewN | apply below_drew1) | exact HB.out)) hb); clear HB; have HB := n_; clear n_; have HS1 := Aside0.mk hS; clear hS hb; obtain ⟨As, cs, es⟩ := Kd.R_slice HS1.out; subst es) | (go_at_call 87; (with_reducible refine (impl_rowSums.calls k _ _ l1 s2 _ ?side1 ?side2 E5.out).mono ?_); (case side1 => repeat (first | exact (Kd.C_below HR1.out HB.out) | (with_reducible refine Kd.C_alloc ?_ _) | (with_reducible refine Kd.C_drewN ?_ _) | (with_reducible refine Kd.C_drew ?_))); (case side2 => exact HC1.out); rintro e wu ⟨vu, rfl, hS, hb⟩; (try (have n_ := Aside0.mk (Kd.S_below (by (with_reducible repeat (first | apply Kd.S_alloc | apply Kd.S_drewN | apply Kd.S_drew)); exact HT.out) hb); clear HT; have HT := n_; clear n_)); (try (have n_ := Aside0.mk (Kd.S_below (by (with_reducible repeat (first | apply Kd.S_alloc | apply Kd.S_drewN | apply Kd.S_drew)); exact HZ.out) hb); clear HZ; have HZ := n_; clear n_)); (try (have n_ := Aside0.mk (Kd.R_below (by (with_reducible repeat (first | apply Kd.R_alloc | apply Kd.R_drewN | apply Kd.R_drew)); exact HS1.out) hb); clear HS1; have HS1 := n_; clear n_)); (try (have n_ := Aside0.mk (Kd.R_below (by (with_reducible repeat (first | apply Kd.R_alloc | apply Kd.R_drewN | apply Kd.R_drew)); exact HS2.out) hb); clear HS2; have HS2 := n_; clear n_)); (try (have n_ := Aside0.mk (show Boxed _ _ _ _ from (hb.block _ HF.out.lt).trans HF.out); clear HF; have HF := n_; clear n_)); have n_ := Aside0.mk (below_step (by repeat (first | (with_reducible first | exact HB.out | apply below_alloc | apply pw_below_drewN | apply below_drew1) | exact HB.out)) hb); clear HB; have HB := n_; clear n_; have HS2 := Aside0.mk hS; clear hS hb; obtain ⟨Au, cu, eu⟩ := Kd.R_slice HS2.out; subst eu) | (go_at_call 86; (with_reducible refine (slices_Equal_int_int.calls k _ _ s _ _ s2 true _ ?side1 ?side2 ?side3 ?side4 E6.out).mono ?_); (case side1 => repeat (first | exact (Kd.R_reads' HS1.out).2.2 | (with_reducible refine Kd.C_alloc ?_ _) | (with_reducible refine Kd.C_drewN ?_ _) | (with_reducible refine Kd.C_drew ?_))); (case side2 => exact (Kd.R_reads' HS1.out).2.1); (case side3 => repeat (first | exact (Kd.R_reads' HS2.out).2.2 | (with_reducible refine Kd.C_alloc ?_ _) | (with_reducible refine Kd.C_drewN ?_ _) | (with_reducible refine Kd.C_drew ?_))); (case side4 => exact (Kd.R_reads' HS2.out).2.1); rintro e wq_ ⟨rfl, ⟨nd, rfl⟩⟩) | (go_at_call 106; (with_reducible refine (impl_square.calls k (l0.length : Int) 0 z _ E7.out).mono ?_); rintro e w6 ⟨vz, rfl, hS, hb⟩; obtain ⟨g, cap, ev, _⟩ := Kd.S_form hS HL.out; subst ev; clear HT HS1 HS2; have hS2 := Aside0.mk (Kd.S_lower (Kd.S_mono (Kd.S_bound hS) (ok' := fun k => w.heap.size ≤ k ∧ k < w6.heap.size) (fun k hk => ⟨by have h1_ := hk.2.1; have h2_ := (show Below w.heap.size w _ from by repeat (first | (with_reducible first | exact HB.out | apply below_alloc | apply pw_below_drewN | apply below_drew1) | exact HB.out)).size; exact Nat.le_trans h2_ h1_, hk.2.2.1⟩)) (show Below w.heap.size w _ from by repeat (first | (with_reducible first | exact HB.out | apply below_alloc | apply pw_below_drewN | apply below_drew1) | exact HB.out)).size); (try (have n_ := Aside0.mk (Kd.S_below (by (with_reducible repeat (first | apply Kd.S_alloc | apply Kd.S_drewN | apply Kd.S_drew)); exact HT.out) hb); clear HT; have HT := n_; clear n_)); (try (have n_ := Aside0.mk (Kd.S_below (by (with_reducible repeat (first | apply Kd.S_alloc | apply Kd.S_drewN | apply Kd.S_drew)); exact HZ.out) hb); clear HZ; have HZ := n_; clear n_)); (try (have n_ := Aside0.mk (Kd.R_below (by (with_reducible repeat (first | apply Kd.R_alloc | apply Kd.R_drewN | apply Kd.R_drew)); exact HS1.out) hb); clear HS1; have HS1 := n_; clear n_)); (try (have n_ := Aside0.mk (Kd.R_below (by (with_reducible repeat (first | apply Kd.R_alloc | apply Kd.R_drewN | apply Kd.R_drew)); exact HS2.out) hb); clear HS2; have HS2 := n_; clear n_)); (try (have n_ := Aside0.mk (show Boxed _ _ _ _ from (hb.block _ HF.out.lt).trans HF.out); clear HF; have HF := n_; clear n_)); have n_ := Aside0.mk (below_step (by repeat (first | (with_reducible first | exact HB.out | apply below_alloc | apply pw_below_drewN | apply below_drew1) | exact HB.out)) hb); clear HB; have HB := n_; clear n_; have HZ := hS2; clear hS2; have hf := Boxed.new w6 27 (.slice (some ⟨g, 0, none⟩) z.length cap); have HF := Aside0.mk hf; clear hf hS hb))
 have HT2 := Aside0.mk (show Kd.S (Kd.slice 3 (Kd.int .i64)) 24 wt w.heap.size (fun k => w6.heap.size + 1 ≤ k) (.slice At t.length ct) t from Kd.S_mono HT.out (fun k hk => by have := hk.2.1; simp at this; omega))
 clear HT
 go_loopg [32] k (fun kq v32 wr => ∃ (m' : List (List Int)) (i : Int), v32 = .int .i64 i ∧ Aside0 (impl_GluePlans.l1 kq t l1 m' i = some o) ∧ Aside0 (kq ≤ k) ∧ Aside0 (Kd.S (Kd.slice 3 (Kd.int .i64)) 24 wr w.heap.size (fun k => w.heap.size ≤ k ∧ k < w6.heap.size) (.slice (some ⟨g, 0, none⟩) z.length cap) m') ∧ Aside0 (Kd.S (Kd.slice 3 (Kd.int .i64)) 24 wr w.heap.size (fun k => w6.heap.size + 1 ≤ k) (.slice At t.length ct) t) ∧ Aside0 (Boxed wr w6.heap.size 27 (.slice (some ⟨g, 0, none⟩) z.length cap)) ∧ Aside0 (Below w.heap.size w wr))
 case atStart => exact ⟨z, 0, rfl, E8, ⟨Nat.le_refl _⟩, HZ, HT2, HF, HB⟩
 case round =>
  clear E8 HZ HT2 HF HB
  obtain ⟨m', i, rfl, HQ, HKQ, HZ, HT2, HF, HB⟩ := hrel
  cases gk with
  | zero => exact absurd HQ.out (by simp [impl_GluePlans.l1])
  | succ k1 =>
   have H := HQ.out
   clear HQ
   simp only [impl_GluePlans.l1] at H
   by_cases ci : i < (t.length : Int)
   ·rw [if_pos ci] at H
    by_cases ci0 : ¬ 0 ≤ i
    ·rw [if_neg ci0] at H
     exact absurd H (by simp)
    replace ci0 := Decidable.not_not.mp ci0
    rw [if_pos ci0] at H
    by_cases cn : ¬ i < (l1.length : Int)
    ·rw [if_neg cn] at H
     exact absurd H (by simp)
    replace cn := Decidable.not_not.mp cn
    rw [if_pos cn] at H
    replace H := Option.bind_eq_some_iff.mp H
    obtain ⟨m2, hm2, H⟩ := H
    have HM2 := Aside0.mk hm2
    have H' := Aside0.mk H
    clear H hm2
    obtain ⟨ad1, B1, d1, e1, hx1, hl1, hi1⟩ := at_L2 (Kd.S_reads' HT2.out).2.2 i ci0 ci
    cases e1
    have HCT := Aside0.mk hi1
    have HLT := Aside0.mk hl1
    clear hi1 hl1
    obtain ⟨ad2, B2, d2, e2, hx2, hl2, hi2⟩ := at_L2 (Kd.C_below HR1.out HB.out) i ci0 cn
    cases e2
    have HCN := Aside0.mk hi2
    have HLN := Aside0.mk hl2
    clear hi2 hl2
    replace ci := eq_true ci
    replace ci0 := eq_true ci0
    replace cn := eq_true cn
    go_wp2_with (first | (go_at_call 108; refine (impl_GluePlans.carry k1 w6.heap.size g cap z.length w.heap.size (fun k => w.heap.size ≤ k ∧ k < w6.heap.size) _ _ (rd_L2 t i) _ _ (rd_L2 l1 i) m' m2 w _ HB.out HF.out HZ.out (Nat.le_refl _) (fun k hk => by omega) (fun k hk => by have := HF.out.lt; omega) HCT.out HLT.out HCN.out HLN.out HM2.out).mono ?_; rintro e w7 ⟨rfl, hS, hb, hk⟩; have n1_ := Aside0.mk hS; have n2_ := Aside0.mk (Kd.S_kept HT2.out hk (fun k h1 h2 => by omega)); have n3_ := Aside0.mk (show Boxed _ _ _ _ from (hk.2 w6.heap.size HF.out.lt (fun h_ => by omega)).trans HF.out); have n4_ := Aside0.mk hb; clear HZ HT2 HF HB hS hb hk; have HZ := n1_; have HT2 := n2_; have HF := n3_; have HB := n4_; clear n1_ n2_ n3_ n4_))
    go_roundg k1
    case measure => have := HKQ.out; omega
    case rel => exact ⟨m2, (wrap64 (i + 1)), (by first | rfl | (simp; done) | (simp [*]; done)), H', ⟨by have := HKQ.out; omega⟩, HZ, HT2, HF, HB⟩
   ·rw [if_neg ci] at H
    obtain rfl := Option.some.inj H
    clear H
    replace ci := eq_false ci
    have hlz := (Kd.S_reads' HZ.out).1
    rw [hlz] at HZ HF
    clear hlz
    have hcs := HF.out.cell
    have H := HEND.out
    clear HEND
    by_cases cb : ¬ b = true
    ·rw [if_neg cb] at H
     replace cb := Bool.eq_false_iff.mpr cb
     subst cb
     simp only [Option.some.injEq, Prod.mk.injEq] at H
     obtain ⟨rfl, rfl⟩ := H
     go_wp2_with (first | (go_at_call 85; (with_reducible refine (impl_isPlan.calls k _ _ m' false _ ?side1 ?side2 E9.out).mono ?_); (case side1 => exact (Kd.S_reads' HZ.out).2.2); (case side2 => exact (Kd.S_reads' HZ.out).2.1); rintro e wp_ ⟨rfl, hb⟩; have n_ := Aside0.mk (below_step (by repeat (first | (with_reducible first | exact HB.out | apply below_alloc | apply pw_below_drewN | apply below_drew1) | exact HB.out)) hb); clear HB; have HB := n_; clear n_ hb))
     go_ret2
     exact ⟨_, by first | rfl | (simp; done) | (simp [*]; done), Kd.S_nil _ _ _ _ _, by repeat (first | (with_reducible first | exact HB.out | apply below_alloc | apply pw_below_drewN | apply below_drew1) | exact HB.out)⟩
    ·replace cb := Decidable.not_not.mp cb
     rw [if_pos cb] at H
     subst cb
     simp only [Option.some.injEq, Prod.mk.injEq] at H
     obtain ⟨rfl, rfl⟩ := H
     go_wp2_with (first | (go_at_call 85; (with_reducible refine (impl_isPlan.calls k _ _ m' true _ ?side1 ?side2 E9.out).mono ?_); (case side1 => exact (Kd.S_reads' HZ.out).2.2); (case side2 => exact (Kd.S_reads' HZ.out).2.1); rintro e wp_ ⟨rfl, hb⟩; have n_ := Aside0.mk (below_step (by repeat (first | (with_reducible first | exact HB.out | apply below_alloc | apply pw_below_drewN | apply below_drew1) | exact HB.out)) hb); have hcs2 := Boxed.cell (show Boxed _ _ _ _ from (hb.block _ HF.out.lt).trans HF.out); have n2_ := Aside0.mk (Kd.S_below HZ.out hb); clear HB HZ; have HB := n_; have HZ := n2_; clear n_ n2_ hb))
     go_ret2
     exact ⟨_, by first | rfl | (simp; done) | (simp [*]; done), Kd.S_mono (by (with_reducible repeat (first | apply Kd.S_alloc | apply Kd.S_drewN | apply Kd.S_drew)); exact HZ.out) (fun _ _ => trivial), by repeat (first | (with_reducible first | exact HB.out | apply below_alloc | apply pw_below_drewN | apply below_drew1) | exact HB.out)⟩

/-! ### spec_l1Same: function 110 -/
def spec_l1Same.l0 : Nat → List Int → List Int → Int → Int → Option (Bool)
 | 0, _, _, _, _ => none
 | k + 1, x0, x1, x12, x13 => if x13 < x12 then (if 0 ≤ x13 then (if x13 < (x0.length : Int) then (if x13 < (x1.length : Int) then (if (rd x0 x13) = (rd x1 x13) then (spec_l1Same.l0 k x0 x1 x12 (wrap64 (x13 + 1))) else (some false)) else (none)) else (none)) else (none)) else (some true)
def spec_l1Same.f (k : Nat) (l0 : List Int) (l1 : List Int) : Option (Bool) := if (l0.length : Int) = (l1.length : Int) then (spec_l1Same.l0 k l0 l1 (l0.length : Int) 0) else (some false)
theorem spec_l1Same.mono_l : ∀ k, (∀ y0 y1 y2 y3, LeO (spec_l1Same.l0 k y0 y1 y2 y3) (spec_l1Same.l0 (k + 1) y0 y1 y2 y3))
 | 0 => fun _ _ _ _ r h => by simp [spec_l1Same.l0] at h
 | k + 1 => by
  have ih0 := spec_l1Same.mono_l k
  ·intro y0 y1 y2 y3
   unfold spec_l1Same.l0
   repeat' first
   | (with_reducible exact ih0 _ _ _ _)
   | (with_reducible exact LeO.refl _)
   | (with_reducible exact LeO.none _)
   | (with_reducible refine LeO.ite ?_ ?_)
   | (with_reducible refine LeO.bind ?_ (fun _ => ?_))
   | exact ih0 _ _ _ _
   | exact LeO.none _
   | refine LeO.ite ?_ ?_
   | refine LeO.bind ?_ (fun _ => ?_)
theorem spec_l1Same.mono : ∀ a0 a1 k, LeO (spec_l1Same.f k a0 a1) (spec_l1Same.f (k + 1) a0 a1) := by
 intro a0 a1 k
 have ih0 := spec_l1Same.mono_l k
 unfold spec_l1Same.f
 repeat' first
   | (with_reducible exact ih0 _ _ _ _)
   | (with_reducible exact LeO.refl _)
   | (with_reducible exact LeO.none _)
   | (with_reducible refine LeO.ite ?_ ?_)
   | (with_reducible refine LeO.bind ?_ (fun _ => ?_))
   | exact ih0 _ _ _ _
   | exact LeO.none _
   | refine LeO.ite ?_ ?_
   | refine LeO.bind ?_ (fun _ => ?_)
set_option maxHeartbeats 8000000 in
set_option maxRecDepth 100000 in
theorem spec_l1Same.calls (k : Nat) (A0 : Option Addr) (c0 : Nat) (l0 : List Int) (A1 : Option Addr) (c1 : Nat) (l1 : List Int) (r : Bool) (w : World) (hr0 : Kd.C (Kd.int .i64) w A0 l0.length l0) (hc0 : l0.length ≤ c0) (hr1 : Kd.C (Kd.int .i64) w A1 l1.length l1) (hc1 : l1.length ≤ c1) (h : spec_l1Same.f k l0 l1 = some r) :
  Calls Try.prog 110 #[.slice A0 l0.length c0, .slice A1 l1.length c1] w fun e w' => e = .returned (.bool r) ∧ Drawn0 w w' := by
 have HR0 := Aside0.mk hr0
 have HC0 := Aside0.mk hc0
 clear hr0 hc0
 have HR1 := Aside0.mk hr1
 have HC1 := Aside0.mk hc1
 clear hr1 hc1
 have H : (if (l0.length : Int) = (l1.length : Int) then (spec_l1Same.l0 k l0 l1 (l0.length : Int) 0) else (some false)) = some r := h
 clear h
 by_cases c3 : (l0.length : Int) = (l1.length : Int)
 ·rw [if_pos c3] at H
  have c3b0 : ((l0.length : Int) == (l1.length : Int)) = true := beq_iff_eq.mpr c3
  have c3b1 : ((l0.length : Int) != (l1.length : Int)) = false := bne_eq_false_iff_eq.mpr c3
  have c3b2 : (l0.length == l1.length) = true := by first | simpa using c3 | (simp at c3 ⊢; omega)
  clear c3
  have H' := Aside0.mk H
  clear H
  go_enter Try.func110, Try.ntmps110
  go_wp2
  repeat (go_quiet (fail); try go_wp2)
  go_loopg [13] k (fun kq v13 w' => ∃ (x13_1 : Int), v13 = .int .i64 x13_1 ∧ Aside0 (spec_l1Same.l0 kq l0 l1 (l0.length : Int) x13_1 = some r) ∧ Aside0 (kq ≤ k) ∧ Drawn0 w w')
  case atStart => exact ⟨(0), (by first | rfl | (simp; done) | (simp [*]; done)), H', ⟨Nat.le_refl _⟩, by repeat (first | exact Drawn0.refl _ | apply Drawn0.step)⟩
  case round =>
   clear H'
   try clear c1
   try clear p2
   try clear c3
   try clear c3b0
   try clear c3b1
   try clear c3b2
   obtain ⟨x13_1, rfl, HA, HK1, ⟨m1, rfl⟩⟩ := hrel
   cases gk with
   | zero => exact absurd HA.out (by simp [spec_l1Same.l0])
   | succ k1 =>
    have H := HA.out
    clear HA
    simp only [spec_l1Same.l0] at H
    by_cases c4 : x13_1 < (l0.length : Int)
    ·rw [if_pos c4] at H
     have c4b0 : decide (x13_1 < (l0.length : Int)) = true := decide_eq_true c4
     clear c4
     by_cases c5 : 0 ≤ x13_1
     ·rw [if_pos c5] at H
      have c5b0 : decide (0 ≤ x13_1) = true := decide_eq_true c5
      clear c5
      by_cases c6 : x13_1 < (l0.length : Int)
      ·rw [if_pos c6] at H
       have c6b0 : decide (x13_1 < (l0.length : Int)) = true := decide_eq_true c6
       clear c6
       by_cases c7 : x13_1 < (l1.length : Int)
       ·rw [if_pos c7] at H
        have c7b0 : decide (x13_1 < (l1.length : Int)) = true := decide_eq_true c7
        clear c7
        by_cases c8 : (rd l0 x13_1) = (rd l1 x13_1)
        ·rw [if_pos c8] at H
         have c8b0 : ((rd l0 x13_1) == (rd l1 x13_1)) = true := beq_iff_eq.mpr c8
         have c8b1 : ((rd l0 x13_1) != (rd l1 x13_1)) = false := bne_eq_false_iff_eq.mpr c8
         clear c8
         have H' := Aside0.mk H
         clear H
         have p368 : 0 ≤ (x13_1 : Int) := of_decide_eq_true (by first | (with_reducible assumption) | assumption)
         have q368 : x13_1 < (l0.length : Int) := of_decide_eq_true (by first | (with_reducible assumption) | assumption)
         obtain ⟨ad368, e368, hx368_0⟩ := Kd.at_int HR0.out x13_1 p368 q368
         cases e368
         replace p368 := eq_true p368
         replace q368 := eq_true q368
         have p369 : 0 ≤ (x13_1 : Int) := of_decide_eq_true (by first | (with_reducible assumption) | assumption)
         have q369 : x13_1 < (l1.length : Int) := of_decide_eq_true (by first | (with_reducible assumption) | assumption)
         obtain ⟨ad369, e369, hx369_0⟩ := Kd.at_int HR1.out x13_1 p369 q369
         cases e369
         replace p369 := eq_true p369
         replace q369 := eq_true q369
         go_wp2
         repeat (go_quiet (fail); try go_wp2)
         go_roundg k1
         case measure => have := HK1.out; omega
         case rel => exact ⟨(wrap64 (x13_1 + 1)), (by first | rfl | (simp; done) | (simp [*]; done)), H', ⟨by have := HK1.out; omega⟩, by repeat (first | exact Drawn0.refl _ | apply Drawn0.step)⟩
        ·rw [if_neg c8] at H
         have c8b0 : ((rd l0 x13_1) == (rd l1 x13_1)) = false := beq_eq_false_iff_ne.mpr c8
         have c8b1 : ((rd l0 x13_1) != (rd l1 x13_1)) = true := bne_iff_ne.mpr c8
         obtain rfl := Option.some.inj H
         have p368 : 0 ≤ (x13_1 : Int) := of_decide_eq_true (by first | (with_reducible assumption) | assumption)
         have q368 : x13_1 < (l0.length : Int) := of_decide_eq_true (by first | (with_reducible assumption) | assumption)
         obtain ⟨ad368, e368, hx368_0⟩ := Kd.at_int HR0.out x13_1 p368 q368
         cases e368
         replace p368 := eq_true p368
         replace q368 := eq_true q368
         have p369 : 0 ≤ (x13_1 : Int) := of_decide_eq_true (by first | (with_reducible assumption) | assumption)
         have q369 : x13_1 < (l1.length : Int) := of_decide_eq_true (by first | (with_reducible assumption) | assumption)
         obtain ⟨ad369, e369, hx369_0⟩ := Kd.at_int HR1.out x13_1 p369 q369
         cases e369
         replace p369 := eq_true p369
         replace q369 := eq_true q369
         go_wp2
         repeat (go_quiet (fail); try go_wp2)
         go_ret
         exact ⟨by first | rfl | (simp; done) | (simp [*]; done), by repeat (first | exact Drawn0.refl _ | apply Drawn0.step)⟩
       ·rw [if_neg c7] at H
        exact absurd H (by simp)
      ·rw [if_neg c6] at H
       exact absurd H (by simp)
     ·rw [if_neg c5] at H
      exact absurd H (by simp)
    ·rw [if_neg c4] at H
     have c4b0 : decide (x13_1 < (l0.length : Int)) = false := decide_eq_false c4
     clear c4
     obtain rfl := Option.some.inj H
     go_wp2
     repeat (go_quiet (fail); try go_wp2)
     go_ret
     exact ⟨by first | rfl | (simp; done) | (simp [*]; done), by repeat (first | exact Drawn0.refl _ | apply Drawn0.step)⟩
 ·rw [if_neg c3] at H
  have c3b0 : ((l0.length : Int) == (l1.length : Int)) = false := beq_eq_false_iff_ne.mpr c3
  have c3b1 : ((l0.length : Int) != (l1.length : Int)) = true := bne_iff_ne.mpr c3
  have c3b2 : (l0.length == l1.length) = false := by first | simpa using c3 | (simp at c3 ⊢; omega)
  obtain rfl := Option.some.inj H
  go_enter Try.func110, Try.ntmps110
  go_wp2
  repeat (go_quiet (fail); try go_wp2)
  go_ret
  exact ⟨by first | rfl | (simp; done) | (simp [*]; done), by repeat (first | exact Drawn0.refl _ | apply Drawn0.step)⟩

/-! ### spec_plColumn: function 111 -/
def spec_plColumn.l0 : Nat → Int → List Int → List (List Int) → Int → Int → Option (List Int)
 | 0, _, _, _, _, _ => none
 | k + 1, x1, x5, x8, x9, x10 => if x10 < x9 then (if 0 ≤ x10 then (if x10 < (x8.length : Int) then (if 0 ≤ x1 then (if x1 < ((rd_L2 x8 x10).length : Int) then (if x5.length < 17592186044416 then (spec_plColumn.l0 k x1 (x5 ++ [rd (rd_L2 x8 x10) x1]) x8 x9 (wrap64 (x10 + 1))) else (none)) else (none)) else (none)) else (none)) else (none)) else (some x5)
def spec_plColumn.f (k : Nat) (l0 : List (List Int)) (a1 : Int) : Option (List Int) := spec_plColumn.l0 k a1 ([] : List Int) l0 (l0.length : Int) 0
theorem spec_plColumn.mono_l : ∀ k, (∀ y0 y1 y2 y3 y4, LeO (spec_plColumn.l0 k y0 y1 y2 y3 y4) (spec_plColumn.l0 (k + 1) y0 y1 y2 y3 y4))
 | 0 => fun _ _ _ _ _ r h => by simp [spec_plColumn.l0] at h
 | k + 1 => by
  have ih0 := spec_plColumn.mono_l k
  ·intro y0 y1 y2 y3 y4
   unfold spec_plColumn.l0
   repeat' first
   | (with_reducible exact ih0 _ _ _ _ _)
   | (with_reducible exact LeO.refl _)
   | (with_reducible exact LeO.none _)
   | (with_reducible refine LeO.ite ?_ ?_)
   | (with_reducible refine LeO.bind ?_ (fun _ => ?_))
   | exact ih0 _ _ _ _ _
   | exact LeO.none _
   | refine LeO.ite ?_ ?_
   | refine LeO.bind ?_ (fun _ => ?_)
theorem spec_plColumn.mono : ∀ a0 a1 k, LeO (spec_plColumn.f k a0 a1) (spec_plColumn.f (k + 1) a0 a1) := by
 intro a0 a1 k
 have ih0 := spec_plColumn.mono_l k
 unfold spec_plColumn.f
 repeat' first
   | (with_reducible exact ih0 _ _ _ _ _)
   | (with_reducible exact LeO.refl _)
   | (with_reducible exact LeO.none _)
   | (with_reducible refine LeO.ite ?_ ?_)
   | (with_reducible refine LeO.bind ?_ (fun _ => ?_))
   | exact ih0 _ _ _ _ _
   | exact LeO.none _
   | refine LeO.ite ?_ ?_
   | refine LeO.bind ?_ (fun _ => ?_)
set_option maxHeartbeats 8000000 in
set_option maxRecDepth 100000 in
theorem spec_plColumn.calls (k : Nat) (A0 : Option Addr) (c0 : Nat) (l0 : List (List Int)) (a1 : Int) (r : List Int) (w : World) (hr0 : Kd.C (Kd.slice 3 (Kd.int .i64)) w A0 l0.length l0) (hc0 : l0.length ≤ c0) (h : spec_plColumn.f k l0 a1 = some r) :
  Calls Try.prog 111 #[.slice A0 l0.length c0, .int .i64 a1] w fun e w' => ∃ v0_ : Value, e = .returned (v0_) ∧ Kd.R (Kd.int .i64) 3 w' w.heap.size (fun _ => True) v0_ r ∧ Below w.heap.size w w' := by
 have HR0 := Aside0.mk hr0
 have HC0 := Aside0.mk hc0
 clear hr0 hc0
 have HB := Aside0.mk (Below.refl w.heap.size w)
 have H : (spec_plColumn.l0 k a1 ([] : List Int) l0 (l0.length : Int) 0) = some r := h
 clear h
 have H' := Aside0.mk H
 clear H
 go_enter Try.func111, Try.ntmps111
 go_wp2
 go_loopg [5, 10] k (fun kq v5 v10 w' => ∃ (x5_1 : List Int) (x10_1 : Int), v10 = .int .i64 x10_1 ∧ Aside0 (spec_plColumn.l0 kq a1 x5_1 l0 (l0.length : Int) x10_1 = some r) ∧ Aside0 (kq ≤ k) ∧ Aside0 (Kd.R (Kd.int .i64) 3 w' w.heap.size (fun _ => True) v5 x5_1) ∧ Aside0 (Below w.heap.size w w'))
 case atStart => exact ⟨(([] : List Int)), (0), (by first | rfl | (simp; done) | (simp [*]; done)), H', ⟨Nat.le_refl _⟩, ⟨by first | exact Kd.R_nil _ _ _ _ _ | exact Kd.N_nil _ _ _ _ _ | exact Kd.V_nil _ _ _ _ _ | exact Kd.Q_nil _ _ _ _ _ | exact Kd.S_nil _ _ _ _ _⟩, ⟨by repeat (first | (with_reducible first | exact HB.out | apply below_alloc | apply pw_below_drewN | apply below_drew1) | exact HB.out)⟩⟩
 case round =>
  clear H'
  try clear c1
  try clear p2
  obtain ⟨x5_1, x10_1, rfl, HA, HK1, HO_5, HB⟩ := hrel
  cases gk with
  | zero => exact absurd HA.out (by simp [spec_plColumn.l0])
  | succ k1 =>
   have H := HA.out
   clear HA
   simp only [spec_plColumn.l0] at H
   by_cases c3 : x10_1 < (l0.length : Int)
   ·rw [if_pos c3] at H
    have c3b0 : decide (x10_1 < (l0.length : Int)) = true := decide_eq_true c3
    clear c3
    by_cases c4 : 0 ≤ x10_1
    ·rw [if_pos c4] at H
     have c4b0 : decide (0 ≤ x10_1) = true := decide_eq_true c4
     clear c4
     by_cases c5 : x10_1 < (l0.length : Int)
     ·rw [if_pos c5] at H
      have c5b0 : decide (x10_1 < (l0.length : Int)) = true := decide_eq_true c5
      clear c5
      by_cases c6 : 0 ≤ a1
      ·rw [if_pos c6] at H
       have c6b0 : decide (0 ≤ a1) = true := decide_eq_true c6
       clear c6
       by_cases c7 : a1 < ((rd_L2 l0 x10_1).length : Int)
       ·rw [if_pos c7] at H
        have c7b0 : decide (a1 < ((rd_L2 l0 x10_1).length : Int)) = true := decide_eq_true c7
        clear c7
        by_cases c8 : x5_1.length < 17592186044416
        ·rw [if_pos c8] at H
         have LMc8 := Aside0.mk c8
         clear c8
         obtain ⟨y372, hy372⟩ : ∃ y_ : List Int, y_ = (x5_1 ++ [rd (rd_L2 l0 x10_1) a1]) := ⟨_, rfl⟩
         replace H : (spec_plColumn.l0 k1 a1 y372 l0 (l0.length : Int) (wrap64 (x10_1 + 1))) = some r := by first | (rw [hy372]; with_reducible exact H) | (have H2_ := (Option.bind_some _ _).symm.trans H; rw [hy372]; with_reducible exact H2_) | (have H2_ := (Option.bind_some _ _).symm.trans H; with_reducible exact H2_) | with_reducible exact H | (rw [hy372]; exact H) | exact H
         have Ny372 := Aside0.mk hy372
         clear hy372
         have H' := Aside0.mk H
         clear H
         have p370 : 0 ≤ (x10_1 : Int) := of_decide_eq_true (by first | (with_reducible assumption) | assumption)
         have q370 : x10_1 < (l0.length : Int) := of_decide_eq_true (by first | (with_reducible assumption) | assumption)
         obtain ⟨ad370, A370_0, c370_0, e370, hx370_0, hl370_0, hi370_0⟩ := at_L2 HR0.out x10_1 p370 q370
         cases e370
         try replace hx370_0 := (HB.out.cell (World.block_lt_of_cell? w _ hx370_0)).trans hx370_0
         have HR370_0 := Aside0.mk hi370_0
         have HC370_0 := Aside0.mk hl370_0
         clear hi370_0 hl370_0
         replace p370 := eq_true p370
         replace q370 := eq_true q370
         have p371 : 0 ≤ (a1 : Int) := of_decide_eq_true (by first | (with_reducible assumption) | assumption)
         have q371 : a1 < ((rd_L2 l0 x10_1).length : Int) := of_decide_eq_true (by first | (with_reducible assumption) | assumption)
         obtain ⟨ad371, e371, hx371_0⟩ := Kd.at_int HR370_0.out a1 p371 q371
         cases e371
         try replace hx371_0 := (HB.out.cell (World.block_lt_of_cell? w _ hx371_0)).trans hx371_0
         replace p371 := eq_true p371
         replace q371 := eq_true q371
         go_wp2_with (first | ((with_reducible refine gate_builtin (b := .append) (xs := #[.tmp 14, .tmp 19]) rfl ?_); at_builtin; refine Kd.R_append (Kd.int .i64) (w0 := w) w.heap.size rfl (.tmp 14) (.tmp 19) 24 3 (.int .i64 0) 8 rfl Try.underlying24 info3 rfl (by decide) (by omega) u5 x5_1 (rd (rd_L2 l0 x10_1) a1) [.int .i64 (rd (rd_L2 l0 x10_1) a1)] (fun _ => True) (fun _ => False) rfl rfl ?aP (fun _ hk => hk.elim) ?aF ?aO ?aB ?aS ?aL ?_; (case aP => exact rfl); (case aB => exact (by repeat (first | (with_reducible first | exact HB.out | apply below_alloc | apply pw_below_drewN | apply below_drew1) | exact HB.out))); (case aF => exact (fun _ _ => trivial)); (case aO => exact (by (with_reducible repeat (first | apply Kd.R_alloc | apply Kd.R_drewN | apply Kd.R_drew)); exact HO_5.out)); (case aS => exact (below_size (by repeat (first | (with_reducible first | exact HB.out | apply below_alloc | apply pw_below_drewN | apply below_drew1) | exact HB.out)))); (case aL => have := LMc8.out; omega); intro v373 w9 ho hb hg hat; rw [← Ny372.out] at ho; have n0_ := Aside0.mk (hb); have n1_ := Aside0.mk (ho); clear HB; clear HO_5; have HB := n0_; have HO374 := n1_; clear n0_ n1_; clear ho hb hg hat))
         go_roundg k1
         case measure => have := HK1.out; omega
         case rel => exact ⟨(y372), (wrap64 (x10_1 + 1)), (by first | rfl | (simp; done) | (simp [*]; done)), H', ⟨by have := HK1.out; omega⟩, ⟨by (with_reducible repeat (first | apply Kd.R_alloc | apply Kd.R_drewN | apply Kd.R_drew)); exact HO374.out⟩, ⟨by repeat (first | (with_reducible first | exact HB.out | apply below_alloc | apply pw_below_drewN | apply below_drew1) | exact HB.out)⟩⟩
        ·rw [if_neg c8] at H
         exact absurd H (by simp)
       ·rw [if_neg c7] at H
        exact absurd H (by simp)
      ·rw [if_neg c6] at H
       exact absurd H (by simp)
     ·rw [if_neg c5] at H
      exact absurd H (by simp)
    ·rw [if_neg c4] at H
     exact absurd H (by simp)
   ·rw [if_neg c3] at H
    have c3b0 : decide (x10_1 < (l0.length : Int)) = false := decide_eq_false c3
    clear c3
    obtain rfl := Option.some.inj H
    go_wp2
    go_ret
    exact ⟨_, by first | rfl | (simp [errW_none, errW_some] <;> rfl) | (simp [*, errW_none, errW_some] <;> rfl), by (with_reducible repeat (first | apply Kd.R_alloc | apply Kd.R_drewN | apply Kd.R_drew)); exact HO_5.out, by repeat (first | (with_reducible first | exact HB.out | apply below_alloc | apply pw_below_drewN | apply below_drew1) | exact HB.out)⟩

end Go.Proofs.Ytojklddddedoeaa.PFnGluedPlans
-- SLIM
