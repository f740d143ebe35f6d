/- For each Go function that the law uses, a Lean function with the same answers and a proof that its call comes to them; the conditions stand in each theorem. (Written by a program of this session, turned from the print of the kit.) -/
import Derived.Test.YtojklddddedoeaaPFnTopx0
import Derived.Test.YtojklddddedoeaaPFnTopx1
import Derived.Test.YtojklddddedoeaaPFnTopx2
namespace Go.Proofs.Ytojklddddedoeaa.PFnTop
open Go.RowKit Go.Proofs.YtojklddddedoeaaW.PrintWords Go.Proofs.YtojklddddedoeaaW.PrintLast Go.Proofs.YtojklddddedoeaaW.PrintMore
attribute [local go_sem] max2_int min2_int max_two min_two max_three min_three max_four min_four   -- for this text's walks alone
set_option linter.unusedVariables false
set_option linter.unusedSimpArgs false

/-! ### impl_monotone: function 80 -/
/-- The rounds of carrying: what stands in the table, and what is left at both sides. -/
def impl_monotone.l0 : Nat → List (List Int) → List Int → List Int → Int → Int → Option (List (List Int))
 | 0, _, _, _, _, _ => none
 | k + 1, m, a, b, i, j => if i < (a.length : Int) then (if j < (b.length : Int) then (if 0 ≤ i then (if 0 ≤ j then (if i < (m.length : Int) then (if j < ((rd_L2 m i).length : Int) then (if rd (a.set i.toNat (wrap64 (rd a i - mn (rd a i) (rd b j)))) i = 0 then impl_monotone.l0 k (m.set i.toNat ((rd_L2 m i).set j.toNat (wrap64 (rd (rd_L2 m i) j + mn (rd a i) (rd b j))))) (a.set i.toNat (wrap64 (rd a i - mn (rd a i) (rd b j)))) (b.set j.toNat (wrap64 (rd b j - mn (rd a i) (rd b j)))) (wrap64 (i + 1)) j else impl_monotone.l0 k (m.set i.toNat ((rd_L2 m i).set j.toNat (wrap64 (rd (rd_L2 m i) j + mn (rd a i) (rd b j))))) (a.set i.toNat (wrap64 (rd a i - mn (rd a i) (rd b j)))) (b.set j.toNat (wrap64 (rd b j - mn (rd a i) (rd b j)))) i (wrap64 (j + 1))) else none) else none) else none) else none) else some m) else some m
def impl_monotone.c (k : Nat) (m : List (List Int)) (l0 l1 : List Int) : Option (List (List Int)) := (slices_Clone_int_int.f l0).bind fun a => (slices_Clone_int_int.f l1).bind fun b => impl_monotone.l0 k m a b 0 0
theorem impl_monotone.l0_mono : ∀ k m a b i j, LeO (impl_monotone.l0 k m a b i j) (impl_monotone.l0 (k + 1) m a b i j)
 | 0, _, _, _, _, _ => fun r h => by simp [impl_monotone.l0] at h
 | k + 1, m, a, b, i, j => by
  rw [impl_monotone.l0, impl_monotone.l0]
  exact LeO.ite (LeO.ite (LeO.ite (LeO.ite (LeO.ite (LeO.ite (LeO.ite (impl_monotone.l0_mono k _ _ _ _ _) (impl_monotone.l0_mono k _ _ _ _ _)) (LeO.none _)) (LeO.none _)) (LeO.none _)) (LeO.none _)) (LeO.refl _)) (LeO.refl _)
theorem impl_monotone.c_mono (m : List (List Int)) (l0 l1 : List Int) (k : Nat) : LeO (impl_monotone.c k m l0 l1) (impl_monotone.c (k + 1) m l0 l1) := by
 unfold impl_monotone.c
 exact LeO.bind (LeO.refl _) (fun _ => LeO.bind (LeO.refl _) (fun _ => impl_monotone.l0_mono k _ _ _ _ _))
/-- One row of rows that are apart has been written. -/
theorem impl_monotone.row_step {w w1 : World} {base : Nat} {P0_ : Nat → Prop} {g n cap : Nat} {m : List (List Int)} {r : List Int} {i : Int} {oki : Nat → Prop} {c : List Value} {u : Value} {q : Nat}
  (hu : c = [u]) (hoki : ∀ k, oki k → P0_ k ∧ k ≠ g) (hH : Kd.H (Kd.slice 3 (Kd.int .i64)) 24 w base P0_ (.slice (some ⟨g, 0, none⟩) n cap) m i oki c)
  (hq : u.ownBlock = some q) (hqo : oki q) {ok1 : Nat → Prop} (hr : Kd.R (Kd.int .i64) 3 w1 base ok1 u r) (hk : w.grownBy w1 (some q)) :
  Kd.S (Kd.slice 3 (Kd.int .i64)) 24 w1 base P0_ (.slice (some ⟨g, 0, none⟩) n cap) (m.set i.toNat r) := by
 have h1 := Kd.H_step (w1 := w1) hH (fun k _ hn hlt => hk.block k hlt (fun he => hn (by cases he; exact hqo)))
 refine Kd.H_back (okp := fun k => some k = u.ownBlock) h1 ?_ (fun k hk => by rw [hq] at hk; cases hk; exact hqo)
 rw [hu]
 exact Kd.M_row (Kd.R_tight rfl hr)
set_option maxHeartbeats 8000000 in
set_option maxRecDepth 100000 in
/-- Units are put: one cell of the table is greater by them. -/
theorem impl_monotone.put (Bo g cap n : Nat) (m : List (List Int)) (i j x : Int) (base : Nat) (ok : Nat → Prop) (w : World) (hBo : Boxed w Bo 27 (.slice (some ⟨g, 0, none⟩) n cap)) (hS : Kd.S (Kd.slice 3 (Kd.int .i64)) 24 w base ok (.slice (some ⟨g, 0, none⟩) n cap) m) (hi0 : 0 ≤ i) (hi : i < (m.length : Int)) (hj0 : 0 ≤ j) (hj : j < ((rd_L2 m i).length : Int)) :
  Calls Try.prog 160 #[.int .i64 i, .int .i64 j, .int .i64 x, .pointer (some ⟨Bo, 0, none⟩)] w fun e w' => e = .returned (.tuple #[]) ∧ Kd.S (Kd.slice 3 (Kd.int .i64)) 24 w' base ok (.slice (some ⟨g, 0, none⟩) n cap) (m.set i.toNat ((rd_L2 m i).set j.toNat (wrap64 (rd (rd_L2 m i) j + x)))) ∧ ∃ q, ok q ∧ base ≤ q ∧ w.grownBy w' (some q) := by
 have hn := (Kd.S_reads' hS).1
 obtain ⟨oki, c, hcl, hM, hcell, hoki, hH⟩ := Kd.S_lend hS [] i hi0 (by omega)
 obtain ⟨u, hu, hR⟩ := hM
 have hrow : m.getD i.toNat [] = rd_L2 m i := rfl
 rw [hrow] at hR
 obtain ⟨gr, cr, er, hbr, hlr, _⟩ := Kd.R_form hR (by omega)
 subst er
 subst hu
 have hcell0 := hcell 0 _ rfl
 rw [show i.toNat * (Kd.slice 3 (Kd.int .i64)).sz + 0 = i.toNat from by show i.toNat * 1 + 0 = _; omega] at hcell0
 obtain ⟨hx0, hf0⟩ := Kd.R_celln 0 hR j hj0 hj
 have hb := hBo.cell
 have HP := Kd.R_putg hR j (wrap64 (rd (rd_L2 m i) j + x))
 have hqo : oki gr := hR.1 _ rfl
 have hx1 : w.cell? ⟨gr, j.toNat, none⟩ = some (.int .i64 (rd (rd_L2 m i) j)) := hx0
 have HR := Aside0.mk hR
 have HH := Aside0.mk hH
 have HO := Aside0.mk hoki
 have HQ := Aside0.mk hqo
 have HBQ := Aside0.mk hbr
 have p1 := eq_true hi0
 have q1 := eq_true (show i < (n : Int) by omega)
 have p2 := eq_true hj0
 have q2 := eq_true hj
 clear hBo hS hi0 hi hj0 hj hn hcell hcl hR hH hoki hqo hbr hlr hrow hx0
 have HX1 := hx1
 have HC0 := hcell0
 clear hx1 hcell0
 obtain ⟨row, hrow⟩ : ∃ q_, q_ = rd_L2 m i := ⟨_, rfl⟩
 rw [← hrow] at HX1 HC0 HP q2 HR HH ⊢
 have Nrow := Aside0.mk hrow
 clear hrow
 go_enter Try.func160, Try.ntmps160
 go_wp2_with (first | ((with_reducible refine gate_store (t := 3) (p := 16) rfl ?_); refine store_event (t := 3) (p := 16) (v := ?vo_w8) (w1 := (w.setCell ⟨gr, j.toNat, none⟩ (.int .i64 (wrap64 (rd row j + x))))) ?hg ?ho ?hn ?hr ?_; (case ho => rfl); (case hg => rfl); (case hn => rfl); (case hr => first | (go_simp; done) | (go_simp; rfl)); intro w8 hw; have h8 := Aside0.mk hw; clear hw))
 go_end0
 refine ⟨rfl, ?_, gr, (HO.out _ HQ.out).1, HBQ.out, ?_⟩
 ·have hw := h8.out
  rw [hw]
  exact impl_monotone.row_step rfl HO.out HH.out rfl HQ.out HP.1 HP.2
 ·rw [h8.out]; exact HP.2
theorem impl_monotone.blk_drewN {w : World} {B : Nat} {t : TypeId} {v : Value} (h : Boxed w B t v) (m : Nat) : Boxed (w.drewN m) B t v := by
 have : (w.drewN m).heap = w.heap := rfl
 unfold Boxed; rw [this]; exact h
theorem impl_monotone.block_lt {w : World} {A : Option Addr} {n cap base : Nat} {ok : Nat → Prop} {l : List Int} (h : Kd.R (Kd.int .i64) 3 w base ok (.slice A n cap) l) (hp : 0 < l.length) : ∃ g, A = some ⟨g, 0, none⟩ ∧ base ≤ g ∧ ok g := by
 obtain ⟨g, c, e, hb, _⟩ := Kd.R_form h hp
 injection e with e1 e2 e3
 exact ⟨g, e1, hb, h.1 _ (by rw [e1]; rfl)⟩
set_option maxHeartbeats 8000000 in
set_option maxRecDepth 100000 in
/-- Carrying, with the putting that writes a table. -/
theorem impl_monotone.carry (k Bo g cap n base : Nat) (ok : Nat → Prop) (A0 : Option Addr) (c0 : Nat) (l0 : List Int) (A1 : Option Addr) (c1 : Nat) (l1 : List Int) (m r : List (List Int)) (w0 w : World) (hB : Below w0.heap.size w0 w) (hBo : Boxed w Bo 27 (.slice (some ⟨g, 0, none⟩) n cap)) (hS : Kd.S (Kd.slice 3 (Kd.int .i64)) 24 w base ok (.slice (some ⟨g, 0, none⟩) n cap) m) (hbase : w0.heap.size ≤ base) (hokB : ∀ k, ok k → k ≠ Bo) (hok : ∀ k, ok k → k < w.heap.size)
  (hr0 : Kd.C (Kd.int .i64) w A0 l0.length l0) (hc0 : l0.length ≤ c0) (hr1 : Kd.C (Kd.int .i64) w A1 l1.length l1) (hc1 : l1.length ≤ c1) (h : impl_monotone.c k m l0 l1 = some r) :
  Calls Try.prog 108 #[.slice A0 l0.length c0, .slice A1 l1.length c1, .func (.func 160) #[] #[.pointer (some ⟨Bo, 0, none⟩)]] w fun e w' => e = .returned (.tuple #[]) ∧ Kd.S (Kd.slice 3 (Kd.int .i64)) 24 w' base ok (.slice (some ⟨g, 0, none⟩) n cap) r ∧ Below w0.heap.size w0 w' ∧ Kept w w' ok := by
 unfold impl_monotone.c at h
 replace h := Option.bind_eq_some_iff.mp h
 obtain ⟨a, ha, h⟩ := h
 replace h := Option.bind_eq_some_iff.mp h
 obtain ⟨b, hb, h⟩ := h
 have HA := Aside0.mk ha
 have HB := Aside0.mk hb
 have HH := Aside0.mk h
 have HR0 := Aside0.mk hr0
 have HC0 := Aside0.mk hc0
 have HR1 := Aside0.mk hr1
 have HC1 := Aside0.mk hc1
 have HO := Aside0.mk hS
 have HBo := Aside0.mk hBo
 have HBW := Aside0.mk hB
 have HBA := Aside0.mk hbase
 have HOB := Aside0.mk hokB
 have HOK := Aside0.mk hok
 clear ha hb h hr0 hc0 hr1 hc1 hS hBo hB hbase hokB hok
 go_enter Try.func108, Try.ntmps108
 go_wp2_with (first
  | (go_at_call 170; (with_reducible refine (slices_Clone_int_int.calls A0 c0 l0 a _ ?side1 ?side2 HA.out).mono ?_); (case side1 => repeat (first | exact HR0.out | (with_reducible refine Kd.C_alloc ?_ _) | (with_reducible refine Kd.C_drewN ?_ _) | (with_reducible refine Kd.C_drew ?_))); (case side2 => exact HC0.out); rintro e w1 ⟨va, rfl, hA, hb1⟩; have HVA := Aside0.mk hA; have HB1 := Aside0.mk hb1; clear hA hb1)
  | (go_at_call 170; (with_reducible refine (slices_Clone_int_int.calls A1 c1 l1 b _ ?side1 ?side2 HB.out).mono ?_); (case side1 => exact Kd.C_below HR1.out HB1.out); (case side2 => exact HC1.out); rintro e w2 ⟨vb, rfl, hB, hb2⟩; have HVB := Aside0.mk hB; have HB2 := Aside0.mk hb2; clear hB hb2))
 obtain ⟨NA, hNA⟩ : ∃ q_, q_ = w.heap.size := ⟨_, rfl⟩
 obtain ⟨NB, hNB⟩ : ∃ q_, q_ = w1.heap.size := ⟨_, rfl⟩
 obtain ⟨NC, hNC⟩ : ∃ q_, q_ = w2.heap.size := ⟨_, rfl⟩
 have LA : w.heap.size ≤ NA := by omega
 have LA' : NA ≤ w.heap.size := by omega
 have LB : NA ≤ NB := by have := HB1.out.size; omega
 have LC : NB ≤ NC := by have := HB2.out.size; omega
 have HVA2 := Aside0.mk (show Kd.R (Kd.int .i64) 3 w2 w.heap.size (fun k => NA ≤ k ∧ k < NB) va a from Kd.R_below (Kd.R_mono (Kd.R_bound HVA.out) (fun k hk => ⟨by have := hk.2.1; omega, by have := hk.2.2.1; omega⟩)) HB2.out)
 have HVB2 := Aside0.mk (show Kd.R (Kd.int .i64) 3 w2 w.heap.size (fun k => NB ≤ k ∧ k < NC) vb b from Kd.R_lower (Kd.R_mono (Kd.R_bound HVB.out) (fun k hk => ⟨by have := hk.2.1; omega, by have := hk.2.2.1; omega⟩)) HB1.out.size)
 have HK0 := Aside0.mk (Kept.of_below (HB1.out.trans (HB2.out.mono HB1.out.size)) ok)
 have HW0 := Aside0.mk ((HBW.out.trans (HB1.out.mono HBW.out.size)).trans (HB2.out.mono (Nat.le_trans HBW.out.size HB1.out.size)))
 have HO2 := Aside0.mk (Kd.S_below (Kd.S_below HO.out HB1.out) HB2.out)
 have HOL := Aside0.mk (show ∀ k, ok k → k < NA from fun k hk => by have := HOK.out k hk; omega)
 clear HVA HVB HB1 HB2 hNA hNB hNC HO HOK HR0 HC0 HR1 HC1
 obtain ⟨Aa, ca, ea⟩ := Kd.R_slice HVA2.out
 subst ea
 obtain ⟨Ab, cb, eb⟩ := Kd.R_slice HVB2.out
 subst eb
 go_loopg [6, 7] k (fun kq v6 v7 wr => ∃ (m' : List (List Int)) (a' b' : List Int) (i j : Int), v6 = .int .i64 i ∧ v7 = .int .i64 j ∧ Aside0 (a'.length = a.length) ∧ Aside0 (b'.length = b.length) ∧ Aside0 (impl_monotone.l0 kq m' a' b' i j = some r) ∧ Aside0 (kq ≤ k) ∧ Aside0 (Kd.S (Kd.slice 3 (Kd.int .i64)) 24 wr base ok (.slice (some ⟨g, 0, none⟩) n cap) m') ∧ Aside0 (Kd.R (Kd.int .i64) 3 wr w.heap.size (fun k => NA ≤ k ∧ k < NB) (.slice Aa a.length ca) a') ∧ Aside0 (Kd.R (Kd.int .i64) 3 wr w.heap.size (fun k => NB ≤ k ∧ k < NC) (.slice Ab b.length cb) b') ∧ Aside0 (Below w0.heap.size w0 wr) ∧ Aside0 (Kept w wr ok))
 case atStart => exact ⟨m, a, b, 0, 0, rfl, rfl, ⟨rfl⟩, ⟨rfl⟩, HH, ⟨Nat.le_refl _⟩, HO2, HVA2, HVB2, HW0, HK0⟩
 case round =>
  clear HH HO2 HVA2 HVB2 HW0 HK0
  obtain ⟨m', a', b', i, j, rfl, rfl, HLA, HLB, HQ, HKQ, HO, HVA, HVB, HW, HK⟩ := hrel
  cases gk with
  | zero => exact absurd HQ.out (by simp [impl_monotone.l0])
  | succ k1 =>
   have H := HQ.out
   clear HQ
   simp only [impl_monotone.l0] at H
   rw [HLA.out, HLB.out] at H
   by_cases ci : i < (a.length : Int)
   ·rw [if_pos ci] at H
    by_cases cj : j < (b.length : Int)
    ·rw [if_pos cj] at H
     by_cases ci0 : 0 ≤ i
     ·rw [if_pos ci0] at H
      by_cases cj0 : 0 ≤ j
      ·rw [if_pos cj0] at H
       by_cases cm : i < (m'.length : Int)
       ·rw [if_pos cm] at H
        by_cases cr : j < ((rd_L2 m' i).length : Int)
        ·rw [if_pos cr] at H
         have HM := Aside0.mk cm
         have HRW := Aside0.mk cr
         have HI := Aside0.mk ci
         have HJ := Aside0.mk cj
         have HI0 := Aside0.mk ci0
         have HJ0 := Aside0.mk cj0
         obtain ⟨ga, eA, hbA, hoA⟩ := impl_monotone.block_lt HVA.out (by have := HLA.out; omega)
         obtain ⟨gb, eB, hbB, hoB⟩ := impl_monotone.block_lt HVB.out (by have := HLB.out; omega)
         subst eA
         subst eB
         obtain ⟨hxa, hfa⟩ := Kd.R_celln 0 HVA.out i ci0 ci
         obtain ⟨hxb, hfb⟩ := Kd.R_celln 0 HVB.out j cj0 cj
         replace hxa : wr.cell? ⟨ga, i.toNat, none⟩ = some (.int .i64 (rd a' i)) := hxa
         replace hxb : wr.cell? ⟨gb, j.toNat, none⟩ = some (.int .i64 (rd b' j)) := hxb
         have HGA := Aside0.mk (show NA ≤ ga ∧ ga < NB from hoA)
         have HGB := Aside0.mk (show NB ≤ gb ∧ gb < NC from hoB)
         clear hbA hoA hbB hoB
         obtain ⟨x, hx⟩ : ∃ q_, q_ = mn (rd a' i) (rd b' j) := ⟨_, rfl⟩
         rw [← hx] at H
         obtain ⟨y, hy⟩ : ∃ q_, q_ = a'.set i.toNat (wrap64 (rd a' i - x)) := ⟨_, rfl⟩
         rw [← hy] at H
         obtain ⟨z, hz⟩ : ∃ q_, q_ = b'.set j.toNat (wrap64 (rd b' j - x)) := ⟨_, rfl⟩
         rw [← hz] at H
         obtain ⟨m2, hm2⟩ : ∃ q_, q_ = m'.set i.toNat ((rd_L2 m' i).set j.toNat (wrap64 (rd (rd_L2 m' i) j + x))) := ⟨_, rfl⟩
         rw [← hm2] at H
         have Nx := Aside0.mk hx
         have Ny := Aside0.mk hy
         have Nz := Aside0.mk hz
         have Nm2 := Aside0.mk hm2
         clear hx hy hz hm2
         have hb := ((HK.out.2 Bo HBo.out.lt (fun h_ => HOB.out Bo h_ rfl)).trans HBo.out : Boxed wr Bo 27 (.slice (some ⟨g, 0, none⟩) n cap))
         have HBX := Aside0.mk hb
         clear hb cm cr
         replace ci := eq_true ci
         replace cj := eq_true cj
         replace ci0 := eq_true ci0
         replace cj0 := eq_true cj0
         by_cases cz : rd y i = 0
         ·rw [if_pos cz] at H
          have H' := Aside0.mk H
          clear H
          have cz0 : (rd y i == 0) = true := beq_iff_eq.mpr cz
          clear cz
          go_wp2
          go_quiet (fail)
          rw [show (if rd b' j < rd a' i then rd b' j else rd a' i) = x from Nx.out.symm]
          go_wp2_with (first | (go_at_call 160; refine (impl_monotone.put Bo g cap n m' i j x base ok _ (impl_monotone.blk_drewN HBX.out nq) (Kd.S_drewN HO.out nq) HI0.out HM.out HJ0.out HRW.out).mono ?_; rintro e w6 ⟨rfl, hS6, q, hqo, hqb, hg⟩; have n0_ := Aside0.mk (show Kd.S (Kd.slice 3 (Kd.int .i64)) 24 w6 base ok (.slice (some ⟨g, 0, none⟩) n cap) m2 from by rw [Nm2.out]; exact hS6); have n1_ := Aside0.mk (Kd.R_grown (Kd.R_drewN HVA.out nq) hg (fun k hk e_ => by cases e_; have := HOL.out _ hqo; omega)); have n2_ := Aside0.mk (Kd.R_grown (Kd.R_drewN HVB.out nq) hg (fun k hk e_ => by cases e_; have := HOL.out _ hqo; omega)); have n3_ := Aside0.mk (Below.grown (pw_below_drewN HW.out nq) hg (by have := HW.out.size; first | exact this | (simp; omega)) (fun k e_ => by cases e_; have := HBA.out; omega)); have n4_ := Aside0.mk (Kept.of_grown hg (Kept.drewN HK.out nq) (fun k e_ => .inl (by cases e_; exact hqo))); clear HO HVA HVB HW HK hS6 hg hqo hqb; have HO := n0_; have HVA := n1_; have HVB := n2_; have HW := n3_; have HK := n4_; clear n0_ n1_ n2_ n3_ n4_; have HP := Kd.R_putg HVA.out i (wrap64 (rd a' i - x)); obtain ⟨hxd, hfd⟩ := Kd.R_celln 0 HVA.out i HI0.out HI.out; replace hxd : w6.cell? ⟨ga, i.toNat, none⟩ = some (.int .i64 (rd a' i)) := hxd) | ((with_reducible refine gate_store (t := 3) (p := 43) rfl ?_); refine store_event (t := 3) (p := 43) (v := ?vo_1) (w1 := (w6.setCell ⟨ga, i.toNat, none⟩ (.int .i64 (wrap64 (rd a' i - x))))) ?hg ?ho ?hn ?hr ?_; (case ho => rfl); (case hg => rfl); (case hn => rfl); (case hr => first | (go_simp; done) | (go_simp; rfl)); intro w8 hw; have hg : w6.grownBy w8 (some ga) := (by rw [hw]; exact HP.2); have hp_ : Kd.R (Kd.int .i64) 3 w8 w.heap.size (fun k => NA ≤ k ∧ k < NB) (.slice (some ⟨ga, 0, none⟩) a.length ca) y := (by rw [hw, Ny.out]; exact HP.1); clear HP; have n0_ := Aside0.mk (Kd.S_grown HO.out hg (fun k hk e_ => by cases e_; have := HOL.out _ hk; have := HGA.out; omega)); have n1_ := Aside0.mk (Kd.R_grown HVB.out hg (fun k hk e_ => by cases e_; have := HGA.out; omega)); have n2_ := Aside0.mk (Below.grown HW.out hg (by have := HW.out.size; omega) (fun k e_ => by cases e_; have := HBW.out.size; have := HGA.out; omega)); have n3_ := Aside0.mk (Kept.of_grown hg HK.out (fun k e_ => .inr (by cases e_; have := HGA.out; omega))); have n4_ := Aside0.mk hp_; clear HO HVA HVB HW HK; have HO := n0_; have HVB := n1_; have HW := n2_; have HK := n3_; have HVA := n4_; clear n0_ n1_ n2_ n3_ n4_ hg hw hp_; have HP := Kd.R_putg HVB.out j (wrap64 (rd b' j - x)); obtain ⟨hxc, hfc⟩ := Kd.R_celln 0 HVB.out j HJ0.out HJ.out; replace hxc : w8.cell? ⟨gb, j.toNat, none⟩ = some (.int .i64 (rd b' j)) := hxc) | ((with_reducible refine gate_store (t := 3) (p := 50) rfl ?_); refine store_event (t := 3) (p := 50) (v := ?vo_2) (w1 := (w8.setCell ⟨gb, j.toNat, none⟩ (.int .i64 (wrap64 (rd b' j - x))))) ?hg ?ho ?hn ?hr ?_; (case ho => rfl); (case hg => rfl); (case hn => rfl); (case hr => first | (go_simp; done) | (go_simp; rfl)); intro w9 hw; have hg : w8.grownBy w9 (some gb) := (by rw [hw]; exact HP.2); have hp_ : Kd.R (Kd.int .i64) 3 w9 w.heap.size (fun k => NB ≤ k ∧ k < NC) (.slice (some ⟨gb, 0, none⟩) b.length cb) z := (by rw [hw, Nz.out]; exact HP.1); clear HP; have n0_ := Aside0.mk (Kd.S_grown HO.out hg (fun k hk e_ => by cases e_; have := HOL.out _ hk; have := HGB.out; omega)); have n1_ := Aside0.mk (Kd.R_grown HVA.out hg (fun k hk e_ => by cases e_; have := HGB.out; omega)); have n2_ := Aside0.mk (Below.grown HW.out hg (by have := HW.out.size; omega) (fun k e_ => by cases e_; have := HBW.out.size; have := HGB.out; omega)); have n3_ := Aside0.mk (Kept.of_grown hg HK.out (fun k e_ => .inr (by cases e_; have := HGB.out; omega))); have n4_ := Aside0.mk hp_; clear HO HVA HVB HW HK; have HO := n0_; have HVA := n1_; have HW := n2_; have HK := n3_; have HVB := n4_; clear n0_ n1_ n2_ n3_ n4_ hg hw hp_; obtain ⟨hxc, hfc⟩ := Kd.R_celln 0 HVA.out i HI0.out HI.out; replace hxc : w9.cell? ⟨ga, i.toNat, none⟩ = some (.int .i64 (rd y i)) := hxc))
          go_roundg k1
          case measure => have := HKQ.out; omega
          case rel => exact ⟨m2, y, z, (wrap64 (i + 1)), j, (by first | rfl | (simp; done) | (simp [*]; done)), (by first | rfl | (simp; done) | (simp [*]; done)), ⟨by rw [Ny.out, List.length_set]; exact HLA.out⟩, ⟨by rw [Nz.out, List.length_set]; exact HLB.out⟩, H', ⟨by have := HKQ.out; omega⟩, HO, HVA, HVB, HW, HK⟩
         ·rw [if_neg cz] at H
          have H' := Aside0.mk H
          clear H
          have cz0 : (rd y i == 0) = false := beq_eq_false_iff_ne.mpr cz
          clear cz
          go_wp2
          go_quiet (fail)
          rw [show (if rd b' j < rd a' i then rd b' j else rd a' i) = x from Nx.out.symm]
          go_wp2_with (first | (go_at_call 160; refine (impl_monotone.put Bo g cap n m' i j x base ok _ (impl_monotone.blk_drewN HBX.out nq) (Kd.S_drewN HO.out nq) HI0.out HM.out HJ0.out HRW.out).mono ?_; rintro e w6 ⟨rfl, hS6, q, hqo, hqb, hg⟩; have n0_ := Aside0.mk (show Kd.S (Kd.slice 3 (Kd.int .i64)) 24 w6 base ok (.slice (some ⟨g, 0, none⟩) n cap) m2 from by rw [Nm2.out]; exact hS6); have n1_ := Aside0.mk (Kd.R_grown (Kd.R_drewN HVA.out nq) hg (fun k hk e_ => by cases e_; have := HOL.out _ hqo; omega)); have n2_ := Aside0.mk (Kd.R_grown (Kd.R_drewN HVB.out nq) hg (fun k hk e_ => by cases e_; have := HOL.out _ hqo; omega)); have n3_ := Aside0.mk (Below.grown (pw_below_drewN HW.out nq) hg (by have := HW.out.size; first | exact this | (simp; omega)) (fun k e_ => by cases e_; have := HBA.out; omega)); have n4_ := Aside0.mk (Kept.of_grown hg (Kept.drewN HK.out nq) (fun k e_ => .inl (by cases e_; exact hqo))); clear HO HVA HVB HW HK hS6 hg hqo hqb; have HO := n0_; have HVA := n1_; have HVB := n2_; have HW := n3_; have HK := n4_; clear n0_ n1_ n2_ n3_ n4_; have HP := Kd.R_putg HVA.out i (wrap64 (rd a' i - x)); obtain ⟨hxd, hfd⟩ := Kd.R_celln 0 HVA.out i HI0.out HI.out; replace hxd : w6.cell? ⟨ga, i.toNat, none⟩ = some (.int .i64 (rd a' i)) := hxd) | ((with_reducible refine gate_store (t := 3) (p := 43) rfl ?_); refine store_event (t := 3) (p := 43) (v := ?vo_3) (w1 := (w6.setCell ⟨ga, i.toNat, none⟩ (.int .i64 (wrap64 (rd a' i - x))))) ?hg ?ho ?hn ?hr ?_; (case ho => rfl); (case hg => rfl); (case hn => rfl); (case hr => first | (go_simp; done) | (go_simp; rfl)); intro w8 hw; have hg : w6.grownBy w8 (some ga) := (by rw [hw]; exact HP.2); have hp_ : Kd.R (Kd.int .i64) 3 w8 w.heap.size (fun k => NA ≤ k ∧ k < NB) (.slice (some ⟨ga, 0, none⟩) a.length ca) y := (by rw [hw, Ny.out]; exact HP.1); clear HP; have n0_ := Aside0.mk (Kd.S_grown HO.out hg (fun k hk e_ => by cases e_; have := HOL.out _ hk; have := HGA.out; omega)); have n1_ := Aside0.mk (Kd.R_grown HVB.out hg (fun k hk e_ => by cases e_; have := HGA.out; omega)); have n2_ := Aside0.mk (Below.grown HW.out hg (by have := HW.out.size; omega) (fun k e_ => by cases e_; have := HBW.out.size; have := HGA.out; omega)); have n3_ := Aside0.mk (Kept.of_grown hg HK.out (fun k e_ => .inr (by cases e_; have := HGA.out; omega))); have n4_ := Aside0.mk hp_; clear HO HVA HVB HW HK; have HO := n0_; have HVB := n1_; have HW := n2_; have HK := n3_; have HVA := n4_; clear n0_ n1_ n2_ n3_ n4_ hg hw hp_; have HP := Kd.R_putg HVB.out j (wrap64 (rd b' j - x)); obtain ⟨hxc, hfc⟩ := Kd.R_celln 0 HVB.out j HJ0.out HJ.out; replace hxc : w8.cell? ⟨gb, j.toNat, none⟩ = some (.int .i64 (rd b' j)) := hxc) | ((with_reducible refine gate_store (t := 3) (p := 50) rfl ?_); refine store_event (t := 3) (p := 50) (v := ?vo_4) (w1 := (w8.setCell ⟨gb, j.toNat, none⟩ (.int .i64 (wrap64 (rd b' j - x))))) ?hg ?ho ?hn ?hr ?_; (case ho => rfl); (case hg => rfl); (case hn => rfl); (case hr => first | (go_simp; done) | (go_simp; rfl)); intro w9 hw; have hg : w8.grownBy w9 (some gb) := (by rw [hw]; exact HP.2); have hp_ : Kd.R (Kd.int .i64) 3 w9 w.heap.size (fun k => NB ≤ k ∧ k < NC) (.slice (some ⟨gb, 0, none⟩) b.length cb) z := (by rw [hw, Nz.out]; exact HP.1); clear HP; have n0_ := Aside0.mk (Kd.S_grown HO.out hg (fun k hk e_ => by cases e_; have := HOL.out _ hk; have := HGB.out; omega)); have n1_ := Aside0.mk (Kd.R_grown HVA.out hg (fun k hk e_ => by cases e_; have := HGB.out; omega)); have n2_ := Aside0.mk (Below.grown HW.out hg (by have := HW.out.size; omega) (fun k e_ => by cases e_; have := HBW.out.size; have := HGB.out; omega)); have n3_ := Aside0.mk (Kept.of_grown hg HK.out (fun k e_ => .inr (by cases e_; have := HGB.out; omega))); have n4_ := Aside0.mk hp_; clear HO HVA HVB HW HK; have HO := n0_; have HVA := n1_; have HW := n2_; have HK := n3_; have HVB := n4_; clear n0_ n1_ n2_ n3_ n4_ hg hw hp_; obtain ⟨hxc, hfc⟩ := Kd.R_celln 0 HVA.out i HI0.out HI.out; replace hxc : w9.cell? ⟨ga, i.toNat, none⟩ = some (.int .i64 (rd y i)) := hxc))
          go_roundg k1
          case measure => have := HKQ.out; omega
          case rel => exact ⟨m2, y, z, i, (wrap64 (j + 1)), (by first | rfl | (simp; done) | (simp [*]; done)), (by first | rfl | (simp; done) | (simp [*]; done)), ⟨by rw [Ny.out, List.length_set]; exact HLA.out⟩, ⟨by rw [Nz.out, List.length_set]; exact HLB.out⟩, H', ⟨by have := HKQ.out; omega⟩, HO, HVA, HVB, HW, HK⟩
        ·rw [if_neg cr] at H
         exact absurd H (by simp)
       ·rw [if_neg cm] at H
        exact absurd H (by simp)
      ·rw [if_neg cj0] at H
       exact absurd H (by simp)
     ·rw [if_neg ci0] at H
      exact absurd H (by simp)
    ·rw [if_neg cj] at H
     obtain rfl := Option.some.inj H
     clear H
     replace ci := eq_true ci
     replace cj := eq_false cj
     go_wp2
     go_end0
     exact ⟨rfl, HO.out, HW.out, HK.out⟩
   ·rw [if_neg ci] at H
    obtain rfl := Option.some.inj H
    clear H
    replace ci := eq_false ci
    go_wp2
    go_end0
    exact ⟨rfl, HO.out, HW.out, HK.out⟩
def impl_monotone.f (k : Nat) (l0 l1 : List Int) : Option (List (List Int)) := (impl_square.f k (l0.length : Int) 0).bind fun m => if 0 < m.length then impl_monotone.c k m l0 l1 else none
theorem impl_monotone.mono : ∀ a0 a1 k, LeO (impl_monotone.f k a0 a1) (impl_monotone.f (k + 1) a0 a1) := by
 intro a0 a1 k
 unfold impl_monotone.f
 exact LeO.bind (impl_square.mono _ _ _) (fun _ => LeO.ite (impl_monotone.c_mono _ _ _ _) (LeO.none _))
set_option maxHeartbeats 8000000 in
set_option maxRecDepth 100000 in
theorem impl_monotone.calls (k : Nat) (A0 : Option Addr) (c0 : Nat) (l0 : List Int) (A1 : Option Addr) (c1 : Nat) (l1 : List Int) (r : List (List Int)) (w : World) (hr0 : Kd.C (Kd.int .i64) w A0 l0.length l0) (hc0 : l0.length ≤ c0) (hr1 : Kd.C (Kd.int .i64) w A1 l1.length l1) (hc1 : l1.length ≤ c1) (h : impl_monotone.f k l0 l1 = some r) :
  Calls Try.prog 80 #[.slice A0 l0.length c0, .slice A1 l1.length c1] w fun e w' => ∃ v0_ : Value, e = .returned (v0_) ∧ Kd.S (Kd.slice 3 (Kd.int .i64)) 24 w' w.heap.size (fun _ => True) v0_ r ∧ Below w.heap.size w w' := by
 unfold impl_monotone.f at h
 replace h := Option.bind_eq_some_iff.mp h
 obtain ⟨m, hm, h⟩ := h
 by_cases hl : ¬ 0 < m.length
 ·rw [if_neg hl] at h
  exact absurd h (by simp)
 replace hl := Decidable.not_not.mp hl
 rw [if_pos hl] at h
 have HM := Aside0.mk hm
 have HL := Aside0.mk hl
 have HH := Aside0.mk h
 have HR0 := Aside0.mk hr0
 have HC0 := Aside0.mk hc0
 have HR1 := Aside0.mk hr1
 have HC1 := Aside0.mk hc1
 clear hm hl h hr0 hc0 hr1 hc1
 go_enter Try.func80, Try.ntmps80
 go_wp2_with (first
  | (go_at_call 106; (with_reducible refine (impl_square.calls k (l0.length : Int) 0 m _ HM.out).mono ?_); rintro e w1 ⟨va, rfl, hS, hb1⟩; obtain ⟨g, cap, ev, hgb, hgl, _⟩ := Kd.S_form hS HL.out; subst ev; have hf := Boxed.new w1 27 (.slice (some ⟨g, 0, none⟩) m.length cap); have HF := Aside0.mk hf; have HS := Aside0.mk hS; have HB1 := Aside0.mk hb1; clear hS hb1 hf hgb)
  | (go_at_call 108; refine (impl_monotone.carry k w1.heap.size g cap m.length w.heap.size (fun k => w.heap.size ≤ k ∧ k < w1.heap.size) A0 c0 l0 A1 c1 l1 m r w _ (HB1.out.alloc HB1.out.size _) HF.out (Kd.S_alloc (Kd.S_mono (Kd.S_bound HS.out) (fun k hk => ⟨hk.2.1, hk.2.2.1⟩)) _) (Nat.le_refl _) (fun k hk => by omega) (fun k hk => by simp; omega) (Kd.C_alloc (Kd.C_below HR0.out HB1.out) _) HC0.out (Kd.C_alloc (Kd.C_below HR1.out HB1.out) _) HC1.out HH.out).mono ?_; rintro e w3 ⟨rfl, hS3, hb3, hk3⟩; have hbx : Boxed w3 w1.heap.size 27 (.slice (some ⟨g, 0, none⟩) m.length cap) := (hk3.2 w1.heap.size (by simp) (fun h_ => by omega)).trans HF.out; have hcs := hbx.cell; clear hbx; have HS3 := Aside0.mk hS3; have HB3 := Aside0.mk hb3; clear hS3 hb3 hk3))
 go_ret
 exact ⟨_, rfl, Kd.S_mono HS3.out (fun _ _ => trivial), HB3.out⟩

/-! ### impl_isLowering: function 113 -/
def impl_isLowering.l0 : Nat → List (List Int) → Int → Int → Option (Bool)
 | 0, _, _, _ => none
 | k + 1, x5, x6, x7 => if x7 < x6 then (if 0 ≤ x7 then (if x7 < (x5.length : Int) then (if 0 ≤ (wrap64 (x7 + 1)) then (if (wrap64 (x7 + 1)) ≤ ((rd_L2 x5 x7).length : Int) then ((impl_allWithin.f k ((rd_L2 x5 x7).drop ((wrap64 (x7 + 1)) : Int).toNat) 0 0).bind fun t146 => (if t146 = true then (impl_isLowering.l0 k x5 x6 (wrap64 (x7 + 1))) else (some false))) else (none)) else (none)) else (none)) else (none)) else (some true)
def impl_isLowering.f (k : Nat) (l0 : List (List Int)) : Option (Bool) := impl_isLowering.l0 k l0 (l0.length : Int) 0
theorem impl_isLowering.mono_l : ∀ k, (∀ y0 y1 y2, LeO (impl_isLowering.l0 k y0 y1 y2) (impl_isLowering.l0 (k + 1) y0 y1 y2))
 | 0 => fun _ _ _ r h => by simp [impl_isLowering.l0] at h
 | k + 1 => by
  have ih0 := impl_isLowering.mono_l k
  ·intro y0 y1 y2
   unfold impl_isLowering.l0
   repeat' first
   | (with_reducible exact ih0 _ _ _)
   | (with_reducible exact impl_allWithin.mono _ _ _ _)
   | (with_reducible exact LeO.refl _)
   | (with_reducible exact LeO.none _)
   | (with_reducible refine LeO.ite ?_ ?_)
   | (with_reducible refine LeO.bind ?_ (fun _ => ?_))
   | exact ih0 _ _ _
   | exact impl_allWithin.mono _ _ _ _
   | exact LeO.none _
   | refine LeO.ite ?_ ?_
   | refine LeO.bind ?_ (fun _ => ?_)
theorem impl_isLowering.mono : ∀ a0 k, LeO (impl_isLowering.f k a0) (impl_isLowering.f (k + 1) a0) := by
 intro a0 k
 have ih0 := impl_isLowering.mono_l k
 unfold impl_isLowering.f
 repeat' first
   | (with_reducible exact ih0 _ _ _)
   | (with_reducible exact impl_allWithin.mono _ _ _ _)
   | (with_reducible exact LeO.refl _)
   | (with_reducible exact LeO.none _)
   | (with_reducible refine LeO.ite ?_ ?_)
   | (with_reducible refine LeO.bind ?_ (fun _ => ?_))
   | exact ih0 _ _ _
   | exact impl_allWithin.mono _ _ _ _
   | exact LeO.none _
   | refine LeO.ite ?_ ?_
   | refine LeO.bind ?_ (fun _ => ?_)
set_option maxHeartbeats 8000000 in
set_option maxRecDepth 100000 in
theorem impl_isLowering.calls (k : Nat) (A0 : Option Addr) (c0 : Nat) (l0 : List (List Int)) (r : Bool) (w : World) (hr0 : Kd.C (Kd.slice 3 (Kd.int .i64)) w A0 l0.length l0) (hc0 : l0.length ≤ c0) (h : impl_isLowering.f k l0 = some r) :
  Calls Try.prog 113 #[.slice A0 l0.length c0] w fun e w' => e = .returned (.bool r) ∧ Drawn0 w w' := by
 have HR0 := Aside0.mk hr0
 have HC0 := Aside0.mk hc0
 clear hr0 hc0
 have H : (impl_isLowering.l0 k l0 (l0.length : Int) 0) = some r := h
 clear h
 have H' := Aside0.mk H
 clear H
 go_enter Try.func113, Try.ntmps113
 go_wp2
 go_loopg [7] k (fun kq v7 w' => ∃ (x7_1 : Int), v7 = .int .i64 x7_1 ∧ Aside0 (impl_isLowering.l0 kq l0 (l0.length : Int) x7_1 = some r) ∧ Aside0 (kq ≤ k) ∧ Drawn0 w w')
 case atStart => exact ⟨(0), (by first | rfl | (simp; done) | (simp [*]; done)), H', ⟨Nat.le_refl _⟩, by repeat (first | exact Drawn0.refl _ | apply Drawn0.step)⟩
 case round =>
  clear H'
  try clear c1
  obtain ⟨x7_1, rfl, HA, HK1, ⟨m1, rfl⟩⟩ := hrel
  cases gk with
  | zero => exact absurd HA.out (by simp [impl_isLowering.l0])
  | succ k1 =>
   have H := HA.out
   clear HA
   simp only [impl_isLowering.l0] at H
   by_cases c2 : x7_1 < (l0.length : Int)
   ·rw [if_pos c2] at H
    have c2b0 : decide (x7_1 < (l0.length : Int)) = true := decide_eq_true c2
    clear c2
    by_cases c3 : 0 ≤ x7_1
    ·rw [if_pos c3] at H
     have c3b0 : decide (0 ≤ x7_1) = true := decide_eq_true c3
     clear c3
     by_cases c4 : x7_1 < (l0.length : Int)
     ·rw [if_pos c4] at H
      have c4b0 : decide (x7_1 < (l0.length : Int)) = true := decide_eq_true c4
      clear c4
      obtain ⟨ji5, hji5⟩ : ∃ j_ : Int, (wrap64 (x7_1 + 1)) = j_ := ⟨_, rfl⟩
      replace H : (if 0 ≤ (ji5) then (if (ji5) ≤ ((rd_L2 l0 x7_1).length : Int) then ((impl_allWithin.f k1 ((rd_L2 l0 x7_1).drop ((ji5) : Int).toNat) 0 0).bind fun t146 => (if t146 = true then (impl_isLowering.l0 k1 l0 (l0.length : Int) ji5) else (some false))) else (none)) else (none)) = some r := by first | (rw [hji5] at H; exact H) | (simp only [hji5] at H ⊢; exact H)
      have hji5w : (IntKind.i64.wrap (x7_1 + 1)) = ji5 := (i64_w _).trans hji5
      by_cases c6 : 0 ≤ (ji5)
      ·rw [if_pos c6] at H
       have c6b0 := eq_true c6
       have c6b1 : decide (0 ≤ (ji5)) = true := decide_eq_true c6
       clear c6
       by_cases c7 : (ji5) ≤ ((rd_L2 l0 x7_1).length : Int)
       ·rw [if_pos c7] at H
        have c7b0 := eq_true c7
        have c7b1 : decide ((ji5) ≤ ((rd_L2 l0 x7_1).length : Int)) = true := decide_eq_true c7
        clear c7
        replace H := Option.bind_eq_some_iff.mp H
        obtain ⟨t146, A80, H⟩ := H
        replace H : (if t146 = true then (impl_isLowering.l0 k1 l0 (l0.length : Int) ji5) else (some false)) = some r := H
        have A8 := Aside0.mk A80
        clear A80
        by_cases c9 : t146 = true
        ·subst c9
         have H1 : (impl_isLowering.l0 k1 l0 (l0.length : Int) ji5) = some r := by rw [if_pos rfl] at H; exact H
         clear H
         have H := H1
         clear H1
         have H' := Aside0.mk H
         clear H
         have p144 : 0 ≤ (x7_1 : Int) := of_decide_eq_true (by first | (with_reducible assumption) | assumption)
         have q144 : x7_1 < (l0.length : Int) := of_decide_eq_true (by first | (with_reducible assumption) | assumption)
         obtain ⟨ad144, A144_0, c144_0, e144, hx144_0, hl144_0, hi144_0⟩ := at_L2 HR0.out x7_1 p144 q144
         cases e144
         have HR144_0 := Aside0.mk hi144_0
         have HC144_0 := Aside0.mk hl144_0
         clear hi144_0 hl144_0
         replace p144 := eq_true p144
         replace q144 := eq_true q144
         obtain ⟨i010, hi010, _, hsz10, _⟩ := info_parts info3
         obtain ⟨A10, hcut10, hA10, hC10⟩ := print_drop_of (P := Try.prog) (Value.int .i64) 0 24 3 .i64 Try.underlying24 hi010 hsz10 A144_0 c144_0 (rd_L2 l0 x7_1) (ji5) (of_decide_eq_true (by first | (with_reducible assumption) | assumption)) (of_decide_eq_true (by first | (with_reducible assumption) | assumption)) HC144_0.out
         have HR145 := Aside0.mk (Kd.C_of_reads (h1 := fun _ => rfl) (hA10 _ (Kd.reads_of_C HR144_0.out)))
         have HC145 := Aside0.mk hC10
         clear hA10 hC10 hi010 hsz10
         go_wp2_with (first | ((with_reducible refine gate_callee (f := 117) rfl ?_); refine goesL_ (some 16) rfl rfl Try.func117 (by kernel_rfl) rfl #[.slice A10 ((rd_L2 l0 x7_1).drop ((ji5) : Int).toNat).length (c144_0 - (ji5).toNat), .int .i64 0, .int .i64 0] rfl (by (try simp only [List.map_toArray, List.map_cons, List.map_nil]); first | done | (rw [show ((rd_L2 l0 x7_1).drop ((ji5) : Int).toNat).length = ((rd_L2 l0 x7_1).length - (ji5).toNat) from List.length_drop] <;> rfl) | (simp only [hji5]; rfl) | rfl | (simp only [List.length_drop, List.length_take]; rfl)) ?_; (with_reducible refine (impl_allWithin.calls k1 _ _ ((rd_L2 l0 x7_1).drop ((ji5) : Int).toNat) 0 0 true _ ?side1 ?side2 A8.out).mono ?_); (case side1 => repeat (first | exact HR145.out | (with_reducible refine Kd.C_alloc ?_ _) | (with_reducible refine Kd.C_drewN ?_ _) | (with_reducible refine Kd.C_drew ?_))); (case side2 => exact HC145.out); rintro e w' ⟨rfl, ⟨nd, rfl⟩⟩; refine ⟨_, rfl, ?_⟩))
         go_roundg k1
         case measure => have := HK1.out; omega
         case rel => exact ⟨(ji5), (by first | rfl | (simp; done) | (simp only [← hji5] <;> (first | rfl | simp)) | (simp [*]; done)), H', ⟨by have := HK1.out; omega⟩, by repeat (first | exact Drawn0.refl _ | apply Drawn0.step)⟩
        ·replace c9 := Bool.eq_false_iff.mpr c9
         subst c9
         have H1 : (some false) = some r := by rw [if_neg (show ¬ (false = true) by decide)] at H; exact H
         clear H
         have H := H1
         clear H1
         obtain rfl := Option.some.inj H
         have p144 : 0 ≤ (x7_1 : Int) := of_decide_eq_true (by first | (with_reducible assumption) | assumption)
         have q144 : x7_1 < (l0.length : Int) := of_decide_eq_true (by first | (with_reducible assumption) | assumption)
         obtain ⟨ad144, A144_0, c144_0, e144, hx144_0, hl144_0, hi144_0⟩ := at_L2 HR0.out x7_1 p144 q144
         cases e144
         have HR144_0 := Aside0.mk hi144_0
         have HC144_0 := Aside0.mk hl144_0
         clear hi144_0 hl144_0
         replace p144 := eq_true p144
         replace q144 := eq_true q144
         obtain ⟨i011, hi011, _, hsz11, _⟩ := info_parts info3
         obtain ⟨A11, hcut11, hA11, hC11⟩ := print_drop_of (P := Try.prog) (Value.int .i64) 0 24 3 .i64 Try.underlying24 hi011 hsz11 A144_0 c144_0 (rd_L2 l0 x7_1) (ji5) (of_decide_eq_true (by first | (with_reducible assumption) | assumption)) (of_decide_eq_true (by first | (with_reducible assumption) | assumption)) HC144_0.out
         have HR145 := Aside0.mk (Kd.C_of_reads (h1 := fun _ => rfl) (hA11 _ (Kd.reads_of_C HR144_0.out)))
         have HC145 := Aside0.mk hC11
         clear hA11 hC11 hi011 hsz11
         go_wp2_with (first | ((with_reducible refine gate_callee (f := 117) rfl ?_); refine goesL_ (some 16) rfl rfl Try.func117 (by kernel_rfl) rfl #[.slice A11 ((rd_L2 l0 x7_1).drop ((ji5) : Int).toNat).length (c144_0 - (ji5).toNat), .int .i64 0, .int .i64 0] rfl (by (try simp only [List.map_toArray, List.map_cons, List.map_nil]); first | done | (rw [show ((rd_L2 l0 x7_1).drop ((ji5) : Int).toNat).length = ((rd_L2 l0 x7_1).length - (ji5).toNat) from List.length_drop] <;> rfl) | (simp only [hji5]; rfl) | rfl | (simp only [List.length_drop, List.length_take]; rfl)) ?_; (with_reducible refine (impl_allWithin.calls k1 _ _ ((rd_L2 l0 x7_1).drop ((ji5) : Int).toNat) 0 0 false _ ?side1 ?side2 A8.out).mono ?_); (case side1 => repeat (first | exact HR145.out | (with_reducible refine Kd.C_alloc ?_ _) | (with_reducible refine Kd.C_drewN ?_ _) | (with_reducible refine Kd.C_drew ?_))); (case side2 => exact HC145.out); rintro e w' ⟨rfl, ⟨nd, rfl⟩⟩; refine ⟨_, rfl, ?_⟩))
         go_ret
         exact ⟨by first | rfl | (simp; done) | (simp only [← hji5] <;> (first | rfl | simp)) | (simp [*]; done), by repeat (first | exact Drawn0.refl _ | apply Drawn0.step)⟩
       ·rw [if_neg c7] at H
        exact absurd H (by simp)
      ·rw [if_neg c6] at H
       exact absurd H (by simp)
     ·rw [if_neg c4] at H
      exact absurd H (by simp)
    ·rw [if_neg c3] at H
     exact absurd H (by simp)
   ·rw [if_neg c2] at H
    have c2b0 : decide (x7_1 < (l0.length : Int)) = false := decide_eq_false c2
    clear c2
    obtain rfl := Option.some.inj H
    go_wp2
    go_ret
    exact ⟨by first | rfl | (simp; done) | (simp [*]; done), by repeat (first | exact Drawn0.refl _ | apply Drawn0.step)⟩

/-! ### impl_LoweringPlan: function 36 -/
def impl_LoweringPlan.f (k : Nat) (l0 : List Int) (l1 : List Int) : Option ((List (List Int)) × Bool) := (impl_areFitting.f k l0 l1).bind fun t147 => (if t147 = true then ((impl_monotone.f k l0 l1).bind fun t148 => ((impl_isLowering.f k t148).bind fun t151 => (if t151 = true then (some (t148, true)) else (some (([] : List (List Int)), false))))) else (some (([] : List (List Int)), false)))
theorem impl_LoweringPlan.mono : ∀ a0 a1 k, LeO (impl_LoweringPlan.f k a0 a1) (impl_LoweringPlan.f (k + 1) a0 a1) := by
 intro a0 a1 k
 unfold impl_LoweringPlan.f
 repeat' first
   | (with_reducible exact impl_areFitting.mono _ _ _)
   | (with_reducible exact impl_isLowering.mono _ _)
   | (with_reducible exact impl_monotone.mono _ _ _)
   | (with_reducible exact LeO.refl _)
   | (with_reducible exact LeO.none _)
   | (with_reducible refine LeO.ite ?_ ?_)
   | (with_reducible refine LeO.bind ?_ (fun _ => ?_))
   | exact impl_areFitting.mono _ _ _
   | exact impl_isLowering.mono _ _
   | exact impl_monotone.mono _ _ _
   | exact LeO.none _
   | refine LeO.ite ?_ ?_
   | refine LeO.bind ?_ (fun _ => ?_)
set_option maxHeartbeats 8000000 in
set_option maxRecDepth 100000 in
theorem impl_LoweringPlan.calls (k : Nat) (A0 : Option Addr) (c0 : Nat) (l0 : List Int) (A1 : Option Addr) (c1 : Nat) (l1 : List Int) (r1 : List (List Int)) (r2 : Bool) (w : World) (hr0 : Kd.C (Kd.int .i64) w A0 l0.length l0) (hc0 : l0.length ≤ c0) (hr1 : Kd.C (Kd.int .i64) w A1 l1.length l1) (hc1 : l1.length ≤ c1) (h : impl_LoweringPlan.f k l0 l1 = some (r1, r2)) :
  Calls Try.prog 36 #[.slice A0 l0.length c0, .slice A1 l1.length c1] w fun e w' => ∃ v0_ : Value, e = .returned (.tuple #[v0_, .bool r2]) ∧ Kd.S (Kd.slice 3 (Kd.int .i64)) 24 w' w.heap.size (fun _ => True) v0_ r1 ∧ Below w.heap.size w w' := by
 have HR0 := Aside0.mk hr0
 have HC0 := Aside0.mk hc0
 clear hr0 hc0
 have HR1 := Aside0.mk hr1
 have HC1 := Aside0.mk hc1
 clear hr1 hc1
 have HB := Aside0.mk (Below.refl w.heap.size w)
 have H : ((impl_areFitting.f k l0 l1).bind fun t147 => (if t147 = true then ((impl_monotone.f k l0 l1).bind fun t148 => ((impl_isLowering.f k t148).bind fun t151 => (if t151 = true then (some (t148, true)) else (some (([] : List (List Int)), false))))) else (some (([] : List (List Int)), false)))) = some (r1, r2) := h
 clear h
 replace H := Option.bind_eq_some_iff.mp H
 obtain ⟨t147, A30, H⟩ := H
 replace H : (if t147 = true then ((impl_monotone.f k l0 l1).bind fun t148 => ((impl_isLowering.f k t148).bind fun t151 => (if t151 = true then (some (t148, true)) else (some (([] : List (List Int)), false))))) else (some (([] : List (List Int)), false))) = some (r1, r2) := H
 have A3 := Aside0.mk A30
 clear A30
 by_cases c4 : t147 = true
 ·subst c4
  have H1 : ((impl_monotone.f k l0 l1).bind fun t148 => ((impl_isLowering.f k t148).bind fun t151 => (if t151 = true then (some (t148, true)) else (some (([] : List (List Int)), false))))) = some (r1, r2) := by rw [if_pos rfl] at H; exact H
  clear H
  have H := H1
  clear H1
  replace H := Option.bind_eq_some_iff.mp H
  obtain ⟨t148, A50, H⟩ := H
  replace H : ((impl_isLowering.f k t148).bind fun t151 => (if t151 = true then (some (t148, true)) else (some (([] : List (List Int)), false)))) = some (r1, r2) := H
  have A5 := Aside0.mk A50
  clear A50
  replace H := Option.bind_eq_some_iff.mp H
  obtain ⟨t151, A60, H⟩ := H
  replace H : (if t151 = true then (some (t148, true)) else (some (([] : List (List Int)), false))) = some (r1, r2) := H
  have A6 := Aside0.mk A60
  clear A60
  by_cases c7 : t151 = true
  ·subst c7
   have H1 : (some (t148, true)) = some (r1, r2) := by rw [if_pos rfl] at H; exact H
   clear H
   have H := H1
   clear H1
   simp only [Option.some.injEq, Prod.mk.injEq] at H
   obtain ⟨rfl, rfl⟩ := H
   go_enter Try.func36, Try.ntmps36
   go_wp2_with (first | ((with_reducible refine gate_callee (f := 79) rfl ?_); refine goesL_ (some 9) rfl rfl Try.func79 (by kernel_rfl) rfl #[.slice A0 l0.length c0, .slice A1 l1.length c1] rfl (by (try simp only [List.map_toArray, List.map_cons, List.map_nil]); first | done | rfl | (simp only [List.length_drop, List.length_take]; rfl)) ?_; (with_reducible refine (impl_areFitting.calls k _ _ l0 _ _ l1 true _ ?side1 ?side2 ?side3 ?side4 A3.out).mono ?_); (case side1 => repeat (first | exact HR0.out | (with_reducible refine Kd.C_alloc ?_ _) | (with_reducible refine Kd.C_drewN ?_ _) | (with_reducible refine Kd.C_drew ?_))); (case side2 => exact HC0.out); (case side3 => repeat (first | exact HR1.out | (with_reducible refine Kd.C_alloc ?_ _) | (with_reducible refine Kd.C_drewN ?_ _) | (with_reducible refine Kd.C_drew ?_))); (case side4 => exact HC1.out); rintro e w' ⟨rfl, ⟨nd, rfl⟩⟩; refine ⟨_, rfl, ?_⟩) | ((with_reducible refine gate_callee (f := 80) rfl ?_); refine goesL_ (some 13) rfl rfl Try.func80 (by kernel_rfl) rfl #[.slice A0 l0.length c0, .slice A1 l1.length c1] rfl (by (try simp only [List.map_toArray, List.map_cons, List.map_nil]); first | done | rfl | (simp only [List.length_drop, List.length_take]; rfl)) ?_; (with_reducible refine (impl_monotone.calls k _ _ l0 _ _ l1 t148 _ ?side1 ?side2 ?side3 ?side4 A5.out).mono ?_); (case side1 => repeat (first | exact HR0.out | (with_reducible refine Kd.C_alloc ?_ _) | (with_reducible refine Kd.C_drewN ?_ _) | (with_reducible refine Kd.C_drew ?_))); (case side2 => exact HC0.out); (case side3 => repeat (first | exact HR1.out | (with_reducible refine Kd.C_alloc ?_ _) | (with_reducible refine Kd.C_drewN ?_ _) | (with_reducible refine Kd.C_drew ?_))); (case side4 => exact HC1.out); rintro e w8 ⟨v149, rfl, ho0, hb⟩; refine ⟨_, rfl, ?_⟩; have n0_ := Aside0.mk (Kd.S_lower ho0 (below_size (by repeat (first | (with_reducible first | exact HB.out | apply below_alloc | apply pw_below_drewN | apply below_drew1) | exact HB.out)))); have n1_ := Aside0.mk (below_step (by repeat (first | (with_reducible first | exact HB.out | apply below_alloc | apply pw_below_drewN | apply below_drew1) | exact HB.out)) hb); clear HB; have HO150 := n0_; have HB := n1_; clear n0_ n1_; (try clear hb); (try clear hb2); (try clear hk); (try clear hi); (try clear ho0); obtain ⟨Ao9, co9, eo9⟩ := Kd.S_slice HO150.out; subst eo9) | ((with_reducible refine gate_callee (f := 113) rfl ?_); refine goesL_ (some 15) rfl rfl Try.func113 (by kernel_rfl) rfl #[.slice Ao9 t148.length co9] rfl (by (try simp only [List.map_toArray, List.map_cons, List.map_nil]); first | done | rfl | (simp only [List.length_drop, List.length_take]; rfl)) ?_; (with_reducible refine (impl_isLowering.calls k _ _ t148 true _ ?side1 ?side2 A6.out).mono ?_); (case side1 => repeat (first | exact (Kd.S_reads' HO150.out).2.2 | (with_reducible refine Kd.C_alloc ?_ _) | (with_reducible refine Kd.C_drewN ?_ _) | (with_reducible refine Kd.C_drew ?_))); (case side2 => exact (Kd.S_reads' HO150.out).2.1); rintro e w' ⟨rfl, ⟨nd, rfl⟩⟩; refine ⟨_, rfl, ?_⟩))
   go_ret2
   exact ⟨_, by first | rfl | (simp [errW_none, errW_some] <;> rfl) | (simp [*, errW_none, errW_some] <;> rfl), by (with_reducible repeat (first | apply Kd.S_alloc | apply Kd.S_drewN | apply Kd.S_drew)); exact HO150.out, by repeat (first | (with_reducible first | exact HB.out | apply below_alloc | apply pw_below_drewN | apply below_drew1) | exact HB.out)⟩
  ·replace c7 := Bool.eq_false_iff.mpr c7
   subst c7
   have H1 : (some (([] : List (List Int)), false)) = some (r1, r2) := by rw [if_neg (show ¬ (false = true) by decide)] at H; exact H
   clear H
   have H := H1
   clear H1
   simp only [Option.some.injEq, Prod.mk.injEq] at H
   obtain ⟨rfl, rfl⟩ := H
   go_enter Try.func36, Try.ntmps36
   go_wp2_with (first | ((with_reducible refine gate_callee (f := 79) rfl ?_); refine goesL_ (some 9) rfl rfl Try.func79 (by kernel_rfl) rfl #[.slice A0 l0.length c0, .slice A1 l1.length c1] rfl (by (try simp only [List.map_toArray, List.map_cons, List.map_nil]); first | done | rfl | (simp only [List.length_drop, List.length_take]; rfl)) ?_; (with_reducible refine (impl_areFitting.calls k _ _ l0 _ _ l1 true _ ?side1 ?side2 ?side3 ?side4 A3.out).mono ?_); (case side1 => repeat (first | exact HR0.out | (with_reducible refine Kd.C_alloc ?_ _) | (with_reducible refine Kd.C_drewN ?_ _) | (with_reducible refine Kd.C_drew ?_))); (case side2 => exact HC0.out); (case side3 => repeat (first | exact HR1.out | (with_reducible refine Kd.C_alloc ?_ _) | (with_reducible refine Kd.C_drewN ?_ _) | (with_reducible refine Kd.C_drew ?_))); (case side4 => exact HC1.out); rintro e w' ⟨rfl, ⟨nd, rfl⟩⟩; refine ⟨_, rfl, ?_⟩) | ((with_reducible refine gate_callee (f := 80) rfl ?_); refine goesL_ (some 13) rfl rfl Try.func80 (by kernel_rfl) rfl #[.slice A0 l0.length c0, .slice A1 l1.length c1] rfl (by (try simp only [List.map_toArray, List.map_cons, List.map_nil]); first | done | rfl | (simp only [List.length_drop, List.length_take]; rfl)) ?_; (with_reducible refine (impl_monotone.calls k _ _ l0 _ _ l1 t148 _ ?side1 ?side2 ?side3 ?side4 A5.out).mono ?_); (case side1 => repeat (first | exact HR0.out | (with_reducible refine Kd.C_alloc ?_ _) | (with_reducible refine Kd.C_drewN ?_ _) | (with_reducible refine Kd.C_drew ?_))); (case side2 => exact HC0.out); (case side3 => repeat (first | exact HR1.out | (with_reducible refine Kd.C_alloc ?_ _) | (with_reducible refine Kd.C_drewN ?_ _) | (with_reducible refine Kd.C_drew ?_))); (case side4 => exact HC1.out); rintro e w10 ⟨v149, rfl, ho0, hb⟩; refine ⟨_, rfl, ?_⟩; have n0_ := Aside0.mk (Kd.S_lower ho0 (below_size (by repeat (first | (with_reducible first | exact HB.out | apply below_alloc | apply pw_below_drewN | apply below_drew1) | exact HB.out)))); have n1_ := Aside0.mk (below_step (by repeat (first | (with_reducible first | exact HB.out | apply below_alloc | apply pw_below_drewN | apply below_drew1) | exact HB.out)) hb); clear HB; have HO150 := n0_; have HB := n1_; clear n0_ n1_; (try clear hb); (try clear hb2); (try clear hk); (try clear hi); (try clear ho0); obtain ⟨Ao11, co11, eo11⟩ := Kd.S_slice HO150.out; subst eo11) | ((with_reducible refine gate_callee (f := 113) rfl ?_); refine goesL_ (some 15) rfl rfl Try.func113 (by kernel_rfl) rfl #[.slice Ao11 t148.length co11] rfl (by (try simp only [List.map_toArray, List.map_cons, List.map_nil]); first | done | rfl | (simp only [List.length_drop, List.length_take]; rfl)) ?_; (with_reducible refine (impl_isLowering.calls k _ _ t148 false _ ?side1 ?side2 A6.out).mono ?_); (case side1 => repeat (first | exact (Kd.S_reads' HO150.out).2.2 | (with_reducible refine Kd.C_alloc ?_ _) | (with_reducible refine Kd.C_drewN ?_ _) | (with_reducible refine Kd.C_drew ?_))); (case side2 => exact (Kd.S_reads' HO150.out).2.1); rintro e w' ⟨rfl, ⟨nd, rfl⟩⟩; refine ⟨_, rfl, ?_⟩))
   go_ret2
   exact ⟨_, by first | rfl | (simp [errW_none, errW_some] <;> rfl) | (simp [*, errW_none, errW_some] <;> rfl), by first | exact Kd.S_nil _ _ _ _ _ | exact Kd.N_nil _ _ _ _ _ | exact Kd.V_nil _ _ _ _ _ | exact Kd.Q_nil _ _ _ _ _ | exact Kd.R_nil _ _ _ _ _, by repeat (first | (with_reducible first | exact HB.out | apply below_alloc | apply pw_below_drewN | apply below_drew1) | exact HB.out)⟩
 ·replace c4 := Bool.eq_false_iff.mpr c4
  subst c4
  have H1 : (some (([] : List (List Int)), false)) = some (r1, r2) := by rw [if_neg (show ¬ (false = true) by decide)] at H; exact H
  clear H
  have H := H1
  clear H1
  simp only [Option.some.injEq, Prod.mk.injEq] at H
  obtain ⟨rfl, rfl⟩ := H
  go_enter Try.func36, Try.ntmps36
  go_wp2_with (first | ((with_reducible refine gate_callee (f := 79) rfl ?_); refine goesL_ (some 9) rfl rfl Try.func79 (by kernel_rfl) rfl #[.slice A0 l0.length c0, .slice A1 l1.length c1] rfl (by (try simp only [List.map_toArray, List.map_cons, List.map_nil]); first | done | rfl | (simp only [List.length_drop, List.length_take]; rfl)) ?_; (with_reducible refine (impl_areFitting.calls k _ _ l0 _ _ l1 false _ ?side1 ?side2 ?side3 ?side4 A3.out).mono ?_); (case side1 => repeat (first | exact HR0.out | (with_reducible refine Kd.C_alloc ?_ _) | (with_reducible refine Kd.C_drewN ?_ _) | (with_reducible refine Kd.C_drew ?_))); (case side2 => exact HC0.out); (case side3 => repeat (first | exact HR1.out | (with_reducible refine Kd.C_alloc ?_ _) | (with_reducible refine Kd.C_drewN ?_ _) | (with_reducible refine Kd.C_drew ?_))); (case side4 => exact HC1.out); rintro e w' ⟨rfl, ⟨nd, rfl⟩⟩; refine ⟨_, rfl, ?_⟩))
  go_ret2
  exact ⟨_, by first | rfl | (simp [errW_none, errW_some] <;> rfl) | (simp [*, errW_none, errW_some] <;> rfl), by first | exact Kd.S_nil _ _ _ _ _ | exact Kd.N_nil _ _ _ _ _ | exact Kd.V_nil _ _ _ _ _ | exact Kd.Q_nil _ _ _ _ _ | exact Kd.R_nil _ _ _ _ _, by repeat (first | (with_reducible first | exact HB.out | apply below_alloc | apply pw_below_drewN | apply below_drew1) | exact HB.out)⟩

/-! ### laws_pSum: function 41 -/
def laws_pSum.l0 : Nat → Int → List Int → Int → Int → Option (Int)
 | 0, _, _, _, _ => none
 | k + 1, x3, x6, x7, x8 => if x8 < x7 then (if 0 ≤ x8 then (if x8 < (x6.length : Int) then (laws_pSum.l0 k (wrap64 (x3 + (rd x6 x8))) x6 x7 (wrap64 (x8 + 1))) else (none)) else (none)) else (some x3)
def laws_pSum.f (k : Nat) (l0 : List Int) : Option (Int) := laws_pSum.l0 k 0 l0 (l0.length : Int) 0
theorem laws_pSum.mono_l : ∀ k, (∀ y0 y1 y2 y3, LeO (laws_pSum.l0 k y0 y1 y2 y3) (laws_pSum.l0 (k + 1) y0 y1 y2 y3))
 | 0 => fun _ _ _ _ r h => by simp [laws_pSum.l0] at h
 | k + 1 => by
  have ih0 := laws_pSum.mono_l k
  ·intro y0 y1 y2 y3
   unfold laws_pSum.l0
   repeat' first
   | (with_reducible exact ih0 _ _ _ _)
   | (with_reducible exact LeO.refl _)
   | (with_reducible exact LeO.none _)
   | (with_reducible refine LeO.ite ?_ ?_)
   | (with_reducible refine LeO.bind ?_ (fun _ => ?_))
   | exact ih0 _ _ _ _
   | exact LeO.none _
   | refine LeO.ite ?_ ?_
   | refine LeO.bind ?_ (fun _ => ?_)
theorem laws_pSum.mono : ∀ a0 k, LeO (laws_pSum.f k a0) (laws_pSum.f (k + 1) a0) := by
 intro a0 k
 have ih0 := laws_pSum.mono_l k
 unfold laws_pSum.f
 repeat' first
   | (with_reducible exact ih0 _ _ _ _)
   | (with_reducible exact LeO.refl _)
   | (with_reducible exact LeO.none _)
   | (with_reducible refine LeO.ite ?_ ?_)
   | (with_reducible refine LeO.bind ?_ (fun _ => ?_))
   | exact ih0 _ _ _ _
   | exact LeO.none _
   | refine LeO.ite ?_ ?_
   | refine LeO.bind ?_ (fun _ => ?_)
set_option maxHeartbeats 8000000 in
set_option maxRecDepth 100000 in
theorem laws_pSum.calls (k : Nat) (A0 : Option Addr) (c0 : Nat) (l0 : List Int) (r : Int) (w : World) (hr0 : Kd.C (Kd.int .i64) w A0 l0.length l0) (hc0 : l0.length ≤ c0) (h : laws_pSum.f k l0 = some r) :
  Calls Try.prog 41 #[.slice A0 l0.length c0] w fun e w' => e = .returned (.int .i64 r) ∧ Drawn0 w w' := by
 have HR0 := Aside0.mk hr0
 have HC0 := Aside0.mk hc0
 clear hr0 hc0
 have H : (laws_pSum.l0 k 0 l0 (l0.length : Int) 0) = some r := h
 clear h
 have H' := Aside0.mk H
 clear H
 go_enter Try.func41, Try.ntmps41
 go_wp2
 go_loopg [3, 8] k (fun kq v3 v8 w' => ∃ (x3_1 : Int) (x8_1 : Int), v3 = .int .i64 x3_1 ∧ v8 = .int .i64 x8_1 ∧ Aside0 (laws_pSum.l0 kq x3_1 l0 (l0.length : Int) x8_1 = some r) ∧ Aside0 (kq ≤ k) ∧ Drawn0 w w')
 case atStart => exact ⟨(0), (0), (by first | rfl | (simp; done) | (simp [*]; done)), (by first | rfl | (simp; done) | (simp [*]; done)), H', ⟨Nat.le_refl _⟩, by repeat (first | exact Drawn0.refl _ | apply Drawn0.step)⟩
 case round =>
  clear H'
  obtain ⟨x3_1, x8_1, rfl, rfl, HA, HK1, ⟨m1, rfl⟩⟩ := hrel
  cases gk with
  | zero => exact absurd HA.out (by simp [laws_pSum.l0])
  | succ k1 =>
   have H := HA.out
   clear HA
   simp only [laws_pSum.l0] at H
   by_cases c2 : x8_1 < (l0.length : Int)
   ·rw [if_pos c2] at H
    have c2b0 : decide (x8_1 < (l0.length : Int)) = true := decide_eq_true c2
    clear c2
    by_cases c3 : 0 ≤ x8_1
    ·rw [if_pos c3] at H
     have c3b0 : decide (0 ≤ x8_1) = true := decide_eq_true c3
     clear c3
     by_cases c4 : x8_1 < (l0.length : Int)
     ·rw [if_pos c4] at H
      have c4b0 : decide (x8_1 < (l0.length : Int)) = true := decide_eq_true c4
      clear c4
      have H' := Aside0.mk H
      clear H
      have p152 : 0 ≤ (x8_1 : Int) := of_decide_eq_true (by first | (with_reducible assumption) | assumption)
      have q152 : x8_1 < (l0.length : Int) := of_decide_eq_true (by first | (with_reducible assumption) | assumption)
      obtain ⟨ad152, e152, hx152_0⟩ := Kd.at_int HR0.out x8_1 p152 q152
      cases e152
      replace p152 := eq_true p152
      replace q152 := eq_true q152
      go_wp2
      go_roundg k1
      case measure => have := HK1.out; omega
      case rel => exact ⟨(wrap64 (x3_1 + (rd l0 x8_1))), (wrap64 (x8_1 + 1)), (by first | rfl | (simp; done) | (simp [*]; done)), (by first | rfl | (simp; done) | (simp [*]; done)), H', ⟨by have := HK1.out; omega⟩, by repeat (first | exact Drawn0.refl _ | apply Drawn0.step)⟩
     ·rw [if_neg c4] at H
      exact absurd H (by simp)
    ·rw [if_neg c3] at H
     exact absurd H (by simp)
   ·rw [if_neg c2] at H
    have c2b0 : decide (x8_1 < (l0.length : Int)) = false := decide_eq_false c2
    clear c2
    obtain rfl := Option.some.inj H
    go_wp2
    go_ret
    exact ⟨by first | rfl | (simp; done) | (simp [*]; done), by repeat (first | exact Drawn0.refl _ | apply Drawn0.step)⟩

/-! ### laws_pFit: function 45 -/
def laws_pFit.f (k : Nat) (l0 : List Int) (l1 : List Int) : Option (Bool) := if (l0.length : Int) = (l1.length : Int) then ((laws_pSum.f k l0).bind fun t153 => ((laws_pSum.f k l1).bind fun t154 => (some (t153 == t154)))) else (some false)
theorem laws_pFit.mono : ∀ a0 a1 k, LeO (laws_pFit.f k a0 a1) (laws_pFit.f (k + 1) a0 a1) := by
 intro a0 a1 k
 unfold laws_pFit.f
 repeat' first
   | (with_reducible exact laws_pSum.mono _ _)
   | (with_reducible exact LeO.refl _)
   | (with_reducible exact LeO.none _)
   | (with_reducible refine LeO.ite ?_ ?_)
   | (with_reducible refine LeO.bind ?_ (fun _ => ?_))
   | exact laws_pSum.mono _ _
   | exact LeO.none _
   | refine LeO.ite ?_ ?_
   | refine LeO.bind ?_ (fun _ => ?_)
set_option maxHeartbeats 8000000 in
set_option maxRecDepth 100000 in
theorem laws_pFit.calls (k : Nat) (A0 : Option Addr) (c0 : Nat) (l0 : List Int) (A1 : Option Addr) (c1 : Nat) (l1 : List Int) (r : Bool) (w : World) (hr0 : Kd.C (Kd.int .i64) w A0 l0.length l0) (hc0 : l0.length ≤ c0) (hr1 : Kd.C (Kd.int .i64) w A1 l1.length l1) (hc1 : l1.length ≤ c1) (h : laws_pFit.f k l0 l1 = some r) :
  Calls Try.prog 45 #[.slice A0 l0.length c0, .slice A1 l1.length c1] w fun e w' => e = .returned (.bool r) ∧ Drawn0 w w' := by
 have HR0 := Aside0.mk hr0
 have HC0 := Aside0.mk hc0
 clear hr0 hc0
 have HR1 := Aside0.mk hr1
 have HC1 := Aside0.mk hc1
 clear hr1 hc1
 have H : (if (l0.length : Int) = (l1.length : Int) then ((laws_pSum.f k l0).bind fun t153 => ((laws_pSum.f k l1).bind fun t154 => (some (t153 == t154)))) else (some false)) = some r := h
 clear h
 by_cases c3 : (l0.length : Int) = (l1.length : Int)
 ·rw [if_pos c3] at H
  have c3b0 : ((l0.length : Int) == (l1.length : Int)) = true := beq_iff_eq.mpr c3
  have c3b1 : ((l0.length : Int) != (l1.length : Int)) = false := bne_eq_false_iff_eq.mpr c3
  have c3b2 : (l0.length == l1.length) = true := by first | simpa using c3 | (simp at c3 ⊢; omega)
  clear c3
  replace H := Option.bind_eq_some_iff.mp H
  obtain ⟨t153, A40, H⟩ := H
  replace H : ((laws_pSum.f k l1).bind fun t154 => (some (t153 == t154))) = some r := H
  have A4 := Aside0.mk A40
  clear A40
  replace H := Option.bind_eq_some_iff.mp H
  obtain ⟨t154, A50, H⟩ := H
  replace H : (some (t153 == t154)) = some r := H
  have A5 := Aside0.mk A50
  clear A50
  obtain rfl := Option.some.inj H
  go_enter Try.func45, Try.ntmps45
  go_wp2_with (first | (go_at_call 41; (with_reducible refine (laws_pSum.calls k _ _ l0 t153 _ ?side1 ?side2 A4.out).mono ?_); (case side1 => repeat (first | exact HR0.out | (with_reducible refine Kd.C_alloc ?_ _) | (with_reducible refine Kd.C_drewN ?_ _) | (with_reducible refine Kd.C_drew ?_))); (case side2 => exact HC0.out); rintro e w' ⟨rfl, ⟨nd, rfl⟩⟩) | (go_at_call 41; (with_reducible refine (laws_pSum.calls k _ _ l1 t154 _ ?side1 ?side2 A5.out).mono ?_); (case side1 => repeat (first | exact HR1.out | (with_reducible refine Kd.C_alloc ?_ _) | (with_reducible refine Kd.C_drewN ?_ _) | (with_reducible refine Kd.C_drew ?_))); (case side2 => exact HC1.out); rintro e w' ⟨rfl, ⟨nd, rfl⟩⟩))
  go_ret
  exact ⟨by first | rfl | (simp; done) | (simp [*]; done), by repeat (first | exact Drawn0.refl _ | apply Drawn0.step)⟩
 ·rw [if_neg c3] at H
  have c3b0 : ((l0.length : Int) == (l1.length : Int)) = false := beq_eq_false_iff_ne.mpr c3
  have c3b1 : ((l0.length : Int) != (l1.length : Int)) = true := bne_iff_ne.mpr c3
  have c3b2 : (l0.length == l1.length) = false := by first | simpa using c3 | (simp at c3 ⊢; omega)
  obtain rfl := Option.some.inj H
  go_enter Try.func45, Try.ntmps45
  go_wp2
  go_ret
  exact ⟨by first | rfl | (simp; done) | (simp [*]; done), by repeat (first | exact Drawn0.refl _ | apply Drawn0.step)⟩

/-! ### impl_ranking_1: function 179 -/
def impl_ranking_1.f (a0 : Int) (a1 : Int) : Option (Int) := some (wrap64 (a1 - a0))
set_option maxHeartbeats 8000000 in
set_option maxRecDepth 100000 in
theorem impl_ranking_1.calls (a0 : Int) (a1 : Int) (r : Int) (w : World) (h : impl_ranking_1.f a0 a1 = some r) :
  Calls Try.prog 179 #[.int .i64 a0, .int .i64 a1] w fun e w' => e = .returned (.int .i64 r) ∧ Drawn0 w w' := by
 have H : (some (wrap64 (a1 - a0))) = some r := h
 clear h
 obtain rfl := Option.some.inj H
 go_enter Try.func179, Try.ntmps179
 go_wp2
 go_ret
 exact ⟨by first | rfl | (simp; done) | (simp [*]; done), by repeat (first | exact Drawn0.refl _ | apply Drawn0.step)⟩

/-! ### slices_SortFunc_int_int: function 178 -/
/-- The function's answer: the row from the greatest number down; told for numbers whose differences do not wrap. -/
def slices_SortFunc_int_int.f (k : Nat) (l0 : List Int) (a1 : Int) : Option (List Int) := if l0.length ≤ 1048576 then (if (l0.all fun x => decide (-1152921504606846976 ≤ x) && decide (x ≤ 1152921504606846976)) = true then some (l0.mergeSort fun x y => decide (y ≤ x)) else none) else none
theorem slices_SortFunc_int_int.mono : ∀ a0 a1 k, LeO (slices_SortFunc_int_int.f k a0 a1) (slices_SortFunc_int_int.f (k + 1) a0 a1) := fun _ _ _ => LeO.refl _
/-- The program's own numbers for what the function reaches. -/
def slices_SortFunc_int_int.lays_ren : Go.Shelf.Ren := ⟨fun | 6 => 178 | 14 => 190 | 15 => 191 | 20 => 195 | 21 => 196 | 22 => 197 | 23 => 198 | 24 => 199 | 25 => 200 | 26 => 201 | 27 => 202 | 28 => 203 | 29 => 204 | 46 => 206 | 47 => 207 | 48 => 208 | 49 => 209 | 50 => 210 | 57 => 211 | n => n, fun | 0 => 0 | 3 => 3 | 4 => 4 | 5 => 5 | 9 => 9 | 22 => 24 | 24 => 3 | 25 => 86 | 39 => 111 | 45 => 119 | 46 => 120 | 50 => 30 | 53 => 126 | 55 => 69 | 66 => 128 | 70 => 132 | 76 => 134 | 77 => 135 | n => n, fun | n => n⟩
theorem slices_SortFunc_int_int.lays : Go.Proofs.SlLaysF.n6 Try.prog slices_SortFunc_int_int.lays_ren := {
 mixed := by kernel_rfl
 f6 := ⟨"slices.SortFunc[[]int,int]", by decide, Try.func178.trans (congrArg some (by kernel_rfl))⟩
 f14 := ⟨"slices.pdqsortCmpFunc[int]", by decide, Try.func190.trans (congrArg some (by kernel_rfl))⟩
 f15 := Try.func191.trans (congrArg some (by kernel_rfl))
 f20 := ⟨"slices.insertionSortCmpFunc[int]", by decide, Try.func195.trans (congrArg some (by kernel_rfl))⟩
 f21 := ⟨"slices.heapSortCmpFunc[int]", by decide, Try.func196.trans (congrArg some (by kernel_rfl))⟩
 f22 := ⟨"slices.breakPatternsCmpFunc[int]", by decide, Try.func197.trans (congrArg some (by kernel_rfl))⟩
 f23 := ⟨"slices.choosePivotCmpFunc[int]", by decide, Try.func198.trans (congrArg some (by kernel_rfl))⟩
 f24 := ⟨"slices.reverseRangeCmpFunc[int]", by decide, Try.func199.trans (congrArg some (by kernel_rfl))⟩
 f25 := ⟨"slices.partialInsertionSortCmpFunc[int]", by decide, Try.func200.trans (congrArg some (by kernel_rfl))⟩
 f26 := ⟨"slices.partitionEqualCmpFunc[int]", by decide, Try.func201.trans (congrArg some (by kernel_rfl))⟩
 f27 := ⟨"slices.partitionCmpFunc[int]", by decide, Try.func202.trans (congrArg some (by kernel_rfl))⟩
 f28 := Try.func203.trans (congrArg some (by kernel_rfl))
 f29 := Try.func204.trans (congrArg some (by kernel_rfl))
 f46 := ⟨"slices.siftDownCmpFunc[int]", by decide, Try.func206.trans (congrArg some (by kernel_rfl))⟩
 f47 := Try.func207.trans (congrArg some (by kernel_rfl))
 f48 := Try.func208.trans (congrArg some (by kernel_rfl))
 f49 := ⟨"slices.medianAdjacentCmpFunc[int]", by decide, Try.func209.trans (congrArg some (by kernel_rfl))⟩
 f50 := ⟨"slices.medianCmpFunc[int]", by decide, Try.func210.trans (congrArg some (by kernel_rfl))⟩
 f57 := ⟨"slices.order2CmpFunc[int]", by decide, Try.func211.trans (congrArg some (by kernel_rfl))⟩
 t0 := Try.underlying0
 a0 := Try.isAgg0
 z0 := Try.sizeOf0
 v0 := Try.zeroValue0
 t3 := Try.underlying3
 a3 := Try.isAgg3
 z3 := Try.sizeOf3
 v3 := Try.zeroValue3
 t4 := Try.underlying4
 a4 := Try.isAgg4
 z4 := Try.sizeOf4
 v4 := Try.zeroValue4
 t5 := Try.underlying5
 a5 := Try.isAgg5
 z5 := Try.sizeOf5
 v5 := Try.zeroValue5
 t9 := Try.underlying9
 a9 := Try.isAgg9
 z9 := Try.sizeOf9
 v9 := Try.zeroValue9
 t22 := Try.underlying24
 a22 := Try.isAgg24
 z22 := Try.sizeOf24
 v22 := Try.zeroValue24
 a24 := Try.isAgg3
 z24 := Try.sizeOf3
 t25 := Try.underlying86
 a25 := Try.isAgg86
 z25 := Try.sizeOf86
 v25 := Try.zeroValue86
 t39 := Try.underlying111
 a39 := Try.isAgg111
 z39 := Try.sizeOf111
 v39 := Try.zeroValue111
 t45 := Try.underlying119
 a45 := Try.isAgg119
 z45 := Try.sizeOf119
 v45 := Try.zeroValue119
 t46 := Try.underlying120
 a46 := Try.isAgg120
 z46 := Try.sizeOf120
 v46 := Try.zeroValue120
 t50 := Try.underlying30
 a50 := Try.isAgg30
 z50 := Try.sizeOf30
 v50 := Try.zeroValue30
 t53 := Try.underlying126
 a53 := Try.isAgg126
 z53 := Try.sizeOf126
 v53 := Try.zeroValue126
 t55 := Try.underlying69
 a55 := Try.isAgg69
 z55 := Try.sizeOf69
 v55 := Try.zeroValue69
 t66 := Try.underlying128
 a66 := Try.isAgg128
 z66 := Try.sizeOf128
 v66 := Try.zeroValue128
 t70 := Try.underlying132
 a70 := Try.isAgg132
 z70 := Try.sizeOf132
 v70 := Try.zeroValue132
 t76 := Try.underlying134
 a76 := Try.isAgg134
 z76 := Try.sizeOf134
 v76 := Try.zeroValue134
 t77 := Try.underlying135
 a77 := Try.isAgg135
 z77 := Try.sizeOf135
 v77 := Try.zeroValue135 }
/-- A number held between bounds within which differences do not wrap. -/
def slices_SortFunc_int_int.cl (x : Int) : Int := max (-1152921504606846976) (min 1152921504606846976 x)
theorem slices_SortFunc_int_int.cl_in (x : Int) : -1152921504606846976 ≤ slices_SortFunc_int_int.cl x ∧ slices_SortFunc_int_int.cl x ≤ 1152921504606846976 := by unfold slices_SortFunc_int_int.cl; omega
theorem slices_SortFunc_int_int.cl_of {x : Int} (h : -1152921504606846976 ≤ x ∧ x ≤ 1152921504606846976) : slices_SortFunc_int_int.cl x = x := by unfold slices_SortFunc_int_int.cl; omega
def slices_SortFunc_int_int.enc (x : Int) : Value := .int .i64 (slices_SortFunc_int_int.cl x)
def slices_SortFunc_int_int.cf (x y : Int) : Int := slices_SortFunc_int_int.cl y - slices_SortFunc_int_int.cl x
theorem slices_SortFunc_int_int.order : Go.Sort.SWO (Go.Proofs.ltOf slices_SortFunc_int_int.cf) where
 irrefl x := by
  show decide (slices_SortFunc_int_int.cl x - slices_SortFunc_int_int.cl x < 0) = false
  exact decide_eq_false (by omega)
 trans x y z h1 h2 := by
  have h1 : slices_SortFunc_int_int.cl y - slices_SortFunc_int_int.cl x < 0 := of_decide_eq_true h1
  have h2 : slices_SortFunc_int_int.cl z - slices_SortFunc_int_int.cl y < 0 := of_decide_eq_true h2
  show decide (slices_SortFunc_int_int.cl z - slices_SortFunc_int_int.cl x < 0) = true
  exact decide_eq_true (by omega)
 ntrans x y z h1 h2 := by
  have h1 : ¬ (slices_SortFunc_int_int.cl y - slices_SortFunc_int_int.cl x < 0) := of_decide_eq_false h1
  have h2 : ¬ (slices_SortFunc_int_int.cl z - slices_SortFunc_int_int.cl y < 0) := of_decide_eq_false h2
  show decide (slices_SortFunc_int_int.cl z - slices_SortFunc_int_int.cl x < 0) = false
  exact decide_eq_false (by omega)
theorem slices_SortFunc_int_int.put (w : World) (g : Nat) (d : Array Int) (h : ∀ j, j < d.size → slices_SortFunc_int_int.enc d[j]! = .int .i64 d[j]!) : Go.Sort.putRow slices_SortFunc_int_int.enc w g 0 d = Go.Sort.putRow (Value.int .i64) w g 0 d := by
 unfold Go.Sort.putRow
 congr 1
 funext c
 unfold Go.Sort.putCells
 congr 1
 funext k x
 by_cases e : 0 ≤ k ∧ k < 0 + d.size
 ·rw [if_pos e, if_pos e, h _ (by omega)]
 ·rw [if_neg e, if_neg e]
theorem slices_SortFunc_int_int.compares (w : World) (g n : Nat) : Go.Proofs.CmpLays1 Try.prog 179 #[] slices_SortFunc_int_int.enc slices_SortFunc_int_int.cf g 0 n w := fun m os dk _ x y => by
 have b1 := slices_SortFunc_int_int.cl_in x
 have b2 := slices_SortFunc_int_int.cl_in y
 have e : wrap64 (slices_SortFunc_int_int.cl y - slices_SortFunc_int_int.cl x) = slices_SortFunc_int_int.cf x y := by
  unfold slices_SortFunc_int_int.cf wrap64
  omega
 refine (impl_ranking_1.calls (slices_SortFunc_int_int.cl x) (slices_SortFunc_int_int.cl y) _ _ rfl).mono ?_
 rintro e' w' ⟨rfl, q, rfl⟩
 exact ⟨by rw [e], q, #[], by rw [Go.Sort.grow_empty]⟩
set_option maxHeartbeats 8000000 in
set_option maxRecDepth 100000 in
theorem slices_SortFunc_int_int.calls (k : Nat) (P0_ : Nat → Prop) (u9000_ : Value) (l0 : List Int) (a1 : Int) (r : List Int) (w0 w : World) (hB : Below w0.heap.size w0 w) (ho0 : Kd.R (Kd.int .i64) 3 w w0.heap.size P0_ u9000_ l0) (h : slices_SortFunc_int_int.f k l0 a1 = some r) :
  Calls Try.prog 178 #[u9000_, .func (.func 179) #[] #[]] w fun e w' => e = .returned (.tuple #[]) ∧ Kd.R (Kd.int .i64) 3 w' w0.heap.size (fun k_ => (P0_ k_ ∨ w.heap.size ≤ k_)) u9000_ r ∧ Below w0.heap.size w0 w' ∧ Kept w w' (fun k_ => P0_ k_) := by
 unfold slices_SortFunc_int_int.f at h
 by_cases c1 : l0.length ≤ 1048576
 ·rw [if_pos c1] at h
  by_cases c2 : (l0.all fun x => decide (-1152921504606846976 ≤ x) && decide (x ≤ 1152921504606846976)) = true
  ·rw [if_pos c2] at h
   obtain rfl := Option.some.inj h
   have hin : ∀ x ∈ l0, -1152921504606846976 ≤ x ∧ x ≤ 1152921504606846976 := fun x hx => by
    have := List.all_eq_true.1 c2 x hx
    rwa [Bool.and_eq_true, decide_eq_true_eq, decide_eq_true_eq] at this
   have hok := ho0.1
   have hown := Kd.own_of_R ho0
   rcases hown.2 with ⟨hv, hz⟩ | ⟨g, cap, cur, hv, hbase, hg, h1, h2, h3, h4⟩
   ·subst hv
    have h0 : l0 = [] := List.eq_nil_of_length_eq_zero hz
    subst h0
    refine (Go.Proofs.AnyF.slices_SortFunc_none { slices_SortFunc_int_int.lays with } none 0 _ w).mono ?_
    rintro e w' ⟨rfl, hw⟩
    subst hw
    rw [show (([] : List Int).mergeSort fun x y => decide (y ≤ x)) = [] from by simp]
    exact ⟨rfl, Kd.R_mono ho0 (fun k_ hk => .inl hk), hB, Kept.refl _ _⟩
   ·subst hv
    have hp : P0_ g := hok g rfl
    have hH0 : Go.Sort.Holds (Value.int .i64) w g 0 l0.toArray := Go.holds_of_blockI hg (by rw [Nat.mul_one] at h4; exact h4)
    have hH : Go.Sort.Holds slices_SortFunc_int_int.enc w g 0 l0.toArray := fun j hj => by
     have hj' : j < l0.length := by simpa using hj
     have := hH0 j hj
     have e1 : slices_SortFunc_int_int.enc l0.toArray[j]! = .int .i64 l0.toArray[j]! := by
      unfold slices_SortFunc_int_int.enc
      rw [slices_SortFunc_int_int.cl_of (hin _ (by rw [getElem!_pos l0.toArray j hj]; simp))]
     rw [e1]
     exact this
    have hgl : g < w.heap.size := (Array.getElem?_eq_some_iff.1 hg).1
    refine (Go.Proofs.Any.slices_SortFunc slices_SortFunc_int_int.lays slices_SortFunc_int_int.enc (fun _ => rfl) slices_SortFunc_int_int.cf slices_SortFunc_int_int.order 179 #[] g 0 cap l0.toArray w (enters_of Try.func179 (by kernel_rfl) rfl) (slices_SortFunc_int_int.compares w g _) hH hgl (by simp; omega)).mono ?_
    rintro e w' ⟨rfl, d, q, os, hpm, hso, rfl⟩
    obtain ⟨hsz, _, hper⟩ := hpm
    have e0 : d.extract 0 l0.toArray.size = d := by rw [← hsz]; exact Array.extract_size
    rw [e0, Array.extract_size] at hper
    have hper' : List.Perm d.toList l0 := by simpa using hper
    have hid : ∀ x ∈ d.toList, -1152921504606846976 ≤ x ∧ x ≤ 1152921504606846976 := fun x hx => hin x (hper'.mem_iff.1 hx)
    have hds : ∀ j, (hj : j < d.size) → slices_SortFunc_int_int.cl d[j] = d[j] := fun j hj => slices_SortFunc_int_int.cl_of (hid _ (by simp))
    have hts : d.toList = l0.mergeSort fun x y => decide (y ≤ x) := by
     refine List.Perm.eq_of_pairwise (le := fun x y : Int => y ≤ x) (fun a b _ _ h1 h2 => Int.le_antisymm h2 h1) ?_ ?_ (hper'.trans (List.mergeSort_perm _ _).symm)
     ·rw [List.pairwise_iff_getElem]
      intro i j hi hj hij
      have hi' : i < d.size := by simpa using hi
      have hj' : j < d.size := by simpa using hj
      have := hso i j (Nat.zero_le _) hij (by omega)
      rw [getElem!_pos d j hj', getElem!_pos d i hi'] at this
      simp only [Go.Proofs.ltOf, slices_SortFunc_int_int.cf, decide_eq_false_iff_not, hds j hj', hds i hi'] at this
      simp only [Array.getElem_toList]
      omega
     ·have := List.pairwise_mergeSort (le := fun x y : Int => decide (y ≤ x)) (fun a b c h1 h2 => by simp only [decide_eq_true_eq] at h1 h2 ⊢; omega) (fun a b => by simp only [Bool.or_eq_true, decide_eq_true_eq]; omega) l0
      exact this.imp fun h => by simpa using h
    have hd : d = (l0.mergeSort fun x y => decide (y ≤ x)).toArray := by rw [← hts]
    have hput : Go.Proofs.sortWorld slices_SortFunc_int_int.enc w g 0 q d os = Go.Sort.grow (Go.Sort.putRow (Value.int .i64) (Go.Sort.ahead w q) g 0 (l0.mergeSort fun x y => decide (y ≤ x)).toArray) os := by
     unfold Go.Proofs.sortWorld
     rw [slices_SortFunc_int_int.put _ _ _ (fun j hj => by rw [getElem!_pos d j hj]; unfold slices_SortFunc_int_int.enc; rw [hds j hj]), hd]
    rw [hput]
    have hl : (l0.mergeSort fun x y => decide (y ≤ x)).length = l0.length := List.length_mergeSort _
    have hrow := Go.ownsRow_sortedI (os := os) (n := q) hl hbase hg h1 h2 h3
    have hgr := Go.grownBy_sortedI (w := w) (g := g) (n := q) (os := os) (l0.mergeSort fun x y => decide (y ≤ x)).toArray
    refine ⟨rfl, Kd.R_of_own ?_ ?_, hB.grown hgr hB.size (fun k hk => by cases hk; exact hbase), ⟨hgr.size, fun i hi hne => hgr.block i hi (fun he => by cases he; exact hne hp)⟩⟩
    ·rw [hl]; exact hrow
    ·intro k hk
     cases hk
     exact .inl hp
  ·rw [if_neg c2] at h; exact absurd h (by simp)
 ·rw [if_neg c1] at h; exact absurd h (by simp)

end Go.Proofs.Ytojklddddedoeaa.PFnTop
-- SLIM
