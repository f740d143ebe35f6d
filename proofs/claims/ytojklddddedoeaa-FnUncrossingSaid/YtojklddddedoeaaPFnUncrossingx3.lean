/- For each Go function that the law uses, a Lean function with the same answers and a proof that its call comes to them; the conditions stand in each theorem. (Written by a program of this session, turned from the print of the kit.) -/
import Derived.Test.YtojklddddedoeaaPFnUncrossingx0
import Derived.Test.YtojklddddedoeaaPFnUncrossingx2
namespace Go.Proofs.Ytojklddddedoeaa.PFnUncrossing
open Go.RowKit Go.Proofs.YtojklddddedoeaaW.PrintWords Go.Proofs.YtojklddddedoeaaW.PrintLast Go.Proofs.YtojklddddedoeaaW.PrintMore
attribute [local go_sem] max2_int min2_int max_two min_two max_three min_three max_four min_four   -- for this text's walks alone
set_option linter.unusedVariables false
set_option linter.unusedSimpArgs false

/-! ### impl_monotone: function 80 -/
/-- The rounds of carrying: what stands in the table, and what is left at both sides. -/
def impl_monotone.l0 : Nat → List (List Int) → List Int → List Int → Int → Int → Option (List (List Int))
 | 0, _, _, _, _, _ => none
 | k + 1, m, a, b, i, j => if i < (a.length : Int) then (if j < (b.length : Int) then (if 0 ≤ i then (if 0 ≤ j then (if i < (m.length : Int) then (if j < ((rd_L2 m i).length : Int) then (if rd (a.set i.toNat (wrap64 (rd a i - mn (rd a i) (rd b j)))) i = 0 then impl_monotone.l0 k (m.set i.toNat ((rd_L2 m i).set j.toNat (wrap64 (rd (rd_L2 m i) j + mn (rd a i) (rd b j))))) (a.set i.toNat (wrap64 (rd a i - mn (rd a i) (rd b j)))) (b.set j.toNat (wrap64 (rd b j - mn (rd a i) (rd b j)))) (wrap64 (i + 1)) j else impl_monotone.l0 k (m.set i.toNat ((rd_L2 m i).set j.toNat (wrap64 (rd (rd_L2 m i) j + mn (rd a i) (rd b j))))) (a.set i.toNat (wrap64 (rd a i - mn (rd a i) (rd b j)))) (b.set j.toNat (wrap64 (rd b j - mn (rd a i) (rd b j)))) i (wrap64 (j + 1))) else none) else none) else none) else none) else some m) else some m
def impl_monotone.c (k : Nat) (m : List (List Int)) (l0 l1 : List Int) : Option (List (List Int)) := (slices_Clone_int_int.f l0).bind fun a => (slices_Clone_int_int.f l1).bind fun b => impl_monotone.l0 k m a b 0 0
theorem impl_monotone.l0_mono : ∀ k m a b i j, LeO (impl_monotone.l0 k m a b i j) (impl_monotone.l0 (k + 1) m a b i j)
 | 0, _, _, _, _, _ => fun r h => by simp [impl_monotone.l0] at h
 | k + 1, m, a, b, i, j => by
  rw [impl_monotone.l0, impl_monotone.l0]
  exact LeO.ite (LeO.ite (LeO.ite (LeO.ite (LeO.ite (LeO.ite (LeO.ite (impl_monotone.l0_mono k _ _ _ _ _) (impl_monotone.l0_mono k _ _ _ _ _)) (LeO.none _)) (LeO.none _)) (LeO.none _)) (LeO.none _)) (LeO.refl _)) (LeO.refl _)
theorem impl_monotone.c_mono (m : List (List Int)) (l0 l1 : List Int) (k : Nat) : LeO (impl_monotone.c k m l0 l1) (impl_monotone.c (k + 1) m l0 l1) := by
 unfold impl_monotone.c
 exact LeO.bind (LeO.refl _) (fun _ => LeO.bind (LeO.refl _) (fun _ => impl_monotone.l0_mono k _ _ _ _ _))
/-- One row of rows that are apart has been written. -/
theorem impl_monotone.row_step {w w1 : World} {base : Nat} {P0_ : Nat → Prop} {g n cap : Nat} {m : List (List Int)} {r : List Int} {i : Int} {oki : Nat → Prop} {c : List Value} {u : Value} {q : Nat}
  (hu : c = [u]) (hoki : ∀ k, oki k → P0_ k ∧ k ≠ g) (hH : Kd.H (Kd.slice 3 (Kd.int .i64)) 24 w base P0_ (.slice (some ⟨g, 0, none⟩) n cap) m i oki c)
  (hq : u.ownBlock = some q) (hqo : oki q) {ok1 : Nat → Prop} (hr : Kd.R (Kd.int .i64) 3 w1 base ok1 u r) (hk : w.grownBy w1 (some q)) :
  Kd.S (Kd.slice 3 (Kd.int .i64)) 24 w1 base P0_ (.slice (some ⟨g, 0, none⟩) n cap) (m.set i.toNat r) := by
 have h1 := Kd.H_step (w1 := w1) hH (fun k _ hn hlt => hk.block k hlt (fun he => hn (by cases he; exact hqo)))
 refine Kd.H_back (okp := fun k => some k = u.ownBlock) h1 ?_ (fun k hk => by rw [hq] at hk; cases hk; exact hqo)
 rw [hu]
 exact Kd.M_row (Kd.R_tight rfl hr)
set_option maxHeartbeats 8000000 in
set_option maxRecDepth 100000 in
/-- Units are put: one cell of the table is greater by them. -/
theorem impl_monotone.put (Bo g cap n : Nat) (m : List (List Int)) (i j x : Int) (base : Nat) (ok : Nat → Prop) (w : World) (hBo : Boxed w Bo 27 (.slice (some ⟨g, 0, none⟩) n cap)) (hS : Kd.S (Kd.slice 3 (Kd.int .i64)) 24 w base ok (.slice (some ⟨g, 0, none⟩) n cap) m) (hi0 : 0 ≤ i) (hi : i < (m.length : Int)) (hj0 : 0 ≤ j) (hj : j < ((rd_L2 m i).length : Int)) :
  Calls Try.prog 160 #[.int .i64 i, .int .i64 j, .int .i64 x, .pointer (some ⟨Bo, 0, none⟩)] w fun e w' => e = .returned (.tuple #[]) ∧ Kd.S (Kd.slice 3 (Kd.int .i64)) 24 w' base ok (.slice (some ⟨g, 0, none⟩) n cap) (m.set i.toNat ((rd_L2 m i).set j.toNat (wrap64 (rd (rd_L2 m i) j + x)))) ∧ ∃ q, ok q ∧ base ≤ q ∧ w.grownBy w' (some q) := by
 have hn := (Kd.S_reads' hS).1
 obtain ⟨oki, c, hcl, hM, hcell, hoki, hH⟩ := Kd.S_lend hS [] i hi0 (by omega)
 obtain ⟨u, hu, hR⟩ := hM
 have hrow : m.getD i.toNat [] = rd_L2 m i := rfl
 rw [hrow] at hR
 obtain ⟨gr, cr, er, hbr, hlr, _⟩ := Kd.R_form hR (by omega)
 subst er
 subst hu
 have hcell0 := hcell 0 _ rfl
 rw [show i.toNat * (Kd.slice 3 (Kd.int .i64)).sz + 0 = i.toNat from by show i.toNat * 1 + 0 = _; omega] at hcell0
 obtain ⟨hx0, hf0⟩ := Kd.R_celln 0 hR j hj0 hj
 have hb := hBo.cell
 have HP := Kd.R_putg hR j (wrap64 (rd (rd_L2 m i) j + x))
 have hqo : oki gr := hR.1 _ rfl
 have hx1 : w.cell? ⟨gr, j.toNat, none⟩ = some (.int .i64 (rd (rd_L2 m i) j)) := hx0
 have HR := Aside0.mk hR
 have HH := Aside0.mk hH
 have HO := Aside0.mk hoki
 have HQ := Aside0.mk hqo
 have HBQ := Aside0.mk hbr
 have p1 := eq_true hi0
 have q1 := eq_true (show i < (n : Int) by omega)
 have p2 := eq_true hj0
 have q2 := eq_true hj
 clear hBo hS hi0 hi hj0 hj hn hcell hcl hR hH hoki hqo hbr hlr hrow hx0
 have HX1 := hx1
 have HC0 := hcell0
 clear hx1 hcell0
 obtain ⟨row, hrow⟩ : ∃ q_, q_ = rd_L2 m i := ⟨_, rfl⟩
 rw [← hrow] at HX1 HC0 HP q2 HR HH ⊢
 have Nrow := Aside0.mk hrow
 clear hrow
 go_enter Try.func160, Try.ntmps160
 go_wp2_with (first | ((with_reducible refine gate_store (t := 3) (p := 16) rfl ?_); refine store_event (t := 3) (p := 16) (v := ?vo_w8) (w1 := (w.setCell ⟨gr, j.toNat, none⟩ (.int .i64 (wrap64 (rd row j + x))))) ?hg ?ho ?hn ?hr ?_; (case ho => rfl); (case hg => rfl); (case hn => rfl); (case hr => first | (go_simp; done) | (go_simp; rfl)); intro w8 hw; have h8 := Aside0.mk hw; clear hw))
 go_end0
 refine ⟨rfl, ?_, gr, (HO.out _ HQ.out).1, HBQ.out, ?_⟩
 ·have hw := h8.out
  rw [hw]
  exact impl_monotone.row_step rfl HO.out HH.out rfl HQ.out HP.1 HP.2
 ·rw [h8.out]; exact HP.2
theorem impl_monotone.blk_drewN {w : World} {B : Nat} {t : TypeId} {v : Value} (h : Boxed w B t v) (m : Nat) : Boxed (w.drewN m) B t v := by
 have : (w.drewN m).heap = w.heap := rfl
 unfold Boxed; rw [this]; exact h
theorem impl_monotone.block_lt {w : World} {A : Option Addr} {n cap base : Nat} {ok : Nat → Prop} {l : List Int} (h : Kd.R (Kd.int .i64) 3 w base ok (.slice A n cap) l) (hp : 0 < l.length) : ∃ g, A = some ⟨g, 0, none⟩ ∧ base ≤ g ∧ ok g := by
 obtain ⟨g, c, e, hb, _⟩ := Kd.R_form h hp
 injection e with e1 e2 e3
 exact ⟨g, e1, hb, h.1 _ (by rw [e1]; rfl)⟩
set_option maxHeartbeats 8000000 in
set_option maxRecDepth 100000 in
/-- Carrying, with the putting that writes a table. -/
theorem impl_monotone.carry (k Bo g cap n base : Nat) (ok : Nat → Prop) (A0 : Option Addr) (c0 : Nat) (l0 : List Int) (A1 : Option Addr) (c1 : Nat) (l1 : List Int) (m r : List (List Int)) (w0 w : World) (hB : Below w0.heap.size w0 w) (hBo : Boxed w Bo 27 (.slice (some ⟨g, 0, none⟩) n cap)) (hS : Kd.S (Kd.slice 3 (Kd.int .i64)) 24 w base ok (.slice (some ⟨g, 0, none⟩) n cap) m) (hbase : w0.heap.size ≤ base) (hokB : ∀ k, ok k → k ≠ Bo) (hok : ∀ k, ok k → k < w.heap.size)
  (hr0 : Kd.C (Kd.int .i64) w A0 l0.length l0) (hc0 : l0.length ≤ c0) (hr1 : Kd.C (Kd.int .i64) w A1 l1.length l1) (hc1 : l1.length ≤ c1) (h : impl_monotone.c k m l0 l1 = some r) :
  Calls Try.prog 108 #[.slice A0 l0.length c0, .slice A1 l1.length c1, .func (.func 160) #[] #[.pointer (some ⟨Bo, 0, none⟩)]] w fun e w' => e = .returned (.tuple #[]) ∧ Kd.S (Kd.slice 3 (Kd.int .i64)) 24 w' base ok (.slice (some ⟨g, 0, none⟩) n cap) r ∧ Below w0.heap.size w0 w' ∧ Kept w w' ok := by
 unfold impl_monotone.c at h
 replace h := Option.bind_eq_some_iff.mp h
 obtain ⟨a, ha, h⟩ := h
 replace h := Option.bind_eq_some_iff.mp h
 obtain ⟨b, hb, h⟩ := h
 have HA := Aside0.mk ha
 have HB := Aside0.mk hb
 have HH := Aside0.mk h
 have HR0 := Aside0.mk hr0
 have HC0 := Aside0.mk hc0
 have HR1 := Aside0.mk hr1
 have HC1 := Aside0.mk hc1
 have HO := Aside0.mk hS
 have HBo := Aside0.mk hBo
 have HBW := Aside0.mk hB
 have HBA := Aside0.mk hbase
 have HOB := Aside0.mk hokB
 have HOK := Aside0.mk hok
 clear ha hb h hr0 hc0 hr1 hc1 hS hBo hB hbase hokB hok
 go_enter Try.func108, Try.ntmps108
 go_wp2_with (first
  | (go_at_call 170; (with_reducible refine (slices_Clone_int_int.calls A0 c0 l0 a _ ?side1 ?side2 HA.out).mono ?_); (case side1 => repeat (first | exact HR0.out | (with_reducible refine Kd.C_alloc ?_ _) | (with_reducible refine Kd.C_drewN ?_ _) | (with_reducible refine Kd.C_drew ?_))); (case side2 => exact HC0.out); rintro e w1 ⟨va, rfl, hA, hb1⟩; have HVA := Aside0.mk hA; have HB1 := Aside0.mk hb1; clear hA hb1)
  | (go_at_call 170; (with_reducible refine (slices_Clone_int_int.calls A1 c1 l1 b _ ?side1 ?side2 HB.out).mono ?_); (case side1 => exact Kd.C_below HR1.out HB1.out); (case side2 => exact HC1.out); rintro e w2 ⟨vb, rfl, hB, hb2⟩; have HVB := Aside0.mk hB; have HB2 := Aside0.mk hb2; clear hB hb2))
 obtain ⟨NA, hNA⟩ : ∃ q_, q_ = w.heap.size := ⟨_, rfl⟩
 obtain ⟨NB, hNB⟩ : ∃ q_, q_ = w1.heap.size := ⟨_, rfl⟩
 obtain ⟨NC, hNC⟩ : ∃ q_, q_ = w2.heap.size := ⟨_, rfl⟩
 have LA : w.heap.size ≤ NA := by omega
 have LA' : NA ≤ w.heap.size := by omega
 have LB : NA ≤ NB := by have := HB1.out.size; omega
 have LC : NB ≤ NC := by have := HB2.out.size; omega
 have HVA2 := Aside0.mk (show Kd.R (Kd.int .i64) 3 w2 w.heap.size (fun k => NA ≤ k ∧ k < NB) va a from Kd.R_below (Kd.R_mono (Kd.R_bound HVA.out) (fun k hk => ⟨by have := hk.2.1; omega, by have := hk.2.2.1; omega⟩)) HB2.out)
 have HVB2 := Aside0.mk (show Kd.R (Kd.int .i64) 3 w2 w.heap.size (fun k => NB ≤ k ∧ k < NC) vb b from Kd.R_lower (Kd.R_mono (Kd.R_bound HVB.out) (fun k hk => ⟨by have := hk.2.1; omega, by have := hk.2.2.1; omega⟩)) HB1.out.size)
 have HK0 := Aside0.mk (Kept.of_below (HB1.out.trans (HB2.out.mono HB1.out.size)) ok)
 have HW0 := Aside0.mk ((HBW.out.trans (HB1.out.mono HBW.out.size)).trans (HB2.out.mono (Nat.le_trans HBW.out.size HB1.out.size)))
 have HO2 := Aside0.mk (Kd.S_below (Kd.S_below HO.out HB1.out) HB2.out)
 have HOL := Aside0.mk (show ∀ k, ok k → k < NA from fun k hk => by have := HOK.out k hk; omega)
 clear HVA HVB HB1 HB2 hNA hNB hNC HO HOK HR0 HC0 HR1 HC1
 obtain ⟨Aa, ca, ea⟩ := Kd.R_slice HVA2.out
 subst ea
 obtain ⟨Ab, cb, eb⟩ := Kd.R_slice HVB2.out
 subst eb
 go_loopg [6, 7] k (fun kq v6 v7 wr => ∃ (m' : List (List Int)) (a' b' : List Int) (i j : Int), v6 = .int .i64 i ∧ v7 = .int .i64 j ∧ Aside0 (a'.length = a.length) ∧ Aside0 (b'.length = b.length) ∧ Aside0 (impl_monotone.l0 kq m' a' b' i j = some r) ∧ Aside0 (kq ≤ k) ∧ Aside0 (Kd.S (Kd.slice 3 (Kd.int .i64)) 24 wr base ok (.slice (some ⟨g, 0, none⟩) n cap) m') ∧ Aside0 (Kd.R (Kd.int .i64) 3 wr w.heap.size (fun k => NA ≤ k ∧ k < NB) (.slice Aa a.length ca) a') ∧ Aside0 (Kd.R (Kd.int .i64) 3 wr w.heap.size (fun k => NB ≤ k ∧ k < NC) (.slice Ab b.length cb) b') ∧ Aside0 (Below w0.heap.size w0 wr) ∧ Aside0 (Kept w wr ok))
 case atStart => exact ⟨m, a, b, 0, 0, rfl, rfl, ⟨rfl⟩, ⟨rfl⟩, HH, ⟨Nat.le_refl _⟩, HO2, HVA2, HVB2, HW0, HK0⟩
 case round =>
  clear HH HO2 HVA2 HVB2 HW0 HK0
  obtain ⟨m', a', b', i, j, rfl, rfl, HLA, HLB, HQ, HKQ, HO, HVA, HVB, HW, HK⟩ := hrel
  cases gk with
  | zero => exact absurd HQ.out (by simp [impl_monotone.l0])
  | succ k1 =>
   have H := HQ.out
   clear HQ
   simp only [impl_monotone.l0] at H
   rw [HLA.out, HLB.out] at H
   by_cases ci : i < (a.length : Int)
   ·rw [if_pos ci] at H
    by_cases cj : j < (b.length : Int)
    ·rw [if_pos cj] at H
     by_cases ci0 : 0 ≤ i
     ·rw [if_pos ci0] at H
      by_cases cj0 : 0 ≤ j
      ·rw [if_pos cj0] at H
       by_cases cm : i < (m'.length : Int)
       ·rw [if_pos cm] at H
        by_cases cr : j < ((rd_L2 m' i).length : Int)
        ·rw [if_pos cr] at H
         have HM := Aside0.mk cm
         have HRW := Aside0.mk cr
         have HI := Aside0.mk ci
         have HJ := Aside0.mk cj
         have HI0 := Aside0.mk ci0
         have HJ0 := Aside0.mk cj0
         obtain ⟨ga, eA, hbA, hoA⟩ := impl_monotone.block_lt HVA.out (by have := HLA.out; omega)
         obtain ⟨gb, eB, hbB, hoB⟩ := impl_monotone.block_lt HVB.out (by have := HLB.out; omega)
         subst eA
         subst eB
         obtain ⟨hxa, hfa⟩ := Kd.R_celln 0 HVA.out i ci0 ci
         obtain ⟨hxb, hfb⟩ := Kd.R_celln 0 HVB.out j cj0 cj
         replace hxa : wr.cell? ⟨ga, i.toNat, none⟩ = some (.int .i64 (rd a' i)) := hxa
         replace hxb : wr.cell? ⟨gb, j.toNat, none⟩ = some (.int .i64 (rd b' j)) := hxb
         have HGA := Aside0.mk (show NA ≤ ga ∧ ga < NB from hoA)
         have HGB := Aside0.mk (show NB ≤ gb ∧ gb < NC from hoB)
         clear hbA hoA hbB hoB
         obtain ⟨x, hx⟩ : ∃ q_, q_ = mn (rd a' i) (rd b' j) := ⟨_, rfl⟩
         rw [← hx] at H
         obtain ⟨y, hy⟩ : ∃ q_, q_ = a'.set i.toNat (wrap64 (rd a' i - x)) := ⟨_, rfl⟩
         rw [← hy] at H
         obtain ⟨z, hz⟩ : ∃ q_, q_ = b'.set j.toNat (wrap64 (rd b' j - x)) := ⟨_, rfl⟩
         rw [← hz] at H
         obtain ⟨m2, hm2⟩ : ∃ q_, q_ = m'.set i.toNat ((rd_L2 m' i).set j.toNat (wrap64 (rd (rd_L2 m' i) j + x))) := ⟨_, rfl⟩
         rw [← hm2] at H
         have Nx := Aside0.mk hx
         have Ny := Aside0.mk hy
         have Nz := Aside0.mk hz
         have Nm2 := Aside0.mk hm2
         clear hx hy hz hm2
         have hb := ((HK.out.2 Bo HBo.out.lt (fun h_ => HOB.out Bo h_ rfl)).trans HBo.out : Boxed wr Bo 27 (.slice (some ⟨g, 0, none⟩) n cap))
         have HBX := Aside0.mk hb
         clear hb cm cr
         replace ci := eq_true ci
         replace cj := eq_true cj
         replace ci0 := eq_true ci0
         replace cj0 := eq_true cj0
         by_cases cz : rd y i = 0
         ·rw [if_pos cz] at H
          have H' := Aside0.mk H
          clear H
          have cz0 : (rd y i == 0) = true := beq_iff_eq.mpr cz
          clear cz
          go_wp2
          go_quiet (fail)
          rw [show (if rd b' j < rd a' i then rd b' j else rd a' i) = x from Nx.out.symm]
          go_wp2_with (first | (go_at_call 160; refine (impl_monotone.put Bo g cap n m' i j x base ok _ (impl_monotone.blk_drewN HBX.out nq) (Kd.S_drewN HO.out nq) HI0.out HM.out HJ0.out HRW.out).mono ?_; rintro e w6 ⟨rfl, hS6, q, hqo, hqb, hg⟩; have n0_ := Aside0.mk (show Kd.S (Kd.slice 3 (Kd.int .i64)) 24 w6 base ok (.slice (some ⟨g, 0, none⟩) n cap) m2 from by rw [Nm2.out]; exact hS6); have n1_ := Aside0.mk (Kd.R_grown (Kd.R_drewN HVA.out nq) hg (fun k hk e_ => by cases e_; have := HOL.out _ hqo; omega)); have n2_ := Aside0.mk (Kd.R_grown (Kd.R_drewN HVB.out nq) hg (fun k hk e_ => by cases e_; have := HOL.out _ hqo; omega)); have n3_ := Aside0.mk (Below.grown (pw_below_drewN HW.out nq) hg (by have := HW.out.size; first | exact this | (simp; omega)) (fun k e_ => by cases e_; have := HBA.out; omega)); have n4_ := Aside0.mk (Kept.of_grown hg (Kept.drewN HK.out nq) (fun k e_ => .inl (by cases e_; exact hqo))); clear HO HVA HVB HW HK hS6 hg hqo hqb; have HO := n0_; have HVA := n1_; have HVB := n2_; have HW := n3_; have HK := n4_; clear n0_ n1_ n2_ n3_ n4_; have HP := Kd.R_putg HVA.out i (wrap64 (rd a' i - x)); obtain ⟨hxd, hfd⟩ := Kd.R_celln 0 HVA.out i HI0.out HI.out; replace hxd : w6.cell? ⟨ga, i.toNat, none⟩ = some (.int .i64 (rd a' i)) := hxd) | ((with_reducible refine gate_store (t := 3) (p := 43) rfl ?_); refine store_event (t := 3) (p := 43) (v := ?vo_1) (w1 := (w6.setCell ⟨ga, i.toNat, none⟩ (.int .i64 (wrap64 (rd a' i - x))))) ?hg ?ho ?hn ?hr ?_; (case ho => rfl); (case hg => rfl); (case hn => rfl); (case hr => first | (go_simp; done) | (go_simp; rfl)); intro w8 hw; have hg : w6.grownBy w8 (some ga) := (by rw [hw]; exact HP.2); have hp_ : Kd.R (Kd.int .i64) 3 w8 w.heap.size (fun k => NA ≤ k ∧ k < NB) (.slice (some ⟨ga, 0, none⟩) a.length ca) y := (by rw [hw, Ny.out]; exact HP.1); clear HP; have n0_ := Aside0.mk (Kd.S_grown HO.out hg (fun k hk e_ => by cases e_; have := HOL.out _ hk; have := HGA.out; omega)); have n1_ := Aside0.mk (Kd.R_grown HVB.out hg (fun k hk e_ => by cases e_; have := HGA.out; omega)); have n2_ := Aside0.mk (Below.grown HW.out hg (by have := HW.out.size; omega) (fun k e_ => by cases e_; have := HBW.out.size; have := HGA.out; omega)); have n3_ := Aside0.mk (Kept.of_grown hg HK.out (fun k e_ => .inr (by cases e_; have := HGA.out; omega))); have n4_ := Aside0.mk hp_; clear HO HVA HVB HW HK; have HO := n0_; have HVB := n1_; have HW := n2_; have HK := n3_; have HVA := n4_; clear n0_ n1_ n2_ n3_ n4_ hg hw hp_; have HP := Kd.R_putg HVB.out j (wrap64 (rd b' j - x)); obtain ⟨hxc, hfc⟩ := Kd.R_celln 0 HVB.out j HJ0.out HJ.out; replace hxc : w8.cell? ⟨gb, j.toNat, none⟩ = some (.int .i64 (rd b' j)) := hxc) | ((with_reducible refine gate_store (t := 3) (p := 50) rfl ?_); refine store_event (t := 3) (p := 50) (v := ?vo_2) (w1 := (w8.setCell ⟨gb, j.toNat, none⟩ (.int .i64 (wrap64 (rd b' j - x))))) ?hg ?ho ?hn ?hr ?_; (case ho => rfl); (case hg => rfl); (case hn => rfl); (case hr => first | (go_simp; done) | (go_simp; rfl)); intro w9 hw; have hg : w8.grownBy w9 (some gb) := (by rw [hw]; exact HP.2); have hp_ : Kd.R (Kd.int .i64) 3 w9 w.heap.size (fun k => NB ≤ k ∧ k < NC) (.slice (some ⟨gb, 0, none⟩) b.length cb) z := (by rw [hw, Nz.out]; exact HP.1); clear HP; have n0_ := Aside0.mk (Kd.S_grown HO.out hg (fun k hk e_ => by cases e_; have := HOL.out _ hk; have := HGB.out; omega)); have n1_ := Aside0.mk (Kd.R_grown HVA.out hg (fun k hk e_ => by cases e_; have := HGB.out; omega)); have n2_ := Aside0.mk (Below.grown HW.out hg (by have := HW.out.size; omega) (fun k e_ => by cases e_; have := HBW.out.size; have := HGB.out; omega)); have n3_ := Aside0.mk (Kept.of_grown hg HK.out (fun k e_ => .inr (by cases e_; have := HGB.out; omega))); have n4_ := Aside0.mk hp_; clear HO HVA HVB HW HK; have HO := n0_; have HVA := n1_; have HW := n2_; have HK := n3_; have HVB := n4_; clear n0_ n1_ n2_ n3_ n4_ hg hw hp_; obtain ⟨hxc, hfc⟩ := Kd.R_celln 0 HVA.out i HI0.out HI.out; replace hxc : w9.cell? ⟨ga, i.toNat, none⟩ = some (.int .i64 (rd y i)) := hxc))
          go_roundg k1
          case measure => have := HKQ.out; omega
          case rel => exact ⟨m2, y, z, (wrap64 (i + 1)), j, (by first | rfl | (simp; done) | (simp [*]; done)), (by first | rfl | (simp; done) | (simp [*]; done)), ⟨by rw [Ny.out, List.length_set]; exact HLA.out⟩, ⟨by rw [Nz.out, List.length_set]; exact HLB.out⟩, H', ⟨by have := HKQ.out; omega⟩, HO, HVA, HVB, HW, HK⟩
         ·rw [if_neg cz] at H
          have H' := Aside0.mk H
          clear H
          have cz0 : (rd y i == 0) = false := beq_eq_false_iff_ne.mpr cz
          clear cz
          go_wp2
          go_quiet (fail)
          rw [show (if rd b' j < rd a' i then rd b' j else rd a' i) = x from Nx.out.symm]
          go_wp2_with (first | (go_at_call 160; refine (impl_monotone.put Bo g cap n m' i j x base ok _ (impl_monotone.blk_drewN HBX.out nq) (Kd.S_drewN HO.out nq) HI0.out HM.out HJ0.out HRW.out).mono ?_; rintro e w6 ⟨rfl, hS6, q, hqo, hqb, hg⟩; have n0_ := Aside0.mk (show Kd.S (Kd.slice 3 (Kd.int .i64)) 24 w6 base ok (.slice (some ⟨g, 0, none⟩) n cap) m2 from by rw [Nm2.out]; exact hS6); have n1_ := Aside0.mk (Kd.R_grown (Kd.R_drewN HVA.out nq) hg (fun k hk e_ => by cases e_; have := HOL.out _ hqo; omega)); have n2_ := Aside0.mk (Kd.R_grown (Kd.R_drewN HVB.out nq) hg (fun k hk e_ => by cases e_; have := HOL.out _ hqo; omega)); have n3_ := Aside0.mk (Below.grown (pw_below_drewN HW.out nq) hg (by have := HW.out.size; first | exact this | (simp; omega)) (fun k e_ => by cases e_; have := HBA.out; omega)); have n4_ := Aside0.mk (Kept.of_grown hg (Kept.drewN HK.out nq) (fun k e_ => .inl (by cases e_; exact hqo))); clear HO HVA HVB HW HK hS6 hg hqo hqb; have HO := n0_; have HVA := n1_; have HVB := n2_; have HW := n3_; have HK := n4_; clear n0_ n1_ n2_ n3_ n4_; have HP := Kd.R_putg HVA.out i (wrap64 (rd a' i - x)); obtain ⟨hxd, hfd⟩ := Kd.R_celln 0 HVA.out i HI0.out HI.out; replace hxd : w6.cell? ⟨ga, i.toNat, none⟩ = some (.int .i64 (rd a' i)) := hxd) | ((with_reducible refine gate_store (t := 3) (p := 43) rfl ?_); refine store_event (t := 3) (p := 43) (v := ?vo_3) (w1 := (w6.setCell ⟨ga, i.toNat, none⟩ (.int .i64 (wrap64 (rd a' i - x))))) ?hg ?ho ?hn ?hr ?_; (case ho => rfl); (case hg => rfl); (case hn => rfl); (case hr => first | (go_simp; done) | (go_simp; rfl)); intro w8 hw; have hg : w6.grownBy w8 (some ga) := (by rw [hw]; exact HP.2); have hp_ : Kd.R (Kd.int .i64) 3 w8 w.heap.size (fun k => NA ≤ k ∧ k < NB) (.slice (some ⟨ga, 0, none⟩) a.length ca) y := (by rw [hw, Ny.out]; exact HP.1); clear HP; have n0_ := Aside0.mk (Kd.S_grown HO.out hg (fun k hk e_ => by cases e_; have := HOL.out _ hk; have := HGA.out; omega)); have n1_ := Aside0.mk (Kd.R_grown HVB.out hg (fun k hk e_ => by cases e_; have := HGA.out; omega)); have n2_ := Aside0.mk (Below.grown HW.out hg (by have := HW.out.size; omega) (fun k e_ => by cases e_; have := HBW.out.size; have := HGA.out; omega)); have n3_ := Aside0.mk (Kept.of_grown hg HK.out (fun k e_ => .inr (by cases e_; have := HGA.out; omega))); have n4_ := Aside0.mk hp_; clear HO HVA HVB HW HK; have HO := n0_; have HVB := n1_; have HW := n2_; have HK := n3_; have HVA := n4_; clear n0_ n1_ n2_ n3_ n4_ hg hw hp_; have HP := Kd.R_putg HVB.out j (wrap64 (rd b' j - x)); obtain ⟨hxc, hfc⟩ := Kd.R_celln 0 HVB.out j HJ0.out HJ.out; replace hxc : w8.cell? ⟨gb, j.toNat, none⟩ = some (.int .i64 (rd b' j)) := hxc) | ((with_reducible refine gate_store (t := 3) (p := 50) rfl ?_); refine store_event (t := 3) (p := 50) (v := ?vo_4) (w1 := (w8.setCell ⟨gb, j.toNat, none⟩ (.int .i64 (wrap64 (rd b' j - x))))) ?hg ?ho ?hn ?hr ?_; (case ho => rfl); (case hg => rfl); (case hn => rfl); (case hr => first | (go_simp; done) | (go_simp; rfl)); intro w9 hw; have hg : w8.grownBy w9 (some gb) := (by rw [hw]; exact HP.2); have hp_ : Kd.R (Kd.int .i64) 3 w9 w.heap.size (fun k => NB ≤ k ∧ k < NC) (.slice (some ⟨gb, 0, none⟩) b.length cb) z := (by rw [hw, Nz.out]; exact HP.1); clear HP; have n0_ := Aside0.mk (Kd.S_grown HO.out hg (fun k hk e_ => by cases e_; have := HOL.out _ hk; have := HGB.out; omega)); have n1_ := Aside0.mk (Kd.R_grown HVA.out hg (fun k hk e_ => by cases e_; have := HGB.out; omega)); have n2_ := Aside0.mk (Below.grown HW.out hg (by have := HW.out.size; omega) (fun k e_ => by cases e_; have := HBW.out.size; have := HGB.out; omega)); have n3_ := Aside0.mk (Kept.of_grown hg HK.out (fun k e_ => .inr (by cases e_; have := HGB.out; omega))); have n4_ := Aside0.mk hp_; clear HO HVA HVB HW HK; have HO := n0_; have HVA := n1_; have HW := n2_; have HK := n3_; have HVB := n4_; clear n0_ n1_ n2_ n3_ n4_ hg hw hp_; obtain ⟨hxc, hfc⟩ := Kd.R_celln 0 HVA.out i HI0.out HI.out; replace hxc : w9.cell? ⟨ga, i.toNat, none⟩ = some (.int .i64 (rd y i)) := hxc))
          go_roundg k1
          case measure => have := HKQ.out; omega
          case rel => exact ⟨m2, y, z, i, (wrap64 (j + 1)), (by first | rfl | (simp; done) | (simp [*]; done)), (by first | rfl | (simp; done) | (simp [*]; done)), ⟨by rw [Ny.out, List.length_set]; exact HLA.out⟩, ⟨by rw [Nz.out, List.length_set]; exact HLB.out⟩, H', ⟨by have := HKQ.out; omega⟩, HO, HVA, HVB, HW, HK⟩
        ·rw [if_neg cr] at H
         exact absurd H (by simp)
       ·rw [if_neg cm] at H
        exact absurd H (by simp)
      ·rw [if_neg cj0] at H
       exact absurd H (by simp)
     ·rw [if_neg ci0] at H
      exact absurd H (by simp)
    ·rw [if_neg cj] at H
     obtain rfl := Option.some.inj H
     clear H
     replace ci := eq_true ci
     replace cj := eq_false cj
     go_wp2
     go_end0
     exact ⟨rfl, HO.out, HW.out, HK.out⟩
   ·rw [if_neg ci] at H
    obtain rfl := Option.some.inj H
    clear H
    replace ci := eq_false ci
    go_wp2
    go_end0
    exact ⟨rfl, HO.out, HW.out, HK.out⟩
def impl_monotone.f (k : Nat) (l0 l1 : List Int) : Option (List (List Int)) := (impl_square.f k (l0.length : Int) 0).bind fun m => if 0 < m.length then impl_monotone.c k m l0 l1 else none
theorem impl_monotone.mono : ∀ a0 a1 k, LeO (impl_monotone.f k a0 a1) (impl_monotone.f (k + 1) a0 a1) := by
 intro a0 a1 k
 unfold impl_monotone.f
 exact LeO.bind (impl_square.mono _ _ _) (fun _ => LeO.ite (impl_monotone.c_mono _ _ _ _) (LeO.none _))
set_option maxHeartbeats 8000000 in
set_option maxRecDepth 100000 in
theorem impl_monotone.calls (k : Nat) (A0 : Option Addr) (c0 : Nat) (l0 : List Int) (A1 : Option Addr) (c1 : Nat) (l1 : List Int) (r : List (List Int)) (w : World) (hr0 : Kd.C (Kd.int .i64) w A0 l0.length l0) (hc0 : l0.length ≤ c0) (hr1 : Kd.C (Kd.int .i64) w A1 l1.length l1) (hc1 : l1.length ≤ c1) (h : impl_monotone.f k l0 l1 = some r) :
  Calls Try.prog 80 #[.slice A0 l0.length c0, .slice A1 l1.length c1] w fun e w' => ∃ v0_ : Value, e = .returned (v0_) ∧ Kd.S (Kd.slice 3 (Kd.int .i64)) 24 w' w.heap.size (fun _ => True) v0_ r ∧ Below w.heap.size w w' := by
 unfold impl_monotone.f at h
 replace h := Option.bind_eq_some_iff.mp h
 obtain ⟨m, hm, h⟩ := h
 by_cases hl : ¬ 0 < m.length
 ·rw [if_neg hl] at h
  exact absurd h (by simp)
 replace hl := Decidable.not_not.mp hl
 rw [if_pos hl] at h
 have HM := Aside0.mk hm
 have HL := Aside0.mk hl
 have HH := Aside0.mk h
 have HR0 := Aside0.mk hr0
 have HC0 := Aside0.mk hc0
 have HR1 := Aside0.mk hr1
 have HC1 := Aside0.mk hc1
 clear hm hl h hr0 hc0 hr1 hc1
 go_enter Try.func80, Try.ntmps80
 go_wp2_with (first
  | (go_at_call 106; (with_reducible refine (impl_square.calls k (l0.length : Int) 0 m _ HM.out).mono ?_); rintro e w1 ⟨va, rfl, hS, hb1⟩; obtain ⟨g, cap, ev, hgb, hgl, _⟩ := Kd.S_form hS HL.out; subst ev; have hf := Boxed.new w1 27 (.slice (some ⟨g, 0, none⟩) m.length cap); have HF := Aside0.mk hf; have HS := Aside0.mk hS; have HB1 := Aside0.mk hb1; clear hS hb1 hf hgb)
  | (go_at_call 108; refine (impl_monotone.carry k w1.heap.size g cap m.length w.heap.size (fun k => w.heap.size ≤ k ∧ k < w1.heap.size) A0 c0 l0 A1 c1 l1 m r w _ (HB1.out.alloc HB1.out.size _) HF.out (Kd.S_alloc (Kd.S_mono (Kd.S_bound HS.out) (fun k hk => ⟨hk.2.1, hk.2.2.1⟩)) _) (Nat.le_refl _) (fun k hk => by omega) (fun k hk => by simp; omega) (Kd.C_alloc (Kd.C_below HR0.out HB1.out) _) HC0.out (Kd.C_alloc (Kd.C_below HR1.out HB1.out) _) HC1.out HH.out).mono ?_; rintro e w3 ⟨rfl, hS3, hb3, hk3⟩; have hbx : Boxed w3 w1.heap.size 27 (.slice (some ⟨g, 0, none⟩) m.length cap) := (hk3.2 w1.heap.size (by simp) (fun h_ => by omega)).trans HF.out; have hcs := hbx.cell; clear hbx; have HS3 := Aside0.mk hS3; have HB3 := Aside0.mk hb3; clear hS3 hb3 hk3))
 go_ret
 exact ⟨_, rfl, Kd.S_mono HS3.out (fun _ _ => trivial), HB3.out⟩

/-! ### impl_MonotonePlan: function 12 -/
def impl_MonotonePlan.f (k : Nat) (l0 : List Int) (l1 : List Int) : Option ((List (List Int)) × Bool) := (impl_areFitting.f k l0 l1).bind fun t125 => (if t125 = true then ((impl_monotone.f k l0 l1).bind fun t126 => (some (t126, true))) else (some (([] : List (List Int)), false)))
theorem impl_MonotonePlan.mono : ∀ a0 a1 k, LeO (impl_MonotonePlan.f k a0 a1) (impl_MonotonePlan.f (k + 1) a0 a1) := by
 intro a0 a1 k
 unfold impl_MonotonePlan.f
 repeat' first
   | (with_reducible exact impl_areFitting.mono _ _ _)
   | (with_reducible exact impl_monotone.mono _ _ _)
   | (with_reducible exact LeO.refl _)
   | (with_reducible exact LeO.none _)
   | (with_reducible refine LeO.ite ?_ ?_)
   | (with_reducible refine LeO.bind ?_ (fun _ => ?_))
   | exact impl_areFitting.mono _ _ _
   | exact impl_monotone.mono _ _ _
   | exact LeO.none _
   | refine LeO.ite ?_ ?_
   | refine LeO.bind ?_ (fun _ => ?_)
set_option maxHeartbeats 8000000 in
set_option maxRecDepth 100000 in
theorem impl_MonotonePlan.calls (k : Nat) (A0 : Option Addr) (c0 : Nat) (l0 : List Int) (A1 : Option Addr) (c1 : Nat) (l1 : List Int) (r1 : List (List Int)) (r2 : Bool) (w : World) (hr0 : Kd.C (Kd.int .i64) w A0 l0.length l0) (hc0 : l0.length ≤ c0) (hr1 : Kd.C (Kd.int .i64) w A1 l1.length l1) (hc1 : l1.length ≤ c1) (h : impl_MonotonePlan.f k l0 l1 = some (r1, r2)) :
  Calls Try.prog 12 #[.slice A0 l0.length c0, .slice A1 l1.length c1] w fun e w' => ∃ v0_ : Value, e = .returned (.tuple #[v0_, .bool r2]) ∧ Kd.S (Kd.slice 3 (Kd.int .i64)) 24 w' w.heap.size (fun _ => True) v0_ r1 ∧ Below w.heap.size w w' := by
 have HR0 := Aside0.mk hr0
 have HC0 := Aside0.mk hc0
 clear hr0 hc0
 have HR1 := Aside0.mk hr1
 have HC1 := Aside0.mk hc1
 clear hr1 hc1
 have HB := Aside0.mk (Below.refl w.heap.size w)
 have H : ((impl_areFitting.f k l0 l1).bind fun t125 => (if t125 = true then ((impl_monotone.f k l0 l1).bind fun t126 => (some (t126, true))) else (some (([] : List (List Int)), false)))) = some (r1, r2) := h
 clear h
 replace H := Option.bind_eq_some_iff.mp H
 obtain ⟨t125, A30, H⟩ := H
 replace H : (if t125 = true then ((impl_monotone.f k l0 l1).bind fun t126 => (some (t126, true))) else (some (([] : List (List Int)), false))) = some (r1, r2) := H
 have A3 := Aside0.mk A30
 clear A30
 by_cases c4 : t125 = true
 ·subst c4
  have H1 : ((impl_monotone.f k l0 l1).bind fun t126 => (some (t126, true))) = some (r1, r2) := by rw [if_pos rfl] at H; exact H
  clear H
  have H := H1
  clear H1
  replace H := Option.bind_eq_some_iff.mp H
  obtain ⟨t126, A50, H⟩ := H
  replace H : (some (t126, true)) = some (r1, r2) := H
  have A5 := Aside0.mk A50
  clear A50
  simp only [Option.some.injEq, Prod.mk.injEq] at H
  obtain ⟨rfl, rfl⟩ := H
  go_enter Try.func12, Try.ntmps12
  go_wp2_with (first | ((with_reducible refine gate_callee (f := 79) rfl ?_); refine goesL_ (some 8) rfl rfl Try.func79 (by kernel_rfl) rfl #[.slice A0 l0.length c0, .slice A1 l1.length c1] rfl (by (try simp only [List.map_toArray, List.map_cons, List.map_nil]); first | done | rfl | (simp only [List.length_drop, List.length_take]; rfl)) ?_; (with_reducible refine (impl_areFitting.calls k _ _ l0 _ _ l1 true _ ?side1 ?side2 ?side3 ?side4 A3.out).mono ?_); (case side1 => repeat (first | exact HR0.out | (with_reducible refine Kd.C_alloc ?_ _) | (with_reducible refine Kd.C_drewN ?_ _) | (with_reducible refine Kd.C_drew ?_))); (case side2 => exact HC0.out); (case side3 => repeat (first | exact HR1.out | (with_reducible refine Kd.C_alloc ?_ _) | (with_reducible refine Kd.C_drewN ?_ _) | (with_reducible refine Kd.C_drew ?_))); (case side4 => exact HC1.out); rintro e w' ⟨rfl, ⟨nd, rfl⟩⟩; refine ⟨_, rfl, ?_⟩) | ((with_reducible refine gate_callee (f := 80) rfl ?_); refine goesL_ (some 12) rfl rfl Try.func80 (by kernel_rfl) rfl #[.slice A0 l0.length c0, .slice A1 l1.length c1] rfl (by (try simp only [List.map_toArray, List.map_cons, List.map_nil]); first | done | rfl | (simp only [List.length_drop, List.length_take]; rfl)) ?_; (with_reducible refine (impl_monotone.calls k _ _ l0 _ _ l1 t126 _ ?side1 ?side2 ?side3 ?side4 A5.out).mono ?_); (case side1 => repeat (first | exact HR0.out | (with_reducible refine Kd.C_alloc ?_ _) | (with_reducible refine Kd.C_drewN ?_ _) | (with_reducible refine Kd.C_drew ?_))); (case side2 => exact HC0.out); (case side3 => repeat (first | exact HR1.out | (with_reducible refine Kd.C_alloc ?_ _) | (with_reducible refine Kd.C_drewN ?_ _) | (with_reducible refine Kd.C_drew ?_))); (case side4 => exact HC1.out); rintro e w6 ⟨v127, rfl, ho0, hb⟩; refine ⟨_, rfl, ?_⟩; have n0_ := Aside0.mk (Kd.S_lower ho0 (below_size (by repeat (first | (with_reducible first | exact HB.out | apply below_alloc | apply pw_below_drewN | apply below_drew1) | exact HB.out)))); have n1_ := Aside0.mk (below_step (by repeat (first | (with_reducible first | exact HB.out | apply below_alloc | apply pw_below_drewN | apply below_drew1) | exact HB.out)) hb); clear HB; have HO128 := n0_; have HB := n1_; clear n0_ n1_; (try clear hb); (try clear hb2); (try clear hk); (try clear hi); (try clear ho0)))
  go_ret2
  exact ⟨_, by first | rfl | (simp [errW_none, errW_some] <;> rfl) | (simp [*, errW_none, errW_some] <;> rfl), by (with_reducible repeat (first | apply Kd.S_alloc | apply Kd.S_drewN | apply Kd.S_drew)); exact HO128.out, by repeat (first | (with_reducible first | exact HB.out | apply below_alloc | apply pw_below_drewN | apply below_drew1) | exact HB.out)⟩
 ·replace c4 := Bool.eq_false_iff.mpr c4
  subst c4
  have H1 : (some (([] : List (List Int)), false)) = some (r1, r2) := by rw [if_neg (show ¬ (false = true) by decide)] at H; exact H
  clear H
  have H := H1
  clear H1
  simp only [Option.some.injEq, Prod.mk.injEq] at H
  obtain ⟨rfl, rfl⟩ := H
  go_enter Try.func12, Try.ntmps12
  go_wp2_with (first | ((with_reducible refine gate_callee (f := 79) rfl ?_); refine goesL_ (some 8) rfl rfl Try.func79 (by kernel_rfl) rfl #[.slice A0 l0.length c0, .slice A1 l1.length c1] rfl (by (try simp only [List.map_toArray, List.map_cons, List.map_nil]); first | done | rfl | (simp only [List.length_drop, List.length_take]; rfl)) ?_; (with_reducible refine (impl_areFitting.calls k _ _ l0 _ _ l1 false _ ?side1 ?side2 ?side3 ?side4 A3.out).mono ?_); (case side1 => repeat (first | exact HR0.out | (with_reducible refine Kd.C_alloc ?_ _) | (with_reducible refine Kd.C_drewN ?_ _) | (with_reducible refine Kd.C_drew ?_))); (case side2 => exact HC0.out); (case side3 => repeat (first | exact HR1.out | (with_reducible refine Kd.C_alloc ?_ _) | (with_reducible refine Kd.C_drewN ?_ _) | (with_reducible refine Kd.C_drew ?_))); (case side4 => exact HC1.out); rintro e w' ⟨rfl, ⟨nd, rfl⟩⟩; refine ⟨_, rfl, ?_⟩))
  go_ret2
  exact ⟨_, by first | rfl | (simp [errW_none, errW_some] <;> rfl) | (simp [*, errW_none, errW_some] <;> rfl), by first | exact Kd.S_nil _ _ _ _ _ | exact Kd.N_nil _ _ _ _ _ | exact Kd.V_nil _ _ _ _ _ | exact Kd.Q_nil _ _ _ _ _ | exact Kd.R_nil _ _ _ _ _, by repeat (first | (with_reducible first | exact HB.out | apply below_alloc | apply pw_below_drewN | apply below_drew1) | exact HB.out)⟩

/-! ### laws_pSame: function 28 -/
def laws_pSame.l0 : Nat → List Int → List Int → Int → Int → Option (Bool)
 | 0, _, _, _, _ => none
 | k + 1, x0, x1, x12, x13 => if x13 < x12 then (if 0 ≤ x13 then (if x13 < (x0.length : Int) then (if x13 < (x1.length : Int) then (if (rd x0 x13) = (rd x1 x13) then (laws_pSame.l0 k x0 x1 x12 (wrap64 (x13 + 1))) else (some false)) else (none)) else (none)) else (none)) else (some true)
def laws_pSame.f (k : Nat) (l0 : List Int) (l1 : List Int) : Option (Bool) := if (l0.length : Int) = (l1.length : Int) then (laws_pSame.l0 k l0 l1 (l0.length : Int) 0) else (some false)
theorem laws_pSame.mono_l : ∀ k, (∀ y0 y1 y2 y3, LeO (laws_pSame.l0 k y0 y1 y2 y3) (laws_pSame.l0 (k + 1) y0 y1 y2 y3))
 | 0 => fun _ _ _ _ r h => by simp [laws_pSame.l0] at h
 | k + 1 => by
  have ih0 := laws_pSame.mono_l k
  ·intro y0 y1 y2 y3
   unfold laws_pSame.l0
   repeat' first
   | (with_reducible exact ih0 _ _ _ _)
   | (with_reducible exact LeO.refl _)
   | (with_reducible exact LeO.none _)
   | (with_reducible refine LeO.ite ?_ ?_)
   | (with_reducible refine LeO.bind ?_ (fun _ => ?_))
   | exact ih0 _ _ _ _
   | exact LeO.none _
   | refine LeO.ite ?_ ?_
   | refine LeO.bind ?_ (fun _ => ?_)
theorem laws_pSame.mono : ∀ a0 a1 k, LeO (laws_pSame.f k a0 a1) (laws_pSame.f (k + 1) a0 a1) := by
 intro a0 a1 k
 have ih0 := laws_pSame.mono_l k
 unfold laws_pSame.f
 repeat' first
   | (with_reducible exact ih0 _ _ _ _)
   | (with_reducible exact LeO.refl _)
   | (with_reducible exact LeO.none _)
   | (with_reducible refine LeO.ite ?_ ?_)
   | (with_reducible refine LeO.bind ?_ (fun _ => ?_))
   | exact ih0 _ _ _ _
   | exact LeO.none _
   | refine LeO.ite ?_ ?_
   | refine LeO.bind ?_ (fun _ => ?_)
set_option maxHeartbeats 8000000 in
set_option maxRecDepth 100000 in
theorem laws_pSame.calls (k : Nat) (A0 : Option Addr) (c0 : Nat) (l0 : List Int) (A1 : Option Addr) (c1 : Nat) (l1 : List Int) (r : Bool) (w : World) (hr0 : Kd.C (Kd.int .i64) w A0 l0.length l0) (hc0 : l0.length ≤ c0) (hr1 : Kd.C (Kd.int .i64) w A1 l1.length l1) (hc1 : l1.length ≤ c1) (h : laws_pSame.f k l0 l1 = some r) :
  Calls Try.prog 28 #[.slice A0 l0.length c0, .slice A1 l1.length c1] w fun e w' => e = .returned (.bool r) ∧ Drawn0 w w' := by
 have HR0 := Aside0.mk hr0
 have HC0 := Aside0.mk hc0
 clear hr0 hc0
 have HR1 := Aside0.mk hr1
 have HC1 := Aside0.mk hc1
 clear hr1 hc1
 have H : (if (l0.length : Int) = (l1.length : Int) then (laws_pSame.l0 k l0 l1 (l0.length : Int) 0) else (some false)) = some r := h
 clear h
 by_cases c3 : (l0.length : Int) = (l1.length : Int)
 ·rw [if_pos c3] at H
  have c3b0 : ((l0.length : Int) == (l1.length : Int)) = true := beq_iff_eq.mpr c3
  have c3b1 : ((l0.length : Int) != (l1.length : Int)) = false := bne_eq_false_iff_eq.mpr c3
  have c3b2 : (l0.length == l1.length) = true := by first | simpa using c3 | (simp at c3 ⊢; omega)
  clear c3
  have H' := Aside0.mk H
  clear H
  go_enter Try.func28, Try.ntmps28
  go_wp2
  repeat (go_quiet (fail); try go_wp2)
  go_loopg [13] k (fun kq v13 w' => ∃ (x13_1 : Int), v13 = .int .i64 x13_1 ∧ Aside0 (laws_pSame.l0 kq l0 l1 (l0.length : Int) x13_1 = some r) ∧ Aside0 (kq ≤ k) ∧ Drawn0 w w')
  case atStart => exact ⟨(0), (by first | rfl | (simp; done) | (simp [*]; done)), H', ⟨Nat.le_refl _⟩, by repeat (first | exact Drawn0.refl _ | apply Drawn0.step)⟩
  case round =>
   clear H'
   try clear c1
   try clear c2
   try clear p2
   try clear c3
   try clear c3b0
   try clear c3b1
   try clear c3b2
   obtain ⟨x13_1, rfl, HA, HK1, ⟨m1, rfl⟩⟩ := hrel
   cases gk with
   | zero => exact absurd HA.out (by simp [laws_pSame.l0])
   | succ k1 =>
    have H := HA.out
    clear HA
    simp only [laws_pSame.l0] at H
    by_cases c4 : x13_1 < (l0.length : Int)
    ·rw [if_pos c4] at H
     have c4b0 : decide (x13_1 < (l0.length : Int)) = true := decide_eq_true c4
     clear c4
     by_cases c5 : 0 ≤ x13_1
     ·rw [if_pos c5] at H
      have c5b0 : decide (0 ≤ x13_1) = true := decide_eq_true c5
      clear c5
      by_cases c6 : x13_1 < (l0.length : Int)
      ·rw [if_pos c6] at H
       have c6b0 : decide (x13_1 < (l0.length : Int)) = true := decide_eq_true c6
       clear c6
       by_cases c7 : x13_1 < (l1.length : Int)
       ·rw [if_pos c7] at H
        have c7b0 : decide (x13_1 < (l1.length : Int)) = true := decide_eq_true c7
        clear c7
        by_cases c8 : (rd l0 x13_1) = (rd l1 x13_1)
        ·rw [if_pos c8] at H
         have c8b0 : ((rd l0 x13_1) == (rd l1 x13_1)) = true := beq_iff_eq.mpr c8
         have c8b1 : ((rd l0 x13_1) != (rd l1 x13_1)) = false := bne_eq_false_iff_eq.mpr c8
         clear c8
         have H' := Aside0.mk H
         clear H
         have p129 : 0 ≤ (x13_1 : Int) := of_decide_eq_true (by first | (with_reducible assumption) | assumption)
         have q129 : x13_1 < (l0.length : Int) := of_decide_eq_true (by first | (with_reducible assumption) | assumption)
         obtain ⟨ad129, e129, hx129_0⟩ := Kd.at_int HR0.out x13_1 p129 q129
         cases e129
         replace p129 := eq_true p129
         replace q129 := eq_true q129
         have p130 : 0 ≤ (x13_1 : Int) := of_decide_eq_true (by first | (with_reducible assumption) | assumption)
         have q130 : x13_1 < (l1.length : Int) := of_decide_eq_true (by first | (with_reducible assumption) | assumption)
         obtain ⟨ad130, e130, hx130_0⟩ := Kd.at_int HR1.out x13_1 p130 q130
         cases e130
         replace p130 := eq_true p130
         replace q130 := eq_true q130
         go_wp2
         repeat (go_quiet (fail); try go_wp2)
         go_roundg k1
         case measure => have := HK1.out; omega
         case rel => exact ⟨(wrap64 (x13_1 + 1)), (by first | rfl | (simp; done) | (simp [*]; done)), H', ⟨by have := HK1.out; omega⟩, by repeat (first | exact Drawn0.refl _ | apply Drawn0.step)⟩
        ·rw [if_neg c8] at H
         have c8b0 : ((rd l0 x13_1) == (rd l1 x13_1)) = false := beq_eq_false_iff_ne.mpr c8
         have c8b1 : ((rd l0 x13_1) != (rd l1 x13_1)) = true := bne_iff_ne.mpr c8
         obtain rfl := Option.some.inj H
         have p129 : 0 ≤ (x13_1 : Int) := of_decide_eq_true (by first | (with_reducible assumption) | assumption)
         have q129 : x13_1 < (l0.length : Int) := of_decide_eq_true (by first | (with_reducible assumption) | assumption)
         obtain ⟨ad129, e129, hx129_0⟩ := Kd.at_int HR0.out x13_1 p129 q129
         cases e129
         replace p129 := eq_true p129
         replace q129 := eq_true q129
         have p130 : 0 ≤ (x13_1 : Int) := of_decide_eq_true (by first | (with_reducible assumption) | assumption)
         have q130 : x13_1 < (l1.length : Int) := of_decide_eq_true (by first | (with_reducible assumption) | assumption)
         obtain ⟨ad130, e130, hx130_0⟩ := Kd.at_int HR1.out x13_1 p130 q130
         cases e130
         replace p130 := eq_true p130
         replace q130 := eq_true q130
         go_wp2
         repeat (go_quiet (fail); try go_wp2)
         go_ret
         exact ⟨by first | rfl | (simp; done) | (simp [*]; done), by repeat (first | exact Drawn0.refl _ | apply Drawn0.step)⟩
       ·rw [if_neg c7] at H
        exact absurd H (by simp)
      ·rw [if_neg c6] at H
       exact absurd H (by simp)
     ·rw [if_neg c5] at H
      exact absurd H (by simp)
    ·rw [if_neg c4] at H
     have c4b0 : decide (x13_1 < (l0.length : Int)) = false := decide_eq_false c4
     clear c4
     obtain rfl := Option.some.inj H
     go_wp2
     repeat (go_quiet (fail); try go_wp2)
     go_ret
     exact ⟨by first | rfl | (simp; done) | (simp [*]; done), by repeat (first | exact Drawn0.refl _ | apply Drawn0.step)⟩
 ·rw [if_neg c3] at H
  have c3b0 : ((l0.length : Int) == (l1.length : Int)) = false := beq_eq_false_iff_ne.mpr c3
  have c3b1 : ((l0.length : Int) != (l1.length : Int)) = true := bne_iff_ne.mpr c3
  have c3b2 : (l0.length == l1.length) = false := by first | simpa using c3 | (simp at c3 ⊢; omega)
  obtain rfl := Option.some.inj H
  go_enter Try.func28, Try.ntmps28
  go_wp2
  repeat (go_quiet (fail); try go_wp2)
  go_ret
  exact ⟨by first | rfl | (simp; done) | (simp [*]; done), by repeat (first | exact Drawn0.refl _ | apply Drawn0.step)⟩

/-! ### laws_pSameRows: function 16 -/
def laws_pSameRows.l0 : Nat → List (List Int) → List (List Int) → Int → Int → Option (Bool)
 | 0, _, _, _, _ => none
 | k + 1, x0, x1, x12, x13 => if x13 < x12 then (if 0 ≤ x13 then (if x13 < (x0.length : Int) then (if x13 < (x1.length : Int) then ((laws_pSame.f k (rd_L2 x0 x13) (rd_L2 x1 x13)).bind fun t133 => (if t133 = true then (laws_pSameRows.l0 k x0 x1 x12 (wrap64 (x13 + 1))) else (some false))) else (none)) else (none)) else (none)) else (some true)
def laws_pSameRows.f (k : Nat) (l0 : List (List Int)) (l1 : List (List Int)) : Option (Bool) := if (l0.length : Int) = (l1.length : Int) then (laws_pSameRows.l0 k l0 l1 (l0.length : Int) 0) else (some false)
theorem laws_pSameRows.mono_l : ∀ k, (∀ y0 y1 y2 y3, LeO (laws_pSameRows.l0 k y0 y1 y2 y3) (laws_pSameRows.l0 (k + 1) y0 y1 y2 y3))
 | 0 => fun _ _ _ _ r h => by simp [laws_pSameRows.l0] at h
 | k + 1 => by
  have ih0 := laws_pSameRows.mono_l k
  ·intro y0 y1 y2 y3
   unfold laws_pSameRows.l0
   repeat' first
   | (with_reducible exact ih0 _ _ _ _)
   | (with_reducible exact laws_pSame.mono _ _ _)
   | (with_reducible exact LeO.refl _)
   | (with_reducible exact LeO.none _)
   | (with_reducible refine LeO.ite ?_ ?_)
   | (with_reducible refine LeO.bind ?_ (fun _ => ?_))
   | exact ih0 _ _ _ _
   | exact laws_pSame.mono _ _ _
   | exact LeO.none _
   | refine LeO.ite ?_ ?_
   | refine LeO.bind ?_ (fun _ => ?_)
theorem laws_pSameRows.mono : ∀ a0 a1 k, LeO (laws_pSameRows.f k a0 a1) (laws_pSameRows.f (k + 1) a0 a1) := by
 intro a0 a1 k
 have ih0 := laws_pSameRows.mono_l k
 unfold laws_pSameRows.f
 repeat' first
   | (with_reducible exact ih0 _ _ _ _)
   | (with_reducible exact laws_pSame.mono _ _ _)
   | (with_reducible exact LeO.refl _)
   | (with_reducible exact LeO.none _)
   | (with_reducible refine LeO.ite ?_ ?_)
   | (with_reducible refine LeO.bind ?_ (fun _ => ?_))
   | exact ih0 _ _ _ _
   | exact laws_pSame.mono _ _ _
   | exact LeO.none _
   | refine LeO.ite ?_ ?_
   | refine LeO.bind ?_ (fun _ => ?_)
set_option maxHeartbeats 8000000 in
set_option maxRecDepth 100000 in
theorem laws_pSameRows.calls (k : Nat) (A0 : Option Addr) (c0 : Nat) (l0 : List (List Int)) (A1 : Option Addr) (c1 : Nat) (l1 : List (List Int)) (r : Bool) (w : World) (hr0 : Kd.C (Kd.slice 3 (Kd.int .i64)) w A0 l0.length l0) (hc0 : l0.length ≤ c0) (hr1 : Kd.C (Kd.slice 3 (Kd.int .i64)) w A1 l1.length l1) (hc1 : l1.length ≤ c1) (h : laws_pSameRows.f k l0 l1 = some r) :
  Calls Try.prog 16 #[.slice A0 l0.length c0, .slice A1 l1.length c1] w fun e w' => e = .returned (.bool r) ∧ Drawn0 w w' := by
 have HR0 := Aside0.mk hr0
 have HC0 := Aside0.mk hc0
 clear hr0 hc0
 have HR1 := Aside0.mk hr1
 have HC1 := Aside0.mk hc1
 clear hr1 hc1
 have H : (if (l0.length : Int) = (l1.length : Int) then (laws_pSameRows.l0 k l0 l1 (l0.length : Int) 0) else (some false)) = some r := h
 clear h
 by_cases c3 : (l0.length : Int) = (l1.length : Int)
 ·rw [if_pos c3] at H
  have c3b0 : ((l0.length : Int) == (l1.length : Int)) = true := beq_iff_eq.mpr c3
  have c3b1 : ((l0.length : Int) != (l1.length : Int)) = false := bne_eq_false_iff_eq.mpr c3
  have c3b2 : (l0.length == l1.length) = true := by first | simpa using c3 | (simp at c3 ⊢; omega)
  clear c3
  have H' := Aside0.mk H
  clear H
  go_enter Try.func16, Try.ntmps16
  go_wp2
  repeat (go_quiet (fail); try go_wp2)
  go_loopg [13] k (fun kq v13 w' => ∃ (x13_1 : Int), v13 = .int .i64 x13_1 ∧ Aside0 (laws_pSameRows.l0 kq l0 l1 (l0.length : Int) x13_1 = some r) ∧ Aside0 (kq ≤ k) ∧ Drawn0 w w')
  case atStart => exact ⟨(0), (by first | rfl | (simp; done) | (simp [*]; done)), H', ⟨Nat.le_refl _⟩, by repeat (first | exact Drawn0.refl _ | apply Drawn0.step)⟩
  case round =>
   clear H'
   try clear c1
   try clear p2
   try clear c3
   try clear c3b0
   try clear c3b1
   try clear c3b2
   obtain ⟨x13_1, rfl, HA, HK1, ⟨m1, rfl⟩⟩ := hrel
   cases gk with
   | zero => exact absurd HA.out (by simp [laws_pSameRows.l0])
   | succ k1 =>
    have H := HA.out
    clear HA
    simp only [laws_pSameRows.l0] at H
    by_cases c4 : x13_1 < (l0.length : Int)
    ·rw [if_pos c4] at H
     have c4b0 : decide (x13_1 < (l0.length : Int)) = true := decide_eq_true c4
     clear c4
     by_cases c5 : 0 ≤ x13_1
     ·rw [if_pos c5] at H
      have c5b0 : decide (0 ≤ x13_1) = true := decide_eq_true c5
      clear c5
      by_cases c6 : x13_1 < (l0.length : Int)
      ·rw [if_pos c6] at H
       have c6b0 : decide (x13_1 < (l0.length : Int)) = true := decide_eq_true c6
       clear c6
       by_cases c7 : x13_1 < (l1.length : Int)
       ·rw [if_pos c7] at H
        have c7b0 : decide (x13_1 < (l1.length : Int)) = true := decide_eq_true c7
        clear c7
        replace H := Option.bind_eq_some_iff.mp H
        obtain ⟨t133, A80, H⟩ := H
        replace H : (if t133 = true then (laws_pSameRows.l0 k1 l0 l1 (l0.length : Int) (wrap64 (x13_1 + 1))) else (some false)) = some r := H
        have A8 := Aside0.mk A80
        clear A80
        by_cases c9 : t133 = true
        ·subst c9
         have H1 : (laws_pSameRows.l0 k1 l0 l1 (l0.length : Int) (wrap64 (x13_1 + 1))) = some r := by rw [if_pos rfl] at H; exact H
         clear H
         have H := H1
         clear H1
         have H' := Aside0.mk H
         clear H
         have p131 : 0 ≤ (x13_1 : Int) := of_decide_eq_true (by first | (with_reducible assumption) | assumption)
         have q131 : x13_1 < (l0.length : Int) := of_decide_eq_true (by first | (with_reducible assumption) | assumption)
         obtain ⟨ad131, A131_0, c131_0, e131, hx131_0, hl131_0, hi131_0⟩ := at_L2 HR0.out x13_1 p131 q131
         cases e131
         have HR131_0 := Aside0.mk hi131_0
         have HC131_0 := Aside0.mk hl131_0
         clear hi131_0 hl131_0
         replace p131 := eq_true p131
         replace q131 := eq_true q131
         have p132 : 0 ≤ (x13_1 : Int) := of_decide_eq_true (by first | (with_reducible assumption) | assumption)
         have q132 : x13_1 < (l1.length : Int) := of_decide_eq_true (by first | (with_reducible assumption) | assumption)
         obtain ⟨ad132, A132_0, c132_0, e132, hx132_0, hl132_0, hi132_0⟩ := at_L2 HR1.out x13_1 p132 q132
         cases e132
         have HR132_0 := Aside0.mk hi132_0
         have HC132_0 := Aside0.mk hl132_0
         clear hi132_0 hl132_0
         replace p132 := eq_true p132
         replace q132 := eq_true q132
         go_wp2_with (first | (go_at_call 28; (with_reducible refine (laws_pSame.calls k1 _ _ (rd_L2 l0 x13_1) _ _ (rd_L2 l1 x13_1) true _ ?side1 ?side2 ?side3 ?side4 A8.out).mono ?_); (case side1 => repeat (first | exact HR131_0.out | (with_reducible refine Kd.C_alloc ?_ _) | (with_reducible refine Kd.C_drewN ?_ _) | (with_reducible refine Kd.C_drew ?_))); (case side2 => exact HC131_0.out); (case side3 => repeat (first | exact HR132_0.out | (with_reducible refine Kd.C_alloc ?_ _) | (with_reducible refine Kd.C_drewN ?_ _) | (with_reducible refine Kd.C_drew ?_))); (case side4 => exact HC132_0.out); rintro e w' ⟨rfl, ⟨nd, rfl⟩⟩; (try first | exact ⟨rfl, _, World.drewN_drewN _ _ _⟩ | exact ⟨rfl, _, Eq.trans (World.drewN_drewN _ _ _) (congrArg (World.drewN _) (Nat.add_assoc _ _ _))⟩)))
         repeat (go_quiet (first | (go_at_call 28; (with_reducible refine (laws_pSame.calls k1 _ _ (rd_L2 l0 x13_1) _ _ (rd_L2 l1 x13_1) true _ ?side1 ?side2 ?side3 ?side4 A8.out).mono ?_); (case side1 => repeat (first | exact HR131_0.out | (with_reducible refine Kd.C_alloc ?_ _) | (with_reducible refine Kd.C_drewN ?_ _) | (with_reducible refine Kd.C_drew ?_))); (case side2 => exact HC131_0.out); (case side3 => repeat (first | exact HR132_0.out | (with_reducible refine Kd.C_alloc ?_ _) | (with_reducible refine Kd.C_drewN ?_ _) | (with_reducible refine Kd.C_drew ?_))); (case side4 => exact HC132_0.out); rintro e w' ⟨rfl, ⟨nd, rfl⟩⟩; (try first | exact ⟨rfl, _, World.drewN_drewN _ _ _⟩ | exact ⟨rfl, _, Eq.trans (World.drewN_drewN _ _ _) (congrArg (World.drewN _) (Nat.add_assoc _ _ _))⟩))); try go_wp2_with (first | (go_at_call 28; (with_reducible refine (laws_pSame.calls k1 _ _ (rd_L2 l0 x13_1) _ _ (rd_L2 l1 x13_1) true _ ?side1 ?side2 ?side3 ?side4 A8.out).mono ?_); (case side1 => repeat (first | exact HR131_0.out | (with_reducible refine Kd.C_alloc ?_ _) | (with_reducible refine Kd.C_drewN ?_ _) | (with_reducible refine Kd.C_drew ?_))); (case side2 => exact HC131_0.out); (case side3 => repeat (first | exact HR132_0.out | (with_reducible refine Kd.C_alloc ?_ _) | (with_reducible refine Kd.C_drewN ?_ _) | (with_reducible refine Kd.C_drew ?_))); (case side4 => exact HC132_0.out); rintro e w' ⟨rfl, ⟨nd, rfl⟩⟩; (try first | exact ⟨rfl, _, World.drewN_drewN _ _ _⟩ | exact ⟨rfl, _, Eq.trans (World.drewN_drewN _ _ _) (congrArg (World.drewN _) (Nat.add_assoc _ _ _))⟩))))
         go_roundg k1
         case measure => have := HK1.out; omega
         case rel => exact ⟨(wrap64 (x13_1 + 1)), (by first | rfl | (simp; done) | (simp [*]; done)), H', ⟨by have := HK1.out; omega⟩, by repeat (first | exact Drawn0.refl _ | apply Drawn0.step)⟩
        ·replace c9 := Bool.eq_false_iff.mpr c9
         subst c9
         have H1 : (some false) = some r := by rw [if_neg (show ¬ (false = true) by decide)] at H; exact H
         clear H
         have H := H1
         clear H1
         obtain rfl := Option.some.inj H
         have p131 : 0 ≤ (x13_1 : Int) := of_decide_eq_true (by first | (with_reducible assumption) | assumption)
         have q131 : x13_1 < (l0.length : Int) := of_decide_eq_true (by first | (with_reducible assumption) | assumption)
         obtain ⟨ad131, A131_0, c131_0, e131, hx131_0, hl131_0, hi131_0⟩ := at_L2 HR0.out x13_1 p131 q131
         cases e131
         have HR131_0 := Aside0.mk hi131_0
         have HC131_0 := Aside0.mk hl131_0
         clear hi131_0 hl131_0
         replace p131 := eq_true p131
         replace q131 := eq_true q131
         have p132 : 0 ≤ (x13_1 : Int) := of_decide_eq_true (by first | (with_reducible assumption) | assumption)
         have q132 : x13_1 < (l1.length : Int) := of_decide_eq_true (by first | (with_reducible assumption) | assumption)
         obtain ⟨ad132, A132_0, c132_0, e132, hx132_0, hl132_0, hi132_0⟩ := at_L2 HR1.out x13_1 p132 q132
         cases e132
         have HR132_0 := Aside0.mk hi132_0
         have HC132_0 := Aside0.mk hl132_0
         clear hi132_0 hl132_0
         replace p132 := eq_true p132
         replace q132 := eq_true q132
         go_wp2_with (first | (go_at_call 28; (with_reducible refine (laws_pSame.calls k1 _ _ (rd_L2 l0 x13_1) _ _ (rd_L2 l1 x13_1) false _ ?side1 ?side2 ?side3 ?side4 A8.out).mono ?_); (case side1 => repeat (first | exact HR131_0.out | (with_reducible refine Kd.C_alloc ?_ _) | (with_reducible refine Kd.C_drewN ?_ _) | (with_reducible refine Kd.C_drew ?_))); (case side2 => exact HC131_0.out); (case side3 => repeat (first | exact HR132_0.out | (with_reducible refine Kd.C_alloc ?_ _) | (with_reducible refine Kd.C_drewN ?_ _) | (with_reducible refine Kd.C_drew ?_))); (case side4 => exact HC132_0.out); rintro e w' ⟨rfl, ⟨nd, rfl⟩⟩; (try first | exact ⟨rfl, _, World.drewN_drewN _ _ _⟩ | exact ⟨rfl, _, Eq.trans (World.drewN_drewN _ _ _) (congrArg (World.drewN _) (Nat.add_assoc _ _ _))⟩)))
         repeat (go_quiet (first | (go_at_call 28; (with_reducible refine (laws_pSame.calls k1 _ _ (rd_L2 l0 x13_1) _ _ (rd_L2 l1 x13_1) false _ ?side1 ?side2 ?side3 ?side4 A8.out).mono ?_); (case side1 => repeat (first | exact HR131_0.out | (with_reducible refine Kd.C_alloc ?_ _) | (with_reducible refine Kd.C_drewN ?_ _) | (with_reducible refine Kd.C_drew ?_))); (case side2 => exact HC131_0.out); (case side3 => repeat (first | exact HR132_0.out | (with_reducible refine Kd.C_alloc ?_ _) | (with_reducible refine Kd.C_drewN ?_ _) | (with_reducible refine Kd.C_drew ?_))); (case side4 => exact HC132_0.out); rintro e w' ⟨rfl, ⟨nd, rfl⟩⟩; (try first | exact ⟨rfl, _, World.drewN_drewN _ _ _⟩ | exact ⟨rfl, _, Eq.trans (World.drewN_drewN _ _ _) (congrArg (World.drewN _) (Nat.add_assoc _ _ _))⟩))); try go_wp2_with (first | (go_at_call 28; (with_reducible refine (laws_pSame.calls k1 _ _ (rd_L2 l0 x13_1) _ _ (rd_L2 l1 x13_1) false _ ?side1 ?side2 ?side3 ?side4 A8.out).mono ?_); (case side1 => repeat (first | exact HR131_0.out | (with_reducible refine Kd.C_alloc ?_ _) | (with_reducible refine Kd.C_drewN ?_ _) | (with_reducible refine Kd.C_drew ?_))); (case side2 => exact HC131_0.out); (case side3 => repeat (first | exact HR132_0.out | (with_reducible refine Kd.C_alloc ?_ _) | (with_reducible refine Kd.C_drewN ?_ _) | (with_reducible refine Kd.C_drew ?_))); (case side4 => exact HC132_0.out); rintro e w' ⟨rfl, ⟨nd, rfl⟩⟩; (try first | exact ⟨rfl, _, World.drewN_drewN _ _ _⟩ | exact ⟨rfl, _, Eq.trans (World.drewN_drewN _ _ _) (congrArg (World.drewN _) (Nat.add_assoc _ _ _))⟩))))
         go_ret
         exact ⟨by first | rfl | (simp; done) | (simp [*]; done), by repeat (first | exact Drawn0.refl _ | apply Drawn0.step)⟩
       ·rw [if_neg c7] at H
        exact absurd H (by simp)
      ·rw [if_neg c6] at H
       exact absurd H (by simp)
     ·rw [if_neg c5] at H
      exact absurd H (by simp)
    ·rw [if_neg c4] at H
     have c4b0 : decide (x13_1 < (l0.length : Int)) = false := decide_eq_false c4
     clear c4
     obtain rfl := Option.some.inj H
     go_wp2
     repeat (go_quiet (fail); try go_wp2)
     go_ret
     exact ⟨by first | rfl | (simp; done) | (simp [*]; done), by repeat (first | exact Drawn0.refl _ | apply Drawn0.step)⟩
 ·rw [if_neg c3] at H
  have c3b0 : ((l0.length : Int) == (l1.length : Int)) = false := beq_eq_false_iff_ne.mpr c3
  have c3b1 : ((l0.length : Int) != (l1.length : Int)) = true := bne_iff_ne.mpr c3
  have c3b2 : (l0.length == l1.length) = false := by first | simpa using c3 | (simp at c3 ⊢; omega)
  obtain rfl := Option.some.inj H
  go_enter Try.func16, Try.ntmps16
  go_wp2
  repeat (go_quiet (fail); try go_wp2)
  go_ret
  exact ⟨by first | rfl | (simp; done) | (simp [*]; done), by repeat (first | exact Drawn0.refl _ | apply Drawn0.step)⟩

/-! ### impl_isPlan: function 85 -/
def impl_isPlan.row (k : Nat) (n : Nat) (l : List Int) : Option Bool := if l.length = n then ((impl_allWithin.f k l 0 60).bind fun t => some (!t)) else some true
def impl_isPlan.l0 : Nat → List (List Int) → Int → Option (Int)
 | 0, _, _ => none
 | k + 1, m, i => if i < (m.length : Int) then (if 0 ≤ i then ((impl_isPlan.row k m.length (rd_L2 m i)).bind fun b => if b = true then some i else impl_isPlan.l0 k m (wrap64 (i + 1))) else none) else some (-1)
def impl_isPlan.f (k : Nat) (l0 : List (List Int)) : Option (Bool) := (impl_within.f (l0.length : Int) 1 8).bind fun t => if t = true then ((impl_isPlan.l0 k l0 0).bind fun j => some (!decide (j ≥ 0))) else some false
theorem impl_isPlan.row_mono (n : Nat) (l : List Int) (k : Nat) : LeO (impl_isPlan.row k n l) (impl_isPlan.row (k + 1) n l) := by
 unfold impl_isPlan.row
 exact LeO.ite (LeO.bind (impl_allWithin.mono _ _ _ _) (fun _ => LeO.refl _)) (LeO.refl _)
theorem impl_isPlan.l0_mono : ∀ k m i, LeO (impl_isPlan.l0 k m i) (impl_isPlan.l0 (k + 1) m i)
 | 0, _, _ => fun r h => by simp [impl_isPlan.l0] at h
 | k + 1, m, i => by
  unfold impl_isPlan.l0
  exact LeO.ite (LeO.ite (LeO.bind (impl_isPlan.row_mono _ _ _) (fun _ => LeO.ite (LeO.refl _) (impl_isPlan.l0_mono k _ _))) (LeO.none _)) (LeO.refl _)
theorem impl_isPlan.mono : ∀ a0 k, LeO (impl_isPlan.f k a0) (impl_isPlan.f (k + 1) a0) := by
 intro a0 k
 unfold impl_isPlan.f
 exact LeO.bind (LeO.refl _) (fun _ => LeO.ite (LeO.bind (impl_isPlan.l0_mono _ _ _) (fun _ => LeO.refl _)) (LeO.refl _))
set_option maxHeartbeats 8000000 in
set_option maxRecDepth 100000 in
theorem impl_isPlan.row_calls (k : Nat) (A0 : Option Addr) (c0 : Nat) (l : List Int) (B n cM : Nat) (AM : Option Addr) (b : Bool) (w : World) (hr0 : Kd.C (Kd.int .i64) w A0 l.length l) (hc0 : l.length ≤ c0)
  (hm : w.cell? ⟨B, 0, none⟩ = some (.slice AM n cM)) (h : impl_isPlan.row k n l = some b) :
  Calls Try.prog 163 #[.slice A0 l.length c0, .pointer (some ⟨B, 0, none⟩)] w fun e w' => e = .returned (.bool b) ∧ Drawn0 w w' := by
 have HR0 := Aside0.mk hr0
 have HC0 := Aside0.mk hc0
 clear hr0 hc0
 unfold impl_isPlan.row at h
 by_cases c : l.length = n
 ·rw [if_pos c] at h
  obtain ⟨t, A1, h⟩ := Option.bind_eq_some_iff.mp h
  obtain rfl := Option.some.inj h
  have A2 := Aside0.mk A1
  clear A1 h
  have cb0 : ((l.length : Int) == (n : Int)) = true := beq_iff_eq.mpr (by omega)
  have cb1 : ((l.length : Int) != (n : Int)) = false := bne_eq_false_iff_eq.mpr (by omega)
  have cb2 : (l.length == n) = true := beq_iff_eq.mpr c
  have cb3 : (l.length != n) = false := bne_eq_false_iff_eq.mpr c
  clear c
  go_enter Try.func163, Try.ntmps163
  go_wp2_with (go_at_call 117; (with_reducible refine (impl_allWithin.calls k _ _ l 0 60 t _ ?side1 ?side2 A2.out).mono ?_); (case side1 => repeat (first | exact HR0.out | (with_reducible refine Kd.C_drewN ?_ _) | (with_reducible refine Kd.C_drew ?_))); (case side2 => exact HC0.out); rintro e w' ⟨rfl, ⟨nd, rfl⟩⟩)
  go_ret
  exact ⟨by first | rfl | (simp; done) | (simp [*]; done), by repeat (first | exact Drawn0.refl _ | apply Drawn0.step)⟩
 ·rw [if_neg c] at h
  obtain rfl := Option.some.inj h
  have cb0 : ((l.length : Int) == (n : Int)) = false := beq_eq_false_iff_ne.mpr (by omega)
  have cb1 : ((l.length : Int) != (n : Int)) = true := bne_iff_ne.mpr (by omega)
  have cb2 : (l.length == n) = false := beq_eq_false_iff_ne.mpr c
  have cb3 : (l.length != n) = true := bne_iff_ne.mpr c
  clear c
  go_enter Try.func163, Try.ntmps163
  go_wp2
  go_ret
  exact ⟨by first | rfl | (simp; done) | (simp [*]; done), by repeat (first | exact Drawn0.refl _ | apply Drawn0.step)⟩
set_option maxHeartbeats 8000000 in
set_option maxRecDepth 100000 in
theorem impl_isPlan.index_calls (k : Nat) (A0 : Option Addr) (c0 : Nat) (m : List (List Int)) (B : Nat) (r : Int) (w : World) (hr0 : Kd.C (Kd.slice 3 (Kd.int .i64)) w A0 m.length m) (hc0 : m.length ≤ c0)
  (hm : w.cell? ⟨B, 0, none⟩ = some (.slice A0 m.length c0)) (h : impl_isPlan.l0 k m 0 = some r) :
  Calls Try.prog 186 #[.slice A0 m.length c0, .func (.func 163) #[] #[.pointer (some ⟨B, 0, none⟩)]] w fun e w' => e = .returned (.int .i64 r) ∧ Drawn0 w w' := by
 have HR0 := Aside0.mk hr0
 have HC0 := Aside0.mk hc0
 have HM := Aside0.mk hm
 have H' := Aside0.mk h
 clear hr0 hc0 hm h
 go_enter Try.func186, Try.ntmps186
 go_wp2
 go_loopg [8] k (fun kq v8 w' => ∃ (x8_1 : Int), v8 = .int .i64 x8_1 ∧ Aside0 (impl_isPlan.l0 kq m x8_1 = some r) ∧ Aside0 (kq ≤ k) ∧ Drawn0 w w')
 case atStart => exact ⟨(0), (by first | rfl | (simp; done) | (simp [*]; done)), H', ⟨Nat.le_refl _⟩, by repeat (first | exact Drawn0.refl _ | apply Drawn0.step)⟩
 case round =>
  clear H'
  obtain ⟨x8_1, rfl, HA, HK1, ⟨m1, rfl⟩⟩ := hrel
  cases gk with
  | zero => exact absurd HA.out (by simp [impl_isPlan.l0])
  | succ k1 =>
   have H := HA.out
   clear HA
   simp only [impl_isPlan.l0] at H
   by_cases c4 : x8_1 < (m.length : Int)
   ·rw [if_pos c4] at H
    by_cases c5 : 0 ≤ x8_1
    ·rw [if_pos c5] at H
     obtain ⟨b, A70, H⟩ := Option.bind_eq_some_iff.mp H
     have A7 := Aside0.mk A70
     clear A70
     have c4b0 : decide (x8_1 < (m.length : Int)) = true := decide_eq_true c4
     have p101 := c5
     have q101 := c4
     clear c4 c5
     obtain ⟨ad106, A106_0, c106_0, e106, hx106_0, hl106_0, hi106_0⟩ := at_L2 HR0.out x8_1 p101 q101
     cases e106
     have HR106_0 := Aside0.mk hi106_0
     have HC106_0 := Aside0.mk hl106_0
     clear hi106_0 hl106_0
     replace p101 := eq_true p101
     replace q101 := eq_true q101
     cases b with
     | true =>
      simp only [if_true] at H
      obtain rfl := Option.some.inj H
      clear H
      go_wp2_with ((with_reducible refine (impl_isPlan.row_calls k1 _ _ (rd_L2 m x8_1) B m.length c0 (some ad106) true _ ?side1 ?side2 ?side3 A7.out).mono ?_); (case side1 => repeat (first | exact HR106_0.out | (with_reducible refine Kd.C_drewN ?_ _) | (with_reducible refine Kd.C_drew ?_))); (case side2 => exact HC106_0.out); (case side3 => exact HM.out); rintro e w' ⟨rfl, ⟨nd, rfl⟩⟩)
      go_ret
      exact ⟨by first | rfl | (simp; done) | (simp [*]; done), by repeat (first | exact Drawn0.refl _ | apply Drawn0.step)⟩
     | false =>
      simp only [Bool.false_eq_true, if_false] at H
      have H' := Aside0.mk H
      clear H
      go_wp2_with ((with_reducible refine (impl_isPlan.row_calls k1 _ _ (rd_L2 m x8_1) B m.length c0 (some ad106) false _ ?side1 ?side2 ?side3 A7.out).mono ?_); (case side1 => repeat (first | exact HR106_0.out | (with_reducible refine Kd.C_drewN ?_ _) | (with_reducible refine Kd.C_drew ?_))); (case side2 => exact HC106_0.out); (case side3 => exact HM.out); rintro e w' ⟨rfl, ⟨nd, rfl⟩⟩)
      go_roundg k1
      case measure => have := HK1.out; omega
      case rel => exact ⟨(wrap64 (x8_1 + 1)), (by first | rfl | (simp; done) | (simp [*]; done)), H', ⟨by have := HK1.out; omega⟩, by repeat (first | exact Drawn0.refl _ | apply Drawn0.step)⟩
    ·rw [if_neg c5] at H
     exact absurd H (by simp)
   ·rw [if_neg c4] at H
    have c4b0 : decide (x8_1 < (m.length : Int)) = false := decide_eq_false c4
    clear c4
    obtain rfl := Option.some.inj H
    go_wp2
    go_ret
    exact ⟨by first | rfl | (simp; done) | (simp [*]; done), by repeat (first | exact Drawn0.refl _ | apply Drawn0.step)⟩
set_option maxHeartbeats 8000000 in
set_option maxRecDepth 100000 in
theorem impl_isPlan.contains_calls (k : Nat) (A0 : Option Addr) (c0 : Nat) (m : List (List Int)) (B : Nat) (r : Int) (w : World) (hr0 : Kd.C (Kd.slice 3 (Kd.int .i64)) w A0 m.length m) (hc0 : m.length ≤ c0)
  (hm : w.cell? ⟨B, 0, none⟩ = some (.slice A0 m.length c0)) (h : impl_isPlan.l0 k m 0 = some r) :
  Calls Try.prog 162 #[.slice A0 m.length c0, .func (.func 163) #[] #[.pointer (some ⟨B, 0, none⟩)]] w fun e w' => e = .returned (.bool (decide (r ≥ 0))) ∧ Drawn0 w w' := by
 have HI := Aside0.mk (impl_isPlan.index_calls k A0 c0 m B r w hr0 hc0 hm h)
 clear hr0 hc0 hm h
 go_enter Try.func162, Try.ntmps162
 go_wp2_with (go_at_call 186; (with_reducible refine HI.out.mono ?_); rintro e w' ⟨rfl, ⟨nd, rfl⟩⟩)
 go_ret
 exact ⟨by first | rfl | (simp; done) | (simp [*]; done), by repeat (first | exact Drawn0.refl _ | apply Drawn0.step)⟩
set_option maxHeartbeats 8000000 in
set_option maxRecDepth 100000 in
theorem impl_isPlan.calls (k : Nat) (A0 : Option Addr) (c0 : Nat) (l0 : List (List Int)) (r : Bool) (w : World) (hr0 : Kd.C (Kd.slice 3 (Kd.int .i64)) w A0 l0.length l0) (hc0 : l0.length ≤ c0) (h : impl_isPlan.f k l0 = some r) :
  Calls Try.prog 85 #[.slice A0 l0.length c0] w fun e w' => e = .returned (.bool r) ∧ Below w.heap.size w w' := by
 have HR0 := Aside0.mk hr0
 have HC0 := Aside0.mk hc0
 clear hr0 hc0
 unfold impl_isPlan.f at h
 obtain ⟨t, A1, h⟩ := Option.bind_eq_some_iff.mp h
 have A2 := Aside0.mk A1
 clear A1
 cases t with
 | true =>
  simp only [if_true] at h
  obtain ⟨j, A3, h⟩ := Option.bind_eq_some_iff.mp h
  obtain rfl := Option.some.inj h
  have A4 := Aside0.mk A3
  clear A3 h
  have HC := fun (W : World) (hW : Kd.C (Kd.slice 3 (Kd.int .i64)) W A0 l0.length l0) (hm : W.cell? ⟨w.heap.size, 0, none⟩ = some (.slice A0 l0.length c0)) => impl_isPlan.contains_calls k A0 c0 l0 w.heap.size j W hW HC0.out hm A4.out
  have HC' := Aside0.mk HC
  clear HC
  go_enter Try.func85, Try.ntmps85
  go_wp2_with (first | (go_at_call 116; (with_reducible refine (impl_within.calls (l0.length : Int) 1 8 true _ A2.out).mono ?_); rintro e w' ⟨rfl, ⟨nd, rfl⟩⟩) | (go_at_call 162; (with_reducible refine (HC'.out _ ?side1 ?side2).mono ?_); (case side1 => repeat (first | exact HR0.out | (with_reducible refine Kd.C_alloc ?_ _) | (with_reducible refine Kd.C_drewN ?_ _) | (with_reducible refine Kd.C_drew ?_))); (case side2 => go_simp); rintro e w' ⟨rfl, ⟨nd, rfl⟩⟩))
  go_ret
  exact ⟨by first | rfl | (simp; done) | (simp [*]; done), by repeat (first | exact Below.refl _ _ | (with_reducible first | apply below_alloc | apply pw_below_drewN | apply below_drew1))⟩
 | false =>
  simp only [Bool.false_eq_true, if_false] at h
  obtain rfl := Option.some.inj h
  clear h
  go_enter Try.func85, Try.ntmps85
  go_wp2_with (go_at_call 116; (with_reducible refine (impl_within.calls (l0.length : Int) 1 8 false _ A2.out).mono ?_); rintro e w' ⟨rfl, ⟨nd, rfl⟩⟩)
  go_ret
  exact ⟨by first | rfl | (simp; done) | (simp [*]; done), by repeat (first | exact Below.refl _ _ | (with_reducible first | apply below_alloc | apply pw_below_drewN | apply below_drew1))⟩

end Go.Proofs.Ytojklddddedoeaa.PFnUncrossing
-- SLIM
