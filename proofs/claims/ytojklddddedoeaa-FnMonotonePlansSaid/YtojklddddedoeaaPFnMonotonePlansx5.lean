/- For each Go function that the law uses, a Lean function with the same answers and a proof that its call comes to them; the conditions stand in each theorem. (Written by a program of this session, turned from the print of the kit.) -/
import Derived.Test.YtojklddddedoeaaPFnMonotonePlansx0
import Derived.Test.YtojklddddedoeaaPFnMonotonePlansx1
import Derived.Test.YtojklddddedoeaaPFnMonotonePlansx3
import Derived.Test.YtojklddddedoeaaPFnMonotonePlansx4
namespace Go.Proofs.Ytojklddddedoeaa.PFnMonotonePlans
open Go.RowKit Go.Proofs.YtojklddddedoeaaW.PrintWords Go.Proofs.YtojklddddedoeaaW.PrintLast Go.Proofs.YtojklddddedoeaaW.PrintMore
attribute [local go_sem] max2_int min2_int max_two min_two max_three min_three max_four min_four   -- for this text's walks alone
set_option linter.unusedVariables false
set_option linter.unusedSimpArgs false

/-! ### spec_plMonotone: function 82 -/
/-- The rounds of carrying. -/
def spec_plMonotone.l0 (n1 n2 : Int) : Nat → List (List Int) → List Int → List Int → Int → Int → Option (List (List Int))
 | 0, _, _, _, _, _ => none
 | k + 1, m, a, b, i, j => if i < n1 then (if j < n2 then (if 0 ≤ i then (if i < (a.length : Int) then (if 0 ≤ j then (if j < (b.length : Int) then ((spec_l1Least.f (rd a i) (rd b j)).bind fun x => (if i < (m.length : Int) then (if j < ((rd_L2 m i).length : Int) then (if rd (a.set i.toNat (wrap64 (rd a i - x))) i = 0 then spec_plMonotone.l0 n1 n2 k (m.set i.toNat ((rd_L2 m i).set j.toNat (wrap64 (rd (rd_L2 m i) j + x)))) (a.set i.toNat (wrap64 (rd a i - x))) (b.set j.toNat (wrap64 (rd b j - x))) (wrap64 (i + 1)) j else spec_plMonotone.l0 n1 n2 k (m.set i.toNat ((rd_L2 m i).set j.toNat (wrap64 (rd (rd_L2 m i) j + x)))) (a.set i.toNat (wrap64 (rd a i - x))) (b.set j.toNat (wrap64 (rd b j - x))) i (wrap64 (j + 1))) else none) else none)) else none) else none) else none) else none) else some m) else some m
def spec_plMonotone.f (k : Nat) (l0 l1 : List Int) : Option (List (List Int)) := (spec_plEmpty.f k (l0.length : Int)).bind fun m => (spec_l1Own.f l0).bind fun a => (spec_l1Own.f l1).bind fun b => if 0 < m.length then spec_plMonotone.l0 (l0.length : Int) (l1.length : Int) k m a b 0 0 else none
theorem spec_plMonotone.l0_mono (n1 n2 : Int) : ∀ k m a b i j, LeO (spec_plMonotone.l0 n1 n2 k m a b i j) (spec_plMonotone.l0 n1 n2 (k + 1) m a b i j)
 | 0, _, _, _, _, _ => fun r h => by simp [spec_plMonotone.l0] at h
 | k + 1, m, a, b, i, j => by
  rw [spec_plMonotone.l0, spec_plMonotone.l0]
  exact LeO.ite (LeO.ite (LeO.ite (LeO.ite (LeO.ite (LeO.ite (LeO.bind (LeO.refl _) (fun _ => LeO.ite (LeO.ite (LeO.ite (spec_plMonotone.l0_mono n1 n2 k _ _ _ _ _) (spec_plMonotone.l0_mono n1 n2 k _ _ _ _ _)) (LeO.none _)) (LeO.none _))) (LeO.none _)) (LeO.none _)) (LeO.none _)) (LeO.none _)) (LeO.refl _)) (LeO.refl _)
theorem spec_plMonotone.mono : ∀ a0 a1 k, LeO (spec_plMonotone.f k a0 a1) (spec_plMonotone.f (k + 1) a0 a1) := by
 intro a0 a1 k
 unfold spec_plMonotone.f
 exact LeO.bind (spec_plEmpty.mono _ _) (fun _ => LeO.bind (LeO.refl _) (fun _ => LeO.bind (LeO.refl _) (fun _ => LeO.ite (spec_plMonotone.l0_mono _ _ k _ _ _ _ _) (LeO.none _))))

/-- One row of rows that are apart has been written. -/
theorem spec_plMonotone.row_step {w w1 : World} {base : Nat} {P0_ : Nat → Prop} {g n cap : Nat} {m : List (List Int)} {r : List Int} {i : Int} {oki : Nat → Prop} {c : List Value} {u : Value} {q : Nat}
  (hu : c = [u]) (hoki : ∀ k, oki k → P0_ k ∧ k ≠ g) (hH : Kd.H (Kd.slice 3 (Kd.int .i64)) 24 w base P0_ (.slice (some ⟨g, 0, none⟩) n cap) m i oki c)
  (hq : u.ownBlock = some q) (hqo : oki q) {ok1 : Nat → Prop} (hr : Kd.R (Kd.int .i64) 3 w1 base ok1 u r) (hk : w.grownBy w1 (some q)) :
  Kd.S (Kd.slice 3 (Kd.int .i64)) 24 w1 base P0_ (.slice (some ⟨g, 0, none⟩) n cap) (m.set i.toNat r) := by
 have h1 := Kd.H_step (w1 := w1) hH (fun k _ hn hlt => hk.block k hlt (fun he => hn (by cases he; exact hqo)))
 refine Kd.H_back (okp := fun k => some k = u.ownBlock) h1 ?_ (fun k hk => by rw [hq] at hk; cases hk; exact hqo)
 rw [hu]
 exact Kd.M_row (Kd.R_tight rfl hr)

theorem spec_plMonotone.block_lt {w : World} {A : Option Addr} {n cap base : Nat} {ok : Nat → Prop} {l : List Int} (h : Kd.R (Kd.int .i64) 3 w base ok (.slice A n cap) l) (hp : 0 < l.length) : ∃ g, A = some ⟨g, 0, none⟩ ∧ base ≤ g ∧ ok g := by
 obtain ⟨g, c, e, hb, _⟩ := Kd.R_form h hp
 injection e with e1 e2 e3
 exact ⟨g, e1, hb, h.1 _ (by rw [e1]; rfl)⟩

set_option maxHeartbeats 8000000 in
set_option maxRecDepth 100000 in
theorem spec_plMonotone.calls (k : Nat) (A0 : Option Addr) (c0 : Nat) (l0 : List Int) (A1 : Option Addr) (c1 : Nat) (l1 : List Int) (r : List (List Int)) (w : World) (hr0 : Kd.C (Kd.int .i64) w A0 l0.length l0) (hc0 : l0.length ≤ c0) (hr1 : Kd.C (Kd.int .i64) w A1 l1.length l1) (hc1 : l1.length ≤ c1) (h : spec_plMonotone.f k l0 l1 = some r) :
  Calls Try.prog 82 #[.slice A0 l0.length c0, .slice A1 l1.length c1] w fun e w' => ∃ v0_ : Value, e = .returned (v0_) ∧ Kd.S (Kd.slice 3 (Kd.int .i64)) 24 w' w.heap.size (fun _ => True) v0_ r ∧ Below w.heap.size w w' := by
 unfold spec_plMonotone.f at h
 replace h := Option.bind_eq_some_iff.mp h
 obtain ⟨m, hm, h⟩ := h
 replace h := Option.bind_eq_some_iff.mp h
 obtain ⟨a, ha, h⟩ := h
 replace h := Option.bind_eq_some_iff.mp h
 obtain ⟨b, hb, h⟩ := h
 by_cases hl : ¬ 0 < m.length
 ·rw [if_neg hl] at h
  exact absurd h (by simp)
 replace hl := Decidable.not_not.mp hl
 rw [if_pos hl] at h
 have HM := Aside0.mk hm
 have HL := Aside0.mk hl
 have HA := Aside0.mk ha
 have HB := Aside0.mk hb
 have HH := Aside0.mk h
 have HR0 := Aside0.mk hr0
 have HC0 := Aside0.mk hc0
 have HR1 := Aside0.mk hr1
 have HC1 := Aside0.mk hc1
 clear hm hl ha hb h hr0 hc0 hr1 hc1
 go_enter Try.func82, Try.ntmps82
 go_wp2_with (first
  | (go_at_call 105; (with_reducible refine (spec_plEmpty.calls k (l0.length : Int) m _ HM.out).mono ?_); rintro e w1 ⟨vm, rfl, hS, hb0⟩; obtain ⟨g, cap, ev, _⟩ := Kd.S_form hS HL.out; subst ev; have HS1 := Aside0.mk hS; have HB0 := Aside0.mk hb0; clear hS hb0)
  | (go_at_call 102; (with_reducible refine (spec_l1Own.calls A0 c0 l0 a _ ?side1 ?side2 HA.out).mono ?_); (case side1 => repeat (first | exact (Kd.C_below HR0.out HB0.out) | (with_reducible refine Kd.C_alloc ?_ _) | (with_reducible refine Kd.C_drewN ?_ _) | (with_reducible refine Kd.C_drew ?_))); (case side2 => exact HC0.out); rintro e w2 ⟨va, rfl, hA, hb1⟩; have HVA := Aside0.mk hA; have HB1 := Aside0.mk hb1; clear hA hb1)
  | (go_at_call 102; (with_reducible refine (spec_l1Own.calls A1 c1 l1 b _ ?side3 ?side4 HB.out).mono ?_); (case side3 => exact Kd.C_below (Kd.C_below HR1.out HB0.out) HB1.out); (case side4 => exact HC1.out); rintro e w3 ⟨vb, rfl, hB, hb2⟩; have HVB := Aside0.mk hB; have HB2 := Aside0.mk hb2; clear hB hb2))
 obtain ⟨NA, hNA⟩ : ∃ q_, q_ = w1.heap.size := ⟨_, rfl⟩
 obtain ⟨NB, hNB⟩ : ∃ q_, q_ = w2.heap.size := ⟨_, rfl⟩
 obtain ⟨NC, hNC⟩ : ∃ q_, q_ = w3.heap.size := ⟨_, rfl⟩
 have LA : w.heap.size ≤ NA := by have := HB0.out.size; omega
 have LB : NA ≤ NB := by have := HB1.out.size; omega
 have LC : NB ≤ NC := by have := HB2.out.size; omega
 have HO2 := Aside0.mk (show Kd.S (Kd.slice 3 (Kd.int .i64)) 24 w3 w.heap.size (fun k => w.heap.size ≤ k ∧ k < NA) (.slice (some ⟨g, 0, none⟩) m.length cap) m from Kd.S_below (Kd.S_below (Kd.S_mono (Kd.S_bound HS1.out) (fun k hk => ⟨hk.2.1, by have := hk.2.2.1; omega⟩)) HB1.out) HB2.out)
 have HVA2 := Aside0.mk (show Kd.R (Kd.int .i64) 3 w3 w.heap.size (fun k => NA ≤ k ∧ k < NB) va a from Kd.R_lower (Kd.R_below (Kd.R_mono (Kd.R_bound HVA.out) (fun k hk => ⟨by have := hk.2.1; omega, by have := hk.2.2.1; omega⟩)) HB2.out) HB0.out.size)
 have HVB2 := Aside0.mk (show Kd.R (Kd.int .i64) 3 w3 w.heap.size (fun k => NB ≤ k ∧ k < NC) vb b from Kd.R_lower (Kd.R_mono (Kd.R_bound HVB.out) (fun k hk => ⟨by have := hk.2.1; omega, by have := hk.2.2.1; omega⟩)) (Nat.le_trans HB0.out.size HB1.out.size))
 have HW0 := Aside0.mk ((HB0.out.trans (HB1.out.mono HB0.out.size)).trans (HB2.out.mono (Nat.le_trans HB0.out.size HB1.out.size)))
 clear HVA HVB HB0 HB1 HB2 hNA hNB hNC HS1 HR0 HC0 HR1 HC1
 obtain ⟨Aa, ca, ea⟩ := Kd.R_slice HVA2.out
 subst ea
 obtain ⟨Ab, cb, eb⟩ := Kd.R_slice HVB2.out
 subst eb
 go_loopg [8, 9] k (fun kq v6 v7 wr => ∃ (m' : List (List Int)) (a' b' : List Int) (i j : Int), v6 = .int .i64 i ∧ v7 = .int .i64 j ∧ Aside0 (a'.length = a.length) ∧ Aside0 (b'.length = b.length) ∧ Aside0 (spec_plMonotone.l0 (l0.length : Int) (l1.length : Int) kq m' a' b' i j = some r) ∧ Aside0 (kq ≤ k) ∧ Aside0 (Kd.S (Kd.slice 3 (Kd.int .i64)) 24 wr w.heap.size (fun k => w.heap.size ≤ k ∧ k < NA) (.slice (some ⟨g, 0, none⟩) m.length cap) m') ∧ Aside0 (Kd.R (Kd.int .i64) 3 wr w.heap.size (fun k => NA ≤ k ∧ k < NB) (.slice Aa a.length ca) a') ∧ Aside0 (Kd.R (Kd.int .i64) 3 wr w.heap.size (fun k => NB ≤ k ∧ k < NC) (.slice Ab b.length cb) b') ∧ Aside0 (Below w.heap.size w wr))
 case atStart => exact ⟨m, a, b, 0, 0, rfl, rfl, ⟨rfl⟩, ⟨rfl⟩, HH, ⟨Nat.le_refl _⟩, HO2, HVA2, HVB2, HW0⟩
 case round =>
  clear HH HO2 HVA2 HVB2 HW0
  obtain ⟨m', a', b', i, j, rfl, rfl, HLA, HLB, HQ, HKQ, HO, HVA, HVB, HW⟩ := hrel
  cases gk with
  | zero => exact absurd HQ.out (by simp [spec_plMonotone.l0])
  | succ k1 =>
   have H := HQ.out
   clear HQ
   simp only [spec_plMonotone.l0] at H
   rw [HLA.out, HLB.out] at H
   by_cases di : i < (l0.length : Int)
   ·rw [if_pos di] at H
    by_cases dj : j < (l1.length : Int)
    ·rw [if_pos dj] at H
     by_cases ci0 : ¬ 0 ≤ i
     ·rw [if_neg ci0] at H
      exact absurd H (by simp)
     replace ci0 := Decidable.not_not.mp ci0
     rw [if_pos ci0] at H
     by_cases ci : ¬ i < (a.length : Int)
     ·rw [if_neg ci] at H
      exact absurd H (by simp)
     replace ci := Decidable.not_not.mp ci
     rw [if_pos ci] at H
     by_cases cj0 : ¬ 0 ≤ j
     ·rw [if_neg cj0] at H
      exact absurd H (by simp)
     replace cj0 := Decidable.not_not.mp cj0
     rw [if_pos cj0] at H
     by_cases cj : ¬ j < (b.length : Int)
     ·rw [if_neg cj] at H
      exact absurd H (by simp)
     replace cj := Decidable.not_not.mp cj
     rw [if_pos cj] at H
     replace H := Option.bind_eq_some_iff.mp H
     obtain ⟨x, hx, H⟩ := H
     have HX := Aside0.mk hx
     clear hx
     by_cases cm : ¬ i < (m'.length : Int)
     ·rw [if_neg cm] at H
      exact absurd H (by simp)
     replace cm := Decidable.not_not.mp cm
     rw [if_pos cm] at H
     by_cases cr : ¬ j < ((rd_L2 m' i).length : Int)
     ·rw [if_neg cr] at H
      exact absurd H (by simp)
     replace cr := Decidable.not_not.mp cr
     rw [if_pos cr] at H
     have HM2 := Aside0.mk cm
     have HRW := Aside0.mk cr
     have HI := Aside0.mk ci
     have HJ := Aside0.mk cj
     have HI0 := Aside0.mk ci0
     have HJ0 := Aside0.mk cj0
     obtain ⟨ga, eA, hbA, hoA⟩ := spec_plMonotone.block_lt HVA.out (by have := HLA.out; omega)
     obtain ⟨gb, eB, hbB, hoB⟩ := spec_plMonotone.block_lt HVB.out (by have := HLB.out; omega)
     subst eA
     subst eB
     obtain ⟨hxa, hfa⟩ := Kd.R_celln 0 HVA.out i ci0 ci
     obtain ⟨hxb, hfb⟩ := Kd.R_celln 0 HVB.out j cj0 cj
     replace hxa : wr.cell? ⟨ga, i.toNat, none⟩ = some (.int .i64 (rd a' i)) := hxa
     replace hxb : wr.cell? ⟨gb, j.toNat, none⟩ = some (.int .i64 (rd b' j)) := hxb
     have HGA := Aside0.mk (show NA ≤ ga ∧ ga < NB from hoA)
     have HGB := Aside0.mk (show NB ≤ gb ∧ gb < NC from hoB)
     clear hbA hoA hbB hoB
     obtain ⟨y, hy⟩ : ∃ q_, q_ = a'.set i.toNat (wrap64 (rd a' i - x)) := ⟨_, rfl⟩
     rw [← hy] at H
     obtain ⟨z, hz⟩ : ∃ q_, q_ = b'.set j.toNat (wrap64 (rd b' j - x)) := ⟨_, rfl⟩
     rw [← hz] at H
     obtain ⟨m2, hm2⟩ : ∃ q_, q_ = m'.set i.toNat ((rd_L2 m' i).set j.toNat (wrap64 (rd (rd_L2 m' i) j + x))) := ⟨_, rfl⟩
     rw [← hm2] at H
     have Ny := Aside0.mk hy
     have Nz := Aside0.mk hz
     have Nm2 := Aside0.mk hm2
     clear hy hz hm2 cm cr
     replace di := eq_true di
     replace dj := eq_true dj
     replace ci := eq_true ci
     replace cj := eq_true cj
     replace ci0 := eq_true ci0
     replace cj0 := eq_true cj0
     by_cases cz : rd y i = 0
     ·rw [if_pos cz] at H
      have H' := Aside0.mk H
      clear H
      have cz0 : (rd y i == 0) = true := beq_iff_eq.mpr cz
      clear cz
      go_upto_region 5 with (fail)
      (try simp only [Act.put, List.setIfInBounds_toArray, List.set_cons_zero, List.set_cons_succ])
      go_cut [10] (fun v10 wc => v10 = .int .i64 x ∧ ∃ nq, wc = wr.drewN nq)
      case first =>
       go_quiet ((go_at_call 98; (with_reducible refine (spec_l1Least.calls (rd a' i) (rd b' j) x _ HX.out).mono ?_); rintro e w' ⟨rfl, ⟨nd, rfl⟩⟩; (try first | exact ⟨rfl, _, World.drewN_drewN _ _ _⟩ | exact ⟨rfl, _, Eq.trans (World.drewN_drewN _ _ _) (congrArg (World.drewN _) (Nat.add_assoc _ _ _))⟩)))
       go_wp2
       go_meet
       case rel => exact ⟨rfl, _, rfl⟩
      case rest =>
       obtain ⟨rfl, nq, hwc⟩ := hcut
       have n0_ := Aside0.mk (show Kd.S (Kd.slice 3 (Kd.int .i64)) 24 wc w.heap.size (fun k => w.heap.size ≤ k ∧ k < NA) (.slice (some ⟨g, 0, none⟩) m.length cap) m' from by rw [hwc]; exact Kd.S_drewN HO.out nq)
       have n1_ := Aside0.mk (show Kd.R (Kd.int .i64) 3 wc w.heap.size (fun k => NA ≤ k ∧ k < NB) (.slice (some ⟨ga, 0, none⟩) a.length ca) a' from by rw [hwc]; exact Kd.R_drewN HVA.out nq)
       have n2_ := Aside0.mk (show Kd.R (Kd.int .i64) 3 wc w.heap.size (fun k => NB ≤ k ∧ k < NC) (.slice (some ⟨gb, 0, none⟩) b.length cb) b' from by rw [hwc]; exact Kd.R_drewN HVB.out nq)
       have n3_ := Aside0.mk (show Below w.heap.size w wc from by rw [hwc]; exact pw_below_drewN HW.out nq)
       clear hwc HO HVA HVB HW
       have HO := n0_
       have HVA := n1_
       have HVB := n2_
       have HW := n3_
       clear n0_ n1_ n2_ n3_ hxa hxb hfa hfb
       obtain ⟨oki, c, hcl, hM, hcell, hoki, hH⟩ := Kd.S_lend HO.out [] i HI0.out (by have := HM2.out; have := (Kd.S_reads' HO.out).1; omega)
       obtain ⟨u, hu, hR⟩ := hM
       replace hR : Kd.R (Kd.int .i64) 3 wc w.heap.size oki u (rd_L2 m' i) := hR
       obtain ⟨gr, cr, er, hbr, hlr, _⟩ := Kd.R_form hR (by have := HRW.out; have := HJ0.out; omega)
       subst er
       subst hu
       have hcell0 := hcell 0 _ rfl
       rw [show i.toNat * (Kd.slice 3 (Kd.int .i64)).sz + 0 = i.toNat from by show i.toNat * 1 + 0 = _; omega] at hcell0
       obtain ⟨hx0, hf0⟩ := Kd.R_celln 0 hR j HJ0.out HRW.out
       have HPR := Kd.R_putg hR j (wrap64 (rd (rd_L2 m' i) j + x))
       have HX1 : wc.cell? ⟨gr, j.toNat, none⟩ = some (.int .i64 (rd (rd_L2 m' i) j)) := hx0
       have HQO := Aside0.mk (show oki gr from hR.1 _ rfl)
       have HKI := Aside0.mk hoki
       have HHole := Aside0.mk hH
       have HIM := eq_true (show i < (m.length : Int) by have := HM2.out; have := (Kd.S_reads' HO.out).1; omega)
       have HRQ := eq_true HRW.out
       clear hcell hcl hR hH hoki hbr hlr hx0
       obtain ⟨row, hrow⟩ : ∃ q_, q_ = rd_L2 m' i := ⟨_, rfl⟩
       rw [← hrow] at HX1 hcell0 HPR HRQ HHole
       have Nrow := Aside0.mk hrow
       clear hrow
       go_wp2_with (first | ((with_reducible refine gate_store (t := 3) (p := 46) rfl ?_); refine store_event (t := 3) (p := 46) (v := ?vo_p46) (w1 := (wc.setCell ⟨gr, j.toNat, none⟩ (.int .i64 (wrap64 (rd row j + x))))) ?hg ?ho ?hn ?hr ?_; (case ho => rfl); (case hg => rfl); (case hn => rfl); (case hr => first | (go_simp; done) | (go_simp; rfl)); intro w6 hw; have hg : wc.grownBy w6 (some gr) := (by rw [hw]; exact HPR.2); have hp_ : Kd.S (Kd.slice 3 (Kd.int .i64)) 24 w6 w.heap.size (fun k => w.heap.size ≤ k ∧ k < NA) (.slice (some ⟨g, 0, none⟩) m.length cap) m2 := (by rw [Nm2.out, ← Nrow.out]; exact spec_plMonotone.row_step rfl HKI.out HHole.out rfl HQO.out (by rw [hw]; exact HPR.1) hg); clear HPR; have n1_ := Aside0.mk (Kd.R_grown HVA.out hg (fun k hk e_ => by cases e_; have := (HKI.out _ HQO.out).1; omega)); have n2_ := Aside0.mk (Kd.R_grown HVB.out hg (fun k hk e_ => by cases e_; have := (HKI.out _ HQO.out).1; omega)); have n3_ := Aside0.mk (Below.grown HW.out hg HW.out.size (fun k e_ => by cases e_; have := (HKI.out _ HQO.out).1; omega)); have n4_ := Aside0.mk hp_; clear HO HVA HVB HW HHole; have HVA := n1_; have HVB := n2_; have HW := n3_; have HO := n4_; clear n1_ n2_ n3_ n4_ hg hw hp_; have HP := Kd.R_putg HVA.out i (wrap64 (rd a' i - x)); obtain ⟨hxd, hfd⟩ := Kd.R_celln 0 HVA.out i HI0.out HI.out; replace hxd : w6.cell? ⟨ga, i.toNat, none⟩ = some (.int .i64 (rd a' i)) := hxd) | ((with_reducible refine gate_store (t := 3) (p := 53) rfl ?_); refine store_event (t := 3) (p := 53) (v := ?vo_p53) (w1 := (w6.setCell ⟨ga, i.toNat, none⟩ (.int .i64 (wrap64 (rd a' i - x))))) ?hg ?ho ?hn ?hr ?_; (case ho => rfl); (case hg => rfl); (case hn => rfl); (case hr => first | (go_simp; done) | (go_simp; rfl)); intro w8 hw; have hg : w6.grownBy w8 (some ga) := (by rw [hw]; exact HP.2); have hp_ : Kd.R (Kd.int .i64) 3 w8 w.heap.size (fun k => NA ≤ k ∧ k < NB) (.slice (some ⟨ga, 0, none⟩) a.length ca) y := (by rw [hw, Ny.out]; exact HP.1); clear HP; have n0_ := Aside0.mk (Kd.S_grown HO.out hg (fun k hk e_ => by cases e_; have := HGA.out; omega)); have n1_ := Aside0.mk (Kd.R_grown HVB.out hg (fun k hk e_ => by cases e_; have := HGA.out; omega)); have n2_ := Aside0.mk (Below.grown HW.out hg HW.out.size (fun k e_ => by cases e_; have := HGA.out; omega)); have n4_ := Aside0.mk hp_; clear HO HVA HVB HW; have HO := n0_; have HVB := n1_; have HW := n2_; have HVA := n4_; clear n0_ n1_ n2_ n4_ hg hw hp_; have HP := Kd.R_putg HVB.out j (wrap64 (rd b' j - x)); obtain ⟨hxc, hfc⟩ := Kd.R_celln 0 HVB.out j HJ0.out HJ.out; replace hxc : w8.cell? ⟨gb, j.toNat, none⟩ = some (.int .i64 (rd b' j)) := hxc) | ((with_reducible refine gate_store (t := 3) (p := 60) rfl ?_); refine store_event (t := 3) (p := 60) (v := ?vo_p60) (w1 := (w8.setCell ⟨gb, j.toNat, none⟩ (.int .i64 (wrap64 (rd b' j - x))))) ?hg ?ho ?hn ?hr ?_; (case ho => rfl); (case hg => rfl); (case hn => rfl); (case hr => first | (go_simp; done) | (go_simp; rfl)); intro w9 hw; have hg : w8.grownBy w9 (some gb) := (by rw [hw]; exact HP.2); have hp_ : Kd.R (Kd.int .i64) 3 w9 w.heap.size (fun k => NB ≤ k ∧ k < NC) (.slice (some ⟨gb, 0, none⟩) b.length cb) z := (by rw [hw, Nz.out]; exact HP.1); clear HP; have n0_ := Aside0.mk (Kd.S_grown HO.out hg (fun k hk e_ => by cases e_; have := HGB.out; omega)); have n1_ := Aside0.mk (Kd.R_grown HVA.out hg (fun k hk e_ => by cases e_; have := HGB.out; omega)); have n2_ := Aside0.mk (Below.grown HW.out hg HW.out.size (fun k e_ => by cases e_; have := HGB.out; omega)); have n4_ := Aside0.mk hp_; clear HO HVA HVB HW; have HO := n0_; have HVA := n1_; have HW := n2_; have HVB := n4_; clear n0_ n1_ n2_ n4_ hg hw hp_; obtain ⟨hxc, hfc⟩ := Kd.R_celln 0 HVA.out i HI0.out HI.out; replace hxc : w9.cell? ⟨ga, i.toNat, none⟩ = some (.int .i64 (rd y i)) := hxc))
       go_roundg k1
       case measure => have := HKQ.out; omega
       case rel => exact ⟨m2, y, z, (wrap64 (i + 1)), j, (by first | rfl | (simp; done) | (simp [*]; done)), (by first | rfl | (simp; done) | (simp [*]; done)), ⟨by rw [Ny.out, List.length_set]; exact HLA.out⟩, ⟨by rw [Nz.out, List.length_set]; exact HLB.out⟩, H', ⟨by have := HKQ.out; omega⟩, HO, HVA, HVB, HW⟩
     ·rw [if_neg cz] at H
      have H' := Aside0.mk H
      clear H
      have cz0 : (rd y i == 0) = false := beq_eq_false_iff_ne.mpr cz
      clear cz
      go_upto_region 5 with (fail)
      (try simp only [Act.put, List.setIfInBounds_toArray, List.set_cons_zero, List.set_cons_succ])
      go_cut [10] (fun v10 wc => v10 = .int .i64 x ∧ ∃ nq, wc = wr.drewN nq)
      case first =>
       go_quiet ((go_at_call 98; (with_reducible refine (spec_l1Least.calls (rd a' i) (rd b' j) x _ HX.out).mono ?_); rintro e w' ⟨rfl, ⟨nd, rfl⟩⟩; (try first | exact ⟨rfl, _, World.drewN_drewN _ _ _⟩ | exact ⟨rfl, _, Eq.trans (World.drewN_drewN _ _ _) (congrArg (World.drewN _) (Nat.add_assoc _ _ _))⟩)))
       go_wp2
       go_meet
       case rel => exact ⟨rfl, _, rfl⟩
      case rest =>
       obtain ⟨rfl, nq, hwc⟩ := hcut
       have n0_ := Aside0.mk (show Kd.S (Kd.slice 3 (Kd.int .i64)) 24 wc w.heap.size (fun k => w.heap.size ≤ k ∧ k < NA) (.slice (some ⟨g, 0, none⟩) m.length cap) m' from by rw [hwc]; exact Kd.S_drewN HO.out nq)
       have n1_ := Aside0.mk (show Kd.R (Kd.int .i64) 3 wc w.heap.size (fun k => NA ≤ k ∧ k < NB) (.slice (some ⟨ga, 0, none⟩) a.length ca) a' from by rw [hwc]; exact Kd.R_drewN HVA.out nq)
       have n2_ := Aside0.mk (show Kd.R (Kd.int .i64) 3 wc w.heap.size (fun k => NB ≤ k ∧ k < NC) (.slice (some ⟨gb, 0, none⟩) b.length cb) b' from by rw [hwc]; exact Kd.R_drewN HVB.out nq)
       have n3_ := Aside0.mk (show Below w.heap.size w wc from by rw [hwc]; exact pw_below_drewN HW.out nq)
       clear hwc HO HVA HVB HW
       have HO := n0_
       have HVA := n1_
       have HVB := n2_
       have HW := n3_
       clear n0_ n1_ n2_ n3_ hxa hxb hfa hfb
       obtain ⟨oki, c, hcl, hM, hcell, hoki, hH⟩ := Kd.S_lend HO.out [] i HI0.out (by have := HM2.out; have := (Kd.S_reads' HO.out).1; omega)
       obtain ⟨u, hu, hR⟩ := hM
       replace hR : Kd.R (Kd.int .i64) 3 wc w.heap.size oki u (rd_L2 m' i) := hR
       obtain ⟨gr, cr, er, hbr, hlr, _⟩ := Kd.R_form hR (by have := HRW.out; have := HJ0.out; omega)
       subst er
       subst hu
       have hcell0 := hcell 0 _ rfl
       rw [show i.toNat * (Kd.slice 3 (Kd.int .i64)).sz + 0 = i.toNat from by show i.toNat * 1 + 0 = _; omega] at hcell0
       obtain ⟨hx0, hf0⟩ := Kd.R_celln 0 hR j HJ0.out HRW.out
       have HPR := Kd.R_putg hR j (wrap64 (rd (rd_L2 m' i) j + x))
       have HX1 : wc.cell? ⟨gr, j.toNat, none⟩ = some (.int .i64 (rd (rd_L2 m' i) j)) := hx0
       have HQO := Aside0.mk (show oki gr from hR.1 _ rfl)
       have HKI := Aside0.mk hoki
       have HHole := Aside0.mk hH
       have HIM := eq_true (show i < (m.length : Int) by have := HM2.out; have := (Kd.S_reads' HO.out).1; omega)
       have HRQ := eq_true HRW.out
       clear hcell hcl hR hH hoki hbr hlr hx0
       obtain ⟨row, hrow⟩ : ∃ q_, q_ = rd_L2 m' i := ⟨_, rfl⟩
       rw [← hrow] at HX1 hcell0 HPR HRQ HHole
       have Nrow := Aside0.mk hrow
       clear hrow
       go_wp2_with (first | ((with_reducible refine gate_store (t := 3) (p := 46) rfl ?_); refine store_event (t := 3) (p := 46) (v := ?vo_n46) (w1 := (wc.setCell ⟨gr, j.toNat, none⟩ (.int .i64 (wrap64 (rd row j + x))))) ?hg ?ho ?hn ?hr ?_; (case ho => rfl); (case hg => rfl); (case hn => rfl); (case hr => first | (go_simp; done) | (go_simp; rfl)); intro w6 hw; have hg : wc.grownBy w6 (some gr) := (by rw [hw]; exact HPR.2); have hp_ : Kd.S (Kd.slice 3 (Kd.int .i64)) 24 w6 w.heap.size (fun k => w.heap.size ≤ k ∧ k < NA) (.slice (some ⟨g, 0, none⟩) m.length cap) m2 := (by rw [Nm2.out, ← Nrow.out]; exact spec_plMonotone.row_step rfl HKI.out HHole.out rfl HQO.out (by rw [hw]; exact HPR.1) hg); clear HPR; have n1_ := Aside0.mk (Kd.R_grown HVA.out hg (fun k hk e_ => by cases e_; have := (HKI.out _ HQO.out).1; omega)); have n2_ := Aside0.mk (Kd.R_grown HVB.out hg (fun k hk e_ => by cases e_; have := (HKI.out _ HQO.out).1; omega)); have n3_ := Aside0.mk (Below.grown HW.out hg HW.out.size (fun k e_ => by cases e_; have := (HKI.out _ HQO.out).1; omega)); have n4_ := Aside0.mk hp_; clear HO HVA HVB HW HHole; have HVA := n1_; have HVB := n2_; have HW := n3_; have HO := n4_; clear n1_ n2_ n3_ n4_ hg hw hp_; have HP := Kd.R_putg HVA.out i (wrap64 (rd a' i - x)); obtain ⟨hxd, hfd⟩ := Kd.R_celln 0 HVA.out i HI0.out HI.out; replace hxd : w6.cell? ⟨ga, i.toNat, none⟩ = some (.int .i64 (rd a' i)) := hxd) | ((with_reducible refine gate_store (t := 3) (p := 53) rfl ?_); refine store_event (t := 3) (p := 53) (v := ?vo_n53) (w1 := (w6.setCell ⟨ga, i.toNat, none⟩ (.int .i64 (wrap64 (rd a' i - x))))) ?hg ?ho ?hn ?hr ?_; (case ho => rfl); (case hg => rfl); (case hn => rfl); (case hr => first | (go_simp; done) | (go_simp; rfl)); intro w8 hw; have hg : w6.grownBy w8 (some ga) := (by rw [hw]; exact HP.2); have hp_ : Kd.R (Kd.int .i64) 3 w8 w.heap.size (fun k => NA ≤ k ∧ k < NB) (.slice (some ⟨ga, 0, none⟩) a.length ca) y := (by rw [hw, Ny.out]; exact HP.1); clear HP; have n0_ := Aside0.mk (Kd.S_grown HO.out hg (fun k hk e_ => by cases e_; have := HGA.out; omega)); have n1_ := Aside0.mk (Kd.R_grown HVB.out hg (fun k hk e_ => by cases e_; have := HGA.out; omega)); have n2_ := Aside0.mk (Below.grown HW.out hg HW.out.size (fun k e_ => by cases e_; have := HGA.out; omega)); have n4_ := Aside0.mk hp_; clear HO HVA HVB HW; have HO := n0_; have HVB := n1_; have HW := n2_; have HVA := n4_; clear n0_ n1_ n2_ n4_ hg hw hp_; have HP := Kd.R_putg HVB.out j (wrap64 (rd b' j - x)); obtain ⟨hxc, hfc⟩ := Kd.R_celln 0 HVB.out j HJ0.out HJ.out; replace hxc : w8.cell? ⟨gb, j.toNat, none⟩ = some (.int .i64 (rd b' j)) := hxc) | ((with_reducible refine gate_store (t := 3) (p := 60) rfl ?_); refine store_event (t := 3) (p := 60) (v := ?vo_n60) (w1 := (w8.setCell ⟨gb, j.toNat, none⟩ (.int .i64 (wrap64 (rd b' j - x))))) ?hg ?ho ?hn ?hr ?_; (case ho => rfl); (case hg => rfl); (case hn => rfl); (case hr => first | (go_simp; done) | (go_simp; rfl)); intro w9 hw; have hg : w8.grownBy w9 (some gb) := (by rw [hw]; exact HP.2); have hp_ : Kd.R (Kd.int .i64) 3 w9 w.heap.size (fun k => NB ≤ k ∧ k < NC) (.slice (some ⟨gb, 0, none⟩) b.length cb) z := (by rw [hw, Nz.out]; exact HP.1); clear HP; have n0_ := Aside0.mk (Kd.S_grown HO.out hg (fun k hk e_ => by cases e_; have := HGB.out; omega)); have n1_ := Aside0.mk (Kd.R_grown HVA.out hg (fun k hk e_ => by cases e_; have := HGB.out; omega)); have n2_ := Aside0.mk (Below.grown HW.out hg HW.out.size (fun k e_ => by cases e_; have := HGB.out; omega)); have n4_ := Aside0.mk hp_; clear HO HVA HVB HW; have HO := n0_; have HVA := n1_; have HW := n2_; have HVB := n4_; clear n0_ n1_ n2_ n4_ hg hw hp_; obtain ⟨hxc, hfc⟩ := Kd.R_celln 0 HVA.out i HI0.out HI.out; replace hxc : w9.cell? ⟨ga, i.toNat, none⟩ = some (.int .i64 (rd y i)) := hxc))
       go_roundg k1
       case measure => have := HKQ.out; omega
       case rel => exact ⟨m2, y, z, i, (wrap64 (j + 1)), (by first | rfl | (simp; done) | (simp [*]; done)), (by first | rfl | (simp; done) | (simp [*]; done)), ⟨by rw [Ny.out, List.length_set]; exact HLA.out⟩, ⟨by rw [Nz.out, List.length_set]; exact HLB.out⟩, H', ⟨by have := HKQ.out; omega⟩, HO, HVA, HVB, HW⟩
    ·rw [if_neg dj] at H
     obtain rfl := Option.some.inj H
     clear H
     replace di := eq_true di
     replace dj := eq_false dj
     go_wp2
     go_ret
     exact ⟨_, rfl, Kd.S_mono HO.out (fun _ _ => trivial), HW.out⟩
   ·rw [if_neg di] at H
    obtain rfl := Option.some.inj H
    clear H
    replace di := eq_false di
    go_wp2
    go_ret
    exact ⟨_, rfl, Kd.S_mono HO.out (fun _ _ => trivial), HW.out⟩

/-! ### spec_MonotonePlan: function 13 -/
def spec_MonotonePlan.f (k : Nat) (l0 : List Int) (l1 : List Int) : Option ((List (List Int)) × Bool) := (spec_plBoth.f k l0 l1).bind fun t251 => (if t251 = true then ((spec_plMonotone.f k l0 l1).bind fun t252 => (some (t252, true))) else (some (([] : List (List Int)), false)))
theorem spec_MonotonePlan.mono : ∀ a0 a1 k, LeO (spec_MonotonePlan.f k a0 a1) (spec_MonotonePlan.f (k + 1) a0 a1) := by
 intro a0 a1 k
 unfold spec_MonotonePlan.f
 repeat' first
   | (with_reducible exact spec_plBoth.mono _ _ _)
   | (with_reducible exact spec_plMonotone.mono _ _ _)
   | (with_reducible exact LeO.refl _)
   | (with_reducible exact LeO.none _)
   | (with_reducible refine LeO.ite ?_ ?_)
   | (with_reducible refine LeO.bind ?_ (fun _ => ?_))
   | exact spec_plBoth.mono _ _ _
   | exact spec_plMonotone.mono _ _ _
   | exact LeO.none _
   | refine LeO.ite ?_ ?_
   | refine LeO.bind ?_ (fun _ => ?_)
set_option maxHeartbeats 8000000 in
set_option maxRecDepth 100000 in
theorem spec_MonotonePlan.calls (k : Nat) (A0 : Option Addr) (c0 : Nat) (l0 : List Int) (A1 : Option Addr) (c1 : Nat) (l1 : List Int) (r1 : List (List Int)) (r2 : Bool) (w : World) (hr0 : Kd.C (Kd.int .i64) w A0 l0.length l0) (hc0 : l0.length ≤ c0) (hr1 : Kd.C (Kd.int .i64) w A1 l1.length l1) (hc1 : l1.length ≤ c1) (h : spec_MonotonePlan.f k l0 l1 = some (r1, r2)) :
  Calls Try.prog 13 #[.slice A0 l0.length c0, .slice A1 l1.length c1] w fun e w' => ∃ v0_ : Value, e = .returned (.tuple #[v0_, .bool r2]) ∧ Kd.S (Kd.slice 3 (Kd.int .i64)) 24 w' w.heap.size (fun _ => True) v0_ r1 ∧ Below w.heap.size w w' := by
 have HR0 := Aside0.mk hr0
 have HC0 := Aside0.mk hc0
 clear hr0 hc0
 have HR1 := Aside0.mk hr1
 have HC1 := Aside0.mk hc1
 clear hr1 hc1
 have HB := Aside0.mk (Below.refl w.heap.size w)
 have H : ((spec_plBoth.f k l0 l1).bind fun t251 => (if t251 = true then ((spec_plMonotone.f k l0 l1).bind fun t252 => (some (t252, true))) else (some (([] : List (List Int)), false)))) = some (r1, r2) := h
 clear h
 replace H := Option.bind_eq_some_iff.mp H
 obtain ⟨t251, A30, H⟩ := H
 replace H : (if t251 = true then ((spec_plMonotone.f k l0 l1).bind fun t252 => (some (t252, true))) else (some (([] : List (List Int)), false))) = some (r1, r2) := H
 have A3 := Aside0.mk A30
 clear A30
 by_cases c4 : t251 = true
 ·subst c4
  have H1 : ((spec_plMonotone.f k l0 l1).bind fun t252 => (some (t252, true))) = some (r1, r2) := by rw [if_pos rfl] at H; exact H
  clear H
  have H := H1
  clear H1
  replace H := Option.bind_eq_some_iff.mp H
  obtain ⟨t252, A50, H⟩ := H
  replace H : (some (t252, true)) = some (r1, r2) := H
  have A5 := Aside0.mk A50
  clear A50
  simp only [Option.some.injEq, Prod.mk.injEq] at H
  obtain ⟨rfl, rfl⟩ := H
  go_enter Try.func13, Try.ntmps13
  go_wp2_with (first | ((with_reducible refine gate_callee (f := 81) rfl ?_); refine goesL_ (some 8) rfl rfl Try.func81 (by kernel_rfl) rfl #[.slice A0 l0.length c0, .slice A1 l1.length c1] rfl (by (try simp only [List.map_toArray, List.map_cons, List.map_nil]); first | done | rfl | (simp only [List.length_drop, List.length_take]; rfl)) ?_; (with_reducible refine (spec_plBoth.calls k _ _ l0 _ _ l1 true _ ?side1 ?side2 ?side3 ?side4 A3.out).mono ?_); (case side1 => repeat (first | exact HR0.out | (with_reducible refine Kd.C_alloc ?_ _) | (with_reducible refine Kd.C_drewN ?_ _) | (with_reducible refine Kd.C_drew ?_))); (case side2 => exact HC0.out); (case side3 => repeat (first | exact HR1.out | (with_reducible refine Kd.C_alloc ?_ _) | (with_reducible refine Kd.C_drewN ?_ _) | (with_reducible refine Kd.C_drew ?_))); (case side4 => exact HC1.out); rintro e w' ⟨rfl, ⟨nd, rfl⟩⟩; refine ⟨_, rfl, ?_⟩) | ((with_reducible refine gate_callee (f := 82) rfl ?_); refine goesL_ (some 12) rfl rfl Try.func82 (by kernel_rfl) rfl #[.slice A0 l0.length c0, .slice A1 l1.length c1] rfl (by (try simp only [List.map_toArray, List.map_cons, List.map_nil]); first | done | rfl | (simp only [List.length_drop, List.length_take]; rfl)) ?_; (with_reducible refine (spec_plMonotone.calls k _ _ l0 _ _ l1 t252 _ ?side1 ?side2 ?side3 ?side4 A5.out).mono ?_); (case side1 => repeat (first | exact HR0.out | (with_reducible refine Kd.C_alloc ?_ _) | (with_reducible refine Kd.C_drewN ?_ _) | (with_reducible refine Kd.C_drew ?_))); (case side2 => exact HC0.out); (case side3 => repeat (first | exact HR1.out | (with_reducible refine Kd.C_alloc ?_ _) | (with_reducible refine Kd.C_drewN ?_ _) | (with_reducible refine Kd.C_drew ?_))); (case side4 => exact HC1.out); rintro e w6 ⟨v253, rfl, ho0, hb⟩; refine ⟨_, rfl, ?_⟩; have n0_ := Aside0.mk (Kd.S_lower ho0 (below_size (by repeat (first | (with_reducible first | exact HB.out | apply below_alloc | apply pw_below_drewN | apply below_drew1) | exact HB.out)))); have n1_ := Aside0.mk (below_step (by repeat (first | (with_reducible first | exact HB.out | apply below_alloc | apply pw_below_drewN | apply below_drew1) | exact HB.out)) hb); clear HB; have HO254 := n0_; have HB := n1_; clear n0_ n1_; (try clear hb); (try clear hb2); (try clear hk); (try clear hi); (try clear ho0)))
  go_ret2
  exact ⟨_, by first | rfl | (simp [errW_none, errW_some] <;> rfl) | (simp [*, errW_none, errW_some] <;> rfl), by (with_reducible repeat (first | apply Kd.S_alloc | apply Kd.S_drewN | apply Kd.S_drew)); exact HO254.out, by repeat (first | (with_reducible first | exact HB.out | apply below_alloc | apply pw_below_drewN | apply below_drew1) | exact HB.out)⟩
 ·replace c4 := Bool.eq_false_iff.mpr c4
  subst c4
  have H1 : (some (([] : List (List Int)), false)) = some (r1, r2) := by rw [if_neg (show ¬ (false = true) by decide)] at H; exact H
  clear H
  have H := H1
  clear H1
  simp only [Option.some.injEq, Prod.mk.injEq] at H
  obtain ⟨rfl, rfl⟩ := H
  go_enter Try.func13, Try.ntmps13
  go_wp2_with (first | ((with_reducible refine gate_callee (f := 81) rfl ?_); refine goesL_ (some 8) rfl rfl Try.func81 (by kernel_rfl) rfl #[.slice A0 l0.length c0, .slice A1 l1.length c1] rfl (by (try simp only [List.map_toArray, List.map_cons, List.map_nil]); first | done | rfl | (simp only [List.length_drop, List.length_take]; rfl)) ?_; (with_reducible refine (spec_plBoth.calls k _ _ l0 _ _ l1 false _ ?side1 ?side2 ?side3 ?side4 A3.out).mono ?_); (case side1 => repeat (first | exact HR0.out | (with_reducible refine Kd.C_alloc ?_ _) | (with_reducible refine Kd.C_drewN ?_ _) | (with_reducible refine Kd.C_drew ?_))); (case side2 => exact HC0.out); (case side3 => repeat (first | exact HR1.out | (with_reducible refine Kd.C_alloc ?_ _) | (with_reducible refine Kd.C_drewN ?_ _) | (with_reducible refine Kd.C_drew ?_))); (case side4 => exact HC1.out); rintro e w' ⟨rfl, ⟨nd, rfl⟩⟩; refine ⟨_, rfl, ?_⟩))
  go_ret2
  exact ⟨_, by first | rfl | (simp [errW_none, errW_some] <;> rfl) | (simp [*, errW_none, errW_some] <;> rfl), by first | exact Kd.S_nil _ _ _ _ _ | exact Kd.N_nil _ _ _ _ _ | exact Kd.V_nil _ _ _ _ _ | exact Kd.Q_nil _ _ _ _ _ | exact Kd.R_nil _ _ _ _ _, by repeat (first | (with_reducible first | exact HB.out | apply below_alloc | apply pw_below_drewN | apply below_drew1) | exact HB.out)⟩

/-! ### impl_ahead: function 83 -/
def impl_ahead.l0 : Nat → List Int → List Int → Int → List Int → Int → Int → Option (List Int)
 | 0, _, _, _, _, _, _ => none
 | k + 1, x1, x5, x6, x10, x11, x12 => if x12 < x11 then (if 0 ≤ x12 then (if x12 < (x10.length : Int) then (if x12 < (x1.length : Int) then (if x5.length < 17592186044416 then (impl_ahead.l0 k x1 (x5 ++ [wrap64 (x6 + (wrap64 ((rd x10 x12) - (rd x1 x12))))]) (wrap64 (x6 + (wrap64 ((rd x10 x12) - (rd x1 x12))))) x10 x11 (wrap64 (x12 + 1))) else (none)) else (none)) else (none)) else (none)) else (some x5)
def impl_ahead.f (k : Nat) (l0 : List Int) (l1 : List Int) : Option (List Int) := impl_ahead.l0 k l1 (([] : List Int)) 0 l0 (l0.length : Int) 0
theorem impl_ahead.mono_l : ∀ k, (∀ y0 y1 y2 y3 y4 y5, LeO (impl_ahead.l0 k y0 y1 y2 y3 y4 y5) (impl_ahead.l0 (k + 1) y0 y1 y2 y3 y4 y5))
 | 0 => fun _ _ _ _ _ _ r h => by simp [impl_ahead.l0] at h
 | k + 1 => by
  have ih0 := impl_ahead.mono_l k
  ·intro y0 y1 y2 y3 y4 y5
   unfold impl_ahead.l0
   repeat' first
   | (with_reducible exact ih0 _ _ _ _ _ _)
   | (with_reducible exact LeO.refl _)
   | (with_reducible exact LeO.none _)
   | (with_reducible refine LeO.ite ?_ ?_)
   | (with_reducible refine LeO.bind ?_ (fun _ => ?_))
   | exact ih0 _ _ _ _ _ _
   | exact LeO.none _
   | refine LeO.ite ?_ ?_
   | refine LeO.bind ?_ (fun _ => ?_)
theorem impl_ahead.mono : ∀ a0 a1 k, LeO (impl_ahead.f k a0 a1) (impl_ahead.f (k + 1) a0 a1) := by
 intro a0 a1 k
 have ih0 := impl_ahead.mono_l k
 unfold impl_ahead.f
 repeat' first
   | (with_reducible exact ih0 _ _ _ _ _ _)
   | (with_reducible exact LeO.refl _)
   | (with_reducible exact LeO.none _)
   | (with_reducible refine LeO.ite ?_ ?_)
   | (with_reducible refine LeO.bind ?_ (fun _ => ?_))
   | exact ih0 _ _ _ _ _ _
   | exact LeO.none _
   | refine LeO.ite ?_ ?_
   | refine LeO.bind ?_ (fun _ => ?_)
set_option maxHeartbeats 8000000 in
set_option maxRecDepth 100000 in
theorem impl_ahead.calls (k : Nat) (A0 : Option Addr) (c0 : Nat) (l0 : List Int) (A1 : Option Addr) (c1 : Nat) (l1 : List Int) (r : List Int) (w : World) (hr0 : Kd.C (Kd.int .i64) w A0 l0.length l0) (hc0 : l0.length ≤ c0) (hr1 : Kd.C (Kd.int .i64) w A1 l1.length l1) (hc1 : l1.length ≤ c1) (h : impl_ahead.f k l0 l1 = some r) :
  Calls Try.prog 83 #[.slice A0 l0.length c0, .slice A1 l1.length c1] w fun e w' => ∃ v0_ : Value, e = .returned (v0_) ∧ Kd.R (Kd.int .i64) 3 w' w.heap.size (fun _ => True) v0_ r ∧ Below w.heap.size w w' := by
 have HR0 := Aside0.mk hr0
 have HC0 := Aside0.mk hc0
 clear hr0 hc0
 have HR1 := Aside0.mk hr1
 have HC1 := Aside0.mk hc1
 clear hr1 hc1
 have HB := Aside0.mk (Below.refl w.heap.size w)
 have H : (impl_ahead.l0 k l1 (([] : List Int)) 0 l0 (l0.length : Int) 0) = some r := h
 clear h
 obtain ⟨y255, hy255⟩ : ∃ y_ : List Int, y_ = (([] : List Int)) := ⟨_, rfl⟩
 replace H : (impl_ahead.l0 k l1 y255 0 l0 (l0.length : Int) 0) = some r := by first | (rw [hy255]; with_reducible exact H) | (have H2_ := (Option.bind_some _ _).symm.trans H; rw [hy255]; with_reducible exact H2_) | (have H2_ := (Option.bind_some _ _).symm.trans H; with_reducible exact H2_) | with_reducible exact H | (rw [hy255]; exact H) | exact H
 have Ny255 := Aside0.mk hy255
 clear hy255
 have H' := Aside0.mk H
 clear H
 go_enter Try.func83, Try.ntmps83
 go_wp2_with (first | ((with_reducible refine gate_dst (N := 9) rfl ?_); refine Kd.R_lit (Kd.int .i64) _ 3 ?hg (N := 9) ?hd (xs := ([] : List Int)) (inner := []) (ok := fun _ => True) (okp := fun _ => True) ?hr ?hp (fun _ hk => hk) trivial (Below.refl _ _) (Nat.le_refl _) (by simp) ?_; (case hd => rfl); (case hg => rfl); (case hr => first | (go_simp; done) | (go_simp; rfl)); (case hp => exact (Reps.none _ _)); intro v256 w3 ho4 hb hg_ hnew_; clear hg_ hnew_; (first | rw [← Ny255.out] at ho4 | (simp only [Int.reduceToNat] at ho4; rw [← Ny255.out] at ho4)); have n0_ := Aside0.mk (Kd.R_lower ho4 (below_size (by repeat (first | (with_reducible first | exact HB.out | apply below_alloc | apply pw_below_drewN | apply below_drew1) | exact HB.out)))); have n1_ := Aside0.mk (below_step (by repeat (first | (with_reducible first | exact HB.out | apply below_alloc | apply pw_below_drewN | apply below_drew1) | exact HB.out)) hb); clear HB; have HO257 := n0_; have HB := n1_; clear n0_ n1_; clear hb ho4))
 go_loopg [5, 6, 12] k (fun kq v5 v6 v12 w' => ∃ (x5_1 : List Int) (x6_1 : Int) (x12_1 : Int), v6 = .int .i64 x6_1 ∧ v12 = .int .i64 x12_1 ∧ Aside0 (impl_ahead.l0 kq l1 x5_1 x6_1 l0 (l0.length : Int) x12_1 = some r) ∧ Aside0 (kq ≤ k) ∧ Aside0 (Kd.R (Kd.int .i64) 3 w' w.heap.size (fun _ => True) v5 x5_1) ∧ Aside0 (Below w.heap.size w w'))
 case atStart => exact ⟨(y255), (0), (0), (by first | rfl | (simp; done) | (simp [*]; done)), (by first | rfl | (simp; done) | (simp [*]; done)), H', ⟨Nat.le_refl _⟩, ⟨by (with_reducible repeat (first | apply Kd.R_alloc | apply Kd.R_drewN | apply Kd.R_drew)); exact HO257.out⟩, ⟨by repeat (first | (with_reducible first | exact HB.out | apply below_alloc | apply pw_below_drewN | apply below_drew1) | exact HB.out)⟩⟩
 case round =>
  clear H'
  try clear c1
  try clear p2
  obtain ⟨x5_1, x6_1, x12_1, rfl, rfl, HA, HK1, HO_5, HB⟩ := hrel
  cases gk with
  | zero => exact absurd HA.out (by simp [impl_ahead.l0])
  | succ k1 =>
   have H := HA.out
   clear HA
   simp only [impl_ahead.l0] at H
   by_cases c5 : x12_1 < (l0.length : Int)
   ·rw [if_pos c5] at H
    have c5b0 : decide (x12_1 < (l0.length : Int)) = true := decide_eq_true c5
    clear c5
    by_cases c6 : 0 ≤ x12_1
    ·rw [if_pos c6] at H
     have c6b0 : decide (0 ≤ x12_1) = true := decide_eq_true c6
     clear c6
     by_cases c7 : x12_1 < (l0.length : Int)
     ·rw [if_pos c7] at H
      have c7b0 : decide (x12_1 < (l0.length : Int)) = true := decide_eq_true c7
      clear c7
      by_cases c8 : x12_1 < (l1.length : Int)
      ·rw [if_pos c8] at H
       have c8b0 : decide (x12_1 < (l1.length : Int)) = true := decide_eq_true c8
       clear c8
       by_cases c9 : x5_1.length < 17592186044416
       ·rw [if_pos c9] at H
        have LMc9 := Aside0.mk c9
        clear c9
        obtain ⟨y260, hy260⟩ : ∃ y_ : List Int, y_ = (x5_1 ++ [wrap64 (x6_1 + (wrap64 ((rd l0 x12_1) - (rd l1 x12_1))))]) := ⟨_, rfl⟩
        replace H : (impl_ahead.l0 k1 l1 y260 (wrap64 (x6_1 + (wrap64 ((rd l0 x12_1) - (rd l1 x12_1))))) l0 (l0.length : Int) (wrap64 (x12_1 + 1))) = some r := by first | (rw [hy260]; with_reducible exact H) | (have H2_ := (Option.bind_some _ _).symm.trans H; rw [hy260]; with_reducible exact H2_) | (have H2_ := (Option.bind_some _ _).symm.trans H; with_reducible exact H2_) | with_reducible exact H | (rw [hy260]; exact H) | exact H
        have Ny260 := Aside0.mk hy260
        clear hy260
        have H' := Aside0.mk H
        clear H
        have p258 : 0 ≤ (x12_1 : Int) := of_decide_eq_true (by first | (with_reducible assumption) | assumption)
        have q258 : x12_1 < (l0.length : Int) := of_decide_eq_true (by first | (with_reducible assumption) | assumption)
        obtain ⟨ad258, e258, hx258_0⟩ := Kd.at_int HR0.out x12_1 p258 q258
        cases e258
        try replace hx258_0 := (HB.out.cell (World.block_lt_of_cell? w _ hx258_0)).trans hx258_0
        replace p258 := eq_true p258
        replace q258 := eq_true q258
        have p259 : 0 ≤ (x12_1 : Int) := of_decide_eq_true (by first | (with_reducible assumption) | assumption)
        have q259 : x12_1 < (l1.length : Int) := of_decide_eq_true (by first | (with_reducible assumption) | assumption)
        obtain ⟨ad259, e259, hx259_0⟩ := Kd.at_int HR1.out x12_1 p259 q259
        cases e259
        try replace hx259_0 := (HB.out.cell (World.block_lt_of_cell? w _ hx259_0)).trans hx259_0
        replace p259 := eq_true p259
        replace q259 := eq_true q259
        go_wp2_with (first | ((with_reducible refine gate_builtin (b := .append) (xs := #[.tmp 25, .tmp 27]) rfl ?_); at_builtin; refine Kd.R_append (Kd.int .i64) (w0 := w) w.heap.size rfl (.tmp 25) (.tmp 27) 24 3 (.int .i64 0) 8 rfl Try.underlying24 info3 rfl (by decide) (by omega) u5 x5_1 (wrap64 (x6_1 + (wrap64 ((rd l0 x12_1) - (rd l1 x12_1))))) [.int .i64 (wrap64 (x6_1 + (wrap64 ((rd l0 x12_1) - (rd l1 x12_1)))))] (fun _ => True) (fun _ => False) rfl rfl ?aP (fun _ hk => hk.elim) ?aF ?aO ?aB ?aS ?aL ?_; (case aP => exact rfl); (case aB => exact (by repeat (first | (with_reducible first | exact HB.out | apply below_alloc | apply pw_below_drewN | apply below_drew1) | exact HB.out))); (case aF => exact (fun _ _ => trivial)); (case aO => exact (by (with_reducible repeat (first | apply Kd.R_alloc | apply Kd.R_drewN | apply Kd.R_drew)); exact HO_5.out)); (case aS => exact (below_size (by repeat (first | (with_reducible first | exact HB.out | apply below_alloc | apply pw_below_drewN | apply below_drew1) | exact HB.out)))); (case aL => have := LMc9.out; omega); intro v261 w10 ho hb hg hat; rw [← Ny260.out] at ho; have n0_ := Aside0.mk (hb); have n1_ := Aside0.mk (ho); clear HB; clear HO_5; have HB := n0_; have HO262 := n1_; clear n0_ n1_; clear ho hb hg hat))
        go_roundg k1
        case measure => have := HK1.out; omega
        case rel => exact ⟨(y260), (wrap64 (x6_1 + (wrap64 ((rd l0 x12_1) - (rd l1 x12_1))))), (wrap64 (x12_1 + 1)), (by first | rfl | (simp; done) | (simp [*]; done)), (by first | rfl | (simp; done) | (simp [*]; done)), H', ⟨by have := HK1.out; omega⟩, ⟨by (with_reducible repeat (first | apply Kd.R_alloc | apply Kd.R_drewN | apply Kd.R_drew)); exact HO262.out⟩, ⟨by repeat (first | (with_reducible first | exact HB.out | apply below_alloc | apply pw_below_drewN | apply below_drew1) | exact HB.out)⟩⟩
       ·rw [if_neg c9] at H
        exact absurd H (by simp)
      ·rw [if_neg c8] at H
       exact absurd H (by simp)
     ·rw [if_neg c7] at H
      exact absurd H (by simp)
    ·rw [if_neg c6] at H
     exact absurd H (by simp)
   ·rw [if_neg c5] at H
    have c5b0 : decide (x12_1 < (l0.length : Int)) = false := decide_eq_false c5
    clear c5
    obtain rfl := Option.some.inj H
    go_wp2
    go_ret
    exact ⟨_, by first | rfl | (simp [errW_none, errW_some] <;> rfl) | (simp [*, errW_none, errW_some] <;> rfl), by (with_reducible repeat (first | apply Kd.R_alloc | apply Kd.R_drewN | apply Kd.R_drew)); exact HO_5.out, by repeat (first | (with_reducible first | exact HB.out | apply below_alloc | apply pw_below_drewN | apply below_drew1) | exact HB.out)⟩

/-! ### impl_LineDistance: function 14 -/
def impl_LineDistance.l0 : Nat → Int → List Int → Int → Int → Option (Int × Bool)
 | 0, _, _, _, _ => none
 | k + 1, x6, x15, x16, x17 => if x17 < x16 then (if 0 ≤ x17 then (if x17 < (x15.length : Int) then (impl_LineDistance.l0 k (wrap64 (x6 + (mx (rd x15 x17) (wrap64 (-(rd x15 x17)))))) x15 x16 (wrap64 (x17 + 1))) else (none)) else (none)) else (some (x6, true))
def impl_LineDistance.f (k : Nat) (l0 : List Int) (l1 : List Int) : Option (Int × Bool) := (impl_areFitting.f k l0 l1).bind fun t263 => (if t263 = true then ((impl_ahead.f k l0 l1).bind fun t264 => (impl_LineDistance.l0 k 0 t264 (t264.length : Int) 0)) else (some (0, false)))
theorem impl_LineDistance.mono_l : ∀ k, (∀ y0 y1 y2 y3, LeO (impl_LineDistance.l0 k y0 y1 y2 y3) (impl_LineDistance.l0 (k + 1) y0 y1 y2 y3))
 | 0 => fun _ _ _ _ r h => by simp [impl_LineDistance.l0] at h
 | k + 1 => by
  have ih0 := impl_LineDistance.mono_l k
  ·intro y0 y1 y2 y3
   unfold impl_LineDistance.l0
   repeat' first
   | (with_reducible exact ih0 _ _ _ _)
   | (with_reducible exact impl_ahead.mono _ _ _)
   | (with_reducible exact impl_areFitting.mono _ _ _)
   | (with_reducible exact LeO.refl _)
   | (with_reducible exact LeO.none _)
   | (with_reducible refine LeO.ite ?_ ?_)
   | (with_reducible refine LeO.bind ?_ (fun _ => ?_))
   | exact ih0 _ _ _ _
   | exact impl_ahead.mono _ _ _
   | exact impl_areFitting.mono _ _ _
   | exact LeO.none _
   | refine LeO.ite ?_ ?_
   | refine LeO.bind ?_ (fun _ => ?_)
theorem impl_LineDistance.mono : ∀ a0 a1 k, LeO (impl_LineDistance.f k a0 a1) (impl_LineDistance.f (k + 1) a0 a1) := by
 intro a0 a1 k
 have ih0 := impl_LineDistance.mono_l k
 unfold impl_LineDistance.f
 repeat' first
   | (with_reducible exact ih0 _ _ _ _)
   | (with_reducible exact impl_ahead.mono _ _ _)
   | (with_reducible exact impl_areFitting.mono _ _ _)
   | (with_reducible exact LeO.refl _)
   | (with_reducible exact LeO.none _)
   | (with_reducible refine LeO.ite ?_ ?_)
   | (with_reducible refine LeO.bind ?_ (fun _ => ?_))
   | exact ih0 _ _ _ _
   | exact impl_ahead.mono _ _ _
   | exact impl_areFitting.mono _ _ _
   | exact LeO.none _
   | refine LeO.ite ?_ ?_
   | refine LeO.bind ?_ (fun _ => ?_)
set_option maxHeartbeats 8000000 in
set_option maxRecDepth 100000 in
theorem impl_LineDistance.calls (k : Nat) (A0 : Option Addr) (c0 : Nat) (l0 : List Int) (A1 : Option Addr) (c1 : Nat) (l1 : List Int) (r1 : Int) (r2 : Bool) (w : World) (hr0 : Kd.C (Kd.int .i64) w A0 l0.length l0) (hc0 : l0.length ≤ c0) (hr1 : Kd.C (Kd.int .i64) w A1 l1.length l1) (hc1 : l1.length ≤ c1) (h : impl_LineDistance.f k l0 l1 = some (r1, r2)) :
  Calls Try.prog 14 #[.slice A0 l0.length c0, .slice A1 l1.length c1] w fun e w' => e = .returned (.tuple #[.int .i64 r1, .bool r2]) ∧ Below w.heap.size w w' := by
 have HR0 := Aside0.mk hr0
 have HC0 := Aside0.mk hc0
 clear hr0 hc0
 have HR1 := Aside0.mk hr1
 have HC1 := Aside0.mk hc1
 clear hr1 hc1
 have HB := Aside0.mk (Below.refl w.heap.size w)
 have H : ((impl_areFitting.f k l0 l1).bind fun t263 => (if t263 = true then ((impl_ahead.f k l0 l1).bind fun t264 => (impl_LineDistance.l0 k 0 t264 (t264.length : Int) 0)) else (some (0, false)))) = some (r1, r2) := h
 clear h
 replace H := Option.bind_eq_some_iff.mp H
 obtain ⟨t263, A30, H⟩ := H
 replace H : (if t263 = true then ((impl_ahead.f k l0 l1).bind fun t264 => (impl_LineDistance.l0 k 0 t264 (t264.length : Int) 0)) else (some (0, false))) = some (r1, r2) := H
 have A3 := Aside0.mk A30
 clear A30
 by_cases c4 : t263 = true
 ·subst c4
  have H1 : ((impl_ahead.f k l0 l1).bind fun t264 => (impl_LineDistance.l0 k 0 t264 (t264.length : Int) 0)) = some (r1, r2) := by rw [if_pos rfl] at H; exact H
  clear H
  have H := H1
  clear H1
  replace H := Option.bind_eq_some_iff.mp H
  obtain ⟨t264, A50, H⟩ := H
  replace H : (impl_LineDistance.l0 k 0 t264 (t264.length : Int) 0) = some (r1, r2) := H
  have A5 := Aside0.mk A50
  clear A50
  have H' := Aside0.mk H
  clear H
  go_enter Try.func14, Try.ntmps14
  go_wp2_with (first | ((with_reducible refine gate_callee (f := 79) rfl ?_); refine goesL_ (some 11) rfl rfl Try.func79 (by kernel_rfl) rfl #[.slice A0 l0.length c0, .slice A1 l1.length c1] rfl (by (try simp only [List.map_toArray, List.map_cons, List.map_nil]); first | done | rfl | (simp only [List.length_drop, List.length_take]; rfl)) ?_; (with_reducible refine (impl_areFitting.calls k _ _ l0 _ _ l1 true _ ?side1 ?side2 ?side3 ?side4 A3.out).mono ?_); (case side1 => repeat (first | exact HR0.out | (with_reducible refine Kd.C_alloc ?_ _) | (with_reducible refine Kd.C_drewN ?_ _) | (with_reducible refine Kd.C_drew ?_))); (case side2 => exact HC0.out); (case side3 => repeat (first | exact HR1.out | (with_reducible refine Kd.C_alloc ?_ _) | (with_reducible refine Kd.C_drewN ?_ _) | (with_reducible refine Kd.C_drew ?_))); (case side4 => exact HC1.out); rintro e w' ⟨rfl, ⟨nd, rfl⟩⟩; refine ⟨_, rfl, ?_⟩) | ((with_reducible refine gate_callee (f := 83) rfl ?_); refine goesL_ (some 15) rfl rfl Try.func83 (by kernel_rfl) rfl #[.slice A0 l0.length c0, .slice A1 l1.length c1] rfl (by (try simp only [List.map_toArray, List.map_cons, List.map_nil]); first | done | rfl | (simp only [List.length_drop, List.length_take]; rfl)) ?_; (with_reducible refine (impl_ahead.calls k _ _ l0 _ _ l1 t264 _ ?side1 ?side2 ?side3 ?side4 A5.out).mono ?_); (case side1 => repeat (first | exact HR0.out | (with_reducible refine Kd.C_alloc ?_ _) | (with_reducible refine Kd.C_drewN ?_ _) | (with_reducible refine Kd.C_drew ?_))); (case side2 => exact HC0.out); (case side3 => repeat (first | exact HR1.out | (with_reducible refine Kd.C_alloc ?_ _) | (with_reducible refine Kd.C_drewN ?_ _) | (with_reducible refine Kd.C_drew ?_))); (case side4 => exact HC1.out); rintro e w6 ⟨v265, rfl, ho0, hb⟩; refine ⟨_, rfl, ?_⟩; have n0_ := Aside0.mk (Kd.R_lower ho0 (below_size (by repeat (first | (with_reducible first | exact HB.out | apply below_alloc | apply pw_below_drewN | apply below_drew1) | exact HB.out)))); have n1_ := Aside0.mk (below_step (by repeat (first | (with_reducible first | exact HB.out | apply below_alloc | apply pw_below_drewN | apply below_drew1) | exact HB.out)) hb); clear HB; have HO266 := n0_; have HB := n1_; clear n0_ n1_; (try clear hb); (try clear hb2); (try clear hk); (try clear hi); (try clear ho0); obtain ⟨Ao7, co7, eo7⟩ := Kd.R_slice HO266.out; subst eo7))
  go_loopg [6, 17] k (fun kq v6 v17 w' => ∃ (x6_1 : Int) (x17_1 : Int), v6 = .int .i64 x6_1 ∧ v17 = .int .i64 x17_1 ∧ Aside0 (impl_LineDistance.l0 kq x6_1 t264 (t264.length : Int) x17_1 = some (r1, r2)) ∧ Aside0 (kq ≤ k) ∧ Aside0 (Kd.R (Kd.int .i64) 3 w' w.heap.size (fun _ => True) (.slice Ao7 t264.length co7) t264) ∧ Aside0 (Below w.heap.size w w'))
  case atStart => exact ⟨(0), (0), (by first | rfl | (simp; done) | (simp [*]; done)), (by first | rfl | (simp; done) | (simp [*]; done)), H', ⟨Nat.le_refl _⟩, ⟨by (with_reducible repeat (first | apply Kd.R_alloc | apply Kd.R_drewN | apply Kd.R_drew)); exact HO266.out⟩, ⟨by repeat (first | (with_reducible first | exact HB.out | apply below_alloc | apply pw_below_drewN | apply below_drew1) | exact HB.out)⟩⟩
  case round =>
   clear H'
   try clear c1
   try clear p2
   try clear c4
   try clear c7
   obtain ⟨x6_1, x17_1, rfl, rfl, HA, HK1, HO_15, HB⟩ := hrel
   cases gk with
   | zero => exact absurd HA.out (by simp [impl_LineDistance.l0])
   | succ k1 =>
    have H := HA.out
    clear HA
    simp only [impl_LineDistance.l0] at H
    by_cases c8 : x17_1 < (t264.length : Int)
    ·rw [if_pos c8] at H
     have c8b0 : decide (x17_1 < (t264.length : Int)) = true := decide_eq_true c8
     clear c8
     by_cases c9 : 0 ≤ x17_1
     ·rw [if_pos c9] at H
      have c9b0 : decide (0 ≤ x17_1) = true := decide_eq_true c9
      clear c9
      by_cases c10 : x17_1 < (t264.length : Int)
      ·rw [if_pos c10] at H
       have c10b0 : decide (x17_1 < (t264.length : Int)) = true := decide_eq_true c10
       clear c10
       obtain ⟨ji11, hji11⟩ : ∃ j_ : Int, (mx (rd t264 x17_1) (wrap64 (-(rd t264 x17_1)))) = j_ := ⟨_, rfl⟩
       replace H : (impl_LineDistance.l0 k1 (wrap64 (x6_1 + (ji11))) t264 (t264.length : Int) (wrap64 (x17_1 + 1))) = some (r1, r2) := by first | (rw [hji11] at H; exact H) | (simp only [hji11] at H ⊢; exact H)
       have hji11_ : (if (rd t264 x17_1) < (wrap64 (-(rd t264 x17_1))) then (wrap64 (-(rd t264 x17_1))) else (rd t264 x17_1)) = ji11 := hji11
       have H' := Aside0.mk H
       clear H
       have p267 : 0 ≤ (x17_1 : Int) := of_decide_eq_true (by first | (with_reducible assumption) | assumption)
       have q267 : x17_1 < (t264.length : Int) := of_decide_eq_true (by first | (with_reducible assumption) | assumption)
       obtain ⟨ad267, e267, hx267_0⟩ := Kd.at_int (Kd.R_reads' HO_15.out).2.2 x17_1 p267 q267
       cases e267
       replace p267 := eq_true p267
       replace q267 := eq_true q267
       go_wp2
       go_roundg k1
       case measure => have := HK1.out; omega
       case rel => exact ⟨(wrap64 (x6_1 + (ji11))), (wrap64 (x17_1 + 1)), (by first | rfl | (simp; done) | (simp only [← hji11] <;> (first | rfl | simp)) | (simp [*]; done)), (by first | rfl | (simp; done) | (simp [*]; done)), H', ⟨by have := HK1.out; omega⟩, ⟨by (with_reducible repeat (first | apply Kd.R_alloc | apply Kd.R_drewN | apply Kd.R_drew)); exact HO_15.out⟩, ⟨by repeat (first | (with_reducible first | exact HB.out | apply below_alloc | apply pw_below_drewN | apply below_drew1) | exact HB.out)⟩⟩
      ·rw [if_neg c10] at H
       exact absurd H (by simp)
     ·rw [if_neg c9] at H
      exact absurd H (by simp)
    ·rw [if_neg c8] at H
     have c8b0 : decide (x17_1 < (t264.length : Int)) = false := decide_eq_false c8
     clear c8
     simp only [Option.some.injEq, Prod.mk.injEq] at H
     obtain ⟨rfl, rfl⟩ := H
     go_wp2
     go_ret2
     exact ⟨by first | rfl | (simp [errW_none, errW_some] <;> rfl) | (simp [*, errW_none, errW_some] <;> rfl), by repeat (first | (with_reducible first | exact HB.out | apply below_alloc | apply pw_below_drewN | apply below_drew1) | exact HB.out)⟩
 ·replace c4 := Bool.eq_false_iff.mpr c4
  subst c4
  have H1 : (some (0, false)) = some (r1, r2) := by rw [if_neg (show ¬ (false = true) by decide)] at H; exact H
  clear H
  have H := H1
  clear H1
  simp only [Option.some.injEq, Prod.mk.injEq] at H
  obtain ⟨rfl, rfl⟩ := H
  go_enter Try.func14, Try.ntmps14
  go_wp2_with (first | ((with_reducible refine gate_callee (f := 79) rfl ?_); refine goesL_ (some 11) rfl rfl Try.func79 (by kernel_rfl) rfl #[.slice A0 l0.length c0, .slice A1 l1.length c1] rfl (by (try simp only [List.map_toArray, List.map_cons, List.map_nil]); first | done | rfl | (simp only [List.length_drop, List.length_take]; rfl)) ?_; (with_reducible refine (impl_areFitting.calls k _ _ l0 _ _ l1 false _ ?side1 ?side2 ?side3 ?side4 A3.out).mono ?_); (case side1 => repeat (first | exact HR0.out | (with_reducible refine Kd.C_alloc ?_ _) | (with_reducible refine Kd.C_drewN ?_ _) | (with_reducible refine Kd.C_drew ?_))); (case side2 => exact HC0.out); (case side3 => repeat (first | exact HR1.out | (with_reducible refine Kd.C_alloc ?_ _) | (with_reducible refine Kd.C_drewN ?_ _) | (with_reducible refine Kd.C_drew ?_))); (case side4 => exact HC1.out); rintro e w' ⟨rfl, ⟨nd, rfl⟩⟩; refine ⟨_, rfl, ?_⟩))
  go_ret2
  exact ⟨by first | rfl | (simp [errW_none, errW_some] <;> rfl) | (simp [*, errW_none, errW_some] <;> rfl), by repeat (first | (with_reducible first | exact HB.out | apply below_alloc | apply pw_below_drewN | apply below_drew1) | exact HB.out)⟩

/-! ### spec_liSums: function 115 -/
def spec_liSums.l0 : Nat → List Int → Int → List Int → Int → Int → Option (List Int)
 | 0, _, _, _, _, _ => none
 | k + 1, x3, x4, x7, x8, x9 => if x9 < x8 then (if 0 ≤ x9 then (if x9 < (x7.length : Int) then (if x3.length < 17592186044416 then (spec_liSums.l0 k (x3 ++ [wrap64 (x4 + (rd x7 x9))]) (wrap64 (x4 + (rd x7 x9))) x7 x8 (wrap64 (x9 + 1))) else (none)) else (none)) else (none)) else (some x3)
def spec_liSums.f (k : Nat) (l0 : List Int) : Option (List Int) := spec_liSums.l0 k ([] : List Int) 0 l0 (l0.length : Int) 0
theorem spec_liSums.mono_l : ∀ k, (∀ y0 y1 y2 y3 y4, LeO (spec_liSums.l0 k y0 y1 y2 y3 y4) (spec_liSums.l0 (k + 1) y0 y1 y2 y3 y4))
 | 0 => fun _ _ _ _ _ r h => by simp [spec_liSums.l0] at h
 | k + 1 => by
  have ih0 := spec_liSums.mono_l k
  ·intro y0 y1 y2 y3 y4
   unfold spec_liSums.l0
   repeat' first
   | (with_reducible exact ih0 _ _ _ _ _)
   | (with_reducible exact LeO.refl _)
   | (with_reducible exact LeO.none _)
   | (with_reducible refine LeO.ite ?_ ?_)
   | (with_reducible refine LeO.bind ?_ (fun _ => ?_))
   | exact ih0 _ _ _ _ _
   | exact LeO.none _
   | refine LeO.ite ?_ ?_
   | refine LeO.bind ?_ (fun _ => ?_)
theorem spec_liSums.mono : ∀ a0 k, LeO (spec_liSums.f k a0) (spec_liSums.f (k + 1) a0) := by
 intro a0 k
 have ih0 := spec_liSums.mono_l k
 unfold spec_liSums.f
 repeat' first
   | (with_reducible exact ih0 _ _ _ _ _)
   | (with_reducible exact LeO.refl _)
   | (with_reducible exact LeO.none _)
   | (with_reducible refine LeO.ite ?_ ?_)
   | (with_reducible refine LeO.bind ?_ (fun _ => ?_))
   | exact ih0 _ _ _ _ _
   | exact LeO.none _
   | refine LeO.ite ?_ ?_
   | refine LeO.bind ?_ (fun _ => ?_)
set_option maxHeartbeats 8000000 in
set_option maxRecDepth 100000 in
theorem spec_liSums.calls (k : Nat) (A0 : Option Addr) (c0 : Nat) (l0 : List Int) (r : List Int) (w : World) (hr0 : Kd.C (Kd.int .i64) w A0 l0.length l0) (hc0 : l0.length ≤ c0) (h : spec_liSums.f k l0 = some r) :
  Calls Try.prog 115 #[.slice A0 l0.length c0] w fun e w' => ∃ v0_ : Value, e = .returned (v0_) ∧ Kd.R (Kd.int .i64) 3 w' w.heap.size (fun _ => True) v0_ r ∧ Below w.heap.size w w' := by
 have HR0 := Aside0.mk hr0
 have HC0 := Aside0.mk hc0
 clear hr0 hc0
 have HB := Aside0.mk (Below.refl w.heap.size w)
 have H : (spec_liSums.l0 k ([] : List Int) 0 l0 (l0.length : Int) 0) = some r := h
 clear h
 have H' := Aside0.mk H
 clear H
 go_enter Try.func115, Try.ntmps115
 go_wp2
 go_loopg [3, 4, 9] k (fun kq v3 v4 v9 w' => ∃ (x3_1 : List Int) (x4_1 : Int) (x9_1 : Int), v4 = .int .i64 x4_1 ∧ v9 = .int .i64 x9_1 ∧ Aside0 (spec_liSums.l0 kq x3_1 x4_1 l0 (l0.length : Int) x9_1 = some r) ∧ Aside0 (kq ≤ k) ∧ Aside0 (Kd.R (Kd.int .i64) 3 w' w.heap.size (fun _ => True) v3 x3_1) ∧ Aside0 (Below w.heap.size w w'))
 case atStart => exact ⟨(([] : List Int)), (0), (0), (by first | rfl | (simp; done) | (simp [*]; done)), (by first | rfl | (simp; done) | (simp [*]; done)), H', ⟨Nat.le_refl _⟩, ⟨by first | exact Kd.R_nil _ _ _ _ _ | exact Kd.N_nil _ _ _ _ _ | exact Kd.V_nil _ _ _ _ _ | exact Kd.Q_nil _ _ _ _ _ | exact Kd.S_nil _ _ _ _ _⟩, ⟨by repeat (first | (with_reducible first | exact HB.out | apply below_alloc | apply pw_below_drewN | apply below_drew1) | exact HB.out)⟩⟩
 case round =>
  clear H'
  try clear c1
  obtain ⟨x3_1, x4_1, x9_1, rfl, rfl, HA, HK1, HO_3, HB⟩ := hrel
  cases gk with
  | zero => exact absurd HA.out (by simp [spec_liSums.l0])
  | succ k1 =>
   have H := HA.out
   clear HA
   simp only [spec_liSums.l0] at H
   by_cases c2 : x9_1 < (l0.length : Int)
   ·rw [if_pos c2] at H
    have c2b0 : decide (x9_1 < (l0.length : Int)) = true := decide_eq_true c2
    clear c2
    by_cases c3 : 0 ≤ x9_1
    ·rw [if_pos c3] at H
     have c3b0 : decide (0 ≤ x9_1) = true := decide_eq_true c3
     clear c3
     by_cases c4 : x9_1 < (l0.length : Int)
     ·rw [if_pos c4] at H
      have c4b0 : decide (x9_1 < (l0.length : Int)) = true := decide_eq_true c4
      clear c4
      by_cases c5 : x3_1.length < 17592186044416
      ·rw [if_pos c5] at H
       have LMc5 := Aside0.mk c5
       clear c5
       obtain ⟨y269, hy269⟩ : ∃ y_ : List Int, y_ = (x3_1 ++ [wrap64 (x4_1 + (rd l0 x9_1))]) := ⟨_, rfl⟩
       replace H : (spec_liSums.l0 k1 y269 (wrap64 (x4_1 + (rd l0 x9_1))) l0 (l0.length : Int) (wrap64 (x9_1 + 1))) = some r := by first | (rw [hy269]; with_reducible exact H) | (have H2_ := (Option.bind_some _ _).symm.trans H; rw [hy269]; with_reducible exact H2_) | (have H2_ := (Option.bind_some _ _).symm.trans H; with_reducible exact H2_) | with_reducible exact H | (rw [hy269]; exact H) | exact H
       have Ny269 := Aside0.mk hy269
       clear hy269
       have H' := Aside0.mk H
       clear H
       have p268 : 0 ≤ (x9_1 : Int) := of_decide_eq_true (by first | (with_reducible assumption) | assumption)
       have q268 : x9_1 < (l0.length : Int) := of_decide_eq_true (by first | (with_reducible assumption) | assumption)
       obtain ⟨ad268, e268, hx268_0⟩ := Kd.at_int HR0.out x9_1 p268 q268
       cases e268
       try replace hx268_0 := (HB.out.cell (World.block_lt_of_cell? w _ hx268_0)).trans hx268_0
       replace p268 := eq_true p268
       replace q268 := eq_true q268
       go_wp2_with (first | ((with_reducible refine gate_builtin (b := .append) (xs := #[.tmp 16, .tmp 18]) rfl ?_); at_builtin; refine Kd.R_append (Kd.int .i64) (w0 := w) w.heap.size rfl (.tmp 16) (.tmp 18) 24 3 (.int .i64 0) 8 rfl Try.underlying24 info3 rfl (by decide) (by omega) u3 x3_1 (wrap64 (x4_1 + (rd l0 x9_1))) [.int .i64 (wrap64 (x4_1 + (rd l0 x9_1)))] (fun _ => True) (fun _ => False) rfl rfl ?aP (fun _ hk => hk.elim) ?aF ?aO ?aB ?aS ?aL ?_; (case aP => exact rfl); (case aB => exact (by repeat (first | (with_reducible first | exact HB.out | apply below_alloc | apply pw_below_drewN | apply below_drew1) | exact HB.out))); (case aF => exact (fun _ _ => trivial)); (case aO => exact (by (with_reducible repeat (first | apply Kd.R_alloc | apply Kd.R_drewN | apply Kd.R_drew)); exact HO_3.out)); (case aS => exact (below_size (by repeat (first | (with_reducible first | exact HB.out | apply below_alloc | apply pw_below_drewN | apply below_drew1) | exact HB.out)))); (case aL => have := LMc5.out; omega); intro v270 w6 ho hb hg hat; rw [← Ny269.out] at ho; have n0_ := Aside0.mk (hb); have n1_ := Aside0.mk (ho); clear HB; clear HO_3; have HB := n0_; have HO271 := n1_; clear n0_ n1_; clear ho hb hg hat))
       go_roundg k1
       case measure => have := HK1.out; omega
       case rel => exact ⟨(y269), (wrap64 (x4_1 + (rd l0 x9_1))), (wrap64 (x9_1 + 1)), (by first | rfl | (simp; done) | (simp [*]; done)), (by first | rfl | (simp; done) | (simp [*]; done)), H', ⟨by have := HK1.out; omega⟩, ⟨by (with_reducible repeat (first | apply Kd.R_alloc | apply Kd.R_drewN | apply Kd.R_drew)); exact HO271.out⟩, ⟨by repeat (first | (with_reducible first | exact HB.out | apply below_alloc | apply pw_below_drewN | apply below_drew1) | exact HB.out)⟩⟩
      ·rw [if_neg c5] at H
       exact absurd H (by simp)
     ·rw [if_neg c4] at H
      exact absurd H (by simp)
    ·rw [if_neg c3] at H
     exact absurd H (by simp)
   ·rw [if_neg c2] at H
    have c2b0 : decide (x9_1 < (l0.length : Int)) = false := decide_eq_false c2
    clear c2
    obtain rfl := Option.some.inj H
    go_wp2
    go_ret
    exact ⟨_, by first | rfl | (simp [errW_none, errW_some] <;> rfl) | (simp [*, errW_none, errW_some] <;> rfl), by (with_reducible repeat (first | apply Kd.R_alloc | apply Kd.R_drewN | apply Kd.R_drew)); exact HO_3.out, by repeat (first | (with_reducible first | exact HB.out | apply below_alloc | apply pw_below_drewN | apply below_drew1) | exact HB.out)⟩

/-! ### spec_l1Most: function 161 -/
def spec_l1Most.f (a0 : Int) (a1 : Int) : Option (Int) := if a0 > a1 then (some a0) else (some a1)
set_option maxHeartbeats 8000000 in
set_option maxRecDepth 100000 in
theorem spec_l1Most.calls (a0 : Int) (a1 : Int) (r : Int) (w : World) (h : spec_l1Most.f a0 a1 = some r) :
  Calls Try.prog 161 #[.int .i64 a0, .int .i64 a1] w fun e w' => e = .returned (.int .i64 r) ∧ Drawn0 w w' := by
 have H : (if a0 > a1 then (some a0) else (some a1)) = some r := h
 clear h
 by_cases c3 : a0 > a1
 ·rw [if_pos c3] at H
  have c3b0 : decide (a1 < a0) = true := decide_eq_true c3
  clear c3
  obtain rfl := Option.some.inj H
  go_enter Try.func161, Try.ntmps161
  go_wp2
  go_ret
  exact ⟨by first | rfl | (simp; done) | (simp [*]; done), by repeat (first | exact Drawn0.refl _ | apply Drawn0.step)⟩
 ·rw [if_neg c3] at H
  have c3b0 : decide (a1 < a0) = false := decide_eq_false c3
  clear c3
  obtain rfl := Option.some.inj H
  go_enter Try.func161, Try.ntmps161
  go_wp2
  go_ret
  exact ⟨by first | rfl | (simp; done) | (simp [*]; done), by repeat (first | exact Drawn0.refl _ | apply Drawn0.step)⟩

/-! ### spec_plDistance: function 84 -/
def spec_plDistance.l0 : Nat → List Int → List Int → Int → Int → Int → Option (Int)
 | 0, _, _, _, _, _ => none
 | k + 1, x5, x6, x7, x14, x15 => if x15 < x14 then (if 0 ≤ x15 then (if x15 < (x5.length : Int) then (if x15 < (x6.length : Int) then ((spec_l1Most.f (wrap64 ((rd x5 x15) - (rd x6 x15))) (wrap64 ((rd x6 x15) - (rd x5 x15)))).bind fun t282 => (spec_plDistance.l0 k x5 x6 (wrap64 (x7 + t282)) x14 (wrap64 (x15 + 1)))) else (none)) else (none)) else (none)) else (some x7)
def spec_plDistance.f (k : Nat) (l0 : List Int) (l1 : List Int) : Option (Int) := (spec_liSums.f k l0).bind fun t272 => ((spec_liSums.f k l1).bind fun t275 => (spec_plDistance.l0 k t272 t275 0 (t272.length : Int) 0))
theorem spec_plDistance.mono_l : ∀ k, (∀ y0 y1 y2 y3 y4, LeO (spec_plDistance.l0 k y0 y1 y2 y3 y4) (spec_plDistance.l0 (k + 1) y0 y1 y2 y3 y4))
 | 0 => fun _ _ _ _ _ r h => by simp [spec_plDistance.l0] at h
 | k + 1 => by
  have ih0 := spec_plDistance.mono_l k
  ·intro y0 y1 y2 y3 y4
   unfold spec_plDistance.l0
   repeat' first
   | (with_reducible exact ih0 _ _ _ _ _)
   | (with_reducible exact spec_liSums.mono _ _)
   | (with_reducible exact LeO.refl _)
   | (with_reducible exact LeO.none _)
   | (with_reducible refine LeO.ite ?_ ?_)
   | (with_reducible refine LeO.bind ?_ (fun _ => ?_))
   | exact ih0 _ _ _ _ _
   | exact spec_liSums.mono _ _
   | exact LeO.none _
   | refine LeO.ite ?_ ?_
   | refine LeO.bind ?_ (fun _ => ?_)
theorem spec_plDistance.mono : ∀ a0 a1 k, LeO (spec_plDistance.f k a0 a1) (spec_plDistance.f (k + 1) a0 a1) := by
 intro a0 a1 k
 have ih0 := spec_plDistance.mono_l k
 unfold spec_plDistance.f
 repeat' first
   | (with_reducible exact ih0 _ _ _ _ _)
   | (with_reducible exact spec_liSums.mono _ _)
   | (with_reducible exact LeO.refl _)
   | (with_reducible exact LeO.none _)
   | (with_reducible refine LeO.ite ?_ ?_)
   | (with_reducible refine LeO.bind ?_ (fun _ => ?_))
   | exact ih0 _ _ _ _ _
   | exact spec_liSums.mono _ _
   | exact LeO.none _
   | refine LeO.ite ?_ ?_
   | refine LeO.bind ?_ (fun _ => ?_)
set_option maxHeartbeats 8000000 in
set_option maxRecDepth 100000 in
theorem spec_plDistance.calls (k : Nat) (A0 : Option Addr) (c0 : Nat) (l0 : List Int) (A1 : Option Addr) (c1 : Nat) (l1 : List Int) (r : Int) (w : World) (hr0 : Kd.C (Kd.int .i64) w A0 l0.length l0) (hc0 : l0.length ≤ c0) (hr1 : Kd.C (Kd.int .i64) w A1 l1.length l1) (hc1 : l1.length ≤ c1) (h : spec_plDistance.f k l0 l1 = some r) :
  Calls Try.prog 84 #[.slice A0 l0.length c0, .slice A1 l1.length c1] w fun e w' => e = .returned (.int .i64 r) ∧ Below w.heap.size w w' := by
 have HR0 := Aside0.mk hr0
 have HC0 := Aside0.mk hc0
 clear hr0 hc0
 have HR1 := Aside0.mk hr1
 have HC1 := Aside0.mk hc1
 clear hr1 hc1
 have HB := Aside0.mk (Below.refl w.heap.size w)
 have H : ((spec_liSums.f k l0).bind fun t272 => ((spec_liSums.f k l1).bind fun t275 => (spec_plDistance.l0 k t272 t275 0 (t272.length : Int) 0))) = some r := h
 clear h
 replace H := Option.bind_eq_some_iff.mp H
 obtain ⟨t272, A30, H⟩ := H
 replace H : ((spec_liSums.f k l1).bind fun t275 => (spec_plDistance.l0 k t272 t275 0 (t272.length : Int) 0)) = some r := H
 have A3 := Aside0.mk A30
 clear A30
 replace H := Option.bind_eq_some_iff.mp H
 obtain ⟨t275, A40, H⟩ := H
 replace H : (spec_plDistance.l0 k t272 t275 0 (t272.length : Int) 0) = some r := H
 have A4 := Aside0.mk A40
 clear A40
 have H' := Aside0.mk H
 clear H
 go_enter Try.func84, Try.ntmps84
 go_wp2_with (first | (go_at_call 115; (with_reducible refine (spec_liSums.calls k _ _ l0 t272 _ ?side1 ?side2 A3.out).mono ?_); (case side1 => repeat (first | exact HR0.out | (with_reducible refine Kd.C_alloc ?_ _) | (with_reducible refine Kd.C_drewN ?_ _) | (with_reducible refine Kd.C_drew ?_))); (case side2 => exact HC0.out); rintro e w5 ⟨v273, rfl, ho0, hb⟩; have n0_ := Aside0.mk (Kd.R_lower ho0 (below_size (by repeat (first | (with_reducible first | exact HB.out | apply below_alloc | apply pw_below_drewN | apply below_drew1) | exact HB.out)))); have n1_ := Aside0.mk (below_step (by repeat (first | (with_reducible first | exact HB.out | apply below_alloc | apply pw_below_drewN | apply below_drew1) | exact HB.out)) hb); clear HB; have HO274 := n0_; have HB := n1_; clear n0_ n1_; (try clear hb); (try clear hb2); (try clear hk); (try clear hi); (try clear ho0)) | (go_at_call 115; (with_reducible refine (spec_liSums.calls k _ _ l1 t275 _ ?side1 ?side2 A4.out).mono ?_); (case side1 => repeat (first | exact (Kd.C_below HR1.out HB.out) | (with_reducible refine Kd.C_alloc ?_ _) | (with_reducible refine Kd.C_drewN ?_ _) | (with_reducible refine Kd.C_drew ?_))); (case side2 => exact HC1.out); rintro e w6 ⟨v276, rfl, ho0, hb⟩; have n0_ := Aside0.mk (Kd.R_elder' (by (with_reducible repeat (first | apply Kd.R_alloc | apply Kd.R_drewN | apply Kd.R_drew)); exact HO274.out) (Kd.R_base ho0) hb); have n1_ := Aside0.mk (Kd.R_lower (Kd.R_new' ho0 (Kd.R_lt (by (with_reducible repeat (first | apply Kd.R_alloc | apply Kd.R_drewN | apply Kd.R_drew)); exact HO274.out))) (below_size (by repeat (first | (with_reducible first | exact HB.out | apply below_alloc | apply pw_below_drewN | apply below_drew1) | exact HB.out)))); have n2_ := Aside0.mk (below_step (by repeat (first | (with_reducible first | exact HB.out | apply below_alloc | apply pw_below_drewN | apply below_drew1) | exact HB.out)) hb); clear HO274; clear HB; have HO274 := n0_; have HO277 := n1_; have HB := n2_; clear n0_ n1_ n2_; (try clear hb); (try clear hb2); (try clear hk); (try clear hi); (try clear ho0); obtain ⟨Ao7, co7, eo7⟩ := Kd.R_slice HO274.out; subst eo7))
 repeat (go_quiet (first | (go_at_call 115; (with_reducible refine (spec_liSums.calls k _ _ l0 t272 _ ?side1 ?side2 A3.out).mono ?_); (case side1 => repeat (first | exact HR0.out | (with_reducible refine Kd.C_alloc ?_ _) | (with_reducible refine Kd.C_drewN ?_ _) | (with_reducible refine Kd.C_drew ?_))); (case side2 => exact HC0.out); rintro e w5 ⟨v273, rfl, ho0, hb⟩; have n0_ := Aside0.mk (Kd.R_lower ho0 (below_size (by repeat (first | (with_reducible first | exact HB.out | apply below_alloc | apply pw_below_drewN | apply below_drew1) | exact HB.out)))); have n1_ := Aside0.mk (below_step (by repeat (first | (with_reducible first | exact HB.out | apply below_alloc | apply pw_below_drewN | apply below_drew1) | exact HB.out)) hb); clear HB; have HO274 := n0_; have HB := n1_; clear n0_ n1_; (try clear hb); (try clear hb2); (try clear hk); (try clear hi); (try clear ho0)) | (go_at_call 115; (with_reducible refine (spec_liSums.calls k _ _ l1 t275 _ ?side1 ?side2 A4.out).mono ?_); (case side1 => repeat (first | exact (Kd.C_below HR1.out HB.out) | (with_reducible refine Kd.C_alloc ?_ _) | (with_reducible refine Kd.C_drewN ?_ _) | (with_reducible refine Kd.C_drew ?_))); (case side2 => exact HC1.out); rintro e w6 ⟨v276, rfl, ho0, hb⟩; have n0_ := Aside0.mk (Kd.R_elder' (by (with_reducible repeat (first | apply Kd.R_alloc | apply Kd.R_drewN | apply Kd.R_drew)); exact HO274.out) (Kd.R_base ho0) hb); have n1_ := Aside0.mk (Kd.R_lower (Kd.R_new' ho0 (Kd.R_lt (by (with_reducible repeat (first | apply Kd.R_alloc | apply Kd.R_drewN | apply Kd.R_drew)); exact HO274.out))) (below_size (by repeat (first | (with_reducible first | exact HB.out | apply below_alloc | apply pw_below_drewN | apply below_drew1) | exact HB.out)))); have n2_ := Aside0.mk (below_step (by repeat (first | (with_reducible first | exact HB.out | apply below_alloc | apply pw_below_drewN | apply below_drew1) | exact HB.out)) hb); clear HO274; clear HB; have HO274 := n0_; have HO277 := n1_; have HB := n2_; clear n0_ n1_ n2_; (try clear hb); (try clear hb2); (try clear hk); (try clear hi); (try clear ho0); obtain ⟨Ao7, co7, eo7⟩ := Kd.R_slice HO274.out; subst eo7)); try go_wp2_with (first | (go_at_call 115; (with_reducible refine (spec_liSums.calls k _ _ l0 t272 _ ?side1 ?side2 A3.out).mono ?_); (case side1 => repeat (first | exact HR0.out | (with_reducible refine Kd.C_alloc ?_ _) | (with_reducible refine Kd.C_drewN ?_ _) | (with_reducible refine Kd.C_drew ?_))); (case side2 => exact HC0.out); rintro e w5 ⟨v273, rfl, ho0, hb⟩; have n0_ := Aside0.mk (Kd.R_lower ho0 (below_size (by repeat (first | (with_reducible first | exact HB.out | apply below_alloc | apply pw_below_drewN | apply below_drew1) | exact HB.out)))); have n1_ := Aside0.mk (below_step (by repeat (first | (with_reducible first | exact HB.out | apply below_alloc | apply pw_below_drewN | apply below_drew1) | exact HB.out)) hb); clear HB; have HO274 := n0_; have HB := n1_; clear n0_ n1_; (try clear hb); (try clear hb2); (try clear hk); (try clear hi); (try clear ho0)) | (go_at_call 115; (with_reducible refine (spec_liSums.calls k _ _ l1 t275 _ ?side1 ?side2 A4.out).mono ?_); (case side1 => repeat (first | exact (Kd.C_below HR1.out HB.out) | (with_reducible refine Kd.C_alloc ?_ _) | (with_reducible refine Kd.C_drewN ?_ _) | (with_reducible refine Kd.C_drew ?_))); (case side2 => exact HC1.out); rintro e w6 ⟨v276, rfl, ho0, hb⟩; have n0_ := Aside0.mk (Kd.R_elder' (by (with_reducible repeat (first | apply Kd.R_alloc | apply Kd.R_drewN | apply Kd.R_drew)); exact HO274.out) (Kd.R_base ho0) hb); have n1_ := Aside0.mk (Kd.R_lower (Kd.R_new' ho0 (Kd.R_lt (by (with_reducible repeat (first | apply Kd.R_alloc | apply Kd.R_drewN | apply Kd.R_drew)); exact HO274.out))) (below_size (by repeat (first | (with_reducible first | exact HB.out | apply below_alloc | apply pw_below_drewN | apply below_drew1) | exact HB.out)))); have n2_ := Aside0.mk (below_step (by repeat (first | (with_reducible first | exact HB.out | apply below_alloc | apply pw_below_drewN | apply below_drew1) | exact HB.out)) hb); clear HO274; clear HB; have HO274 := n0_; have HO277 := n1_; have HB := n2_; clear n0_ n1_ n2_; (try clear hb); (try clear hb2); (try clear hk); (try clear hi); (try clear ho0); obtain ⟨Ao7, co7, eo7⟩ := Kd.R_slice HO274.out; subst eo7)))
 go_loopg [7, 15] k (fun kq v7 v15 w' => ∃ (x7_1 : Int) (x15_1 : Int), v7 = .int .i64 x7_1 ∧ v15 = .int .i64 x15_1 ∧ Aside0 (spec_plDistance.l0 kq t272 t275 x7_1 (t272.length : Int) x15_1 = some r) ∧ Aside0 (kq ≤ k) ∧ Aside0 (Kd.R (Kd.int .i64) 3 w' w.heap.size (fun k_ => some k_ ≠ (v276 : Value).ownBlock) (.slice Ao7 t272.length co7) t272) ∧ Aside0 (Kd.R (Kd.int .i64) 3 w' w.heap.size (fun k_ => some k_ ≠ ((.slice Ao7 t272.length co7) : Value).ownBlock) v276 t275) ∧ Aside0 (Below w.heap.size w w'))
 case atStart => exact ⟨(0), (0), (by first | rfl | (simp; done) | (simp [*]; done)), (by first | rfl | (simp; done) | (simp [*]; done)), H', ⟨Nat.le_refl _⟩, ⟨by (with_reducible repeat (first | apply Kd.R_alloc | apply Kd.R_drewN | apply Kd.R_drew)); exact Kd.R_mono HO274.out (fun _ hk => hk.2)⟩, ⟨by (with_reducible repeat (first | apply Kd.R_alloc | apply Kd.R_drewN | apply Kd.R_drew)); exact Kd.R_mono HO277.out (fun _ hk => hk.2)⟩, ⟨by repeat (first | (with_reducible first | exact HB.out | apply below_alloc | apply pw_below_drewN | apply below_drew1) | exact HB.out)⟩⟩
 case round =>
  clear H'
  try clear c1
  try clear p2
  obtain ⟨x7_1, x15_1, rfl, rfl, HA, HK1, HO_5, HO_6, HB⟩ := hrel
  cases gk with
  | zero => exact absurd HA.out (by simp [spec_plDistance.l0])
  | succ k1 =>
   have H := HA.out
   clear HA
   simp only [spec_plDistance.l0] at H
   by_cases c8 : x15_1 < (t272.length : Int)
   ·rw [if_pos c8] at H
    have c8b0 : decide (x15_1 < (t272.length : Int)) = true := decide_eq_true c8
    clear c8
    by_cases c9 : 0 ≤ x15_1
    ·rw [if_pos c9] at H
     have c9b0 : decide (0 ≤ x15_1) = true := decide_eq_true c9
     clear c9
     by_cases c10 : x15_1 < (t272.length : Int)
     ·rw [if_pos c10] at H
      have c10b0 : decide (x15_1 < (t272.length : Int)) = true := decide_eq_true c10
      clear c10
      by_cases c11 : x15_1 < (t275.length : Int)
      ·rw [if_pos c11] at H
       have c11b0 : decide (x15_1 < (t275.length : Int)) = true := decide_eq_true c11
       clear c11
       replace H := Option.bind_eq_some_iff.mp H
       obtain ⟨t282, A120, H⟩ := H
       replace H : (spec_plDistance.l0 k1 t272 t275 (wrap64 (x7_1 + t282)) (t272.length : Int) (wrap64 (x15_1 + 1))) = some r := H
       have A12 := Aside0.mk A120
       clear A120
       have H' := Aside0.mk H
       clear H
       have p278 : 0 ≤ (x15_1 : Int) := of_decide_eq_true (by first | (with_reducible assumption) | assumption)
       have q278 : x15_1 < (t272.length : Int) := of_decide_eq_true (by first | (with_reducible assumption) | assumption)
       obtain ⟨ad278, e278, hx278_0⟩ := Kd.at_int (Kd.R_reads' HO_5.out).2.2 x15_1 p278 q278
       cases e278
       replace p278 := eq_true p278
       replace q278 := eq_true q278
       obtain ⟨Ao13, co13, eo13⟩ := Kd.R_slice HO_6.out
       subst eo13
       have p279 : 0 ≤ (x15_1 : Int) := of_decide_eq_true (by first | (with_reducible assumption) | assumption)
       have q279 : x15_1 < (t275.length : Int) := of_decide_eq_true (by first | (with_reducible assumption) | assumption)
       obtain ⟨ad279, e279, hx279_0⟩ := Kd.at_int (Kd.R_reads' HO_6.out).2.2 x15_1 p279 q279
       cases e279
       replace p279 := eq_true p279
       replace q279 := eq_true q279
       have p280 : 0 ≤ (x15_1 : Int) := of_decide_eq_true (by first | (with_reducible assumption) | assumption)
       have q280 : x15_1 < (t275.length : Int) := of_decide_eq_true (by first | (with_reducible assumption) | assumption)
       obtain ⟨ad280, e280, hx280_0⟩ := Kd.at_int (Kd.R_reads' HO_6.out).2.2 x15_1 p280 q280
       obtain rfl : ad279 = ad280 := (by injection e280)
       replace p280 := eq_true p280
       replace q280 := eq_true q280
       have p281 : 0 ≤ (x15_1 : Int) := of_decide_eq_true (by first | (with_reducible assumption) | assumption)
       have q281 : x15_1 < (t272.length : Int) := of_decide_eq_true (by first | (with_reducible assumption) | assumption)
       obtain ⟨ad281, e281, hx281_0⟩ := Kd.at_int (Kd.R_reads' HO_5.out).2.2 x15_1 p281 q281
       obtain rfl : ad278 = ad281 := (by injection e281)
       replace p281 := eq_true p281
       replace q281 := eq_true q281
       go_wp2_with (first | (go_at_call 161; (with_reducible refine (spec_l1Most.calls (wrap64 ((rd t272 x15_1) - (rd t275 x15_1))) (wrap64 ((rd t275 x15_1) - (rd t272 x15_1))) t282 _ A12.out).mono ?_); rintro e w' ⟨rfl, ⟨nd, rfl⟩⟩; (try first | exact ⟨rfl, _, World.drewN_drewN _ _ _⟩ | exact ⟨rfl, _, Eq.trans (World.drewN_drewN _ _ _) (congrArg (World.drewN _) (Nat.add_assoc _ _ _))⟩)))
       repeat (go_quiet (first | (go_at_call 161; (with_reducible refine (spec_l1Most.calls (wrap64 ((rd t272 x15_1) - (rd t275 x15_1))) (wrap64 ((rd t275 x15_1) - (rd t272 x15_1))) t282 _ A12.out).mono ?_); rintro e w' ⟨rfl, ⟨nd, rfl⟩⟩; (try first | exact ⟨rfl, _, World.drewN_drewN _ _ _⟩ | exact ⟨rfl, _, Eq.trans (World.drewN_drewN _ _ _) (congrArg (World.drewN _) (Nat.add_assoc _ _ _))⟩))); try go_wp2_with (first | (go_at_call 161; (with_reducible refine (spec_l1Most.calls (wrap64 ((rd t272 x15_1) - (rd t275 x15_1))) (wrap64 ((rd t275 x15_1) - (rd t272 x15_1))) t282 _ A12.out).mono ?_); rintro e w' ⟨rfl, ⟨nd, rfl⟩⟩; (try first | exact ⟨rfl, _, World.drewN_drewN _ _ _⟩ | exact ⟨rfl, _, Eq.trans (World.drewN_drewN _ _ _) (congrArg (World.drewN _) (Nat.add_assoc _ _ _))⟩))))
       go_roundg k1
       case measure => have := HK1.out; omega
       case rel => exact ⟨(wrap64 (x7_1 + t282)), (wrap64 (x15_1 + 1)), (by first | rfl | (simp; done) | (simp [*]; done)), (by first | rfl | (simp; done) | (simp [*]; done)), H', ⟨by have := HK1.out; omega⟩, ⟨by (with_reducible repeat (first | apply Kd.R_alloc | apply Kd.R_drewN | apply Kd.R_drew)); exact HO_5.out⟩, ⟨by (with_reducible repeat (first | apply Kd.R_alloc | apply Kd.R_drewN | apply Kd.R_drew)); exact HO_6.out⟩, ⟨by repeat (first | (with_reducible first | exact HB.out | apply below_alloc | apply pw_below_drewN | apply below_drew1) | exact HB.out)⟩⟩
      ·rw [if_neg c11] at H
       exact absurd H (by simp)
     ·rw [if_neg c10] at H
      exact absurd H (by simp)
    ·rw [if_neg c9] at H
     exact absurd H (by simp)
   ·rw [if_neg c8] at H
    have c8b0 : decide (x15_1 < (t272.length : Int)) = false := decide_eq_false c8
    clear c8
    obtain rfl := Option.some.inj H
    go_wp2
    repeat (go_quiet (fail); try go_wp2)
    go_ret
    exact ⟨by first | rfl | (simp [errW_none, errW_some] <;> rfl) | (simp [*, errW_none, errW_some] <;> rfl), by repeat (first | (with_reducible first | exact HB.out | apply below_alloc | apply pw_below_drewN | apply below_drew1) | exact HB.out)⟩

end Go.Proofs.Ytojklddddedoeaa.PFnMonotonePlans
-- SLIM
