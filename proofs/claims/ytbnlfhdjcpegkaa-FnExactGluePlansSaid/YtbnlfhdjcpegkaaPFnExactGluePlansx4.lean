/- For each Go function that the law uses, a Lean function with the same answers and a proof that its call comes to them; the conditions stand in each theorem. (Written by a program of this session, turned from the print of the kit.) -/
import Derived.Test.YtbnlfhdjcpegkaaPFnExactGluePlansx0
import Derived.Test.YtbnlfhdjcpegkaaPFnExactGluePlansx2
import Derived.Test.YtbnlfhdjcpegkaaPFnExactGluePlansx3
namespace Go.Proofs.Ytbnlfhdjcpegkaa.PFnExactGluePlans
open Go.RowKit Go.Proofs.YtbnlfhdjcpegkaaW.PrintWords Go.Proofs.YtbnlfhdjcpegkaaW.PrintLast Go.Proofs.YtbnlfhdjcpegkaaW.PrintMore
attribute [local go_sem] max2_int min2_int max_two min_two max_three min_three max_four min_four   -- for this text's walks alone
set_option linter.unusedVariables false
set_option linter.unusedSimpArgs false

/-! ### spec_plMonotone: function 53 -/
/-- The rounds of carrying. -/
def spec_plMonotone.l0 (n1 n2 : Int) : Nat → List (List Int) → List Int → List Int → Int → Int → Option (List (List Int))
  | 0, _, _, _, _, _ => none
  | k + 1, m, a, b, i, j => if i < n1 then (if j < n2 then (if 0 ≤ i then (if i < (a.length : Int) then (if 0 ≤ j then (if j < (b.length : Int) then ((spec_l1Least.f (rd a i) (rd b j)).bind fun x => (if i < (m.length : Int) then (if j < ((rd_L1 m i).length : Int) then (if rd (a.set i.toNat (wrap64 (rd a i - x))) i = 0 then spec_plMonotone.l0 n1 n2 k (m.set i.toNat ((rd_L1 m i).set j.toNat (wrap64 (rd (rd_L1 m i) j + x)))) (a.set i.toNat (wrap64 (rd a i - x))) (b.set j.toNat (wrap64 (rd b j - x))) (wrap64 (i + 1)) j else spec_plMonotone.l0 n1 n2 k (m.set i.toNat ((rd_L1 m i).set j.toNat (wrap64 (rd (rd_L1 m i) j + x)))) (a.set i.toNat (wrap64 (rd a i - x))) (b.set j.toNat (wrap64 (rd b j - x))) i (wrap64 (j + 1))) else none) else none)) else none) else none) else none) else none) else some m) else some m
def spec_plMonotone.f (k : Nat) (l0 l1 : List Int) : Option (List (List Int)) := (spec_plEmpty.f k (l0.length : Int)).bind fun m => (spec_l1Own.f l0).bind fun a => (spec_l1Own.f l1).bind fun b => if 0 < m.length then spec_plMonotone.l0 (l0.length : Int) (l1.length : Int) k m a b 0 0 else none
theorem spec_plMonotone.l0_mono (n1 n2 : Int) : ∀ k m a b i j, LeO (spec_plMonotone.l0 n1 n2 k m a b i j) (spec_plMonotone.l0 n1 n2 (k + 1) m a b i j)
  | 0, _, _, _, _, _ => fun r h => by simp [spec_plMonotone.l0] at h
  | k + 1, m, a, b, i, j => by
    rw [spec_plMonotone.l0, spec_plMonotone.l0]
    exact LeO.ite (LeO.ite (LeO.ite (LeO.ite (LeO.ite (LeO.ite (LeO.bind (LeO.refl _) (fun _ => LeO.ite (LeO.ite (LeO.ite (spec_plMonotone.l0_mono n1 n2 k _ _ _ _ _) (spec_plMonotone.l0_mono n1 n2 k _ _ _ _ _)) (LeO.none _)) (LeO.none _))) (LeO.none _)) (LeO.none _)) (LeO.none _)) (LeO.none _)) (LeO.refl _)) (LeO.refl _)
theorem spec_plMonotone.mono : ∀ a0 a1 k, LeO (spec_plMonotone.f k a0 a1) (spec_plMonotone.f (k + 1) a0 a1) := by
  intro a0 a1 k
  unfold spec_plMonotone.f
  exact LeO.bind (spec_plEmpty.mono _ _) (fun _ => LeO.bind (LeO.refl _) (fun _ => LeO.bind (LeO.refl _) (fun _ => LeO.ite (spec_plMonotone.l0_mono _ _ k _ _ _ _ _) (LeO.none _))))

/-- One row of rows that are apart has been written. -/
theorem spec_plMonotone.row_step {w w1 : World} {base : Nat} {P0_ : Nat → Prop} {g n cap : Nat} {m : List (List Int)} {r : List Int} {i : Int} {oki : Nat → Prop} {c : List Value} {u : Value} {q : Nat}
    (hu : c = [u]) (hoki : ∀ k, oki k → P0_ k ∧ k ≠ g) (hH : Kd.H (Kd.slice 3 (Kd.int .i64)) 34 w base P0_ (.slice (some ⟨g, 0, none⟩) n cap) m i oki c)
    (hq : u.ownBlock = some q) (hqo : oki q) {ok1 : Nat → Prop} (hr : Kd.R (Kd.int .i64) 3 w1 base ok1 u r) (hk : w.grownBy w1 (some q)) :
    Kd.S (Kd.slice 3 (Kd.int .i64)) 34 w1 base P0_ (.slice (some ⟨g, 0, none⟩) n cap) (m.set i.toNat r) := by
  have h1 := Kd.H_step (w1 := w1) hH (fun k _ hn hlt => hk.block k hlt (fun he => hn (by cases he; exact hqo)))
  refine Kd.H_back (okp := fun k => some k = u.ownBlock) h1 ?_ (fun k hk => by rw [hq] at hk; cases hk; exact hqo)
  rw [hu]
  exact Kd.M_row (Kd.R_tight rfl hr)

theorem spec_plMonotone.block_lt {w : World} {A : Option Addr} {n cap base : Nat} {ok : Nat → Prop} {l : List Int} (h : Kd.R (Kd.int .i64) 3 w base ok (.slice A n cap) l) (hp : 0 < l.length) : ∃ g, A = some ⟨g, 0, none⟩ ∧ base ≤ g ∧ ok g := by
  obtain ⟨g, c, e, hb, _⟩ := Kd.R_form h hp
  injection e with e1 e2 e3
  exact ⟨g, e1, hb, h.1 _ (by rw [e1]; rfl)⟩

set_option maxHeartbeats 8000000 in
set_option maxRecDepth 100000 in
theorem spec_plMonotone.calls (k : Nat) (A0 : Option Addr) (c0 : Nat) (l0 : List Int) (A1 : Option Addr) (c1 : Nat) (l1 : List Int) (r : List (List Int)) (w : World) (hr0 : Kd.C (Kd.int .i64) w A0 l0.length l0) (hc0 : l0.length ≤ c0) (hr1 : Kd.C (Kd.int .i64) w A1 l1.length l1) (hc1 : l1.length ≤ c1) (h : spec_plMonotone.f k l0 l1 = some r) :
    Calls Try.prog 53 #[.slice A0 l0.length c0, .slice A1 l1.length c1] w fun e w' => ∃ v0_ : Value, e = .returned (v0_) ∧ Kd.S (Kd.slice 3 (Kd.int .i64)) 34 w' w.heap.size (fun _ => True) v0_ r ∧ Below w.heap.size w w' := by
  unfold spec_plMonotone.f at h
  replace h := Option.bind_eq_some_iff.mp h
  obtain ⟨m, hm, h⟩ := h
  replace h := Option.bind_eq_some_iff.mp h
  obtain ⟨a, ha, h⟩ := h
  replace h := Option.bind_eq_some_iff.mp h
  obtain ⟨b, hb, h⟩ := h
  by_cases hl : ¬ 0 < m.length
  · rw [if_neg hl] at h
    exact absurd h (by simp)
  replace hl := Decidable.not_not.mp hl
  rw [if_pos hl] at h
  have HM := Aside0.mk hm
  have HL := Aside0.mk hl
  have HA := Aside0.mk ha
  have HB := Aside0.mk hb
  have HH := Aside0.mk h
  have HR0 := Aside0.mk hr0
  have HC0 := Aside0.mk hc0
  have HR1 := Aside0.mk hr1
  have HC1 := Aside0.mk hc1
  clear hm hl ha hb h hr0 hc0 hr1 hc1
  go_enter Try.func53, Try.ntmps53
  go_wp2_with (first
    | (go_at_call 66; (with_reducible refine (spec_plEmpty.calls k (l0.length : Int) m _ HM.out).mono ?_); rintro e w1 ⟨vm, rfl, hS, hb0⟩; obtain ⟨g, cap, ev, _⟩ := Kd.S_form hS HL.out; subst ev; have HS1 := Aside0.mk hS; have HB0 := Aside0.mk hb0; clear hS hb0)
    | (go_at_call 101; (with_reducible refine (spec_l1Own.calls A0 c0 l0 a _ ?side1 ?side2 HA.out).mono ?_); (case side1 => repeat (first | exact (Kd.C_below HR0.out HB0.out) | (with_reducible refine Kd.C_alloc ?_ _) | (with_reducible refine Kd.C_drewN ?_ _) | (with_reducible refine Kd.C_drew ?_))); (case side2 => exact HC0.out); rintro e w2 ⟨va, rfl, hA, hb1⟩; have HVA := Aside0.mk hA; have HB1 := Aside0.mk hb1; clear hA hb1)
    | (go_at_call 101; (with_reducible refine (spec_l1Own.calls A1 c1 l1 b _ ?side3 ?side4 HB.out).mono ?_); (case side3 => exact Kd.C_below (Kd.C_below HR1.out HB0.out) HB1.out); (case side4 => exact HC1.out); rintro e w3 ⟨vb, rfl, hB, hb2⟩; have HVB := Aside0.mk hB; have HB2 := Aside0.mk hb2; clear hB hb2))
  obtain ⟨NA, hNA⟩ : ∃ q_, q_ = w1.heap.size := ⟨_, rfl⟩
  obtain ⟨NB, hNB⟩ : ∃ q_, q_ = w2.heap.size := ⟨_, rfl⟩
  obtain ⟨NC, hNC⟩ : ∃ q_, q_ = w3.heap.size := ⟨_, rfl⟩
  have LA : w.heap.size ≤ NA := by have := HB0.out.size; omega
  have LB : NA ≤ NB := by have := HB1.out.size; omega
  have LC : NB ≤ NC := by have := HB2.out.size; omega
  have HO2 := Aside0.mk (show Kd.S (Kd.slice 3 (Kd.int .i64)) 34 w3 w.heap.size (fun k => w.heap.size ≤ k ∧ k < NA) (.slice (some ⟨g, 0, none⟩) m.length cap) m from Kd.S_below (Kd.S_below (Kd.S_mono (Kd.S_bound HS1.out) (fun k hk => ⟨hk.2.1, by have := hk.2.2.1; omega⟩)) HB1.out) HB2.out)
  have HVA2 := Aside0.mk (show Kd.R (Kd.int .i64) 3 w3 w.heap.size (fun k => NA ≤ k ∧ k < NB) va a from Kd.R_lower (Kd.R_below (Kd.R_mono (Kd.R_bound HVA.out) (fun k hk => ⟨by have := hk.2.1; omega, by have := hk.2.2.1; omega⟩)) HB2.out) HB0.out.size)
  have HVB2 := Aside0.mk (show Kd.R (Kd.int .i64) 3 w3 w.heap.size (fun k => NB ≤ k ∧ k < NC) vb b from Kd.R_lower (Kd.R_mono (Kd.R_bound HVB.out) (fun k hk => ⟨by have := hk.2.1; omega, by have := hk.2.2.1; omega⟩)) (Nat.le_trans HB0.out.size HB1.out.size))
  have HW0 := Aside0.mk ((HB0.out.trans (HB1.out.mono HB0.out.size)).trans (HB2.out.mono (Nat.le_trans HB0.out.size HB1.out.size)))
  clear HVA HVB HB0 HB1 HB2 hNA hNB hNC HS1 HR0 HC0 HR1 HC1
  obtain ⟨Aa, ca, ea⟩ := Kd.R_slice HVA2.out
  subst ea
  obtain ⟨Ab, cb, eb⟩ := Kd.R_slice HVB2.out
  subst eb
  go_loopg [8, 9] k (fun kq v6 v7 wr => ∃ (m' : List (List Int)) (a' b' : List Int) (i j : Int), v6 = .int .i64 i ∧ v7 = .int .i64 j ∧ Aside0 (a'.length = a.length) ∧ Aside0 (b'.length = b.length) ∧ Aside0 (spec_plMonotone.l0 (l0.length : Int) (l1.length : Int) kq m' a' b' i j = some r) ∧ Aside0 (kq ≤ k) ∧ Aside0 (Kd.S (Kd.slice 3 (Kd.int .i64)) 34 wr w.heap.size (fun k => w.heap.size ≤ k ∧ k < NA) (.slice (some ⟨g, 0, none⟩) m.length cap) m') ∧ Aside0 (Kd.R (Kd.int .i64) 3 wr w.heap.size (fun k => NA ≤ k ∧ k < NB) (.slice Aa a.length ca) a') ∧ Aside0 (Kd.R (Kd.int .i64) 3 wr w.heap.size (fun k => NB ≤ k ∧ k < NC) (.slice Ab b.length cb) b') ∧ Aside0 (Below w.heap.size w wr))
  case atStart => exact ⟨m, a, b, 0, 0, rfl, rfl, ⟨rfl⟩, ⟨rfl⟩, HH, ⟨Nat.le_refl _⟩, HO2, HVA2, HVB2, HW0⟩
  case round =>
    clear HH HO2 HVA2 HVB2 HW0
    obtain ⟨m', a', b', i, j, rfl, rfl, HLA, HLB, HQ, HKQ, HO, HVA, HVB, HW⟩ := hrel
    cases gk with
    | zero => exact absurd HQ.out (by simp [spec_plMonotone.l0])
    | succ k1 =>
      have H := HQ.out
      clear HQ
      simp only [spec_plMonotone.l0] at H
      rw [HLA.out, HLB.out] at H
      by_cases di : i < (l0.length : Int)
      · rw [if_pos di] at H
        by_cases dj : j < (l1.length : Int)
        · rw [if_pos dj] at H
          by_cases ci0 : ¬ 0 ≤ i
          · rw [if_neg ci0] at H
            exact absurd H (by simp)
          replace ci0 := Decidable.not_not.mp ci0
          rw [if_pos ci0] at H
          by_cases ci : ¬ i < (a.length : Int)
          · rw [if_neg ci] at H
            exact absurd H (by simp)
          replace ci := Decidable.not_not.mp ci
          rw [if_pos ci] at H
          by_cases cj0 : ¬ 0 ≤ j
          · rw [if_neg cj0] at H
            exact absurd H (by simp)
          replace cj0 := Decidable.not_not.mp cj0
          rw [if_pos cj0] at H
          by_cases cj : ¬ j < (b.length : Int)
          · rw [if_neg cj] at H
            exact absurd H (by simp)
          replace cj := Decidable.not_not.mp cj
          rw [if_pos cj] at H
          replace H := Option.bind_eq_some_iff.mp H
          obtain ⟨x, hx, H⟩ := H
          have HX := Aside0.mk hx
          clear hx
          by_cases cm : ¬ i < (m'.length : Int)
          · rw [if_neg cm] at H
            exact absurd H (by simp)
          replace cm := Decidable.not_not.mp cm
          rw [if_pos cm] at H
          by_cases cr : ¬ j < ((rd_L1 m' i).length : Int)
          · rw [if_neg cr] at H
            exact absurd H (by simp)
          replace cr := Decidable.not_not.mp cr
          rw [if_pos cr] at H
          have HM2 := Aside0.mk cm
          have HRW := Aside0.mk cr
          have HI := Aside0.mk ci
          have HJ := Aside0.mk cj
          have HI0 := Aside0.mk ci0
          have HJ0 := Aside0.mk cj0
          obtain ⟨ga, eA, hbA, hoA⟩ := spec_plMonotone.block_lt HVA.out (by have := HLA.out; omega)
          obtain ⟨gb, eB, hbB, hoB⟩ := spec_plMonotone.block_lt HVB.out (by have := HLB.out; omega)
          subst eA
          subst eB
          obtain ⟨hxa, hfa⟩ := Kd.R_celln 0 HVA.out i ci0 ci
          obtain ⟨hxb, hfb⟩ := Kd.R_celln 0 HVB.out j cj0 cj
          replace hxa : wr.cell? ⟨ga, i.toNat, none⟩ = some (.int .i64 (rd a' i)) := hxa
          replace hxb : wr.cell? ⟨gb, j.toNat, none⟩ = some (.int .i64 (rd b' j)) := hxb
          have HGA := Aside0.mk (show NA ≤ ga ∧ ga < NB from hoA)
          have HGB := Aside0.mk (show NB ≤ gb ∧ gb < NC from hoB)
          clear hbA hoA hbB hoB
          obtain ⟨y, hy⟩ : ∃ q_, q_ = a'.set i.toNat (wrap64 (rd a' i - x)) := ⟨_, rfl⟩
          rw [← hy] at H
          obtain ⟨z, hz⟩ : ∃ q_, q_ = b'.set j.toNat (wrap64 (rd b' j - x)) := ⟨_, rfl⟩
          rw [← hz] at H
          obtain ⟨m2, hm2⟩ : ∃ q_, q_ = m'.set i.toNat ((rd_L1 m' i).set j.toNat (wrap64 (rd (rd_L1 m' i) j + x))) := ⟨_, rfl⟩
          rw [← hm2] at H
          have Ny := Aside0.mk hy
          have Nz := Aside0.mk hz
          have Nm2 := Aside0.mk hm2
          clear hy hz hm2 cm cr
          replace di := eq_true di
          replace dj := eq_true dj
          replace ci := eq_true ci
          replace cj := eq_true cj
          replace ci0 := eq_true ci0
          replace cj0 := eq_true cj0
          by_cases cz : rd y i = 0
          · rw [if_pos cz] at H
            have H' := Aside0.mk H
            clear H
            have cz0 : (rd y i == 0) = true := beq_iff_eq.mpr cz
            clear cz
            go_upto_region 5 with (fail)
            (try simp only [Act.put, List.setIfInBounds_toArray, List.set_cons_zero, List.set_cons_succ])
            go_cut [10] (fun v10 wc => v10 = .int .i64 x ∧ ∃ nq, wc = wr.drewN nq)
            case first =>
              go_quiet ((go_at_call 58; (with_reducible refine (spec_l1Least.calls (rd a' i) (rd b' j) x _ HX.out).mono ?_); rintro e w' ⟨rfl, ⟨nd, rfl⟩⟩; (try first | exact ⟨rfl, _, World.drewN_drewN _ _ _⟩ | exact ⟨rfl, _, Eq.trans (World.drewN_drewN _ _ _) (congrArg (World.drewN _) (Nat.add_assoc _ _ _))⟩)))
              go_wp2
              go_meet
              case rel => exact ⟨rfl, _, rfl⟩
            case rest =>
              obtain ⟨rfl, nq, hwc⟩ := hcut
              have n0_ := Aside0.mk (show Kd.S (Kd.slice 3 (Kd.int .i64)) 34 wc w.heap.size (fun k => w.heap.size ≤ k ∧ k < NA) (.slice (some ⟨g, 0, none⟩) m.length cap) m' from by rw [hwc]; exact Kd.S_drewN HO.out nq)
              have n1_ := Aside0.mk (show Kd.R (Kd.int .i64) 3 wc w.heap.size (fun k => NA ≤ k ∧ k < NB) (.slice (some ⟨ga, 0, none⟩) a.length ca) a' from by rw [hwc]; exact Kd.R_drewN HVA.out nq)
              have n2_ := Aside0.mk (show Kd.R (Kd.int .i64) 3 wc w.heap.size (fun k => NB ≤ k ∧ k < NC) (.slice (some ⟨gb, 0, none⟩) b.length cb) b' from by rw [hwc]; exact Kd.R_drewN HVB.out nq)
              have n3_ := Aside0.mk (show Below w.heap.size w wc from by rw [hwc]; exact pw_below_drewN HW.out nq)
              clear hwc HO HVA HVB HW
              have HO := n0_
              have HVA := n1_
              have HVB := n2_
              have HW := n3_
              clear n0_ n1_ n2_ n3_ hxa hxb hfa hfb
              obtain ⟨oki, c, hcl, hM, hcell, hoki, hH⟩ := Kd.S_lend HO.out [] i HI0.out (by have := HM2.out; have := (Kd.S_reads' HO.out).1; omega)
              obtain ⟨u, hu, hR⟩ := hM
              replace hR : Kd.R (Kd.int .i64) 3 wc w.heap.size oki u (rd_L1 m' i) := hR
              obtain ⟨gr, cr, er, hbr, hlr, _⟩ := Kd.R_form hR (by have := HRW.out; have := HJ0.out; omega)
              subst er
              subst hu
              have hcell0 := hcell 0 _ rfl
              rw [show i.toNat * (Kd.slice 3 (Kd.int .i64)).sz + 0 = i.toNat from by show i.toNat * 1 + 0 = _; omega] at hcell0
              obtain ⟨hx0, hf0⟩ := Kd.R_celln 0 hR j HJ0.out HRW.out
              have HPR := Kd.R_putg hR j (wrap64 (rd (rd_L1 m' i) j + x))
              have HX1 : wc.cell? ⟨gr, j.toNat, none⟩ = some (.int .i64 (rd (rd_L1 m' i) j)) := hx0
              have HQO := Aside0.mk (show oki gr from hR.1 _ rfl)
              have HKI := Aside0.mk hoki
              have HHole := Aside0.mk hH
              have HIM := eq_true (show i < (m.length : Int) by have := HM2.out; have := (Kd.S_reads' HO.out).1; omega)
              have HRQ := eq_true HRW.out
              clear hcell hcl hR hH hoki hbr hlr hx0
              obtain ⟨row, hrow⟩ : ∃ q_, q_ = rd_L1 m' i := ⟨_, rfl⟩
              rw [← hrow] at HX1 hcell0 HPR HRQ HHole
              have Nrow := Aside0.mk hrow
              clear hrow
              go_wp2_with (first | ((with_reducible refine gate_store (t := 3) (p := 46) rfl ?_); refine store_event (t := 3) (p := 46) (v := ?vo_p46) (w1 := (wc.setCell ⟨gr, j.toNat, none⟩ (.int .i64 (wrap64 (rd row j + x))))) ?hg ?ho ?hn ?hr ?_; (case ho => rfl); (case hg => rfl); (case hn => rfl); (case hr => first | (go_simp; done) | (go_simp; rfl)); intro w6 hw; have hg : wc.grownBy w6 (some gr) := (by rw [hw]; exact HPR.2); have hp_ : Kd.S (Kd.slice 3 (Kd.int .i64)) 34 w6 w.heap.size (fun k => w.heap.size ≤ k ∧ k < NA) (.slice (some ⟨g, 0, none⟩) m.length cap) m2 := (by rw [Nm2.out, ← Nrow.out]; exact spec_plMonotone.row_step rfl HKI.out HHole.out rfl HQO.out (by rw [hw]; exact HPR.1) hg); clear HPR; have n1_ := Aside0.mk (Kd.R_grown HVA.out hg (fun k hk e_ => by cases e_; have := (HKI.out _ HQO.out).1; omega)); have n2_ := Aside0.mk (Kd.R_grown HVB.out hg (fun k hk e_ => by cases e_; have := (HKI.out _ HQO.out).1; omega)); have n3_ := Aside0.mk (Below.grown HW.out hg HW.out.size (fun k e_ => by cases e_; have := (HKI.out _ HQO.out).1; omega)); have n4_ := Aside0.mk hp_; clear HO HVA HVB HW HHole; have HVA := n1_; have HVB := n2_; have HW := n3_; have HO := n4_; clear n1_ n2_ n3_ n4_ hg hw hp_; have HP := Kd.R_putg HVA.out i (wrap64 (rd a' i - x)); obtain ⟨hxd, hfd⟩ := Kd.R_celln 0 HVA.out i HI0.out HI.out; replace hxd : w6.cell? ⟨ga, i.toNat, none⟩ = some (.int .i64 (rd a' i)) := hxd) | ((with_reducible refine gate_store (t := 3) (p := 53) rfl ?_); refine store_event (t := 3) (p := 53) (v := ?vo_p53) (w1 := (w6.setCell ⟨ga, i.toNat, none⟩ (.int .i64 (wrap64 (rd a' i - x))))) ?hg ?ho ?hn ?hr ?_; (case ho => rfl); (case hg => rfl); (case hn => rfl); (case hr => first | (go_simp; done) | (go_simp; rfl)); intro w8 hw; have hg : w6.grownBy w8 (some ga) := (by rw [hw]; exact HP.2); have hp_ : Kd.R (Kd.int .i64) 3 w8 w.heap.size (fun k => NA ≤ k ∧ k < NB) (.slice (some ⟨ga, 0, none⟩) a.length ca) y := (by rw [hw, Ny.out]; exact HP.1); clear HP; have n0_ := Aside0.mk (Kd.S_grown HO.out hg (fun k hk e_ => by cases e_; have := HGA.out; omega)); have n1_ := Aside0.mk (Kd.R_grown HVB.out hg (fun k hk e_ => by cases e_; have := HGA.out; omega)); have n2_ := Aside0.mk (Below.grown HW.out hg HW.out.size (fun k e_ => by cases e_; have := HGA.out; omega)); have n4_ := Aside0.mk hp_; clear HO HVA HVB HW; have HO := n0_; have HVB := n1_; have HW := n2_; have HVA := n4_; clear n0_ n1_ n2_ n4_ hg hw hp_; have HP := Kd.R_putg HVB.out j (wrap64 (rd b' j - x)); obtain ⟨hxc, hfc⟩ := Kd.R_celln 0 HVB.out j HJ0.out HJ.out; replace hxc : w8.cell? ⟨gb, j.toNat, none⟩ = some (.int .i64 (rd b' j)) := hxc) | ((with_reducible refine gate_store (t := 3) (p := 60) rfl ?_); refine store_event (t := 3) (p := 60) (v := ?vo_p60) (w1 := (w8.setCell ⟨gb, j.toNat, none⟩ (.int .i64 (wrap64 (rd b' j - x))))) ?hg ?ho ?hn ?hr ?_; (case ho => rfl); (case hg => rfl); (case hn => rfl); (case hr => first | (go_simp; done) | (go_simp; rfl)); intro w9 hw; have hg : w8.grownBy w9 (some gb) := (by rw [hw]; exact HP.2); have hp_ : Kd.R (Kd.int .i64) 3 w9 w.heap.size (fun k => NB ≤ k ∧ k < NC) (.slice (some ⟨gb, 0, none⟩) b.length cb) z := (by rw [hw, Nz.out]; exact HP.1); clear HP; have n0_ := Aside0.mk (Kd.S_grown HO.out hg (fun k hk e_ => by cases e_; have := HGB.out; omega)); have n1_ := Aside0.mk (Kd.R_grown HVA.out hg (fun k hk e_ => by cases e_; have := HGB.out; omega)); have n2_ := Aside0.mk (Below.grown HW.out hg HW.out.size (fun k e_ => by cases e_; have := HGB.out; omega)); have n4_ := Aside0.mk hp_; clear HO HVA HVB HW; have HO := n0_; have HVA := n1_; have HW := n2_; have HVB := n4_; clear n0_ n1_ n2_ n4_ hg hw hp_; obtain ⟨hxc, hfc⟩ := Kd.R_celln 0 HVA.out i HI0.out HI.out; replace hxc : w9.cell? ⟨ga, i.toNat, none⟩ = some (.int .i64 (rd y i)) := hxc))
              go_roundg k1
              case measure => have := HKQ.out; omega
              case rel => exact ⟨m2, y, z, (wrap64 (i + 1)), j, (by first | rfl | (simp; done) | (simp [*]; done)), (by first | rfl | (simp; done) | (simp [*]; done)), ⟨by rw [Ny.out, List.length_set]; exact HLA.out⟩, ⟨by rw [Nz.out, List.length_set]; exact HLB.out⟩, H', ⟨by have := HKQ.out; omega⟩, HO, HVA, HVB, HW⟩
          · rw [if_neg cz] at H
            have H' := Aside0.mk H
            clear H
            have cz0 : (rd y i == 0) = false := beq_eq_false_iff_ne.mpr cz
            clear cz
            go_upto_region 5 with (fail)
            (try simp only [Act.put, List.setIfInBounds_toArray, List.set_cons_zero, List.set_cons_succ])
            go_cut [10] (fun v10 wc => v10 = .int .i64 x ∧ ∃ nq, wc = wr.drewN nq)
            case first =>
              go_quiet ((go_at_call 58; (with_reducible refine (spec_l1Least.calls (rd a' i) (rd b' j) x _ HX.out).mono ?_); rintro e w' ⟨rfl, ⟨nd, rfl⟩⟩; (try first | exact ⟨rfl, _, World.drewN_drewN _ _ _⟩ | exact ⟨rfl, _, Eq.trans (World.drewN_drewN _ _ _) (congrArg (World.drewN _) (Nat.add_assoc _ _ _))⟩)))
              go_wp2
              go_meet
              case rel => exact ⟨rfl, _, rfl⟩
            case rest =>
              obtain ⟨rfl, nq, hwc⟩ := hcut
              have n0_ := Aside0.mk (show Kd.S (Kd.slice 3 (Kd.int .i64)) 34 wc w.heap.size (fun k => w.heap.size ≤ k ∧ k < NA) (.slice (some ⟨g, 0, none⟩) m.length cap) m' from by rw [hwc]; exact Kd.S_drewN HO.out nq)
              have n1_ := Aside0.mk (show Kd.R (Kd.int .i64) 3 wc w.heap.size (fun k => NA ≤ k ∧ k < NB) (.slice (some ⟨ga, 0, none⟩) a.length ca) a' from by rw [hwc]; exact Kd.R_drewN HVA.out nq)
              have n2_ := Aside0.mk (show Kd.R (Kd.int .i64) 3 wc w.heap.size (fun k => NB ≤ k ∧ k < NC) (.slice (some ⟨gb, 0, none⟩) b.length cb) b' from by rw [hwc]; exact Kd.R_drewN HVB.out nq)
              have n3_ := Aside0.mk (show Below w.heap.size w wc from by rw [hwc]; exact pw_below_drewN HW.out nq)
              clear hwc HO HVA HVB HW
              have HO := n0_
              have HVA := n1_
              have HVB := n2_
              have HW := n3_
              clear n0_ n1_ n2_ n3_ hxa hxb hfa hfb
              obtain ⟨oki, c, hcl, hM, hcell, hoki, hH⟩ := Kd.S_lend HO.out [] i HI0.out (by have := HM2.out; have := (Kd.S_reads' HO.out).1; omega)
              obtain ⟨u, hu, hR⟩ := hM
              replace hR : Kd.R (Kd.int .i64) 3 wc w.heap.size oki u (rd_L1 m' i) := hR
              obtain ⟨gr, cr, er, hbr, hlr, _⟩ := Kd.R_form hR (by have := HRW.out; have := HJ0.out; omega)
              subst er
              subst hu
              have hcell0 := hcell 0 _ rfl
              rw [show i.toNat * (Kd.slice 3 (Kd.int .i64)).sz + 0 = i.toNat from by show i.toNat * 1 + 0 = _; omega] at hcell0
              obtain ⟨hx0, hf0⟩ := Kd.R_celln 0 hR j HJ0.out HRW.out
              have HPR := Kd.R_putg hR j (wrap64 (rd (rd_L1 m' i) j + x))
              have HX1 : wc.cell? ⟨gr, j.toNat, none⟩ = some (.int .i64 (rd (rd_L1 m' i) j)) := hx0
              have HQO := Aside0.mk (show oki gr from hR.1 _ rfl)
              have HKI := Aside0.mk hoki
              have HHole := Aside0.mk hH
              have HIM := eq_true (show i < (m.length : Int) by have := HM2.out; have := (Kd.S_reads' HO.out).1; omega)
              have HRQ := eq_true HRW.out
              clear hcell hcl hR hH hoki hbr hlr hx0
              obtain ⟨row, hrow⟩ : ∃ q_, q_ = rd_L1 m' i := ⟨_, rfl⟩
              rw [← hrow] at HX1 hcell0 HPR HRQ HHole
              have Nrow := Aside0.mk hrow
              clear hrow
              go_wp2_with (first | ((with_reducible refine gate_store (t := 3) (p := 46) rfl ?_); refine store_event (t := 3) (p := 46) (v := ?vo_n46) (w1 := (wc.setCell ⟨gr, j.toNat, none⟩ (.int .i64 (wrap64 (rd row j + x))))) ?hg ?ho ?hn ?hr ?_; (case ho => rfl); (case hg => rfl); (case hn => rfl); (case hr => first | (go_simp; done) | (go_simp; rfl)); intro w6 hw; have hg : wc.grownBy w6 (some gr) := (by rw [hw]; exact HPR.2); have hp_ : Kd.S (Kd.slice 3 (Kd.int .i64)) 34 w6 w.heap.size (fun k => w.heap.size ≤ k ∧ k < NA) (.slice (some ⟨g, 0, none⟩) m.length cap) m2 := (by rw [Nm2.out, ← Nrow.out]; exact spec_plMonotone.row_step rfl HKI.out HHole.out rfl HQO.out (by rw [hw]; exact HPR.1) hg); clear HPR; have n1_ := Aside0.mk (Kd.R_grown HVA.out hg (fun k hk e_ => by cases e_; have := (HKI.out _ HQO.out).1; omega)); have n2_ := Aside0.mk (Kd.R_grown HVB.out hg (fun k hk e_ => by cases e_; have := (HKI.out _ HQO.out).1; omega)); have n3_ := Aside0.mk (Below.grown HW.out hg HW.out.size (fun k e_ => by cases e_; have := (HKI.out _ HQO.out).1; omega)); have n4_ := Aside0.mk hp_; clear HO HVA HVB HW HHole; have HVA := n1_; have HVB := n2_; have HW := n3_; have HO := n4_; clear n1_ n2_ n3_ n4_ hg hw hp_; have HP := Kd.R_putg HVA.out i (wrap64 (rd a' i - x)); obtain ⟨hxd, hfd⟩ := Kd.R_celln 0 HVA.out i HI0.out HI.out; replace hxd : w6.cell? ⟨ga, i.toNat, none⟩ = some (.int .i64 (rd a' i)) := hxd) | ((with_reducible refine gate_store (t := 3) (p := 53) rfl ?_); refine store_event (t := 3) (p := 53) (v := ?vo_n53) (w1 := (w6.setCell ⟨ga, i.toNat, none⟩ (.int .i64 (wrap64 (rd a' i - x))))) ?hg ?ho ?hn ?hr ?_; (case ho => rfl); (case hg => rfl); (case hn => rfl); (case hr => first | (go_simp; done) | (go_simp; rfl)); intro w8 hw; have hg : w6.grownBy w8 (some ga) := (by rw [hw]; exact HP.2); have hp_ : Kd.R (Kd.int .i64) 3 w8 w.heap.size (fun k => NA ≤ k ∧ k < NB) (.slice (some ⟨ga, 0, none⟩) a.length ca) y := (by rw [hw, Ny.out]; exact HP.1); clear HP; have n0_ := Aside0.mk (Kd.S_grown HO.out hg (fun k hk e_ => by cases e_; have := HGA.out; omega)); have n1_ := Aside0.mk (Kd.R_grown HVB.out hg (fun k hk e_ => by cases e_; have := HGA.out; omega)); have n2_ := Aside0.mk (Below.grown HW.out hg HW.out.size (fun k e_ => by cases e_; have := HGA.out; omega)); have n4_ := Aside0.mk hp_; clear HO HVA HVB HW; have HO := n0_; have HVB := n1_; have HW := n2_; have HVA := n4_; clear n0_ n1_ n2_ n4_ hg hw hp_; have HP := Kd.R_putg HVB.out j (wrap64 (rd b' j - x)); obtain ⟨hxc, hfc⟩ := Kd.R_celln 0 HVB.out j HJ0.out HJ.out; replace hxc : w8.cell? ⟨gb, j.toNat, none⟩ = some (.int .i64 (rd b' j)) := hxc) | ((with_reducible refine gate_store (t := 3) (p := 60) rfl ?_); refine store_event (t := 3) (p := 60) (v := ?vo_n60) (w1 := (w8.setCell ⟨gb, j.toNat, none⟩ (.int .i64 (wrap64 (rd b' j - x))))) ?hg ?ho ?hn ?hr ?_; (case ho => rfl); (case hg => rfl); (case hn => rfl); (case hr => first | (go_simp; done) | (go_simp; rfl)); intro w9 hw; have hg : w8.grownBy w9 (some gb) := (by rw [hw]; exact HP.2); have hp_ : Kd.R (Kd.int .i64) 3 w9 w.heap.size (fun k => NB ≤ k ∧ k < NC) (.slice (some ⟨gb, 0, none⟩) b.length cb) z := (by rw [hw, Nz.out]; exact HP.1); clear HP; have n0_ := Aside0.mk (Kd.S_grown HO.out hg (fun k hk e_ => by cases e_; have := HGB.out; omega)); have n1_ := Aside0.mk (Kd.R_grown HVA.out hg (fun k hk e_ => by cases e_; have := HGB.out; omega)); have n2_ := Aside0.mk (Below.grown HW.out hg HW.out.size (fun k e_ => by cases e_; have := HGB.out; omega)); have n4_ := Aside0.mk hp_; clear HO HVA HVB HW; have HO := n0_; have HVA := n1_; have HW := n2_; have HVB := n4_; clear n0_ n1_ n2_ n4_ hg hw hp_; obtain ⟨hxc, hfc⟩ := Kd.R_celln 0 HVA.out i HI0.out HI.out; replace hxc : w9.cell? ⟨ga, i.toNat, none⟩ = some (.int .i64 (rd y i)) := hxc))
              go_roundg k1
              case measure => have := HKQ.out; omega
              case rel => exact ⟨m2, y, z, i, (wrap64 (j + 1)), (by first | rfl | (simp; done) | (simp [*]; done)), (by first | rfl | (simp; done) | (simp [*]; done)), ⟨by rw [Ny.out, List.length_set]; exact HLA.out⟩, ⟨by rw [Nz.out, List.length_set]; exact HLB.out⟩, H', ⟨by have := HKQ.out; omega⟩, HO, HVA, HVB, HW⟩
        · rw [if_neg dj] at H
          obtain rfl := Option.some.inj H
          clear H
          replace di := eq_true di
          replace dj := eq_false dj
          go_wp2
          go_ret
          exact ⟨_, rfl, Kd.S_mono HO.out (fun _ _ => trivial), HW.out⟩
      · rw [if_neg di] at H
        obtain rfl := Option.some.inj H
        clear H
        replace di := eq_false di
        go_wp2
        go_ret
        exact ⟨_, rfl, Kd.S_mono HO.out (fun _ _ => trivial), HW.out⟩

/-! ### spec_GluePlans: function 32 -/
/-- The rounds over a row: its numbers are added to those of a table's row. -/
def spec_GluePlans.l2 : Nat → List Int → List (List Int) → Int → Int → Option (List (List Int))
  | 0, _, _, _, _ => none
  | k + 1, row, m, i, j => if j < (row.length : Int) then (if 0 ≤ j then (if 0 ≤ i then (if i < (m.length : Int) then (if j < ((rd_L1 m i).length : Int) then spec_GluePlans.l2 k row (m.set i.toNat ((rd_L1 m i).set j.toNat (wrap64 (rd (rd_L1 m i) j + rd row j)))) i (wrap64 (j + 1)) else none) else none) else none) else none) else some m
def spec_GluePlans.l1 : Nat → List (List Int) → List (List Int) → Int → Option (List (List Int))
  | 0, _, _, _ => none
  | k + 1, p, m, i => if i < (p.length : Int) then (if 0 ≤ i then ((spec_GluePlans.l2 k (rd_L1 p i) m i 0).bind fun m' => spec_GluePlans.l1 k p m' (wrap64 (i + 1))) else none) else some m
def spec_GluePlans.l0 : Nat → List (List Int) → List (List Int) → List (List Int) → Int → Option (List (List Int))
  | 0, _, _, _, _ => none
  | k + 1, a, b, m, q => if q < (a.length : Int) then (if 0 ≤ q then (if q < (b.length : Int) then ((spec_plColumn.f k a q).bind fun c => (spec_plMonotone.f k c (rd_L1 b q)).bind fun p => (spec_GluePlans.l1 k p m 0).bind fun m' => spec_GluePlans.l0 k a b m' (wrap64 (q + 1))) else none) else none) else some m
def spec_GluePlans.f (k : Nat) (l0 l1 : List (List Int)) : Option (List (List Int) × Bool) := (spec_plGood.f k l0).bind fun p => if p = true then ((spec_plGood.f k l1).bind fun q => if q = true then ((spec_plSums.f k l0).bind fun s => (spec_plSums.f k l1).bind fun s2 => (spec_l1Same.f k s.2 s2.1).bind fun e => if e = true then ((spec_plEmpty.f k (l0.length : Int)).bind fun z => if 0 < z.length then ((spec_GluePlans.l0 k l0 l1 z 0).bind fun o => (spec_plGood.f k o).bind fun b => if b = true then some (o, true) else some ([], false)) else none) else some ([], false)) else some ([], false)) else some ([], false)
theorem spec_GluePlans.l2_mono : ∀ k a m i j, LeO (spec_GluePlans.l2 k a m i j) (spec_GluePlans.l2 (k + 1) a m i j)
  | 0, _, _, _, _ => fun r h => by simp [spec_GluePlans.l2] at h
  | k + 1, a, m, i, j => by
    rw [spec_GluePlans.l2, spec_GluePlans.l2]
    exact LeO.ite (LeO.ite (LeO.ite (LeO.ite (LeO.ite (spec_GluePlans.l2_mono k _ _ _ _) (LeO.none _)) (LeO.none _)) (LeO.none _)) (LeO.none _)) (LeO.refl _)
theorem spec_GluePlans.l1_mono : ∀ k a m i, LeO (spec_GluePlans.l1 k a m i) (spec_GluePlans.l1 (k + 1) a m i)
  | 0, _, _, _ => fun r h => by simp [spec_GluePlans.l1] at h
  | k + 1, a, m, i => by
    rw [spec_GluePlans.l1, spec_GluePlans.l1]
    exact LeO.ite (LeO.ite (LeO.bind (spec_GluePlans.l2_mono k _ _ _ _) (fun _ => spec_GluePlans.l1_mono k _ _ _)) (LeO.none _)) (LeO.refl _)
theorem spec_GluePlans.l0_mono : ∀ k a b m i, LeO (spec_GluePlans.l0 k a b m i) (spec_GluePlans.l0 (k + 1) a b m i)
  | 0, _, _, _, _ => fun r h => by simp [spec_GluePlans.l0] at h
  | k + 1, a, b, m, i => by
    rw [spec_GluePlans.l0, spec_GluePlans.l0]
    exact LeO.ite (LeO.ite (LeO.ite (LeO.bind (spec_plColumn.mono _ _ _) (fun _ => LeO.bind (spec_plMonotone.mono _ _ _) (fun _ => LeO.bind (spec_GluePlans.l1_mono k _ _ _) (fun _ => spec_GluePlans.l0_mono k _ _ _ _)))) (LeO.none _)) (LeO.none _)) (LeO.refl _)
theorem spec_GluePlans.mono : ∀ a0 a1 k, LeO (spec_GluePlans.f k a0 a1) (spec_GluePlans.f (k + 1) a0 a1) := by
  intro a0 a1 k
  unfold spec_GluePlans.f
  exact LeO.bind (spec_plGood.mono _ _) (fun _ => LeO.ite (LeO.bind (spec_plGood.mono _ _) (fun _ => LeO.ite (LeO.bind (spec_plSums.mono _ _) (fun _ => LeO.bind (spec_plSums.mono _ _) (fun _ => LeO.bind (spec_l1Same.mono _ _ _) (fun _ => LeO.ite (LeO.bind (spec_plEmpty.mono _ _) (fun _ => LeO.ite (LeO.bind (spec_GluePlans.l0_mono k _ _ _ _) (fun _ => LeO.bind (spec_plGood.mono _ _) (fun _ => LeO.refl _))) (LeO.none _))) (LeO.refl _))))) (LeO.refl _))) (LeO.refl _))

/-- One row of rows that are apart has been written. -/
theorem spec_GluePlans.row_step {w w1 : World} {base : Nat} {P0_ : Nat → Prop} {g n cap : Nat} {m : List (List Int)} {r : List Int} {i : Int} {oki : Nat → Prop} {c : List Value} {u : Value} {q : Nat}
    (hu : c = [u]) (hoki : ∀ k, oki k → P0_ k ∧ k ≠ g) (hH : Kd.H (Kd.slice 3 (Kd.int .i64)) 34 w base P0_ (.slice (some ⟨g, 0, none⟩) n cap) m i oki c)
    (hq : u.ownBlock = some q) (hqo : oki q) {ok1 : Nat → Prop} (hr : Kd.R (Kd.int .i64) 3 w1 base ok1 u r) (hk : w.grownBy w1 (some q)) :
    Kd.S (Kd.slice 3 (Kd.int .i64)) 34 w1 base P0_ (.slice (some ⟨g, 0, none⟩) n cap) (m.set i.toNat r) := by
  have h1 := Kd.H_step (w1 := w1) hH (fun k _ hn hlt => hk.block k hlt (fun he => hn (by cases he; exact hqo)))
  refine Kd.H_back (okp := fun k => some k = u.ownBlock) h1 ?_ (fun k hk => by rw [hq] at hk; cases hk; exact hqo)
  rw [hu]
  exact Kd.M_row (Kd.R_tight rfl hr)

set_option maxHeartbeats 8000000 in
set_option maxRecDepth 100000 in
theorem spec_GluePlans.calls (k : Nat) (A0 : Option Addr) (c0 : Nat) (l0 : List (List Int)) (A1 : Option Addr) (c1 : Nat) (l1 : List (List Int)) (r1 : List (List Int)) (r2 : Bool) (w : World) (hr0 : Kd.C (Kd.slice 3 (Kd.int .i64)) w A0 l0.length l0) (hc0 : l0.length ≤ c0) (hr1 : Kd.C (Kd.slice 3 (Kd.int .i64)) w A1 l1.length l1) (hc1 : l1.length ≤ c1) (h : spec_GluePlans.f k l0 l1 = some (r1, r2)) :
    Calls Try.prog 32 #[.slice A0 l0.length c0, .slice A1 l1.length c1] w fun e w' => ∃ v0_ : Value, e = .returned (.tuple #[v0_, .bool r2]) ∧ Kd.S (Kd.slice 3 (Kd.int .i64)) 34 w' w.heap.size (fun _ => True) v0_ r1 ∧ Below w.heap.size w w' := by
  have HR0 := Aside0.mk hr0
  have HC0 := Aside0.mk hc0
  have HR1 := Aside0.mk hr1
  have HC1 := Aside0.mk hc1
  have HB := Aside0.mk (Below.refl w.heap.size w)
  clear hr0 hc0 hr1 hc1
  have H := h
  clear h
  unfold spec_GluePlans.f at H
  replace H := Option.bind_eq_some_iff.mp H
  obtain ⟨p, E10, H⟩ := H
  by_cases cp : ¬ p = true
  · rw [if_neg cp] at H
    replace cp := Bool.eq_false_iff.mpr cp
    subst cp
    have E1 := Aside0.mk E10
    clear E10
    simp only [Option.some.injEq, Prod.mk.injEq] at H
    obtain ⟨rfl, rfl⟩ := H
    go_enter Try.func32, Try.ntmps32
    go_wp2_with (first | (go_at_call 45; (with_reducible refine (spec_plGood.calls k _ _ l0 false _ ?side1 ?side2 E1.out).mono ?_); (case side1 => repeat (first | exact (Kd.C_below HR0.out HB.out) | (with_reducible refine Kd.C_alloc ?_ _) | (with_reducible refine Kd.C_drewN ?_ _) | (with_reducible refine Kd.C_drew ?_))); (case side2 => exact HC0.out); rintro e wp_ ⟨rfl, ⟨nd, rfl⟩⟩))
    go_ret2
    exact ⟨_, by first | rfl | (simp; done) | (simp [*]; done), Kd.S_nil _ _ _ _ _, by repeat (first | (with_reducible first | exact HB.out | apply below_alloc | apply pw_below_drewN | apply below_drew1) | exact HB.out)⟩
  replace cp := Decidable.not_not.mp cp
  rw [if_pos cp] at H
  subst cp
  have E1 := Aside0.mk E10
  clear E10
  replace H := Option.bind_eq_some_iff.mp H
  obtain ⟨q, E20, H⟩ := H
  by_cases cq : ¬ q = true
  · rw [if_neg cq] at H
    replace cq := Bool.eq_false_iff.mpr cq
    subst cq
    have E2 := Aside0.mk E20
    clear E20
    simp only [Option.some.injEq, Prod.mk.injEq] at H
    obtain ⟨rfl, rfl⟩ := H
    go_enter Try.func32, Try.ntmps32
    go_wp2_with (first | (go_at_call 45; (with_reducible refine (spec_plGood.calls k _ _ l0 true _ ?side1 ?side2 E1.out).mono ?_); (case side1 => repeat (first | exact (Kd.C_below HR0.out HB.out) | (with_reducible refine Kd.C_alloc ?_ _) | (with_reducible refine Kd.C_drewN ?_ _) | (with_reducible refine Kd.C_drew ?_))); (case side2 => exact HC0.out); rintro e wp_ ⟨rfl, ⟨nd, rfl⟩⟩) | (go_at_call 45; (with_reducible refine (spec_plGood.calls k _ _ l1 false _ ?side1 ?side2 E2.out).mono ?_); (case side1 => repeat (first | exact (Kd.C_below HR1.out HB.out) | (with_reducible refine Kd.C_alloc ?_ _) | (with_reducible refine Kd.C_drewN ?_ _) | (with_reducible refine Kd.C_drew ?_))); (case side2 => exact HC1.out); rintro e wp_ ⟨rfl, ⟨nd, rfl⟩⟩))
    go_ret2
    exact ⟨_, by first | rfl | (simp; done) | (simp [*]; done), Kd.S_nil _ _ _ _ _, by repeat (first | (with_reducible first | exact HB.out | apply below_alloc | apply pw_below_drewN | apply below_drew1) | exact HB.out)⟩
  replace cq := Decidable.not_not.mp cq
  rw [if_pos cq] at H
  subst cq
  have E2 := Aside0.mk E20
  clear E20
  replace H := Option.bind_eq_some_iff.mp H
  obtain ⟨⟨s1, s2⟩, E30, H⟩ := H
  have E3 := Aside0.mk E30
  clear E30
  replace H := Option.bind_eq_some_iff.mp H
  obtain ⟨⟨s3, s4⟩, E40, H⟩ := H
  dsimp only at H
  have E4 := Aside0.mk E40
  clear E40
  replace H := Option.bind_eq_some_iff.mp H
  obtain ⟨e, E60, H⟩ := H
  by_cases ce : ¬ e = true
  · rw [if_neg ce] at H
    replace ce := Bool.eq_false_iff.mpr ce
    subst ce
    have E6 := Aside0.mk E60
    clear E60
    simp only [Option.some.injEq, Prod.mk.injEq] at H
    obtain ⟨rfl, rfl⟩ := H
    go_enter Try.func32, Try.ntmps32
    go_wp2_with (first | (go_at_call 45; (with_reducible refine (spec_plGood.calls k _ _ l0 true _ ?side1 ?side2 E1.out).mono ?_); (case side1 => repeat (first | exact (Kd.C_below HR0.out HB.out) | (with_reducible refine Kd.C_alloc ?_ _) | (with_reducible refine Kd.C_drewN ?_ _) | (with_reducible refine Kd.C_drew ?_))); (case side2 => exact HC0.out); rintro e wp_ ⟨rfl, ⟨nd, rfl⟩⟩) | (go_at_call 45; (with_reducible refine (spec_plGood.calls k _ _ l1 true _ ?side1 ?side2 E2.out).mono ?_); (case side1 => repeat (first | exact (Kd.C_below HR1.out HB.out) | (with_reducible refine Kd.C_alloc ?_ _) | (with_reducible refine Kd.C_drewN ?_ _) | (with_reducible refine Kd.C_drew ?_))); (case side2 => exact HC1.out); rintro e wp_ ⟨rfl, ⟨nd, rfl⟩⟩) | (go_at_call 64; (with_reducible refine (spec_plSums.calls k _ _ l0 s1 s2 _ ?side1 ?side2 E3.out).mono ?_); (case side1 => repeat (first | exact (Kd.C_below HR0.out HB.out) | (with_reducible refine Kd.C_alloc ?_ _) | (with_reducible refine Kd.C_drewN ?_ _) | (with_reducible refine Kd.C_drew ?_))); (case side2 => exact HC0.out); rintro e ws ⟨vx, vs, rfl, _, hS, hb⟩; (try (have n_ := Aside0.mk (Kd.S_below (by (with_reducible repeat (first | apply Kd.S_alloc | apply Kd.S_drewN | apply Kd.S_drew)); exact HZ.out) hb); clear HZ; have HZ := n_; clear n_)); (try (have n_ := Aside0.mk (Kd.R_below (by (with_reducible repeat (first | apply Kd.R_alloc | apply Kd.R_drewN | apply Kd.R_drew)); exact HS1.out) hb); clear HS1; have HS1 := n_; clear n_)); (try (have n_ := Aside0.mk (Kd.R_below (by (with_reducible repeat (first | apply Kd.R_alloc | apply Kd.R_drewN | apply Kd.R_drew)); exact HS2.out) hb); clear HS2; have HS2 := n_; clear n_)); have n_ := Aside0.mk (below_step (by repeat (first | (with_reducible first | exact HB.out | apply below_alloc | apply pw_below_drewN | apply below_drew1) | exact HB.out)) hb); clear HB; have HB := n_; clear n_; have HS1 := Aside0.mk hS; clear hS hb; obtain ⟨As, cs, es⟩ := Kd.R_slice HS1.out; subst es) | (go_at_call 64; (with_reducible refine (spec_plSums.calls k _ _ l1 s3 s4 _ ?side1 ?side2 E4.out).mono ?_); (case side1 => repeat (first | exact (Kd.C_below HR1.out HB.out) | (with_reducible refine Kd.C_alloc ?_ _) | (with_reducible refine Kd.C_drewN ?_ _) | (with_reducible refine Kd.C_drew ?_))); (case side2 => exact HC1.out); rintro e wu ⟨vu, vy, rfl, hS, _, hb⟩; (try (have n_ := Aside0.mk (Kd.S_below (by (with_reducible repeat (first | apply Kd.S_alloc | apply Kd.S_drewN | apply Kd.S_drew)); exact HZ.out) hb); clear HZ; have HZ := n_; clear n_)); (try (have n_ := Aside0.mk (Kd.R_below (by (with_reducible repeat (first | apply Kd.R_alloc | apply Kd.R_drewN | apply Kd.R_drew)); exact HS1.out) hb); clear HS1; have HS1 := n_; clear n_)); (try (have n_ := Aside0.mk (Kd.R_below (by (with_reducible repeat (first | apply Kd.R_alloc | apply Kd.R_drewN | apply Kd.R_drew)); exact HS2.out) hb); clear HS2; have HS2 := n_; clear n_)); have n_ := Aside0.mk (below_step (by repeat (first | (with_reducible first | exact HB.out | apply below_alloc | apply pw_below_drewN | apply below_drew1) | exact HB.out)) hb); clear HB; have HB := n_; clear n_; have HS2 := Aside0.mk hS; clear hS hb; obtain ⟨Au, cu, eu⟩ := Kd.R_slice HS2.out; subst eu) | (go_at_call 65; (with_reducible refine (spec_l1Same.calls k _ _ s2 _ _ s3 false _ ?side1 ?side2 ?side3 ?side4 E6.out).mono ?_); (case side1 => repeat (first | exact (Kd.R_reads' HS1.out).2.2 | (with_reducible refine Kd.C_alloc ?_ _) | (with_reducible refine Kd.C_drewN ?_ _) | (with_reducible refine Kd.C_drew ?_))); (case side2 => exact (Kd.R_reads' HS1.out).2.1); (case side3 => repeat (first | exact (Kd.R_reads' HS2.out).2.2 | (with_reducible refine Kd.C_alloc ?_ _) | (with_reducible refine Kd.C_drewN ?_ _) | (with_reducible refine Kd.C_drew ?_))); (case side4 => exact (Kd.R_reads' HS2.out).2.1); rintro e wq_ ⟨rfl, ⟨nd, rfl⟩⟩))
    go_ret2
    exact ⟨_, by first | rfl | (simp; done) | (simp [*]; done), Kd.S_nil _ _ _ _ _, by repeat (first | (with_reducible first | exact HB.out | apply below_alloc | apply pw_below_drewN | apply below_drew1) | exact HB.out)⟩
  replace ce := Decidable.not_not.mp ce
  rw [if_pos ce] at H
  subst ce
  have E6 := Aside0.mk E60
  clear E60
  replace H := Option.bind_eq_some_iff.mp H
  obtain ⟨z, E70, H⟩ := H
  have E7 := Aside0.mk E70
  clear E70
  by_cases hl : ¬ 0 < z.length
  · rw [if_neg hl] at H
    exact absurd H (by simp)
  replace hl := Decidable.not_not.mp hl
  rw [if_pos hl] at H
  have HL := Aside0.mk hl
  clear hl
  replace H := Option.bind_eq_some_iff.mp H
  obtain ⟨o, E80, H⟩ := H
  have E8 := Aside0.mk E80
  clear E80
  replace H := Option.bind_eq_some_iff.mp H
  obtain ⟨b, E90, H⟩ := H
  have E9 := Aside0.mk E90
  clear E90
  have HEND := Aside0.mk H
  clear H
  go_enter Try.func32, Try.ntmps32
  go_wp2_with (first | (go_at_call 45; (with_reducible refine (spec_plGood.calls k _ _ l0 true _ ?side1 ?side2 E1.out).mono ?_); (case side1 => repeat (first | exact (Kd.C_below HR0.out HB.out) | (with_reducible refine Kd.C_alloc ?_ _) | (with_reducible refine Kd.C_drewN ?_ _) | (with_reducible refine Kd.C_drew ?_))); (case side2 => exact HC0.out); rintro e wp_ ⟨rfl, ⟨nd, rfl⟩⟩) | (go_at_call 45; (with_reducible refine (spec_plGood.calls k _ _ l1 true _ ?side1 ?side2 E2.out).mono ?_); (case side1 => repeat (first | exact (Kd.C_below HR1.out HB.out) | (with_reducible refine Kd.C_alloc ?_ _) | (with_reducible refine Kd.C_drewN ?_ _) | (with_reducible refine Kd.C_drew ?_))); (case side2 => exact HC1.out); rintro e wp_ ⟨rfl, ⟨nd, rfl⟩⟩) | (go_at_call 64; (with_reducible refine (spec_plSums.calls k _ _ l0 s1 s2 _ ?side1 ?side2 E3.out).mono ?_); (case side1 => repeat (first | exact (Kd.C_below HR0.out HB.out) | (with_reducible refine Kd.C_alloc ?_ _) | (with_reducible refine Kd.C_drewN ?_ _) | (with_reducible refine Kd.C_drew ?_))); (case side2 => exact HC0.out); rintro e ws ⟨vx, vs, rfl, _, hS, hb⟩; (try (have n_ := Aside0.mk (Kd.S_below (by (with_reducible repeat (first | apply Kd.S_alloc | apply Kd.S_drewN | apply Kd.S_drew)); exact HZ.out) hb); clear HZ; have HZ := n_; clear n_)); (try (have n_ := Aside0.mk (Kd.R_below (by (with_reducible repeat (first | apply Kd.R_alloc | apply Kd.R_drewN | apply Kd.R_drew)); exact HS1.out) hb); clear HS1; have HS1 := n_; clear n_)); (try (have n_ := Aside0.mk (Kd.R_below (by (with_reducible repeat (first | apply Kd.R_alloc | apply Kd.R_drewN | apply Kd.R_drew)); exact HS2.out) hb); clear HS2; have HS2 := n_; clear n_)); have n_ := Aside0.mk (below_step (by repeat (first | (with_reducible first | exact HB.out | apply below_alloc | apply pw_below_drewN | apply below_drew1) | exact HB.out)) hb); clear HB; have HB := n_; clear n_; have HS1 := Aside0.mk hS; clear hS hb; obtain ⟨As, cs, es⟩ := Kd.R_slice HS1.out; subst es) | (go_at_call 64; (with_reducible refine (spec_plSums.calls k _ _ l1 s3 s4 _ ?side1 ?side2 E4.out).mono ?_); (case side1 => repeat (first | exact (Kd.C_below HR1.out HB.out) | (with_reducible refine Kd.C_alloc ?_ _) | (with_reducible refine Kd.C_drewN ?_ _) | (with_reducible refine Kd.C_drew ?_))); (case side2 => exact HC1.out); rintro e wu ⟨vu, vy, rfl, hS, _, hb⟩; (try (have n_ := Aside0.mk (Kd.S_below (by (with_reducible repeat (first | apply Kd.S_alloc | apply Kd.S_drewN | apply Kd.S_drew)); exact HZ.out) hb); clear HZ; have HZ := n_; clear n_)); (try (have n_ := Aside0.mk (Kd.R_below (by (with_reducible repeat (first | apply Kd.R_alloc | apply Kd.R_drewN | apply Kd.R_drew)); exact HS1.out) hb); clear HS1; have HS1 := n_; clear n_)); (try (have n_ := Aside0.mk (Kd.R_below (by (with_reducible repeat (first | apply Kd.R_alloc | apply Kd.R_drewN | apply Kd.R_drew)); exact HS2.out) hb); clear HS2; have HS2 := n_; clear n_)); have n_ := Aside0.mk (below_step (by repeat (first | (with_reducible first | exact HB.out | apply below_alloc | apply pw_below_drewN | apply below_drew1) | exact HB.out)) hb); clear HB; have HB := n_; clear n_; have HS2 := Aside0.mk hS; clear hS hb; obtain ⟨Au, cu, eu⟩ := Kd.R_slice HS2.out; subst eu) | (go_at_call 65; (with_reducible refine (spec_l1Same.calls k _ _ s2 _ _ s3 true _ ?side1 ?side2 ?side3 ?side4 E6.out).mono ?_); (case side1 => repeat (first | exact (Kd.R_reads' HS1.out).2.2 | (with_reducible refine Kd.C_alloc ?_ _) | (with_reducible refine Kd.C_drewN ?_ _) | (with_reducible refine Kd.C_drew ?_))); (case side2 => exact (Kd.R_reads' HS1.out).2.1); (case side3 => repeat (first | exact (Kd.R_reads' HS2.out).2.2 | (with_reducible refine Kd.C_alloc ?_ _) | (with_reducible refine Kd.C_drewN ?_ _) | (with_reducible refine Kd.C_drew ?_))); (case side4 => exact (Kd.R_reads' HS2.out).2.1); rintro e wq_ ⟨rfl, ⟨nd, rfl⟩⟩) | (go_at_call 66; (with_reducible refine (spec_plEmpty.calls k (l0.length : Int) z _ E7.out).mono ?_); rintro e w6 ⟨vz, rfl, hS, hb⟩; obtain ⟨g, cap, ev, _⟩ := Kd.S_form hS HL.out; subst ev; clear HS1 HS2; have hl6 := (show Below w.heap.size w _ from by repeat (first | (with_reducible first | exact HB.out | apply below_alloc | apply pw_below_drewN | apply below_drew1) | exact HB.out)); have hS2 := Aside0.mk (show Kd.S (Kd.slice 3 (Kd.int .i64)) 34 w6 w.heap.size (fun k => w.heap.size ≤ k ∧ k < w6.heap.size) _ z from Kd.S_lower (Kd.S_mono (Kd.S_bound hS) (fun k hk => ⟨by have h1_ := hk.2.1; have h2_ := hl6.size; first | exact Nat.le_trans h2_ h1_ | (simp at h1_ h2_ ⊢; omega), hk.2.2.1⟩)) (by have h2_ := hl6.size; first | exact h2_ | (simp; omega))); clear hl6; (try (have n_ := Aside0.mk (Kd.S_below (by (with_reducible repeat (first | apply Kd.S_alloc | apply Kd.S_drewN | apply Kd.S_drew)); exact HZ.out) hb); clear HZ; have HZ := n_; clear n_)); (try (have n_ := Aside0.mk (Kd.R_below (by (with_reducible repeat (first | apply Kd.R_alloc | apply Kd.R_drewN | apply Kd.R_drew)); exact HS1.out) hb); clear HS1; have HS1 := n_; clear n_)); (try (have n_ := Aside0.mk (Kd.R_below (by (with_reducible repeat (first | apply Kd.R_alloc | apply Kd.R_drewN | apply Kd.R_drew)); exact HS2.out) hb); clear HS2; have HS2 := n_; clear n_)); have n_ := Aside0.mk (below_step (by repeat (first | (with_reducible first | exact HB.out | apply below_alloc | apply pw_below_drewN | apply below_drew1) | exact HB.out)) hb); clear HB; have HB := n_; clear n_; have HZ := hS2; clear hS2 hS hb))
  have HW6 := Aside0.mk (Nat.le_refl w6.heap.size)
  go_loopg [43] k (fun kq v43 wr => ∃ (m' : List (List Int)) (q : Int), v43 = .int .i64 q ∧ Aside0 (spec_GluePlans.l0 kq l0 l1 m' q = some o) ∧ Aside0 (kq ≤ k) ∧ Aside0 (w6.heap.size ≤ wr.heap.size) ∧ Aside0 (Kd.S (Kd.slice 3 (Kd.int .i64)) 34 wr w.heap.size (fun k => w.heap.size ≤ k ∧ k < w6.heap.size) (.slice (some ⟨g, 0, none⟩) z.length cap) m') ∧ Aside0 (Below w.heap.size w wr))
  case atStart => exact ⟨z, 0, rfl, E8, ⟨Nat.le_refl _⟩, ⟨Nat.le_refl _⟩, HZ, HB⟩
  case round =>
    clear E8 HZ HB HW6
    obtain ⟨m', q, rfl, HQ, HKQ, HW6, HZ, HB⟩ := hrel
    cases gk with
    | zero => exact absurd HQ.out (by simp [spec_GluePlans.l0])
    | succ k1 =>
      have H := HQ.out
      clear HQ
      simp only [spec_GluePlans.l0] at H
      by_cases ci : q < (l0.length : Int)
      · rw [if_pos ci] at H
        by_cases ci0 : ¬ 0 ≤ q
        · rw [if_neg ci0] at H
          exact absurd H (by simp)
        replace ci0 := Decidable.not_not.mp ci0
        rw [if_pos ci0] at H
        by_cases cn : ¬ q < (l1.length : Int)
        · rw [if_neg cn] at H
          exact absurd H (by simp)
        replace cn := Decidable.not_not.mp cn
        rw [if_pos cn] at H
        replace H := Option.bind_eq_some_iff.mp H
        obtain ⟨cc, hcc, H⟩ := H
        replace H := Option.bind_eq_some_iff.mp H
        obtain ⟨p, hpp, H⟩ := H
        have HCC := Aside0.mk hcc
        have HPP := Aside0.mk hpp
        have H' := Aside0.mk H
        clear H hcc hpp
        obtain ⟨ad2, B2, d2, e2, hx2, hl2, hi2⟩ := at_L1 (Kd.C_below HR1.out HB.out) q ci0 cn
        cases e2
        have HCN := Aside0.mk hi2
        have HLN := Aside0.mk hl2
        clear hi2 hl2
        have ci1 := eq_true ci
        have ci2 := eq_true ci0
        have cn1 := eq_true cn
        clear ci ci0 cn
        go_upto_region 11 with (fail)
        (try simp only [Act.put, List.setIfInBounds_toArray, List.set_cons_zero, List.set_cons_succ])
        go_cut [53, 54, 55] (fun v53 v54 v55 wc => ∃ (Ap : Option Addr) (cp : Nat), v53 = .slice Ap p.length cp ∧ v54 = .int .i64 p.length ∧ v55 = .int .i64 0 ∧ Aside0 (Kd.S (Kd.slice 3 (Kd.int .i64)) 34 wc w.heap.size (fun k => w6.heap.size ≤ k) (.slice Ap p.length cp) p) ∧ Aside0 (w6.heap.size ≤ wc.heap.size) ∧ Aside0 (Kd.S (Kd.slice 3 (Kd.int .i64)) 34 wc w.heap.size (fun k => w.heap.size ≤ k ∧ k < w6.heap.size) (.slice (some ⟨g, 0, none⟩) z.length cap) m') ∧ Aside0 (Below w.heap.size w wc))
        case first =>
          go_region_held3 (fun w' => w'.cell? (ad2.add q.toNat) = some (.slice B2 (rd_L1 l1 q).length d2)) (first | exact hx2 | exact (hcb.out.cell (p := ad2.add q.toNat) (World.block_lt_of_cell? _ _ hx2)).trans hx2 | exact (hpb.out.cell (p := ad2.add q.toNat) (Nat.lt_of_lt_of_le (World.block_lt_of_cell? _ _ hx2) hcb.out.size)).trans ((hcb.out.cell (p := ad2.add q.toNat) (World.block_lt_of_cell? _ _ hx2)).trans hx2) | go_keep)
              (first
                | (go_at_call 46; (with_reducible refine (spec_plColumn.calls k1 _ _ l0 q cc _ ?side1 ?side2 HCC.out).mono ?_); (case side1 => repeat (first | exact (Kd.C_below HR0.out HB.out) | (with_reducible refine Kd.C_alloc ?_ _) | (with_reducible refine Kd.C_drewN ?_ _) | (with_reducible refine Kd.C_drew ?_))); (case side2 => exact HC0.out); rintro e w1 ⟨vC, rfl, hC, hb⟩; have hcb := Aside0.mk hb; (try (have n_ := Aside0.mk (Kd.S_below (by (with_reducible repeat (first | apply Kd.S_alloc | apply Kd.S_drewN | apply Kd.S_drew)); exact HZ.out) hb); clear HZ; have HZ := n_; clear n_)); (try (have n_ := Aside0.mk (Kd.R_below (by (with_reducible repeat (first | apply Kd.R_alloc | apply Kd.R_drewN | apply Kd.R_drew)); exact HS1.out) hb); clear HS1; have HS1 := n_; clear n_)); (try (have n_ := Aside0.mk (Kd.R_below (by (with_reducible repeat (first | apply Kd.R_alloc | apply Kd.R_drewN | apply Kd.R_drew)); exact HS2.out) hb); clear HS2; have HS2 := n_; clear n_)); have n_ := Aside0.mk (below_step (by repeat (first | (with_reducible first | exact HB.out | apply below_alloc | apply pw_below_drewN | apply below_drew1) | exact HB.out)) hb); clear HB; have HB := n_; clear n_; have HCL := Aside0.mk hC; clear hC hb; obtain ⟨Ac, dc, ec⟩ := Kd.R_slice HCL.out; subst ec)
                | (go_at_call 53; (with_reducible refine (spec_plMonotone.calls k1 _ _ cc _ _ (rd_L1 l1 q) p _ ?side1 ?side2 ?side3 ?side4 HPP.out).mono ?_); (case side1 => repeat (first | exact (Kd.R_reads' HCL.out).2.2 | (with_reducible refine Kd.C_alloc ?_ _) | (with_reducible refine Kd.C_drewN ?_ _) | (with_reducible refine Kd.C_drew ?_))); (case side2 => exact (Kd.R_reads' HCL.out).2.1); (case side3 => repeat (first | exact (Kd.C_below (by repeat (first | exact HCN.out | (with_reducible refine Kd.C_drewN ?_ _) | (with_reducible refine Kd.C_drew ?_))) hcb.out) | (with_reducible refine Kd.C_alloc ?_ _) | (with_reducible refine Kd.C_drewN ?_ _) | (with_reducible refine Kd.C_drew ?_))); (case side4 => exact HLN.out); rintro e w2 ⟨vP, rfl, hP, hb⟩; have hpb := Aside0.mk hb; have hl6 := (show w6.heap.size ≤ _ from Nat.le_trans HW6.out (Nat.le_trans (show _ ≤ w1.heap.size from hcb.out.size) (Nat.le_refl _))); have hPw := (show Below w.heap.size w w1 from by repeat (first | (with_reducible first | exact HB.out | apply below_alloc | apply pw_below_drewN | apply below_drew1) | exact HB.out)); have HPL := Aside0.mk (show Kd.S (Kd.slice 3 (Kd.int .i64)) 34 w2 w.heap.size (fun k => w6.heap.size ≤ k) vP p from Kd.S_lower (Kd.S_mono (Kd.S_bound hP) (fun k hk => by have h1_ := hk.2.1; first | exact Nat.le_trans hl6 h1_ | (simp at h1_; omega))) (by have h2_ := hPw.size; first | exact h2_ | (simp; omega))); clear hl6 hPw; (try (have n_ := Aside0.mk (Kd.S_below (by (with_reducible repeat (first | apply Kd.S_alloc | apply Kd.S_drewN | apply Kd.S_drew)); exact HZ.out) hb); clear HZ; have HZ := n_; clear n_)); (try (have n_ := Aside0.mk (Kd.R_below (by (with_reducible repeat (first | apply Kd.R_alloc | apply Kd.R_drewN | apply Kd.R_drew)); exact HS1.out) hb); clear HS1; have HS1 := n_; clear n_)); (try (have n_ := Aside0.mk (Kd.R_below (by (with_reducible repeat (first | apply Kd.R_alloc | apply Kd.R_drewN | apply Kd.R_drew)); exact HS2.out) hb); clear HS2; have HS2 := n_; clear n_)); have n_ := Aside0.mk (below_step (by repeat (first | (with_reducible first | exact HB.out | apply below_alloc | apply pw_below_drewN | apply below_drew1) | exact HB.out)) hb); clear HB; have HB := n_; clear n_; clear hP hb; obtain ⟨Ap, cp, ep⟩ := Kd.S_slice HPL.out; subst ep))
          all_goals
            go_wp2
            go_meet
            case rel => exact ⟨Ap, cp, rfl, (by first | rfl | (simp; done)), (by first | rfl | (simp; done)), ⟨by (with_reducible repeat (first | apply Kd.S_alloc | apply Kd.S_drewN | apply Kd.S_drew)); exact HPL.out⟩, ⟨by have h1_ := HW6.out; have h2_ := hcb.out.size; have h3_ := hpb.out.size; simp at h1_ h2_ h3_ ⊢; omega⟩, ⟨by (with_reducible repeat (first | apply Kd.S_alloc | apply Kd.S_drewN | apply Kd.S_drew)); exact HZ.out⟩, ⟨by repeat (first | (with_reducible first | exact HB.out | apply below_alloc | apply pw_below_drewN | apply below_drew1) | exact HB.out)⟩⟩
        case rest =>
          clear HZ HB HW6 hx2
          obtain ⟨Ap, cp, rfl, rfl, rfl, HPL, HW6, HZ, HB⟩ := hcut
          have H := H'.out
          clear H'
          replace H := Option.bind_eq_some_iff.mp H
          obtain ⟨m2, hm2, H⟩ := H
          have HM2 := Aside0.mk hm2
          have H' := Aside0.mk H
          clear H hm2
          go_wp2
          go_loopg [55] k1 (fun kq v55 wr => ∃ (m1 : List (List Int)) (i : Int), v55 = .int .i64 i ∧ Aside0 (spec_GluePlans.l1 kq p m1 i = some m2) ∧ Aside0 (kq ≤ k1) ∧ Aside0 (w6.heap.size ≤ wr.heap.size) ∧ Aside0 (Kd.S (Kd.slice 3 (Kd.int .i64)) 34 wr w.heap.size (fun k => w.heap.size ≤ k ∧ k < w6.heap.size) (.slice (some ⟨g, 0, none⟩) z.length cap) m1) ∧ Aside0 (Kd.S (Kd.slice 3 (Kd.int .i64)) 34 wr w.heap.size (fun k => w6.heap.size ≤ k) (.slice Ap p.length cp) p) ∧ Aside0 (Below w.heap.size w wr))
          case atStart => exact ⟨m', 0, rfl, HM2, ⟨Nat.le_refl _⟩, HW6, HZ, HPL, HB⟩
          case round =>
            clear HM2 HZ HPL HB HW6
            obtain ⟨m1, i, rfl, HQ2, HKQ2, HW6, HZ, HPL, HB⟩ := hrel
            cases gk with
            | zero => exact absurd HQ2.out (by simp [spec_GluePlans.l1])
            | succ k2 =>
              have H := HQ2.out
              clear HQ2
              simp only [spec_GluePlans.l1] at H
              by_cases cp0 : i < (p.length : Int)
              · rw [if_pos cp0] at H
                by_cases di0 : ¬ 0 ≤ i
                · rw [if_neg di0] at H
                  exact absurd H (by simp)
                replace di0 := Decidable.not_not.mp di0
                rw [if_pos di0] at H
                replace H := Option.bind_eq_some_iff.mp H
                obtain ⟨m5, hm5, H⟩ := H
                have HM5 := Aside0.mk hm5
                have H2' := Aside0.mk H
                clear H hm5
                obtain ⟨ad3, B3, d3, e3, hx3, hl3, hi3⟩ := at_L1 (Kd.S_reads' HPL.out).2.2 i di0 cp0
                cases e3
                clear hi3
                obtain ⟨g3, c3, ev3, _⟩ := Kd.S_form HPL.out (by omega)
                injection ev3 with ev3 _ ev4
                injection ev3 with ev3
                subst ev3
                clear ev4
                simp only [add_plain] at hx3
                have HG3 := Aside0.mk (show w6.heap.size ≤ g3 from (Kd.S_R HPL.out).1 _ rfl)
                have HI0 := Aside0.mk di0
                have HIP := Aside0.mk cp0
                replace di0 := eq_true di0
                replace cp0 := eq_true cp0
                go_wp2
                go_loopg [62] k2 (fun kq v62 wr => ∃ (m4 : List (List Int)) (j : Int), v62 = .int .i64 j ∧ Aside0 (spec_GluePlans.l2 kq (rd_L1 p i) m4 i j = some m5) ∧ Aside0 (kq ≤ k2) ∧ Aside0 (w6.heap.size ≤ wr.heap.size) ∧ Aside0 (Kd.S (Kd.slice 3 (Kd.int .i64)) 34 wr w.heap.size (fun k => w.heap.size ≤ k ∧ k < w6.heap.size) (.slice (some ⟨g, 0, none⟩) z.length cap) m4) ∧ Aside0 (Kd.S (Kd.slice 3 (Kd.int .i64)) 34 wr w.heap.size (fun k => w6.heap.size ≤ k) (.slice (some ⟨g3, 0, none⟩) p.length cp) p) ∧ Aside0 (wr.cell? ⟨g3, i.toNat, none⟩ = some (.slice B3 (rd_L1 p i).length d3)) ∧ Aside0 (Below w.heap.size w wr))
                case atStart => exact ⟨m1, 0, rfl, HM5, ⟨Nat.le_refl _⟩, HW6, HZ, HPL, ⟨hx3⟩, HB⟩
                case round =>
                  clear HM5 HZ HPL HB HW6
                  obtain ⟨m4, j, rfl, HQ3, HKQ3, HW6, HZ, HPL, HX3, HB⟩ := hrel
                  cases gk with
                  | zero => exact absurd HQ3.out (by simp [spec_GluePlans.l2])
                  | succ k3 =>
                    have H := HQ3.out
                    clear HQ3
                    simp only [spec_GluePlans.l2] at H
                    by_cases cj : j < ((rd_L1 p i).length : Int)
                    · rw [if_pos cj] at H
                      by_cases cj0 : ¬ 0 ≤ j
                      · rw [if_neg cj0] at H
                        exact absurd H (by simp)
                      replace cj0 := Decidable.not_not.mp cj0
                      rw [if_pos cj0, if_pos HI0.out] at H
                      by_cases cm : ¬ i < (m4.length : Int)
                      · rw [if_neg cm] at H
                        exact absurd H (by simp)
                      replace cm := Decidable.not_not.mp cm
                      rw [if_pos cm] at H
                      by_cases cr : ¬ j < ((rd_L1 m4 i).length : Int)
                      · rw [if_neg cr] at H
                        exact absurd H (by simp)
                      replace cr := Decidable.not_not.mp cr
                      rw [if_pos cr] at H
                      have HJ0 := Aside0.mk cj0
                      have HRW := Aside0.mk cr
                      have HCM := Aside0.mk cm
                      obtain ⟨ad4, B4, d4, e4, hx4, hl4, hi4⟩ := at_L1 (Kd.S_reads' HPL.out).2.2 i HI0.out HIP.out
                      cases e4
                      simp only [add_plain] at hx4
                      have e5 := hx4.symm.trans HX3.out
                      injection e5 with e5
                      injection e5 with e6 e7 e8
                      subst e6
                      subst e8
                      clear e7 hl4
                      obtain ⟨ad5, e9, hx5⟩ := Kd.at_int hi4 j cj0 cj
                      cases e9
                      clear hi4
                      have hrn := (Kd.S_reads' HZ.out).1
                      obtain ⟨m3, hm3⟩ : ∃ q_, q_ = m4.set i.toNat ((rd_L1 m4 i).set j.toNat (wrap64 (rd (rd_L1 m4 i) j + rd (rd_L1 p i) j))) := ⟨_, rfl⟩
                      rw [← hm3] at H
                      have Nm3 := Aside0.mk hm3
                      have H3' := Aside0.mk H
                      clear H hm3
                      obtain ⟨oki, c, hcl, hM, hcell, hoki, hH⟩ := Kd.S_lend HZ.out [] i HI0.out (by omega)
                      obtain ⟨u, hu, hR⟩ := hM
                      replace hR : Kd.R (Kd.int .i64) 3 wr w.heap.size oki u (rd_L1 m4 i) := hR
                      obtain ⟨gr, crr, er, hbr, hlr, _⟩ := Kd.R_form hR (by omega)
                      subst er
                      subst hu
                      have hcell0 := hcell 0 _ rfl
                      rw [show i.toNat * (Kd.slice 3 (Kd.int .i64)).sz + 0 = i.toNat from by show i.toNat * 1 + 0 = _; omega] at hcell0
                      obtain ⟨hx0, hf0⟩ := Kd.R_celln 0 hR j cj0 cr
                      have HPR := Kd.R_putg hR j (wrap64 (rd (rd_L1 m4 i) j + rd (rd_L1 p i) j))
                      have HXR : wr.cell? ⟨gr, j.toNat, none⟩ = some (.int .i64 (rd (rd_L1 m4 i) j)) := hx0
                      have HQO := Aside0.mk (show oki gr from hR.1 _ rfl)
                      have HKI := Aside0.mk hoki
                      have HHole := Aside0.mk hH
                      have HIM := eq_true (show i < (z.length : Int) by omega)
                      have HRQ := eq_true cr
                      have cj1 := eq_true cj
                      have cj2 := eq_true cj0
                      clear hcell hcl hR hH hoki hbr hlr hx0 hrn cm cr cj cj0
                      obtain ⟨rw_, hrow⟩ : ∃ q_, q_ = rd_L1 m4 i := ⟨_, rfl⟩
                      rw [← hrow] at HXR hcell0 HPR HRQ HHole
                      have Nrow := Aside0.mk hrow
                      clear hrow
                      go_wp2_with (first | ((with_reducible refine gate_store (t := 3) (p := 76) rfl ?_); refine store_event (t := 3) (p := 76) (v := ?vo_1) (w1 := (wr.setCell ⟨gr, j.toNat, none⟩ (.int .i64 (wrap64 (rd rw_ j + rd (rd_L1 p i) j))))) ?hg ?ho ?hn ?hr ?_; (case ho => rfl); (case hg => rfl); (case hn => rfl); (case hr => first | (go_simp; done) | (go_simp; rfl)); intro w8 hw; have hg : wr.grownBy w8 (some gr) := (by rw [hw]; exact HPR.2); have hp_ : Kd.S (Kd.slice 3 (Kd.int .i64)) 34 w8 w.heap.size (fun k => w.heap.size ≤ k ∧ k < w6.heap.size) (.slice (some ⟨g, 0, none⟩) z.length cap) m3 := (by rw [Nm3.out, ← Nrow.out]; exact spec_GluePlans.row_step rfl HKI.out HHole.out rfl HQO.out (by rw [hw]; exact HPR.1) hg); clear HPR; have n1_ := Aside0.mk (Kd.S_grown HPL.out hg (fun k hk e_ => by cases e_; have := (HKI.out _ HQO.out).1; omega)); have n2_ := Aside0.mk (Below.grown HB.out hg HB.out.size (fun k e_ => by cases e_; have := (HKI.out _ HQO.out).1; omega)); have n3_ := Aside0.mk (Nat.le_trans HW6.out hg.size); have n4_ := Aside0.mk hp_; have n5_ := Aside0.mk (show w8.cell? ⟨g3, i.toNat, none⟩ = some (.slice (some ad5) (rd_L1 p i).length _) from (World.cell?_of_block (w := wr) (hg.block _ (by have h_ := World.block_lt_of_cell? _ _ HX3.out; exact h_) (by intro e_; have h1_ := HG3.out; have h2_ := (HKI.out _ HQO.out).1; injection e_ with e_; (try simp only at e_); omega))).trans HX3.out); clear HZ HPL HB HW6 HHole HX3; have HPL := n1_; have HB := n2_; have HW6 := n3_; have HZ := n4_; have HX3 := n5_; clear n1_ n2_ n3_ n4_ n5_ hg hw hp_))
                      go_roundg k3
                      case measure => have := HKQ3.out; omega
                      case rel => exact ⟨m3, (wrap64 (j + 1)), (by first | rfl | (simp; done) | (simp [*]; done)), H3', ⟨by have := HKQ3.out; omega⟩, HW6, HZ, HPL, HX3, HB⟩
                    · rw [if_neg cj] at H
                      obtain rfl := Option.some.inj H
                      clear H
                      have cj1 := eq_false cj
                      clear cj
                      go_wp2
                      go_roundg k2
                      case measure => have := HKQ2.out; omega
                      case rel => exact ⟨m4, (wrap64 (i + 1)), (by first | rfl | (simp; done) | (simp [*]; done)), H2', ⟨by have := HKQ2.out; omega⟩, HW6, HZ, HPL, HB⟩
              · rw [if_neg cp0] at H
                obtain rfl := Option.some.inj H
                clear H
                have cp1 := eq_false cp0
                clear cp0
                go_wp2
                go_roundg k1
                case measure => have := HKQ.out; omega
                case rel => exact ⟨m1, (wrap64 (q + 1)), (by first | rfl | (simp; done) | (simp [*]; done)), H', ⟨by have := HKQ.out; omega⟩, HW6, HZ, HB⟩
      · rw [if_neg ci] at H
        obtain rfl := Option.some.inj H
        clear H
        replace ci := eq_false ci
        have hlz := (Kd.S_reads' HZ.out).1
        have H := HEND.out
        clear HEND
        by_cases cb : ¬ b = true
        · rw [if_neg cb] at H
          replace cb := Bool.eq_false_iff.mpr cb
          subst cb
          simp only [Option.some.injEq, Prod.mk.injEq] at H
          obtain ⟨rfl, rfl⟩ := H
          rw [hlz] at HZ
          simp only [hlz]
          clear hlz
          go_wp2_with (first | (go_at_call 45; (with_reducible refine (spec_plGood.calls k _ _ m' false _ ?side1 ?side2 E9.out).mono ?_); (case side1 => exact (Kd.S_reads' HZ.out).2.2); (case side2 => exact (Kd.S_reads' HZ.out).2.1); rintro e wp_ ⟨rfl, ⟨nd, rfl⟩⟩))
          go_ret2
          exact ⟨_, by first | rfl | (simp; done) | (simp [*]; done), Kd.S_nil _ _ _ _ _, by repeat (first | (with_reducible first | exact HB.out | apply below_alloc | apply pw_below_drewN | apply below_drew1) | exact HB.out)⟩
        · replace cb := Decidable.not_not.mp cb
          rw [if_pos cb] at H
          subst cb
          simp only [Option.some.injEq, Prod.mk.injEq] at H
          obtain ⟨rfl, rfl⟩ := H
          rw [hlz] at HZ
          simp only [hlz]
          clear hlz
          go_wp2_with (first | (go_at_call 45; (with_reducible refine (spec_plGood.calls k _ _ m' true _ ?side1 ?side2 E9.out).mono ?_); (case side1 => exact (Kd.S_reads' HZ.out).2.2); (case side2 => exact (Kd.S_reads' HZ.out).2.1); rintro e wp_ ⟨rfl, ⟨nd, rfl⟩⟩))
          go_ret2
          exact ⟨_, by first | rfl | (simp; done) | (simp [*]; done), Kd.S_mono (by (with_reducible repeat (first | apply Kd.S_alloc | apply Kd.S_drewN | apply Kd.S_drew)); exact HZ.out) (fun _ _ => trivial), by repeat (first | (with_reducible first | exact HB.out | apply below_alloc | apply pw_below_drewN | apply below_drew1) | exact HB.out)⟩

/-! ### impl_within: function 94 -/
def impl_within.f (a0 : Int) (a1 : Int) (a2 : Int) : Option (Bool) := if a0 ≥ a1 then (some (decide (a0 ≤ a2))) else (some false)
set_option maxHeartbeats 8000000 in
set_option maxRecDepth 100000 in
theorem impl_within.calls (a0 : Int) (a1 : Int) (a2 : Int) (r : Bool) (w : World) (h : impl_within.f a0 a1 a2 = some r) :
    Calls Try.prog 94 #[.int .i64 a0, .int .i64 a1, .int .i64 a2] w fun e w' => e = .returned (.bool r) ∧ Drawn0 w w' := by
  have H : (if a0 ≥ a1 then (some (decide (a0 ≤ a2))) else (some false)) = some r := h
  clear h
  by_cases c4 : a0 ≥ a1
  · rw [if_pos c4] at H
    have c4b0 : decide (a1 ≤ a0) = true := decide_eq_true c4
    clear c4
    obtain rfl := Option.some.inj H
    go_enter Try.func94, Try.ntmps94
    go_wp2
    go_ret
    exact ⟨by first | rfl | (simp; done) | (simp [*]; done), by repeat (first | exact Drawn0.refl _ | apply Drawn0.step)⟩
  · rw [if_neg c4] at H
    have c4b0 : decide (a1 ≤ a0) = false := decide_eq_false c4
    clear c4
    obtain rfl := Option.some.inj H
    go_enter Try.func94, Try.ntmps94
    go_wp2
    go_ret
    exact ⟨by first | rfl | (simp; done) | (simp [*]; done), by repeat (first | exact Drawn0.refl _ | apply Drawn0.step)⟩

/-! ### impl_allWithin: function 97 -/
def impl_allWithin.l0 : Nat → Int → Int → List Int → Int → Int → Option (Bool)
  | 0, _, _, _, _, _ => none
  | k + 1, x1, x2, x9, x10, x11 => if x11 < x10 then (if 0 ≤ x11 then (if x11 < (x9.length : Int) then ((impl_within.f (rd x9 x11) x1 x2).bind fun t162 => (if t162 = true then (impl_allWithin.l0 k x1 x2 x9 x10 (wrap64 (x11 + 1))) else (some false))) else (none)) else (none)) else (some true)
def impl_allWithin.f (k : Nat) (l0 : List Int) (a1 : Int) (a2 : Int) : Option (Bool) := impl_allWithin.l0 k a1 a2 l0 (l0.length : Int) 0
theorem impl_allWithin.mono_l : ∀ k, (∀ y0 y1 y2 y3 y4, LeO (impl_allWithin.l0 k y0 y1 y2 y3 y4) (impl_allWithin.l0 (k + 1) y0 y1 y2 y3 y4))
  | 0 => fun _ _ _ _ _ r h => by simp [impl_allWithin.l0] at h
  | k + 1 => by
    have ih0 := impl_allWithin.mono_l k
    · intro y0 y1 y2 y3 y4
      unfold impl_allWithin.l0
      repeat' first
      | (with_reducible exact ih0 _ _ _ _ _)
      | (with_reducible exact LeO.refl _)
      | (with_reducible exact LeO.none _)
      | (with_reducible refine LeO.ite ?_ ?_)
      | (with_reducible refine LeO.bind ?_ (fun _ => ?_))
      | exact ih0 _ _ _ _ _
      | exact LeO.none _
      | refine LeO.ite ?_ ?_
      | refine LeO.bind ?_ (fun _ => ?_)
theorem impl_allWithin.mono : ∀ a0 a1 a2 k, LeO (impl_allWithin.f k a0 a1 a2) (impl_allWithin.f (k + 1) a0 a1 a2) := by
  intro a0 a1 a2 k
  have ih0 := impl_allWithin.mono_l k
  unfold impl_allWithin.f
  repeat' first
      | (with_reducible exact ih0 _ _ _ _ _)
      | (with_reducible exact LeO.refl _)
      | (with_reducible exact LeO.none _)
      | (with_reducible refine LeO.ite ?_ ?_)
      | (with_reducible refine LeO.bind ?_ (fun _ => ?_))
      | exact ih0 _ _ _ _ _
      | exact LeO.none _
      | refine LeO.ite ?_ ?_
      | refine LeO.bind ?_ (fun _ => ?_)
set_option maxHeartbeats 8000000 in
set_option maxRecDepth 100000 in
theorem impl_allWithin.calls (k : Nat) (A0 : Option Addr) (c0 : Nat) (l0 : List Int) (a1 : Int) (a2 : Int) (r : Bool) (w : World) (hr0 : Kd.C (Kd.int .i64) w A0 l0.length l0) (hc0 : l0.length ≤ c0) (h : impl_allWithin.f k l0 a1 a2 = some r) :
    Calls Try.prog 97 #[.slice A0 l0.length c0, .int .i64 a1, .int .i64 a2] w fun e w' => e = .returned (.bool r) ∧ Drawn0 w w' := by
  have HR0 := Aside0.mk hr0
  have HC0 := Aside0.mk hc0
  clear hr0 hc0
  have H : (impl_allWithin.l0 k a1 a2 l0 (l0.length : Int) 0) = some r := h
  clear h
  have H' := Aside0.mk H
  clear H
  go_enter Try.func97, Try.ntmps97
  go_wp2
  go_loopg [11] k (fun kq v11 w' => ∃ (x11_1 : Int), v11 = .int .i64 x11_1 ∧ Aside0 (impl_allWithin.l0 kq a1 a2 l0 (l0.length : Int) x11_1 = some r) ∧ Aside0 (kq ≤ k) ∧ Drawn0 w w')
  case atStart => exact ⟨(0), (by first | rfl | (simp; done) | (simp [*]; done)), H', ⟨Nat.le_refl _⟩, by repeat (first | exact Drawn0.refl _ | apply Drawn0.step)⟩
  case round =>
    clear H'
    try clear p2
    obtain ⟨x11_1, rfl, HA, HK1, ⟨m1, rfl⟩⟩ := hrel
    cases gk with
    | zero => exact absurd HA.out (by simp [impl_allWithin.l0])
    | succ k1 =>
      have H := HA.out
      clear HA
      simp only [impl_allWithin.l0] at H
      by_cases c4 : x11_1 < (l0.length : Int)
      · rw [if_pos c4] at H
        have c4b0 : decide (x11_1 < (l0.length : Int)) = true := decide_eq_true c4
        clear c4
        by_cases c5 : 0 ≤ x11_1
        · rw [if_pos c5] at H
          have c5b0 : decide (0 ≤ x11_1) = true := decide_eq_true c5
          clear c5
          by_cases c6 : x11_1 < (l0.length : Int)
          · rw [if_pos c6] at H
            have c6b0 : decide (x11_1 < (l0.length : Int)) = true := decide_eq_true c6
            clear c6
            replace H := Option.bind_eq_some_iff.mp H
            obtain ⟨t162, A70, H⟩ := H
            replace H : (if t162 = true then (impl_allWithin.l0 k1 a1 a2 l0 (l0.length : Int) (wrap64 (x11_1 + 1))) else (some false)) = some r := H
            have A7 := Aside0.mk A70
            clear A70
            by_cases c8 : t162 = true
            · subst c8
              have H1 : (impl_allWithin.l0 k1 a1 a2 l0 (l0.length : Int) (wrap64 (x11_1 + 1))) = some r := by rw [if_pos rfl] at H; exact H
              clear H
              have H := H1
              clear H1
              have H' := Aside0.mk H
              clear H
              have p161 : 0 ≤ (x11_1 : Int) := of_decide_eq_true (by first | (with_reducible assumption) | assumption)
              have q161 : x11_1 < (l0.length : Int) := of_decide_eq_true (by first | (with_reducible assumption) | assumption)
              obtain ⟨ad161, e161, hx161_0⟩ := Kd.at_int HR0.out x11_1 p161 q161
              cases e161
              replace p161 := eq_true p161
              replace q161 := eq_true q161
              go_wp2_with (first | ((with_reducible refine gate_callee (f := 94) rfl ?_); refine goesL_ (some 18) rfl rfl Try.func94 (by kernel_rfl) rfl #[.int .i64 (rd l0 x11_1), .int .i64 a1, .int .i64 a2] rfl (by (try simp only [List.map_toArray, List.map_cons, List.map_nil]); first | done | rfl | (simp only [List.length_drop, List.length_take]; rfl)) ?_; (with_reducible refine (impl_within.calls (rd l0 x11_1) a1 a2 true _ A7.out).mono ?_); rintro e w' ⟨rfl, ⟨nd, rfl⟩⟩; refine ⟨_, rfl, ?_⟩))
              go_roundg k1
              case measure => have := HK1.out; omega
              case rel => exact ⟨(wrap64 (x11_1 + 1)), (by first | rfl | (simp; done) | (simp [*]; done)), H', ⟨by have := HK1.out; omega⟩, by repeat (first | exact Drawn0.refl _ | apply Drawn0.step)⟩
            · replace c8 := Bool.eq_false_iff.mpr c8
              subst c8
              have H1 : (some false) = some r := by rw [if_neg (show ¬ (false = true) by decide)] at H; exact H
              clear H
              have H := H1
              clear H1
              obtain rfl := Option.some.inj H
              have p161 : 0 ≤ (x11_1 : Int) := of_decide_eq_true (by first | (with_reducible assumption) | assumption)
              have q161 : x11_1 < (l0.length : Int) := of_decide_eq_true (by first | (with_reducible assumption) | assumption)
              obtain ⟨ad161, e161, hx161_0⟩ := Kd.at_int HR0.out x11_1 p161 q161
              cases e161
              replace p161 := eq_true p161
              replace q161 := eq_true q161
              go_wp2_with (first | ((with_reducible refine gate_callee (f := 94) rfl ?_); refine goesL_ (some 18) rfl rfl Try.func94 (by kernel_rfl) rfl #[.int .i64 (rd l0 x11_1), .int .i64 a1, .int .i64 a2] rfl (by (try simp only [List.map_toArray, List.map_cons, List.map_nil]); first | done | rfl | (simp only [List.length_drop, List.length_take]; rfl)) ?_; (with_reducible refine (impl_within.calls (rd l0 x11_1) a1 a2 false _ A7.out).mono ?_); rintro e w' ⟨rfl, ⟨nd, rfl⟩⟩; refine ⟨_, rfl, ?_⟩))
              go_ret
              exact ⟨by first | rfl | (simp; done) | (simp [*]; done), by repeat (first | exact Drawn0.refl _ | apply Drawn0.step)⟩
          · rw [if_neg c6] at H
            exact absurd H (by simp)
        · rw [if_neg c5] at H
          exact absurd H (by simp)
      · rw [if_neg c4] at H
        have c4b0 : decide (x11_1 < (l0.length : Int)) = false := decide_eq_false c4
        clear c4
        obtain rfl := Option.some.inj H
        go_wp2
        go_ret
        exact ⟨by first | rfl | (simp; done) | (simp [*]; done), by repeat (first | exact Drawn0.refl _ | apply Drawn0.step)⟩

end Go.Proofs.Ytbnlfhdjcpegkaa.PFnExactGluePlans
