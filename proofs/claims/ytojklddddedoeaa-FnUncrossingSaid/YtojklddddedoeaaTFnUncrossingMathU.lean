/- Words of the kit's print, those of them that this law uses. -/
import Derived.Test.YtojklddddedoeaaTFnUncrossingMathQ
namespace Go.Proofs.Ytojklddddedoeaa.Math
open Go.RowKit Go.Proofs.YtojklddddedoeaaW.PrintWords Go.Proofs.YtojklddddedoeaaW.PrintMore
set_option linter.unusedVariables false
set_option linter.unusedSimpArgs false
structure Crs (m : List (List Int)) (x y : Nat × Nat) : Prop where
  x1 : x.1 < m.length
  x2 : x.2 < m.length
  y1 : y.1 < m.length
  y2 : y.2 < m.length
  lt1 : x.1 < y.1
  lt2 : y.2 < x.2
  px : 0 < cell m x.1 x.2
  py : 0 < cell m y.1 y.2
theorem crs_of {m : List (List Int)} (h : Plan m) {x y : Nat × Nat} (e : crossGo (cellsGo 0 m) (cellsGo 0 m) = some (x, y)) : Crs m x y := by
  obtain ⟨h1, h2, h3, h4⟩ := crossGo_some _ _ e
  have a := (mem_cells h.shp x).1 h1
  have b := (mem_cells h.shp y).1 h2
  exact ⟨a.1, a.2.1, b.1, b.2.1, h3, h4, a.2.2, b.2.2⟩
def uu (m : List (List Int)) (x y : Nat × Nat) : Int := min (cell m x.1 x.2) (cell m y.1 y.2)
theorem cell_ptN {m : List (List Int)} {n i j : Nat} (hs : Shp m n n) (hi : i < n) (hj : j < n) (v : Int) (r c : Nat) : cell (ptN m i j v) r c = if r = i ∧ c = j then v else cell m r c := cell_set hs hi hj v r c
theorem unc_cell {m : List (List Int)} (h : Plan m) {x y : Nat × Nat} (hc : Crs m x y) (r c : Nat) : cell (uncN m x y) r c = cell m r c + uu m x y * (((if r = x.1 then 1 else 0) - (if r = y.1 then 1 else 0)) * ((if c = y.2 then 1 else 0) - (if c = x.2 then 1 else 0))) := by
  have hs := h.shp
  have b1 := h.cell x.1 x.2
  have b2 := h.cell y.1 y.2
  have b3 := h.cell x.1 y.2
  have b4 := h.cell y.1 x.2
  have hx1 := hc.x1
  have hx2 := hc.x2
  have hy1 := hc.y1
  have hy2 := hc.y2
  have l1 := hc.lt1
  have l2 := hc.lt2
  have hu : 0 ≤ uu m x y ∧ uu m x y ≤ 60 ∧ uu m x y ≤ cell m x.1 x.2 ∧ uu m x y ≤ cell m y.1 y.2 := by unfold uu; omega
  have e : uncN m x y = unc2 (unc2 (unc1 (unc1 m x.1 x.2 (uu m x y)) y.1 y.2 (uu m x y)) x.1 y.2 (uu m x y)) y.1 x.2 (uu m x y) := rfl
  rw [e]
  generalize uu m x y = u at hu
  have s1 : Shp (unc1 m x.1 x.2 u) m.length m.length := ptN_shp hs hx1 _ _
  have s2 : Shp (unc1 (unc1 m x.1 x.2 u) y.1 y.2 u) m.length m.length := ptN_shp s1 hy1 _ _
  have s3 : Shp (unc2 (unc1 (unc1 m x.1 x.2 u) y.1 y.2 u) x.1 y.2 u) m.length m.length := ptN_shp s2 hx1 _ _
  have c1 : ∀ r c, cell (unc1 m x.1 x.2 u) r c = if r = x.1 ∧ c = x.2 then cell m x.1 x.2 - u else cell m r c := fun r c => by
    unfold unc1; rw [cell_ptN hs hx1 hx2, w64 (by omega) (by omega)]
  have n1 : cell (unc1 m x.1 x.2 u) y.1 y.2 = cell m y.1 y.2 := by rw [c1, if_neg (by omega)]
  have c2 : ∀ r c, cell (unc1 (unc1 m x.1 x.2 u) y.1 y.2 u) r c = if r = y.1 ∧ c = y.2 then cell m y.1 y.2 - u else cell (unc1 m x.1 x.2 u) r c := fun r c => by
    rw [show unc1 (unc1 m x.1 x.2 u) y.1 y.2 u = ptN (unc1 m x.1 x.2 u) y.1 y.2 (wrap64 (cell (unc1 m x.1 x.2 u) y.1 y.2 - u)) from rfl, cell_ptN s1 hy1 hy2, n1, w64 (by omega) (by omega)]
  have n2 : cell (unc1 (unc1 m x.1 x.2 u) y.1 y.2 u) x.1 y.2 = cell m x.1 y.2 := by rw [c2, if_neg (by omega), c1, if_neg (by omega)]
  have c3 : ∀ r c, cell (unc2 (unc1 (unc1 m x.1 x.2 u) y.1 y.2 u) x.1 y.2 u) r c = if r = x.1 ∧ c = y.2 then cell m x.1 y.2 + u else cell (unc1 (unc1 m x.1 x.2 u) y.1 y.2 u) r c := fun r c => by
    rw [show unc2 (unc1 (unc1 m x.1 x.2 u) y.1 y.2 u) x.1 y.2 u = ptN (unc1 (unc1 m x.1 x.2 u) y.1 y.2 u) x.1 y.2 (wrap64 (cell (unc1 (unc1 m x.1 x.2 u) y.1 y.2 u) x.1 y.2 + u)) from rfl, cell_ptN s2 hx1 hy2, n2, w64 (by omega) (by omega)]
  have n3 : cell (unc2 (unc1 (unc1 m x.1 x.2 u) y.1 y.2 u) x.1 y.2 u) y.1 x.2 = cell m y.1 x.2 := by rw [c3, if_neg (by omega), c2, if_neg (by omega), c1, if_neg (by omega)]
  rw [show unc2 (unc2 (unc1 (unc1 m x.1 x.2 u) y.1 y.2 u) x.1 y.2 u) y.1 x.2 u = ptN (unc2 (unc1 (unc1 m x.1 x.2 u) y.1 y.2 u) x.1 y.2 u) y.1 x.2 (wrap64 (cell (unc2 (unc1 (unc1 m x.1 x.2 u) y.1 y.2 u) x.1 y.2 u) y.1 x.2 + u)) from rfl, cell_ptN s3 hy1 hx2, n3, w64 (by omega) (by omega), c3, c2, c1]
  by_cases r1 : r = x.1
  · subst r1
    have r2 : ¬ x.1 = y.1 := by omega
    by_cases q1 : c = x.2
    · subst q1
      have q2 : ¬ x.2 = y.2 := by omega
      simp [r2, q2]; omega
    · by_cases q2 : c = y.2
      · subst q2; simp [r2, q1]
      · simp [r2, q1, q2]
  · by_cases r2 : r = y.1
    · subst r2
      have r3 : ¬ y.1 = x.1 := by omega
      by_cases q1 : c = x.2
      · subst q1
        have q2 : ¬ x.2 = y.2 := by omega
        simp [r3, q2]
      · by_cases q2 : c = y.2
        · subst q2; simp [r3, q1]; omega
        · simp [r3, q1, q2]
    · simp [r1, r2]
theorem sm_dirac (k : Nat) : ∀ n, sm n (fun i => if i = k then (1 : Int) else 0) = if k < n then 1 else 0 := sm_at 1 k
theorem unc_NN {m : List (List Int)} (h : Plan m) {x y : Nat × Nat} (hc : Crs m x y) (p q : Nat) : NN (cell (uncN m x y)) p q = NN (cell m) p q + uu m x y * ((if x.1 < p ∧ p ≤ y.1 then 1 else 0) * (if y.2 < q ∧ q ≤ x.2 then 1 else 0)) := by
  have l1 := hc.lt1
  have l2 := hc.lt2
  rw [NN_congr (g := fun r c => cell m r c + uu m x y * (((if r = x.1 then 1 else 0) - (if r = y.1 then 1 else 0)) * ((if c = y.2 then 1 else 0) - (if c = x.2 then 1 else 0)))) fun r c _ _ => unc_cell h hc r c]
  unfold NN
  have e : ∀ r, sm q (fun c => cell m r c + uu m x y * (((if r = x.1 then 1 else 0) - (if r = y.1 then 1 else 0)) * ((if c = y.2 then 1 else 0) - (if c = x.2 then 1 else 0)))) = sm q (fun c => cell m r c) + uu m x y * (((if r = x.1 then 1 else 0) - (if r = y.1 then 1 else 0)) * (if y.2 < q ∧ q ≤ x.2 then 1 else 0)) := fun r => by
    rw [sm_add, sm_mul, sm_mul, sm_sub, sm_dirac, sm_dirac]
    have : ((if y.2 < q then (1 : Int) else 0) - if x.2 < q then 1 else 0) = if y.2 < q ∧ q ≤ x.2 then 1 else 0 := by
      by_cases a : y.2 < q
      · by_cases b : x.2 < q
        · rw [if_pos a, if_pos b, if_neg (by omega)]; rfl
        · rw [if_pos a, if_neg b, if_pos (by omega)]; rfl
      · rw [if_neg a, if_neg (by omega), if_neg (by omega)]; rfl
    rw [this]
  have e2 : sm p (fun r => sm q fun c => cell m r c + uu m x y * (((if r = x.1 then 1 else 0) - (if r = y.1 then 1 else 0)) * ((if c = y.2 then 1 else 0) - (if c = x.2 then 1 else 0)))) = sm p fun r => sm q (fun c => cell m r c) + uu m x y * (((if r = x.1 then 1 else 0) - (if r = y.1 then 1 else 0)) * (if y.2 < q ∧ q ≤ x.2 then 1 else 0)) := sm_congr fun r _ => e r
  rw [e2, sm_add, sm_mul, sm_mul_r, sm_sub, sm_dirac, sm_dirac]
  have : ((if x.1 < p then (1 : Int) else 0) - if y.1 < p then 1 else 0) = if x.1 < p ∧ p ≤ y.1 then 1 else 0 := by
    by_cases a : x.1 < p
    · by_cases b : y.1 < p
      · rw [if_pos a, if_pos b, if_neg (by omega)]; rfl
      · rw [if_pos a, if_neg b, if_pos (by omega)]; rfl
    · rw [if_neg a, if_neg (by omega), if_neg (by omega)]; rfl
  rw [this]
theorem uu_pos {m : List (List Int)} {x y : Nat × Nat} (hc : Crs m x y) : 1 ≤ uu m x y := by have := hc.px; have := hc.py; unfold uu; omega
theorem unc_NN_ge {m : List (List Int)} (h : Plan m) {x y : Nat × Nat} (hc : Crs m x y) (p q : Nat) : NN (cell m) p q ≤ NN (cell (uncN m x y)) p q := by
  rw [unc_NN h hc]
  have u := uu_pos hc
  have : 0 ≤ uu m x y * ((if x.1 < p ∧ p ≤ y.1 then 1 else 0) * (if y.2 < q ∧ q ≤ x.2 then 1 else 0)) := by
    refine Int.mul_nonneg (by omega) (Int.mul_nonneg ?_ ?_) <;> split <;> omega
  omega
theorem unc_shp {m : List (List Int)} (h : Plan m) {x y : Nat × Nat} (hc : Crs m x y) : Shp (uncN m x y) m.length m.length := uncN_shp h.shp hc.x1 hc.y1
theorem unc_rows {m : List (List Int)} (h : Plan m) {x y : Nat × Nat} (hc : Crs m x y) : rowsP (uncN m x y) = rowsP m := by
  have sg := unc_shp h hc
  have hx := hc.x2
  refine cum_inj (by rw [rowsP_len, rowsP_len, sg.1]) fun k hk => ?_
  rw [rowsP_len, sg.1] at hk
  rw [rowsP_cum sg hk, rowsP_cum h.shp hk, unc_NN h hc, if_neg (c := y.2 < m.length ∧ m.length ≤ x.2) (by omega)]
  simp
theorem unc_cols {m : List (List Int)} (h : Plan m) {x y : Nat × Nat} (hc : Crs m x y) : colsP (uncN m x y) = colsP m := by
  have sg := unc_shp h hc
  have hy := hc.y1
  refine cum_inj (by rw [colsP_len, colsP_len, sg.1]) fun k hk => ?_
  rw [colsP_len, sg.1] at hk
  rw [colsP_cum sg hk, colsP_cum h.shp hk, unc_NN h hc, if_neg (c := x.1 < m.length ∧ m.length ≤ y.1) (by omega)]
  simp
theorem unc_cost {m : List (List Int)} (h : Plan m) {x y : Nat × Nat} (hc : Crs m x y) : costGo 0 (uncN m x y) ≤ costGo 0 m := by
  have sg := unc_shp h hc
  rw [cost_plan sg, cost_plan h.shp]
  refine sm_le fun k hk => ?_
  rw [← rowsP_cum sg (k := k + 1) (by omega), ← colsP_cum sg (k := k + 1) (by omega), ← rowsP_cum h.shp (k := k + 1) (by omega), ← colsP_cum h.shp (k := k + 1) (by omega), unc_rows h hc, unc_cols h hc]
  have := unc_NN_ge h hc (k + 1) (k + 1)
  omega
theorem unc_nonneg {m : List (List Int)} (h : Plan m) {x y : Nat × Nat} (hc : Crs m x y) (r c : Nat) : 0 ≤ cell (uncN m x y) r c := by
  rw [unc_cell h hc]
  have b := h.cell r c
  have u := uu_pos hc
  have hu : uu m x y ≤ cell m x.1 x.2 ∧ uu m x y ≤ cell m y.1 y.2 := by unfold uu; omega
  have l1 := hc.lt1
  have l2 := hc.lt2
  by_cases r1 : r = x.1
  · subst r1
    have r2 : ¬ x.1 = y.1 := by omega
    by_cases q1 : c = x.2
    · subst q1
      have q2 : ¬ x.2 = y.2 := by omega
      simp [r2, q2]; omega
    · by_cases q2 : c = y.2
      · subst q2; simp [r2, q1]; omega
      · simp [r2, q1, q2]; omega
  · by_cases r2 : r = y.1
    · subst r2
      have r3 : ¬ y.1 = x.1 := by omega
      by_cases q1 : c = x.2
      · subst q1
        have q2 : ¬ x.2 = y.2 := by omega
        simp [r3, q2]; omega
      · by_cases q2 : c = y.2
        · subst q2; simp [r3, q1]; omega
        · simp [r3, q1, q2]; omega
    · simp [r1, r2]; omega
theorem unc_plan {m : List (List Int)} (h : Plan m) {x y : Nat × Nat} (hc : Crs m x y) (hf : fits (rowsP m) (colsP m) = true) : Plan (uncN m x y) := by
  have sg := unc_shp h hc
  obtain ⟨ha, _, _, _⟩ := fits_iff.1 hf
  refine plan_of_cells sg h.1 h.2.1 fun i j hi hj => ⟨unc_nonneg h hc i j, ?_⟩
  have e := rowsP_getD sg hi
  rw [unc_rows h hc] at e
  have b := getD_bound (a := rowsP m) ha.2.2 (i := i) (by rw [rowsP_len]; exact hi)
  have g := sm_ge (f := fun q => cell (uncN m x y) i q) (n := m.length) (k := j) (fun q _ => unc_nonneg h hc i q) hj
  have g2 : cell (uncN m x y) i j ≤ sm m.length fun q => cell (uncN m x y) i q := g
  omega
def mu (m : List (List Int)) (n : Nat) : Int := sm n fun p => sm n fun q => NN (cell m) p q
theorem mu_step {m : List (List Int)} (h : Plan m) {x y : Nat × Nat} (hc : Crs m x y) : mu m m.length + 1 ≤ mu (uncN m x y) m.length := by
  have u := uu_pos hc
  have l1 := hc.lt1
  have l2 := hc.lt2
  have hx1 := hc.x1
  have hx2 := hc.x2
  have hy1 := hc.y1
  have hy2 := hc.y2
  have up : ∀ p q, 0 ≤ NN (cell (uncN m x y)) p q - NN (cell m) p q := fun p q => by have := unc_NN_ge h hc p q; omega
  have at1 : 1 ≤ NN (cell (uncN m x y)) y.1 x.2 - NN (cell m) y.1 x.2 := by
    rw [unc_NN h hc, if_pos ⟨by omega, by omega⟩, if_pos ⟨by omega, by omega⟩]; omega
  have e : mu (uncN m x y) m.length - mu m m.length = sm m.length fun p => sm m.length fun q => NN (cell (uncN m x y)) p q - NN (cell m) p q := by
    unfold mu
    rw [← sm_sub]
    exact sm_congr fun p _ => (sm_sub _ _ _).symm
  have g1 := sm_ge (f := fun p => sm m.length fun q => NN (cell (uncN m x y)) p q - NN (cell m) p q) (n := m.length) (k := y.1) (fun p _ => sm_nonneg fun q _ => up p q) hy1
  have g2 := sm_ge (f := fun q => NN (cell (uncN m x y)) y.1 q - NN (cell m) y.1 q) (n := m.length) (k := x.2) (fun q _ => up y.1 q) hx2
  have g1' : (sm m.length fun q => NN (cell (uncN m x y)) y.1 q - NN (cell m) y.1 q) ≤ sm m.length fun p => sm m.length fun q => NN (cell (uncN m x y)) p q - NN (cell m) p q := g1
  have g2' : NN (cell (uncN m x y)) y.1 x.2 - NN (cell m) y.1 x.2 ≤ sm m.length fun q => NN (cell (uncN m x y)) y.1 q - NN (cell m) y.1 q := g2
  omega
theorem sm_up {f : Nat → Int} {B : Int} {n : Nat} (hf : ∀ i, i < n → f i ≤ B) : sm n f ≤ n * B := by
  have := sm_le (f := f) (g := fun _ => B) (n := n) hf
  have e : ∀ k : Nat, sm k (fun _ => B) = k * B := fun k => by
    induction k with
    | zero => simp [sm]
    | succ k ih => rw [sm, ih, Int.natCast_succ, Int.add_mul, Int.one_mul]
  rw [e] at this; exact this
theorem mu_bound {m : List (List Int)} (h : Plan m) (hf : fits (rowsP m) (colsP m) = true) : 0 ≤ mu m m.length ∧ mu m m.length ≤ 26880 := by
  obtain ⟨ha, _, _, _⟩ := fits_iff.1 hf
  have h8 := h.2.1
  have nn : ∀ p q, 0 ≤ cell m p q := fun p q => (h.cell p q).1
  have n0 : ∀ p q, 0 ≤ NN (cell m) p q := fun p q => sm_nonneg fun r _ => sm_nonneg fun c _ => nn r c
  have n1 : ∀ p q, p < m.length → q < m.length → NN (cell m) p q ≤ 420 := fun p q hp hq => by
    have h1 := NN_mono_r (f := cell m) (i := p) (j := q) (j' := m.length) (fun p q _ _ => nn p q) (by omega)
    have h2 := rowsP_cum h.shp (k := p) (by omega)
    have h3 := cum_bound ha.2.2 p (by rw [rowsP_len]; omega)
    omega
  refine ⟨sm_nonneg fun p _ => sm_nonneg fun q _ => n0 p q, ?_⟩
  have h1 : mu m m.length ≤ m.length * 3360 := sm_up fun p hp => by
    have h2 := sm_up (f := fun q => NN (cell m) p q) (B := 420) (n := m.length) fun q hq => n1 p q hp hq
    have h3 : (m.length : Int) * 420 ≤ 3360 := by omega
    exact Int.le_trans h2 h3
  have h3 : (m.length : Int) * 3360 ≤ 26880 := by omega
  exact Int.le_trans h1 h3
end Go.Proofs.Ytojklddddedoeaa.Math
