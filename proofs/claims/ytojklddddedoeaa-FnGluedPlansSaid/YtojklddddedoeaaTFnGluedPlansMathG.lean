/- Words of the kit's print, those of them that this law uses. -/
import Derived.Test.YtojklddddedoeaaTFnGluedPlansMathQ
namespace Go.Proofs.Ytojklddddedoeaa.Math
open Go.RowKit Go.Proofs.YtojklddddedoeaaW.PrintWords Go.Proofs.YtojklddddedoeaaW.PrintMore
set_option linter.unusedVariables false
set_option linter.unusedSimpArgs false
theorem turn_cell {m : List (List Int)} {n : Nat} (h : Shp m n n) {i j : Nat} (hi : i < n) (hj : j < n) : cell (colsUpto m m.length) i j = cell m j i := by
  have hi2 : i < m.length := by rw [h.1]; exact hi
  have hj2 : j < m.length := by rw [h.1]; exact hj
  unfold cell colsUpto
  simp [List.getD_eq_getElem?_getD, hi2, hj2]
theorem turn_shp {m : List (List Int)} {n : Nat} (h : Shp m n n) : Shp (colsUpto m m.length) n n := ⟨by rw [colsUpto_len, h.1], fun r hr => by
  unfold colsUpto at hr
  obtain ⟨c, _, rfl⟩ := List.mem_map.1 hr
  rw [List.length_map, List.take_length, h.1]⟩
theorem turn_plan {m : List (List Int)} (h : Plan m) : Plan (colsUpto m m.length) :=
  plan_of_cells (turn_shp h.shp) h.1 h.2.1 fun i j hi hj => by rw [turn_cell h.shp hi hj]; exact h.cell j i
theorem turn_back {m : List (List Int)} (h : Plan m) : colsUpto (colsUpto m m.length) (colsUpto m m.length).length = m :=
  cell_ext (turn_shp (turn_shp h.shp)) h.shp fun i j hi hj => by rw [turn_cell (turn_shp h.shp) hi hj, turn_cell h.shp hj hi]
theorem dist_comm (i j : Nat) : dist i j = dist j i := by unfold dist; omega
theorem turn_cost {m : List (List Int)} (h : Plan m) : costGo 0 (colsUpto m m.length) = costGo 0 m := by
  rw [cost_cells (turn_shp h.shp), cost_cells h.shp, sm_swap]
  refine sm_congr fun p hp => sm_congr fun q hq => ?_
  rw [turn_cell h.shp hq hp, dist_comm]
theorem turn_cross1 {m : List (List Int)} (h : Plan m) (e : crossGo (cellsGo 0 m) (cellsGo 0 m) = none) : crossGo (cellsGo 0 (colsUpto m m.length)) (cellsGo 0 (colsUpto m m.length)) = none := by
  rw [crossGo_none] at e ⊢
  rintro x hx y hy ⟨c1, c2⟩
  obtain ⟨x1, x2, x3⟩ := (mem_cells (turn_shp h.shp) x).1 hx
  obtain ⟨y1, y2, y3⟩ := (mem_cells (turn_shp h.shp) y).1 hy
  rw [turn_cell h.shp x1 x2] at x3
  rw [turn_cell h.shp y1 y2] at y3
  exact e (y.2, y.1) ((mem_cells h.shp _).2 ⟨y2, y1, y3⟩) (x.2, x.1) ((mem_cells h.shp _).2 ⟨x2, x1, x3⟩) ⟨c2, c1⟩
theorem turn_cross {m : List (List Int)} (h : Plan m) : (crossGo (cellsGo 0 m) (cellsGo 0 m)).isNone = (crossGo (cellsGo 0 (colsUpto m m.length)) (cellsGo 0 (colsUpto m m.length))).isNone := by
  rw [Bool.eq_iff_iff, Option.isNone_iff_eq_none, Option.isNone_iff_eq_none]
  refine ⟨turn_cross1 h, fun e => ?_⟩
  have := turn_cross1 (turn_plan h) e
  rwa [turn_back h] at this
theorem lineDist_bound {a b : List Int} (h : fits a b = true) : 0 ≤ lineDist a b ∧ lineDist a b ≤ 30720 := by
  rw [← monoP_cost h]
  exact cost_bound (monoP_plan h)
theorem glue_fits {m n : List (List Int)} (hm : Plan m) (hn : Plan n) (he : n.length = m.length) (hs : colsP m = rowsP n) {k : Nat} (hk : k < m.length) : fits (colOf m k) (n.getD k []) = true := by
  have hl : (colOf m k).length = m.length := by simp [colOf]
  have hr : (n.getD k []).length = m.length := by rw [← he]; exact hn.shp.row (by omega)
  have e1 : (colOf m k).sum = (colsP m).getD k 0 := by
    rw [colsP_getD hm.shp hk, sum_sm, hl]
    refine sm_congr fun p hp => ?_
    unfold colOf cell
    simp [List.getD_eq_getElem?_getD, hp]
  have e2 : (n.getD k []).sum = (rowsP n).getD k 0 := by
    rw [rowsP_getD hn.shp (by omega), sum_sm, hr, he]
    rfl
  have hkn : k < n.length := by omega
  have hnk : n.getD k [] = n[k] := by simp [List.getD_eq_getElem?_getD, hkn]
  rw [fits_iff]
  refine ⟨⟨by rw [hl]; exact hm.1, by rw [hl]; exact hm.2.1, fun x hx => ?_⟩, ⟨by rw [hr]; exact hm.1, by rw [hr]; exact hm.2.1, fun x hx => ?_⟩, by omega, by rw [e1, e2, hs]⟩
  · unfold colOf at hx
    obtain ⟨r, hr2, rfl⟩ := List.mem_map.1 hx
    exact hm.getD hr2 k
  · rw [hnk] at hx
    exact (hn.2.2 _ (List.getElem_mem hkn)).2 x hx
def gl (m n : List (List Int)) (i j k : Nat) : Int := sm k fun t => cell (monoP (colOf m t) (n.getD t [])) i j
theorem glue_cell {m n : List (List Int)} (hm : Plan m) (hn : Plan n) (he : n.length = m.length) (hs : colsP m = rowsP n) : ∀ k, k ≤ m.length → ∀ i j, i < m.length → j < m.length → cell (glueF m n k) i j = gl m n i j k ∧ 0 ≤ gl m n i j k ∧ gl m n i j k ≤ 60 * k
  | 0, _, i, j, _, _ => by
    unfold glueF zerosP
    rw [cell_zeros]
    exact ⟨rfl, by show (0 : Int) ≤ 0; omega, by show (0 : Int) ≤ 60 * ((0 : Nat) : Int); omega⟩
  | k + 1, hk, i, j, hi, hj => by
    obtain ⟨ih, i0, i1⟩ := glue_cell hm hn he hs k (by omega) i j hi hj
    have hf := glue_fits hm hn he hs (k := k) (by omega)
    have hc := (monoP_plan hf).cell i j
    have hl : (colOf m k).length = m.length := by simp [colOf]
    have sp := monoP_shp (colOf m k) (n.getD k [])
    rw [hl] at sp
    have h8 := hm.2.1
    have eg : gl m n i j (k + 1) = gl m n i j k + cell (monoP (colOf m k) (n.getD k [])) i j := rfl
    have ec : cell (glueF m n (k + 1)) i j = wrap64 (cell (glueF m n k) i j + cell (monoP (colOf m k) (n.getD k [])) i j) := addT_cell (glueF_shp m n k) sp hi hj
    rw [ec, ih, eg, w64 (by omega) (by omega)]
    exact ⟨rfl, by omega, by omega⟩
theorem glue_rows {m n : List (List Int)} (hm : Plan m) (hn : Plan n) (he : n.length = m.length) (hs : colsP m = rowsP n) : rowsP (glueF m n m.length) = rowsP m := by
  have sg := glueF_shp m n m.length
  refine list_ext_getD (by rw [rowsP_len, rowsP_len, sg.1]) fun i hi => ?_
  rw [rowsP_len, sg.1] at hi
  rw [rowsP_getD sg hi, rowsP_getD hm.shp hi, sm_congr (g := fun q => gl m n i q m.length) fun q hq => (glue_cell hm hn he hs m.length (Nat.le_refl _) i q hi hq).1]
  unfold gl
  rw [sm_swap]
  refine sm_congr fun t ht => ?_
  have hf := glue_fits hm hn he hs ht
  have hl : (colOf m t).length = m.length := by simp [colOf]
  have sp := monoP_shp (colOf m t) (n.getD t [])
  rw [hl] at sp
  rw [← rowsP_getD sp hi, monoP_rows hf]
  unfold colOf cell
  simp [List.getD_eq_getElem?_getD, hi]
theorem glue_cols {m n : List (List Int)} (hm : Plan m) (hn : Plan n) (he : n.length = m.length) (hs : colsP m = rowsP n) : colsP (glueF m n m.length) = colsP n := by
  have sg := glueF_shp m n m.length
  have sn : Shp n m.length m.length := he ▸ hn.shp
  refine list_ext_getD (by rw [colsP_len, colsP_len, sg.1, he]) fun j hj => ?_
  rw [colsP_len, sg.1] at hj
  rw [colsP_getD sg hj, colsP_getD sn hj, sm_congr (g := fun p => gl m n p j m.length) fun p hp => (glue_cell hm hn he hs m.length (Nat.le_refl _) p j hp hj).1]
  unfold gl
  rw [sm_swap]
  refine sm_congr fun t ht => ?_
  have hf := glue_fits hm hn he hs ht
  have hl : (colOf m t).length = m.length := by simp [colOf]
  have sp := monoP_shp (colOf m t) (n.getD t [])
  rw [hl] at sp
  rw [← colsP_getD sp hj, monoP_cols hf]
  rfl
theorem to_place {a : List Int} (ha : ∀ x ∈ a, 0 ≤ x ∧ x ≤ 60) {k : Nat} (hk : k < a.length) : (sm a.length fun i => a.getD i 0 * dist i k) = sm a.length fun t => ab (cum a (t + 1) - (if k < t + 1 then a.sum else 0)) := by
  have e1 : (sm a.length fun i => a.getD i 0 * dist i k) = sm a.length fun i => sm a.length fun t => a.getD i 0 * ((if i < t + 1 then 1 else 0) + (if k < t + 1 then 1 else 0) - 2 * (if i < t + 1 ∧ k < t + 1 then 1 else 0)) := sm_congr fun i hi => by rw [dist_steps i k a.length hi hk, ← sm_mul]
  rw [e1, sm_swap]
  refine sm_congr fun t ht => ?_
  have ca : cum a (t + 1) = sm a.length fun i => if i < t + 1 then a.getD i 0 else 0 := sm_ind _ (by omega)
  have cb := cum_bound ha (t + 1) (by omega)
  have cs := cum_le ha (i := t + 1) (j := a.length) (by omega) (Nat.le_refl _)
  rw [cum_sum] at cs
  by_cases c : k < t + 1
  · simp only [c, and_true, if_true]
    have e : (sm a.length fun i => a.getD i 0 * ((if i < t + 1 then 1 else 0) + 1 - 2 * (if i < t + 1 then 1 else 0))) = sm a.length fun i => a.getD i 0 - (if i < t + 1 then a.getD i 0 else 0) := sm_congr fun i _ => by
      by_cases q : i < t + 1
      · simp only [q, if_true]; omega
      · simp only [q, if_false]; omega
    rw [e, sm_sub, ← ca, ← sum_sm]
    unfold ab
    omega
  · simp only [c, and_false, if_false]
    have e : (sm a.length fun i => a.getD i 0 * ((if i < t + 1 then 1 else 0) + 0 - 2 * 0)) = sm a.length fun i => if i < t + 1 then a.getD i 0 else 0 := sm_congr fun i _ => by
      by_cases q : i < t + 1
      · simp only [q, if_true]; omega
      · simp only [q, if_false]; omega
    rw [e, ← ca]
    unfold ab
    omega
theorem by_place {a b : List Int} (h : fits a b = true) {k : Nat} (hk : k < a.length) : lineDist a b ≤ (sm a.length fun i => a.getD i 0 * dist i k) + sm a.length fun j => b.getD j 0 * dist k j := by
  obtain ⟨ha, hb, hl, hs⟩ := fits_iff.1 h
  have e : (sm a.length fun j => b.getD j 0 * dist k j) = sm b.length fun j => b.getD j 0 * dist j k := by rw [hl]; exact sm_congr fun j _ => by rw [dist_comm]
  rw [e, to_place ha.2.2 hk, to_place hb.2.2 (by omega), lineDist_sm hl, ← hl, ← sm_add, hs]
  refine sm_le fun t ht => ?_
  unfold ab
  omega
theorem glue_cost {m n : List (List Int)} (hm : Plan m) (hn : Plan n) (he : n.length = m.length) (hs : colsP m = rowsP n) : costGo 0 (glueF m n m.length) ≤ costGo 0 m + costGo 0 n := by
  have sg := glueF_shp m n m.length
  have sn : Shp n m.length m.length := he ▸ hn.shp
  have e1 : costGo 0 (glueF m n m.length) = sm m.length fun t => lineDist (colOf m t) (n.getD t []) := by
    rw [cost_cells sg]
    have a1 : (sm m.length fun p => sm m.length fun q => cell (glueF m n m.length) p q * dist p q) = sm m.length fun p => sm m.length fun q => sm m.length fun t => cell (monoP (colOf m t) (n.getD t [])) p q * dist p q := sm_congr fun p hp => sm_congr fun q hq => by
      rw [(glue_cell hm hn he hs m.length (Nat.le_refl _) p q hp hq).1]
      unfold gl
      rw [sm_mul_r]
    rw [a1]
    have a2 : (sm m.length fun p => sm m.length fun q => sm m.length fun t => cell (monoP (colOf m t) (n.getD t [])) p q * dist p q) = sm m.length fun p => sm m.length fun t => sm m.length fun q => cell (monoP (colOf m t) (n.getD t [])) p q * dist p q := sm_congr fun p _ => sm_swap _ _ _
    rw [a2, sm_swap]
    refine sm_congr fun t ht => ?_
    have hf := glue_fits hm hn he hs ht
    have hl : (colOf m t).length = m.length := by simp [colOf]
    have sp := monoP_shp (colOf m t) (n.getD t [])
    rw [hl] at sp
    rw [← cost_cells sp, monoP_cost hf]
  rw [e1, cost_cells hm.shp, cost_cells sn, sm_swap (fun p q => cell m p q * dist p q), ← sm_add]
  refine sm_le fun t ht => ?_
  have hf := glue_fits hm hn he hs ht
  have hl : (colOf m t).length = m.length := by simp [colOf]
  have := by_place hf (k := t) (by omega)
  rw [hl] at this
  have e2 : (sm m.length fun i => (colOf m t).getD i 0 * dist i t) = sm m.length fun i => cell m i t * dist i t := sm_congr fun i hi => by
    have : (colOf m t).getD i 0 = cell m i t := by
      unfold colOf cell
      simp [List.getD_eq_getElem?_getD, hi]
    rw [this]
  rw [e2] at this
  exact this
end Go.Proofs.Ytojklddddedoeaa.Math
