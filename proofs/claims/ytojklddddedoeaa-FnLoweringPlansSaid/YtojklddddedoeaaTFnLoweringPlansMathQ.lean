/- Words of the kit's print, those of them that this law uses. -/
import Derived.Test.YtojklddddedoeaaTFnLoweringPlansMathP
namespace Go.Proofs.Ytojklddddedoeaa.Math
open Go.RowKit Go.Proofs.YtojklddddedoeaaW.PrintWords Go.Proofs.YtojklddddedoeaaW.PrintMore
set_option linter.unusedVariables false
set_option linter.unusedSimpArgs false
theorem NN_congr {f g : Nat → Nat → Int} {i j : Nat} (h : ∀ p q, p < i → q < j → f p q = g p q) : NN f i j = NN g i j := sm_congr fun p hp => sm_congr fun q hq => h p q hp hq
theorem NN_mono_l {f : Nat → Nat → Int} {i i' j : Nat} (h : ∀ p q, p < i' → q < j → 0 ≤ f p q) (hi : i ≤ i') : NN f i j ≤ NN f i' j := by
  obtain ⟨d, rfl⟩ : ∃ d, i' = i + d := ⟨i' - i, by omega⟩
  unfold NN
  rw [sm_split]
  have := sm_nonneg (f := fun p => sm j fun q => f (i + p) q) (n := d) fun p hp => sm_nonneg fun q hq => h (i + p) q (by omega) hq
  omega
def rowsP (m : List (List Int)) : List Int := m.map List.sum
def colsP (m : List (List Int)) : List Int := (colsUpto m m.length).map List.sum
theorem rowsP_getD {m : List (List Int)} {n : Nat} (h : Shp m n n) {p : Nat} (hp : p < n) : (rowsP m).getD p 0 = sm n fun q => cell m p q := by
  have hl : p < m.length := by rw [h.1]; exact hp
  have e : (rowsP m).getD p 0 = (m.getD p []).sum := by unfold rowsP; simp [List.getD_eq_getElem?_getD, hl]
  rw [e, sum_sm, h.row hp]
  rfl
theorem colsP_getD {m : List (List Int)} {n : Nat} (h : Shp m n n) {q : Nat} (hq : q < n) : (colsP m).getD q 0 = sm n fun p => cell m p q := by
  have hl : q < m.length := by rw [h.1]; exact hq
  have e : (colsP m).getD q 0 = (m.map fun r => r.getD q 0).sum := by unfold colsP colsUpto; simp [List.getD_eq_getElem?_getD, hl]
  rw [e, sum_sm, List.length_map, h.1]
  refine sm_congr fun p hp => ?_
  have hp2 : p < m.length := by rw [h.1]; exact hp
  unfold cell
  simp [List.getD_eq_getElem?_getD, hp2]
theorem rowsP_len (m : List (List Int)) : (rowsP m).length = m.length := by simp [rowsP]
theorem colsP_len (m : List (List Int)) : (colsP m).length = m.length := by simp [colsP, colsUpto]
theorem rowsP_cum {m : List (List Int)} {n : Nat} (h : Shp m n n) : ∀ {k : Nat}, k ≤ n → cum (rowsP m) k = NN (cell m) k n := by
  intro k hk
  unfold cum NN
  exact sm_congr fun p hp => rowsP_getD h (by omega)
theorem colsP_cum {m : List (List Int)} {n : Nat} (h : Shp m n n) : ∀ {k : Nat}, k ≤ n → cum (colsP m) k = NN (cell m) n k := by
  intro k hk
  have : NN (cell m) n k = sm k fun q => sm n fun p => cell m p q := sm_swap _ _ _
  rw [this]
  exact sm_congr fun q hq => colsP_getD h (by omega)
theorem monoP_NN {a b : List Int} (h : fits a b = true) {i j : Nat} (hi : i ≤ a.length) (hj : j ≤ a.length) : NN (cell (monoP a b)) i j = min (cum a i) (cum b j) := by
  obtain ⟨ha, hb, hl, hs⟩ := fits_iff.1 h
  have h8 := ha.2.1
  rw [NN_congr (g := Dm (cum a) (cum b)) fun p q hp hq => monoP_cell hl ha.2.2 hb.2.2 (by omega) p q (by omega) (by omega)]
  exact Dm_N i j rfl rfl (fun p hp => (cum_bound ha.2.2 p (by omega)).1) (cum_bound hb.2.2 j (by omega)).1
theorem cum_le {a : List Int} (ha : ∀ x ∈ a, 0 ≤ x ∧ x ≤ 60) {i : Nat} : ∀ {j : Nat}, i ≤ j → j ≤ a.length → cum a i ≤ cum a j
  | 0, h, _ => by have : i = 0 := by omega
                  subst this; exact Int.le_refl _
  | j + 1, h, hj => by
    by_cases c : i = j + 1
    · subst c; exact Int.le_refl _
    · have := cum_le ha (i := i) (j := j) (by omega) (by omega)
      have := cum_mono ha (p := j) (by omega)
      omega
theorem cum_inj {a b : List Int} (hl : a.length = b.length) (h : ∀ k, k ≤ a.length → cum a k = cum b k) : a = b := list_ext_getD hl fun i hi => by
  have h1 := h i (by omega)
  have h2 := h (i + 1) (by omega)
  rw [cum_succ, cum_succ] at h2
  omega
theorem monoP_rows {a b : List Int} (h : fits a b = true) : rowsP (monoP a b) = a := by
  obtain ⟨ha, hb, hl, hs⟩ := fits_iff.1 h
  have hsh := monoP_shp a b
  have e0 : (rowsP (monoP a b)).length = a.length := by rw [rowsP_len, hsh.1]
  refine cum_inj e0 fun k hk => ?_
  rw [e0] at hk
  rw [rowsP_cum hsh hk, monoP_NN h hk (Nat.le_refl _)]
  have h1 := cum_le ha.2.2 hk (Nat.le_refl _)
  have h2 := cum_sum a
  have h3 := cum_sum b
  rw [hl] at *
  omega
theorem monoP_cols {a b : List Int} (h : fits a b = true) : colsP (monoP a b) = b := by
  obtain ⟨ha, hb, hl, hs⟩ := fits_iff.1 h
  have hsh := monoP_shp a b
  have e0 : (colsP (monoP a b)).length = b.length := by rw [colsP_len, hsh.1, hl]
  refine cum_inj e0 fun k hk => ?_
  rw [e0] at hk
  rw [colsP_cum hsh (by omega), monoP_NN h (Nat.le_refl _) (by omega)]
  have h1 := cum_le hb.2.2 hk (Nat.le_refl _)
  have h2 := cum_sum a
  have h3 := cum_sum b
  omega
end Go.Proofs.Ytojklddddedoeaa.Math
