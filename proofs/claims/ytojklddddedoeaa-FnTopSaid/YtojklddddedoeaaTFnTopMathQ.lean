/- Words of the kit's print, those of them that this law uses. -/
import Derived.Test.YtojklddddedoeaaTFnTopMathP
namespace Go.Proofs.Ytojklddddedoeaa.Math
open Go.RowKit Go.Proofs.YtojklddddedoeaaW.PrintWords Go.Proofs.YtojklddddedoeaaW.PrintMore
set_option linter.unusedVariables false
set_option linter.unusedSimpArgs false
theorem NN_congr {f g : Nat → Nat → Int} {i j : Nat} (h : ∀ p q, p < i → q < j → f p q = g p q) : NN f i j = NN g i j := sm_congr fun p hp => sm_congr fun q hq => h p q hp hq
theorem NN_mono_l {f : Nat → Nat → Int} {i i' j : Nat} (h : ∀ p q, p < i' → q < j → 0 ≤ f p q) (hi : i ≤ i') : NN f i j ≤ NN f i' j := by
  obtain ⟨d, rfl⟩ : ∃ d, i' = i + d := ⟨i' - i, by omega⟩
  unfold NN
  rw [sm_split]
  have := sm_nonneg (f := fun p => sm j fun q => f (i + p) q) (n := d) fun p hp => sm_nonneg fun q hq => h (i + p) q (by omega) hq
  omega
def dist (i j : Nat) : Int := max ((i : Int) - j) ((j : Int) - i)
theorem rowCost_sm (i : Nat) : ∀ (l : List Int) (j : Nat), rowCost i j l = sm l.length fun q => l.getD q 0 * dist i (j + q)
  | [], _ => rfl
  | x :: t, j => by
    rw [rowCost, List.length_cons, sm_cons, rowCost_sm i t (j + 1)]
    have e : sm t.length (fun q => t.getD q 0 * dist i (j + 1 + q)) = sm t.length fun q => (x :: t).getD (q + 1) 0 * dist i (j + (q + 1)) := sm_congr fun q _ => by rw [getD_cons_succ, show j + 1 + q = j + (q + 1) by omega]
    rw [e]
    rfl
theorem costGo_sm : ∀ (m : List (List Int)) (i : Nat), costGo i m = sm m.length fun p => sm (m.getD p []).length fun q => cell m p q * dist (i + p) q
  | [], _ => rfl
  | r :: t, i => by
    have hc : ∀ f : Nat → Int, sm (t.length + 1) f = f 0 + sm t.length fun p => f (p + 1) := fun f => sm_cons f t.length
    rw [costGo, List.length_cons, hc, costGo_sm t (i + 1), rowCost_sm]
    have e : sm t.length (fun p => sm (t.getD p []).length fun q => cell t p q * dist (i + 1 + p) q) = sm t.length fun p => sm ((r :: t).getD (p + 1) []).length fun q => cell (r :: t) (p + 1) q * dist (i + (p + 1)) q := sm_congr fun p _ => by
      have e1 : (r :: t).getD (p + 1) [] = t.getD p [] := by simp
      unfold cell
      rw [e1, show i + 1 + p = i + (p + 1) by omega]
    rw [e]
    have e0 : (r :: t).getD 0 [] = r := rfl
    have ec : ∀ q, cell (r :: t) 0 q = r.getD q 0 := fun q => rfl
    simp only [e0, ec, Nat.zero_add, Nat.add_zero]
theorem cost_cells {m : List (List Int)} {n : Nat} (h : Shp m n n) : costGo 0 m = sm n fun p => sm n fun q => cell m p q * dist p q := by
  rw [costGo_sm, h.1]
  refine sm_congr fun p hp => ?_
  rw [h.row hp]
  exact sm_congr fun q _ => by rw [Nat.zero_add]
theorem dist_steps (i j n : Nat) (hi : i < n) (hj : j < n) : dist i j = sm n fun k => (if i < k + 1 then 1 else 0) + (if j < k + 1 then 1 else 0) - 2 * (if i < k + 1 ∧ j < k + 1 then 1 else 0) := by
  have s1 : ∀ a : Nat, a < n → sm n (fun k => if a < k + 1 then (1 : Int) else 0) = (n : Int) - a := fun a ha => sm_one a n (by omega)
  have e : (fun k => (if i < k + 1 then (1 : Int) else 0) + (if j < k + 1 then 1 else 0) - 2 * (if i < k + 1 ∧ j < k + 1 then 1 else 0)) = fun k => ((if i < k + 1 then (1 : Int) else 0) + (if j < k + 1 then 1 else 0)) - 2 * (if (max i j) < k + 1 then 1 else 0) := by
    funext k
    have : (i < k + 1 ∧ j < k + 1) ↔ max i j < k + 1 := by omega
    simp only [this]
  rw [e, sm_sub, sm_add, sm_mul, s1 i hi, s1 j hj, s1 (max i j) (by omega)]
  unfold dist
  omega
theorem sm_box (f : Nat → Nat → Int) (n a b : Nat) (ha : a ≤ n) (hb : b ≤ n) : NN f a b = sm n fun p => sm n fun q => f p q * (if p < a ∧ q < b then 1 else 0) := by
  unfold NN
  rw [sm_ind _ ha]
  refine sm_congr fun p hp => ?_
  by_cases c : p < a
  · rw [if_pos c, sm_ind _ hb]
    refine sm_congr fun q hq => ?_
    by_cases c2 : q < b
    · rw [if_pos c2, if_pos ⟨c, c2⟩, Int.mul_one]
    · rw [if_neg c2, if_neg (fun h => c2 h.2), Int.mul_zero]
  · rw [if_neg c]
    have : (fun q => f p q * (if p < a ∧ q < b then (1 : Int) else 0)) = fun _ => 0 := by
      funext q; rw [if_neg (fun h => c h.1), Int.mul_zero]
    rw [this, sm_zero]
theorem cost_N (f : Nat → Nat → Int) (n : Nat) : (sm n fun p => sm n fun q => f p q * dist p q) = sm n fun k => NN f (k + 1) n + NN f n (k + 1) - 2 * NN f (k + 1) (k + 1) := by
  have e1 : (sm n fun p => sm n fun q => f p q * dist p q) = sm n fun p => sm n fun q => sm n fun k => f p q * ((if p < k + 1 then 1 else 0) + (if q < k + 1 then 1 else 0) - 2 * (if p < k + 1 ∧ q < k + 1 then 1 else 0)) := by
    refine sm_congr fun p hp => sm_congr fun q hq => ?_
    rw [dist_steps p q n hp hq, ← sm_mul]
  rw [e1]
  have e2 : (sm n fun p => sm n fun q => sm n fun k => f p q * ((if p < k + 1 then 1 else 0) + (if q < k + 1 then 1 else 0) - 2 * (if p < k + 1 ∧ q < k + 1 then 1 else 0))) = sm n fun k => sm n fun p => sm n fun q => f p q * ((if p < k + 1 then 1 else 0) + (if q < k + 1 then 1 else 0) - 2 * (if p < k + 1 ∧ q < k + 1 then 1 else 0)) := by
    have e3 : (sm n fun p => sm n fun q => sm n fun k => f p q * ((if p < k + 1 then 1 else 0) + (if q < k + 1 then 1 else 0) - 2 * (if p < k + 1 ∧ q < k + 1 then 1 else 0))) = sm n fun p => sm n fun k => sm n fun q => f p q * ((if p < k + 1 then 1 else 0) + (if q < k + 1 then 1 else 0) - 2 * (if p < k + 1 ∧ q < k + 1 then 1 else 0)) := sm_congr fun p _ => sm_swap _ n n
    rw [e3]
    exact sm_swap _ n n
  rw [e2]
  refine sm_congr fun k hk => ?_
  rw [sm_box f n (k + 1) n (by omega) (Nat.le_refl n), sm_box f n n (k + 1) (Nat.le_refl n) (by omega), sm_box f n (k + 1) (k + 1) (by omega) (by omega), ← sm_add, ← sm_mul, ← sm_sub]
  refine sm_congr fun p hp => ?_
  rw [← sm_add, ← sm_mul, ← sm_sub]
  refine sm_congr fun q hq => ?_
  have c1 : (p < k + 1 ∧ q < n) ↔ p < k + 1 := by omega
  have c2 : (p < n ∧ q < k + 1) ↔ q < k + 1 := by omega
  simp only [c1, c2]
  rw [Int.mul_sub, Int.mul_add]
  congr 1
  rw [← Int.mul_assoc, ← Int.mul_assoc, Int.mul_comm (f p q) 2]
def rowsP (m : List (List Int)) : List Int := m.map List.sum
def colsP (m : List (List Int)) : List Int := (colsUpto m m.length).map List.sum
theorem rowsP_getD {m : List (List Int)} {n : Nat} (h : Shp m n n) {p : Nat} (hp : p < n) : (rowsP m).getD p 0 = sm n fun q => cell m p q := by
  have hl : p < m.length := by rw [h.1]; exact hp
  have e : (rowsP m).getD p 0 = (m.getD p []).sum := by unfold rowsP; simp [List.getD_eq_getElem?_getD, hl]
  rw [e, sum_sm, h.row hp]
  rfl
theorem colsP_getD {m : List (List Int)} {n : Nat} (h : Shp m n n) {q : Nat} (hq : q < n) : (colsP m).getD q 0 = sm n fun p => cell m p q := by
  have hl : q < m.length := by rw [h.1]; exact hq
  have e : (colsP m).getD q 0 = (m.map fun r => r.getD q 0).sum := by unfold colsP colsUpto; simp [List.getD_eq_getElem?_getD, hl]
  rw [e, sum_sm, List.length_map, h.1]
  refine sm_congr fun p hp => ?_
  have hp2 : p < m.length := by rw [h.1]; exact hp
  unfold cell
  simp [List.getD_eq_getElem?_getD, hp2]
theorem rowsP_len (m : List (List Int)) : (rowsP m).length = m.length := by simp [rowsP]
theorem colsP_len (m : List (List Int)) : (colsP m).length = m.length := by simp [colsP, colsUpto]
theorem rowsP_cum {m : List (List Int)} {n : Nat} (h : Shp m n n) : ∀ {k : Nat}, k ≤ n → cum (rowsP m) k = NN (cell m) k n := by
  intro k hk
  unfold cum NN
  exact sm_congr fun p hp => rowsP_getD h (by omega)
theorem colsP_cum {m : List (List Int)} {n : Nat} (h : Shp m n n) : ∀ {k : Nat}, k ≤ n → cum (colsP m) k = NN (cell m) n k := by
  intro k hk
  have : NN (cell m) n k = sm k fun q => sm n fun p => cell m p q := sm_swap _ _ _
  rw [this]
  exact sm_congr fun q hq => colsP_getD h (by omega)
def ab (x : Int) : Int := max x (-x)
theorem dsums_sm : ∀ (a b : List Int) (s : Int), a.length = b.length → sabs1 (dsums s a b) = sm a.length fun k => ab (s + cum a (k + 1) - cum b (k + 1))
  | [], [], _, _ => rfl
  | x :: a, y :: b, s, h => by
    have hl : a.length = b.length := by simpa using h
    have cs : ∀ (z : Int) (c : List Int) (k : Nat), cum (z :: c) (k + 1) = z + cum c k := fun z c k => by
      unfold cum
      rw [sm_cons]
      congr 1
    rw [dsums, sabs1, dsums_sm a b (s + (x - y)) hl, List.length_cons, sm_cons]
    have e0 : cum (x :: a) (0 + 1) = x := by rw [cs]; show x + 0 = x; omega
    have e1 : cum (y :: b) (0 + 1) = y := by rw [cs]; show y + 0 = y; omega
    rw [e0, e1]
    have e2 : sm a.length (fun k => ab (s + (x - y) + cum a (k + 1) - cum b (k + 1))) = sm a.length fun i => ab (s + cum (x :: a) (i + 1 + 1) - cum (y :: b) (i + 1 + 1)) := sm_congr fun k _ => by
      rw [cs, cs]; congr 1; omega
    rw [e2]
    unfold ab
    congr 1
    congr 1 <;> omega
  | [], _ :: _, _, h => by simp at h
  | _ :: _, [], _, h => by simp at h
theorem lineDist_sm {a b : List Int} (h : a.length = b.length) : lineDist a b = sm a.length fun k => ab (cum a (k + 1) - cum b (k + 1)) := by
  unfold lineDist
  rw [dsums_sm a b 0 h]
  exact sm_congr fun k _ => by rw [Int.zero_add]
theorem cost_plan {m : List (List Int)} {n : Nat} (h : Shp m n n) : costGo 0 m = sm n fun k => NN (cell m) (k + 1) n + NN (cell m) n (k + 1) - 2 * NN (cell m) (k + 1) (k + 1) := by
  rw [cost_cells h, cost_N]
theorem cost_bound {m : List (List Int)} (h : Plan m) : 0 ≤ costGo 0 m ∧ costGo 0 m ≤ 30720 := by
  have h8 := h.2.1
  rw [cost_cells h.shp]
  have d : ∀ p q, p < m.length → q < m.length → 0 ≤ cell m p q * dist p q ∧ cell m p q * dist p q ≤ 480 := fun p q hp hq => by
    have c := h.cell p q
    have : 0 ≤ dist p q ∧ dist p q ≤ 8 := by unfold dist; omega
    exact ⟨Int.mul_nonneg c.1 this.1, by have := Int.mul_le_mul c.2 this.2 this.1 (by omega : (0 : Int) ≤ 60); omega⟩
  have up : ∀ (f : Nat → Int) (B : Int) (n : Nat), (∀ i, i < n → f i ≤ B) → sm n f ≤ n * B := fun f B n hf => by
    have := sm_le (f := f) (g := fun _ => B) (n := n) hf
    have e : ∀ k : Nat, sm k (fun _ => B) = k * B := fun k => by
      induction k with
      | zero => simp [sm]
      | succ k ih => rw [sm, ih, Int.natCast_succ, Int.add_mul, Int.one_mul]
    rw [e] at this; exact this
  refine ⟨sm_nonneg fun p hp => sm_nonneg fun q hq => (d p q hp hq).1, ?_⟩
  have h1 := up (fun p => sm m.length fun q => cell m p q * dist p q) 3840 m.length fun p hp => by
    have h2 := up (fun q => cell m p q * dist p q) 480 m.length fun q hq => (d p q hp hq).2
    have : (m.length : Int) ≤ 8 := by omega
    have h3 : (m.length : Int) * 480 ≤ 3840 := by omega
    exact Int.le_trans h2 h3
  have h3 : (m.length : Int) * 3840 ≤ 30720 := by omega
  exact Int.le_trans h1 h3
theorem monoP_NN {a b : List Int} (h : fits a b = true) {i j : Nat} (hi : i ≤ a.length) (hj : j ≤ a.length) : NN (cell (monoP a b)) i j = min (cum a i) (cum b j) := by
  obtain ⟨ha, hb, hl, hs⟩ := fits_iff.1 h
  have h8 := ha.2.1
  rw [NN_congr (g := Dm (cum a) (cum b)) fun p q hp hq => monoP_cell hl ha.2.2 hb.2.2 (by omega) p q (by omega) (by omega)]
  exact Dm_N i j rfl rfl (fun p hp => (cum_bound ha.2.2 p (by omega)).1) (cum_bound hb.2.2 j (by omega)).1
theorem cum_le {a : List Int} (ha : ∀ x ∈ a, 0 ≤ x ∧ x ≤ 60) {i : Nat} : ∀ {j : Nat}, i ≤ j → j ≤ a.length → cum a i ≤ cum a j
  | 0, h, _ => by have : i = 0 := by omega
                  subst this; exact Int.le_refl _
  | j + 1, h, hj => by
    by_cases c : i = j + 1
    · subst c; exact Int.le_refl _
    · have := cum_le ha (i := i) (j := j) (by omega) (by omega)
      have := cum_mono ha (p := j) (by omega)
      omega
theorem cum_inj {a b : List Int} (hl : a.length = b.length) (h : ∀ k, k ≤ a.length → cum a k = cum b k) : a = b := list_ext_getD hl fun i hi => by
  have h1 := h i (by omega)
  have h2 := h (i + 1) (by omega)
  rw [cum_succ, cum_succ] at h2
  omega
theorem monoP_rows {a b : List Int} (h : fits a b = true) : rowsP (monoP a b) = a := by
  obtain ⟨ha, hb, hl, hs⟩ := fits_iff.1 h
  have hsh := monoP_shp a b
  have e0 : (rowsP (monoP a b)).length = a.length := by rw [rowsP_len, hsh.1]
  refine cum_inj e0 fun k hk => ?_
  rw [e0] at hk
  rw [rowsP_cum hsh hk, monoP_NN h hk (Nat.le_refl _)]
  have h1 := cum_le ha.2.2 hk (Nat.le_refl _)
  have h2 := cum_sum a
  have h3 := cum_sum b
  rw [hl] at *
  omega
theorem monoP_cols {a b : List Int} (h : fits a b = true) : colsP (monoP a b) = b := by
  obtain ⟨ha, hb, hl, hs⟩ := fits_iff.1 h
  have hsh := monoP_shp a b
  have e0 : (colsP (monoP a b)).length = b.length := by rw [colsP_len, hsh.1, hl]
  refine cum_inj e0 fun k hk => ?_
  rw [e0] at hk
  rw [colsP_cum hsh (by omega), monoP_NN h (Nat.le_refl _) (by omega)]
  have h1 := cum_le hb.2.2 hk (Nat.le_refl _)
  have h2 := cum_sum a
  have h3 := cum_sum b
  omega
theorem monoP_cost {a b : List Int} (h : fits a b = true) : costGo 0 (monoP a b) = lineDist a b := by
  obtain ⟨ha, hb, hl, hs⟩ := fits_iff.1 h
  have hsh := monoP_shp a b
  rw [cost_plan hsh, lineDist_sm hl]
  refine sm_congr fun k hk => ?_
  rw [monoP_NN h (by omega) (Nat.le_refl _), monoP_NN h (Nat.le_refl _) (by omega), monoP_NN h (by omega) (by omega)]
  have h1 := cum_le ha.2.2 (i := k + 1) (j := a.length) (by omega) (Nat.le_refl _)
  have h2 := cum_le hb.2.2 (i := k + 1) (j := b.length) (by omega) (Nat.le_refl _)
  have h3 := cum_sum a
  have h4 := cum_sum b
  rw [← hl] at h2 h4
  unfold ab
  omega
end Go.Proofs.Ytojklddddedoeaa.Math
