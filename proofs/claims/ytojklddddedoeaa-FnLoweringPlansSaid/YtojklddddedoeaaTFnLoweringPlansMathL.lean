/- Words of the kit's print, those of them that this law uses. -/
import Derived.Test.YtojklddddedoeaaTFnLoweringPlansMathQ
namespace Go.Proofs.Ytojklddddedoeaa.Math
open Go.RowKit Go.Proofs.YtojklddddedoeaaW.PrintWords Go.Proofs.YtojklddddedoeaaW.PrintMore
set_option linter.unusedVariables false
set_option linter.unusedSimpArgs false
theorem fpos_some : ∀ (l : List Int) (i : Nat) {k : Int}, fpos i l = (k, true) → ∃ j, j < l.length ∧ k = ((i + j : Nat) : Int) ∧ 0 < l.getD j 0
  | [], _, _, h => by simp [fpos] at h
  | x :: l, i, k, h => by
    rw [fpos] at h
    by_cases c : x > 0
    · rw [if_pos c] at h
      simp only [Prod.mk.injEq, and_true] at h
      exact ⟨0, by simp, by omega, by simpa using c⟩
    · rw [if_neg c] at h
      obtain ⟨j, h1, h2, h3⟩ := fpos_some l (i + 1) h
      exact ⟨j + 1, by rw [List.length_cons]; omega, by omega, by rw [getD_cons_succ]; exact h3⟩
theorem fpos_none : ∀ (l : List Int) (i : Nat), (fpos i l).2 = false ↔ ∀ j, j < l.length → l.getD j 0 ≤ 0
  | [], _ => by simp [fpos]
  | x :: l, i => by
    rw [fpos]
    by_cases c : x > 0
    · rw [if_pos c]
      constructor
      · intro h; exact absurd h (by simp)
      · intro h
        have := h 0 (by simp)
        have e : (x :: l).getD 0 0 = x := rfl
        omega
    · rw [if_neg c, fpos_none l (i + 1)]
      constructor
      · intro h j hj
        cases j with
        | zero => have e : (x :: l).getD 0 0 = x := rfl
                  omega
        | succ j => rw [getD_cons_succ]; exact h j (by rw [List.length_cons] at hj; omega)
      · intro h j hj
        have := h (j + 1) (by rw [List.length_cons]; omega)
        rwa [getD_cons_succ] at this
theorem cum_cons (z : Int) (c : List Int) (k : Nat) : cum (z :: c) (k + 1) = z + cum c k := by
  unfold cum
  rw [sm_cons]
  congr 1
theorem dsums_getD : ∀ (a b : List Int) (s : Int) (k : Nat), a.length = b.length → k < a.length → (dsums s a b).getD k 0 = s + cum a (k + 1) - cum b (k + 1)
  | [], _, _, _, _, h => by simp at h
  | x :: a, [], _, _, h, _ => by simp at h
  | x :: a, y :: b, s, 0, h, _ => by
    rw [dsums, cum_cons, cum_cons]
    show s + (x - y) = s + (x + 0) - (y + 0)
    omega
  | x :: a, y :: b, s, k + 1, h, hk => by
    rw [dsums, getD_cons_succ, dsums_getD a b (s + (x - y)) k (by simpa using h) (by rw [List.length_cons] at hk; omega), cum_cons, cum_cons]
    omega
theorem low_iff {m : List (List Int)} (h : Plan m) : lowGo 0 m = true ↔ ∀ p q, p < m.length → q < m.length → 0 < cell m p q → q ≤ p := by
  rw [← low_cells m 0 fun r hr x hx => ((h.2.2 r hr).2 x hx).1, List.all_eq_true]
  constructor
  · intro g p q hp hq hc
    have := g (p, q) ((mem_cells h.shp _).2 ⟨hp, hq, hc⟩)
    simpa using this
  · intro g x hx
    obtain ⟨h1, h2, h3⟩ := (mem_cells h.shp x).1 hx
    simpa using g x.1 x.2 h1 h2 h3
theorem low_cum {m : List (List Int)} (h : Plan m) (hl : lowGo 0 m = true) : ∀ k, k ≤ m.length → cum (rowsP m) k ≤ cum (colsP m) k := fun k hk => by
  have nn : ∀ p q, 0 ≤ cell m p q := fun p q => (h.cell p q).1
  have g := (low_iff h).1 hl
  rw [rowsP_cum h.shp hk, colsP_cum h.shp hk]
  have h1 := NN_mono_l (f := cell m) (i := k) (i' := m.length) (j := k) (fun p q _ _ => nn p q) hk
  have e : NN (cell m) k m.length = NN (cell m) k k := by
    unfold NN
    refine sm_congr fun p hp => ?_
    obtain ⟨d, hd⟩ : ∃ d, m.length = k + d := ⟨m.length - k, by omega⟩
    rw [hd, sm_split]
    have z : (sm d fun q => cell m p (k + q)) = 0 := by
      rw [sm_congr (g := fun _ => 0) fun q hq => by
        have := nn p (k + q)
        by_cases c : 0 < cell m p (k + q)
        · have := g p (k + q) (by omega) (by omega) c
          omega
        · omega, sm_zero]
    rw [z, Int.add_zero]
  rw [e]; exact h1
theorem mono_low {a b : List Int} (hf : fits a b = true) : lowGo 0 (monoP a b) = true ↔ ∀ k, k ≤ a.length → cum a k ≤ cum b k := by
  obtain ⟨ha, hb, hl, hs⟩ := fits_iff.1 hf
  have hP := monoP_plan hf
  have hsh := monoP_shp a b
  have h8 := ha.2.1
  constructor
  · intro g k hk
    have := low_cum hP g k (by rw [hsh.1]; exact hk)
    rwa [monoP_rows hf, monoP_cols hf] at this
  · intro g
    rw [low_iff hP, hsh.1]
    intro p q hp hq hc
    rw [monoP_cell hl ha.2.2 hb.2.2 (by omega) p q hp hq] at hc
    by_cases c : q ≤ p
    · exact c
    · exfalso
      have a1 := cum_mono ha.2.2 hp
      have b1 := cum_mono hb.2.2 (p := q) (by omega)
      have b2 := cum_le hb.2.2 (i := p + 1) (j := q) (by omega) (by omega)
      have g1 := g (p + 1) (by omega)
      unfold Dm at hc
      omega
theorem refuse_cum {a b : List Int} (hl : a.length = b.length) : (fpos 0 (dsums 0 a b)).2 = false ↔ ∀ k, k ≤ a.length → cum a k ≤ cum b k := by
  rw [fpos_none, dsums_length 0 a b hl]
  constructor
  · intro h k hk
    cases k with
    | zero => exact Int.le_refl _
    | succ k =>
      have := h k (by omega)
      rw [dsums_getD a b 0 k hl (by omega)] at this
      omega
  · intro h j hj
    rw [dsums_getD a b 0 j hl hj]
    have := h (j + 1) (by omega)
    omega
theorem low_refuse {a b : List Int} (hf : fits a b = true) : lowGo 0 (monoP a b) = !(fpos 0 (dsums 0 a b)).2 := by
  have h1 := mono_low hf
  have h2 := refuse_cum (fits_iff.1 hf).2.2.1
  cases e : (fpos 0 (dsums 0 a b)).2 with
  | false => rw [Bool.not_false]; exact h1.2 (h2.1 e)
  | true =>
    rw [Bool.not_true, Bool.eq_false_iff]
    intro g
    have := h2.2 (h1.1 g)
    rw [e] at this
    exact absurd this (by simp)
theorem take_cum : ∀ (a : List Int) (k : Nat), (a.take k).sum = cum a k
  | [], k => by
    have : cum [] k = sm k fun _ => 0 := sm_congr fun i _ => by simp
    rw [this, sm_zero]; simp
  | x :: a, 0 => rfl
  | x :: a, k + 1 => by rw [List.take_succ_cons, List.sum_cons, take_cum a k, cum_cons]
end Go.Proofs.Ytojklddddedoeaa.Math
