/- Words of the kit's print, those of them that this law uses. -/
import Derived.Test.YtojklddddedoeaaTFnTopMathQ
namespace Go.Proofs.Ytojklddddedoeaa.Math
open Go.RowKit Go.Proofs.YtojklddddedoeaaW.PrintWords Go.Proofs.YtojklddddedoeaaW.PrintMore
set_option linter.unusedVariables false
set_option linter.unusedSimpArgs false
theorem cum_cons (z : Int) (c : List Int) (k : Nat) : cum (z :: c) (k + 1) = z + cum c k := by
  unfold cum
  rw [sm_cons]
  congr 1
theorem low_iff {m : List (List Int)} (h : Plan m) : lowGo 0 m = true ↔ ∀ p q, p < m.length → q < m.length → 0 < cell m p q → q ≤ p := by
  rw [← low_cells m 0 fun r hr x hx => ((h.2.2 r hr).2 x hx).1, List.all_eq_true]
  constructor
  · intro g p q hp hq hc
    have := g (p, q) ((mem_cells h.shp _).2 ⟨hp, hq, hc⟩)
    simpa using this
  · intro g x hx
    obtain ⟨h1, h2, h3⟩ := (mem_cells h.shp x).1 hx
    simpa using g x.1 x.2 h1 h2 h3
theorem low_cum {m : List (List Int)} (h : Plan m) (hl : lowGo 0 m = true) : ∀ k, k ≤ m.length → cum (rowsP m) k ≤ cum (colsP m) k := fun k hk => by
  have nn : ∀ p q, 0 ≤ cell m p q := fun p q => (h.cell p q).1
  have g := (low_iff h).1 hl
  rw [rowsP_cum h.shp hk, colsP_cum h.shp hk]
  have h1 := NN_mono_l (f := cell m) (i := k) (i' := m.length) (j := k) (fun p q _ _ => nn p q) hk
  have e : NN (cell m) k m.length = NN (cell m) k k := by
    unfold NN
    refine sm_congr fun p hp => ?_
    obtain ⟨d, hd⟩ : ∃ d, m.length = k + d := ⟨m.length - k, by omega⟩
    rw [hd, sm_split]
    have z : (sm d fun q => cell m p (k + q)) = 0 := by
      rw [sm_congr (g := fun _ => 0) fun q hq => by
        have := nn p (k + q)
        by_cases c : 0 < cell m p (k + q)
        · have := g p (k + q) (by omega) (by omega) c
          omega
        · omega, sm_zero]
    rw [z, Int.add_zero]
  rw [e]; exact h1
theorem mono_low {a b : List Int} (hf : fits a b = true) : lowGo 0 (monoP a b) = true ↔ ∀ k, k ≤ a.length → cum a k ≤ cum b k := by
  obtain ⟨ha, hb, hl, hs⟩ := fits_iff.1 hf
  have hP := monoP_plan hf
  have hsh := monoP_shp a b
  have h8 := ha.2.1
  constructor
  · intro g k hk
    have := low_cum hP g k (by rw [hsh.1]; exact hk)
    rwa [monoP_rows hf, monoP_cols hf] at this
  · intro g
    rw [low_iff hP, hsh.1]
    intro p q hp hq hc
    rw [monoP_cell hl ha.2.2 hb.2.2 (by omega) p q hp hq] at hc
    by_cases c : q ≤ p
    · exact c
    · exfalso
      have a1 := cum_mono ha.2.2 hp
      have b1 := cum_mono hb.2.2 (p := q) (by omega)
      have b2 := cum_le hb.2.2 (i := p + 1) (j := q) (by omega) (by omega)
      have g1 := g (p + 1) (by omega)
      unfold Dm at hc
      omega
theorem take_cum : ∀ (a : List Int) (k : Nat), (a.take k).sum = cum a k
  | [], k => by
    have : cum [] k = sm k fun _ => 0 := sm_congr fun i _ => by simp
    rw [this, sm_zero]; simp
  | x :: a, 0 => rfl
  | x :: a, k + 1 => by rw [List.take_succ_cons, List.sum_cons, take_cum a k, cum_cons]
end Go.Proofs.Ytojklddddedoeaa.Math
