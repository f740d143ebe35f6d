/- Words of the kit's print, those of them that this law uses. -/
import Derived.Test.YtojklddddedoeaaTFnTopMath
namespace Go.Proofs.Ytojklddddedoeaa.Math
open Go.RowKit Go.Proofs.YtojklddddedoeaaW.PrintWords Go.Proofs.YtojklddddedoeaaW.PrintMore
set_option linter.unusedVariables false
set_option linter.unusedSimpArgs false
def sm : Nat → (Nat → Int) → Int
  | 0, _ => 0
  | n + 1, f => sm n f + f n
theorem sm_congr {f g : Nat → Int} : ∀ {n : Nat}, (∀ i, i < n → f i = g i) → sm n f = sm n g
  | 0, _ => rfl
  | n + 1, h => by rw [sm, sm, sm_congr (fun i hi => h i (by omega)), h n (by omega)]
theorem sm_add (f g : Nat → Int) : ∀ n, sm n (fun i => f i + g i) = sm n f + sm n g
  | 0 => rfl
  | n + 1 => by rw [sm, sm, sm, sm_add f g n]; omega
theorem sm_sub (f g : Nat → Int) : ∀ n, sm n (fun i => f i - g i) = sm n f - sm n g
  | 0 => rfl
  | n + 1 => by rw [sm, sm, sm, sm_sub f g n]; omega
theorem sm_mul (c : Int) (f : Nat → Int) : ∀ n, sm n (fun i => c * f i) = c * sm n f
  | 0 => by simp [sm]
  | n + 1 => by rw [sm, sm, sm_mul c f n, Int.mul_add]
theorem sm_zero : ∀ n, sm n (fun _ => 0) = 0
  | 0 => rfl
  | n + 1 => by rw [sm, sm_zero n]; rfl
theorem sm_le {f g : Nat → Int} : ∀ {n : Nat}, (∀ i, i < n → f i ≤ g i) → sm n f ≤ sm n g
  | 0, _ => Int.le_refl _
  | n + 1, h => by
    have := sm_le (n := n) fun i hi => h i (by omega)
    have := h n (by omega)
    rw [sm, sm]; omega
theorem sm_nonneg {f : Nat → Int} {n : Nat} (h : ∀ i, i < n → 0 ≤ f i) : 0 ≤ sm n f := by
  have := sm_le (f := fun _ => 0) (g := f) h
  rwa [sm_zero] at this
theorem sm_swap (f : Nat → Nat → Int) (m : Nat) : ∀ n, sm n (fun i => sm m (fun j => f i j)) = sm m (fun j => sm n (fun i => f i j))
  | 0 => by
    show (0 : Int) = sm m (fun _ => 0)
    rw [sm_zero]
  | n + 1 => by
    rw [sm, sm_swap f m n, ← sm_add]; rfl
theorem sm_split (f : Nat → Int) (k : Nat) : ∀ d, sm (k + d) f = sm k f + sm d (fun i => f (k + i))
  | 0 => by simp [sm]
  | d + 1 => by rw [← Nat.add_assoc, sm, sm, sm_split f k d]; omega
theorem sm_ge {f : Nat → Int} {n k : Nat} (h : ∀ i, i < n → 0 ≤ f i) (hk : k < n) : f k ≤ sm n f := by
  obtain ⟨d, rfl⟩ : ∃ d, n = (k + 1) + d := ⟨n - (k + 1), by omega⟩
  rw [sm_split, sm]
  have h1 := sm_nonneg (n := k) (f := f) fun i hi => h i (by omega)
  have h2 := sm_nonneg (n := d) (f := fun i => f (k + 1 + i)) fun i hi => h _ (by omega)
  omega
theorem sm_ind (f : Nat → Int) {k n : Nat} (h : k ≤ n) : sm k f = sm n (fun i => if i < k then f i else 0) := by
  obtain ⟨d, rfl⟩ : ∃ d, n = k + d := ⟨n - k, by omega⟩
  have e1 : sm k f = sm k (fun i => if i < k then f i else 0) := sm_congr fun i hi => by rw [if_pos hi]
  have e2 : sm d (fun i => if k + i < k then f (k + i) else 0) = 0 := by
    rw [sm_congr (g := fun _ => 0) (fun i hi => by rw [if_neg (by omega)]), sm_zero]
  rw [sm_split, e2, ← e1]
  omega
theorem sm_tel (F : Nat → Int) : ∀ n, sm n (fun i => F (i + 1) - F i) = F n - F 0
  | 0 => by simp [sm]
  | n + 1 => by rw [sm, sm_tel F n]; omega
theorem sm_one (k : Nat) : ∀ n, k ≤ n → sm n (fun i => if k < i + 1 then (1 : Int) else 0) = (n : Int) - k
  | 0, h => by obtain rfl : k = 0 := by omega
               rfl
  | n + 1, h => by
    rw [sm]
    by_cases c : k ≤ n
    · rw [sm_one k n c, if_pos (by omega)]; omega
    · obtain rfl : k = n + 1 := by omega
      rw [if_neg (by omega), sm_congr (g := fun _ => 0) (fun i hi => by rw [if_neg (by omega)]), sm_zero]; omega
theorem sm_at (x : Int) (k : Nat) : ∀ n, sm n (fun i => if i = k then x else 0) = if k < n then x else 0
  | 0 => by simp [sm]
  | n + 1 => by
    rw [sm, sm_at x k n]
    by_cases c : k < n
    · rw [if_pos c, if_neg (by omega), if_pos (by omega)]; omega
    · by_cases e : n = k
      · rw [if_neg c, if_pos e, if_pos (by omega)]; omega
      · rw [if_neg c, if_neg e, if_neg (by omega)]; rfl
theorem getD_cons_succ (x : Int) (l : List Int) (i : Nat) : (x :: l).getD (i + 1) 0 = l.getD i 0 := by simp
theorem sm_cons (f : Nat → Int) (n : Nat) : sm (n + 1) f = f 0 + sm n (fun i => f (i + 1)) := by
  have := sm_split f 1 n
  rw [Nat.add_comm 1 n] at this
  rw [this, sm, sm]
  have e : sm n (fun i => f (1 + i)) = sm n (fun i => f (i + 1)) := sm_congr fun i _ => by rw [Nat.add_comm]
  rw [e]; omega
theorem sum_sm : ∀ l : List Int, l.sum = sm l.length (fun i => l.getD i 0)
  | [] => rfl
  | x :: l => by rw [List.sum_cons, List.length_cons, sm_cons, sum_sm l]; simp
def cum (a : List Int) (i : Nat) : Int := sm i (fun p => a.getD p 0)
theorem cum_succ (a : List Int) (i : Nat) : cum a (i + 1) = cum a i + a.getD i 0 := rfl
theorem cum_sum (a : List Int) : cum a a.length = a.sum := (sum_sm a).symm
theorem getD_bound {a : List Int} {lo hi : Int} (h : ∀ x ∈ a, lo ≤ x ∧ x ≤ hi) {i : Nat} (hi' : i < a.length) : lo ≤ a.getD i 0 ∧ a.getD i 0 ≤ hi := by
  rw [List.getD_eq_getElem?_getD, List.getElem?_eq_getElem hi', Option.getD_some]; exact h _ (List.getElem_mem hi')
theorem cum_bound {a : List Int} (h : ∀ x ∈ a, 0 ≤ x ∧ x ≤ 60) : ∀ i, i ≤ a.length → 0 ≤ cum a i ∧ cum a i ≤ 60 * i
  | 0, _ => by simp [cum, sm]
  | i + 1, hi => by
    have := cum_bound h i (by omega)
    have := getD_bound h (i := i) (by omega)
    rw [cum_succ]; omega
def cell (m : List (List Int)) (i j : Nat) : Int := (m.getD i []).getD j 0
def NN (f : Nat → Nat → Int) (i j : Nat) : Int := sm i fun p => sm j fun q => f p q
theorem getD_set_self {α : Type} (l : List α) (i : Nat) (x d : α) (h : i < l.length) : (l.set i x).getD i d = x := by
  rw [List.getD_eq_getElem?_getD, List.getElem?_set_self h]; rfl
theorem getD_set_ne {α : Type} (l : List α) {i j : Nat} (x d : α) (h : i ≠ j) : (l.set i x).getD j d = l.getD j d := by
  rw [List.getD_eq_getElem?_getD, List.getElem?_set_ne h, List.getD_eq_getElem?_getD]
theorem cell_set {m : List (List Int)} {p q i j : Nat} (hs : Shp m p q) (hi : i < p) (hj : j < q) (x : Int) (r c : Nat) : cell (m.set i ((m.getD i []).set j x)) r c = if r = i ∧ c = j then x else cell m r c := by
  unfold cell
  by_cases e : r = i
  · subst e
    rw [getD_set_self _ _ _ _ (by rw [hs.1]; exact hi)]
    by_cases e2 : c = j
    · subst e2
      rw [getD_set_self _ _ _ _ (by rw [hs.row hi]; exact hj), if_pos ⟨rfl, rfl⟩]
    · rw [getD_set_ne _ _ _ (fun h => e2 h.symm), if_neg (fun h => e2 h.2)]
  · rw [getD_set_ne _ _ _ (fun h => e h.symm), if_neg (fun h => e h.1)]
theorem cell_zeros (p q r c : Nat) : cell (List.replicate p (List.replicate q 0)) r c = 0 := by
  have h0 : (List.replicate q (0 : Int)).getD c 0 = 0 := by
    rw [List.getD_eq_getElem?_getD, List.getElem?_replicate]
    split <;> rfl
  have h1 : ([] : List Int).getD c 0 = 0 := by simp
  have h2 : (List.replicate p (List.replicate q (0 : Int))).getD r [] = if r < p then List.replicate q 0 else [] := by
    rw [List.getD_eq_getElem?_getD, List.getElem?_replicate]
    split <;> rfl
  unfold cell
  rw [h2]
  by_cases hr : r < p
  · rw [if_pos hr]; exact h0
  · rw [if_neg hr]; exact h1
theorem list_ext_getD {l m : List Int} (h : l.length = m.length) (he : ∀ i, i < l.length → l.getD i 0 = m.getD i 0) : l = m := by
  refine List.ext_getElem h fun i h1 h2 => ?_
  have := he i h1
  rwa [List.getD_eq_getElem?_getD, List.getElem?_eq_getElem h1, List.getD_eq_getElem?_getD, List.getElem?_eq_getElem h2] at this
theorem Plan.shp {m : List (List Int)} (h : Plan m) : Shp m m.length m.length := ⟨rfl, fun r hr => (h.2.2 r hr).1⟩
theorem Plan.cell {m : List (List Int)} (h : Plan m) (i j : Nat) : 0 ≤ cell m i j ∧ cell m i j ≤ 60 := by
  unfold Math.cell
  by_cases hi : i < m.length
  · have e : m.getD i [] = m[i] := by rw [List.getD_eq_getElem?_getD, List.getElem?_eq_getElem hi]; rfl
    rw [e]
    exact h.getD (List.getElem_mem hi) j
  · have e : m.getD i [] = [] := by rw [List.getD_eq_getElem?_getD, List.getElem?_eq_none (by omega)]; rfl
    rw [e]
    simp
theorem plan_of_cells {m : List (List Int)} {n : Nat} (h : Shp m n n) (h1 : 1 ≤ n) (h8 : n ≤ 8) (hc : ∀ i j, i < n → j < n → 0 ≤ cell m i j ∧ cell m i j ≤ 60) : Plan m := by
  refine ⟨by rw [h.1]; exact h1, by rw [h.1]; exact h8, fun r hr => ⟨by rw [h.2 r hr, h.1], fun x hx => ?_⟩⟩
  obtain ⟨i, hi, rfl⟩ := List.getElem_of_mem hr
  obtain ⟨j, hj, rfl⟩ := List.getElem_of_mem hx
  have hi2 : i < n := by rw [h.1] at hi; exact hi
  have hj2 : j < n := by rw [h.2 _ hr] at hj; exact hj
  have := hc i j hi2 hj2
  unfold cell at this
  rwa [List.getD_eq_getElem?_getD (l := m), List.getElem?_eq_getElem hi, Option.getD_some, List.getD_eq_getElem?_getD, List.getElem?_eq_getElem hj, Option.getD_some] at this
def Dm (A B : Nat → Int) (p q : Nat) : Int := min (A (p + 1)) (B (q + 1)) - min (A p) (B (q + 1)) - (min (A (p + 1)) (B q) - min (A p) (B q))
theorem Dm_nonneg {A B : Nat → Int} {p q : Nat} (hA : A p ≤ A (p + 1)) (hB : B q ≤ B (q + 1)) : 0 ≤ Dm A B p q := by unfold Dm; omega
theorem Dm_row {A B : Nat → Int} (p j : Nat) (h0 : B 0 = 0) (hA : 0 ≤ A p) (hA1 : 0 ≤ A (p + 1)) : sm j (fun q => Dm A B p q) = min (A (p + 1)) (B j) - min (A p) (B j) := by
  have := sm_tel (fun q => min (A (p + 1)) (B q) - min (A p) (B q)) j
  have e : sm j (fun q => Dm A B p q) = sm j (fun i => (min (A (p + 1)) (B (i + 1)) - min (A p) (B (i + 1))) - (min (A (p + 1)) (B i) - min (A p) (B i))) := rfl
  rw [e, this, h0]
  omega
theorem Dm_N {A B : Nat → Int} (i j : Nat) (hA0 : A 0 = 0) (hB0 : B 0 = 0) (hA : ∀ p, p ≤ i → 0 ≤ A p) (hB : 0 ≤ B j) : NN (Dm A B) i j = min (A i) (B j) := by
  unfold NN
  rw [sm_congr (g := fun p => min (A (p + 1)) (B j) - min (A p) (B j)) (fun p hp => Dm_row p j hB0 (hA p (by omega)) (hA (p + 1) (by omega)))]
  have := sm_tel (fun p => min (A p) (B j)) i
  rw [this, hA0]
  omega
theorem carryN_is (A B : Nat → Int) (n : Nat) (hA : ∀ p, p < n → A p ≤ A (p + 1)) (hB : ∀ p, p < n → B p ≤ B (p + 1)) (hA0 : ∀ p, p ≤ n → 0 ≤ A p ∧ A p ≤ 100000) (hB0 : ∀ p, p ≤ n → 0 ≤ B p ∧ B p ≤ 100000) :
    ∀ (d : Nat) (m : List (List Int)) (a b : List Int) (i j : Nat), (n - i) + (n - j) < d → i ≤ n → j ≤ n → a.length = n → b.length = n → Shp m n n →
      (i < n → B j ≤ A (i + 1)) → (j < n → A i ≤ B (j + 1)) →
      (i < n → a.getD i 0 = A (i + 1) - max (A i) (B j)) → (∀ p, i < p → p < n → a.getD p 0 = A (p + 1) - A p) →
      (j < n → b.getD j 0 = B (j + 1) - max (A i) (B j)) → (∀ q, j < q → q < n → b.getD q 0 = B (q + 1) - B q) →
      (∀ p q, p < n → q < n → cell m p q = if p < i ∨ q < j then Dm A B p q else 0) →
      ∀ p q, p < n → q < n → cell (carryN d m a b i j) p q = Dm A B p q
  | 0, _, _, _, _, _, h, _, _, _, _, _, _, _, _, _, _, _, _ => by omega
  | d + 1, m, a, b, i, j, h, hi, hj, ha, hb, hs, t1, t2, a1, a2, b1, b2, hm => by
    intro p q hp hq
    unfold carryN
    by_cases c : i < a.length ∧ j < b.length
    · rw [if_pos c]
      have ci : i < n := by omega
      have cj : j < n := by omega
      have e1 := a1 ci
      have e2 := b1 cj
      have u1 := t1 ci
      have u2 := t2 cj
      have v1 := hA i ci
      have v2 := hB j cj
      have w1 := hA0 (i + 1) (by omega)
      have w2 := hB0 (j + 1) (by omega)
      have w3 := hA0 i (by omega)
      have w4 := hB0 j (by omega)
      have hc0 : (m.getD i []).getD j 0 = 0 := by
        have := hm i j ci cj
        rw [if_neg (by omega)] at this
        exact this
      rw [e1, e2, hc0, Int.zero_add]
      have ex : min (A (i + 1) - max (A i) (B j)) (B (j + 1) - max (A i) (B j)) = min (A (i + 1)) (B (j + 1)) - max (A i) (B j) := by omega
      rw [ex]
      have d1 : Dm A B i j = min (A (i + 1)) (B (j + 1)) - max (A i) (B j) := by unfold Dm; omega
      rw [← d1]
      have f1 : A (i + 1) - max (A i) (B j) - Dm A B i j = A (i + 1) - min (A (i + 1)) (B (j + 1)) := by omega
      have f2 : B (j + 1) - max (A i) (B j) - Dm A B i j = B (j + 1) - min (A (i + 1)) (B (j + 1)) := by omega
      rw [f1, f2, w64 (x := Dm A B i j) (by omega) (by omega), w64 (x := A (i + 1) - min (A (i + 1)) (B (j + 1))) (by omega) (by omega), w64 (x := B (j + 1) - min (A (i + 1)) (B (j + 1))) (by omega) (by omega)]
      rw [getD_set_self _ _ _ _ c.1]
      have hs2 : Shp (m.set i ((m.getD i []).set j (Dm A B i j))) n n := hs.set (by rw [List.length_set]; exact hs.row ci)
      have hcell := fun r s => cell_set hs ci cj (Dm A B i j) r s
      by_cases z : A (i + 1) - min (A (i + 1)) (B (j + 1)) = 0
      · rw [if_pos z]
        have z2 : A (i + 1) ≤ B (j + 1) := by omega
        refine carryN_is A B n hA hB hA0 hB0 d _ _ _ (i + 1) j (by omega) (by omega) hj (by rw [List.length_set]; exact ha) (by rw [List.length_set]; exact hb) hs2 ?_ ?_ ?_ ?_ ?_ ?_ ?_ p q hp hq
        · intro hh; have := hA (i + 1) hh; omega
        · intro _; exact z2
        · intro hh
          rw [getD_set_ne _ _ _ (by omega), a2 (i + 1) (by omega) hh]; omega
        · intro r hr hrn
          rw [getD_set_ne _ _ _ (by omega)]; exact a2 r (by omega) hrn
        · intro _
          rw [getD_set_self _ _ _ _ c.2]; omega
        · intro r hr hrn
          rw [getD_set_ne _ _ _ (by omega)]; exact b2 r hr hrn
        · intro r s hr hsn
          rw [hcell r s]
          by_cases g : r = i ∧ s = j
          · obtain ⟨rfl, rfl⟩ := g
            rw [if_pos ⟨rfl, rfl⟩, if_pos (by omega)]
          · rw [if_neg g, hm r s hr hsn]
            by_cases g2 : r < i ∨ s < j
            · rw [if_pos g2, if_pos (by omega)]
            · rw [if_neg g2]
              by_cases g3 : r < i + 1 ∨ s < j
              · rw [if_pos g3]
                obtain rfl : r = i := by omega
                have mono : ∀ x, j + 1 ≤ x → x ≤ n → B (j + 1) ≤ B x := by
                  intro x hx
                  induction x with
                  | zero => omega
                  | succ x ih =>
                    intro hxn
                    by_cases hh : j + 1 = x + 1
                    · rw [hh]; exact Int.le_refl _
                    · have := ih (by omega) (by omega)
                      have := hB x (by omega)
                      omega
                have := mono s (by omega) (by omega)
                have := hB s hsn
                unfold Dm; omega
              · rw [if_neg g3]
      · rw [if_neg z]
        have z2 : B (j + 1) < A (i + 1) := by omega
        refine carryN_is A B n hA hB hA0 hB0 d _ _ _ i (j + 1) (by omega) hi (by omega) (by rw [List.length_set]; exact ha) (by rw [List.length_set]; exact hb) hs2 ?_ ?_ ?_ ?_ ?_ ?_ ?_ p q hp hq
        · intro hh; omega
        · intro hh; have := hB (j + 1) hh; omega
        · intro hh
          rw [getD_set_self _ _ _ _ c.1]; omega
        · intro r hr hrn
          rw [getD_set_ne _ _ _ (by omega)]; exact a2 r hr hrn
        · intro hh
          rw [getD_set_ne _ _ _ (by omega), b2 (j + 1) (by omega) hh]; omega
        · intro r hr hrn
          rw [getD_set_ne _ _ _ (by omega)]; exact b2 r (by omega) hrn
        · intro r s hr hsn
          rw [hcell r s]
          by_cases g : r = i ∧ s = j
          · obtain ⟨rfl, rfl⟩ := g
            rw [if_pos ⟨rfl, rfl⟩, if_pos (by omega)]
          · rw [if_neg g, hm r s hr hsn]
            by_cases g2 : r < i ∨ s < j
            · rw [if_pos g2, if_pos (by omega)]
            · rw [if_neg g2]
              by_cases g3 : r < i ∨ s < j + 1
              · rw [if_pos g3]
                obtain rfl : s = j := by omega
                have mono : ∀ x, i + 1 ≤ x → x ≤ n → A (i + 1) ≤ A x := by
                  intro x hx
                  induction x with
                  | zero => omega
                  | succ x ih =>
                    intro hxn
                    by_cases hh : i + 1 = x + 1
                    · rw [hh]; exact Int.le_refl _
                    · have := ih (by omega) (by omega)
                      have := hA x (by omega)
                      omega
                have := mono r (by omega) (by omega)
                have := hA r hr
                unfold Dm; omega
              · rw [if_neg g3]
    · rw [if_neg c, hm p q hp hq, if_pos (by omega)]
theorem monoP_cell {a b : List Int} (h : a.length = b.length) (ha : ∀ x ∈ a, 0 ≤ x ∧ x ≤ 60) (hb : ∀ x ∈ b, 0 ≤ x ∧ x ≤ 60) (h8 : a.length ≤ 1000) (p q : Nat) (hp : p < a.length) (hq : q < a.length) : cell (monoP a b) p q = Dm (cum a) (cum b) p q := by
  unfold monoP
  refine carryN_is (cum a) (cum b) a.length ?_ ?_ ?_ ?_ _ _ a b 0 0 (by omega) (by omega) (by omega) rfl h.symm (shp_zeros _ _) ?_ ?_ ?_ ?_ ?_ ?_ ?_ p q hp hq
  · intro r hr; have := getD_bound ha hr; rw [cum_succ]; omega
  · intro r hr; have := getD_bound hb (i := r) (by omega); rw [cum_succ]; omega
  · intro r hr; have := cum_bound ha r hr; omega
  · intro r hr; have := cum_bound hb r (by omega); omega
  · intro hr; have := getD_bound ha hr; rw [cum_succ]; have e1 : cum a 0 = 0 := rfl; have e2 : cum b 0 = 0 := rfl; omega
  · intro hr; have := getD_bound hb (i := 0) (by omega); rw [cum_succ]; have e1 : cum a 0 = 0 := rfl; have e2 : cum b 0 = 0 := rfl; omega
  · intro hr; rw [cum_succ]; have e1 : cum a 0 = 0 := rfl; have e2 : cum b 0 = 0 := rfl; omega
  · intro r _ hr; rw [cum_succ]; omega
  · intro hr; rw [cum_succ]; have e1 : cum a 0 = 0 := rfl; have e2 : cum b 0 = 0 := rfl; omega
  · intro r _ hr; rw [cum_succ]; omega
  · intro r s _ _; rw [cell_zeros, if_neg (by omega)]
theorem cum_mono {a : List Int} (ha : ∀ x ∈ a, 0 ≤ x ∧ x ≤ 60) {p : Nat} (hp : p < a.length) : cum a p ≤ cum a (p + 1) := by
  have := getD_bound ha hp; rw [cum_succ]; omega
theorem monoP_plan {a b : List Int} (h : fits a b = true) : Plan (monoP a b) := by
  obtain ⟨ha, hb, hl, hs⟩ := fits_iff.1 h
  refine plan_of_cells (monoP_shp a b) ha.1 ha.2.1 fun i j hi hj => ?_
  rw [monoP_cell hl ha.2.2 hb.2.2 (by have := ha.2.1; omega) i j hi hj]
  have m1 := cum_mono ha.2.2 hi
  have m2 := cum_mono hb.2.2 (p := j) (by omega)
  refine ⟨Dm_nonneg m1 m2, ?_⟩
  have g := getD_bound ha.2.2 hi
  have := cum_succ a i
  unfold Dm
  omega
theorem mem_cellsRow (i : Nat) (p : Nat × Nat) : ∀ (l : List Int) (j : Nat), p ∈ cellsRow i j l ↔ p.1 = i ∧ j ≤ p.2 ∧ p.2 < j + l.length ∧ 0 < l.getD (p.2 - j) 0
  | [], j => by simp [cellsRow]
  | x :: t, j => by
    have ih := mem_cellsRow i p t (j + 1)
    have key : p ∈ cellsRow i (j + 1) t ↔ p.1 = i ∧ j + 1 ≤ p.2 ∧ p.2 < j + (x :: t).length ∧ 0 < (x :: t).getD (p.2 - j) 0 := by
      rw [ih]
      constructor
      · rintro ⟨h1, h2, h3, h4⟩
        refine ⟨h1, h2, by rw [List.length_cons]; omega, ?_⟩
        obtain ⟨d, hd⟩ : ∃ d, p.2 - j = d + 1 := ⟨p.2 - j - 1, by omega⟩
        rw [hd, getD_cons_succ, show d = p.2 - (j + 1) by omega]; exact h4
      · rintro ⟨h1, h2, h3, h4⟩
        refine ⟨h1, h2, by rw [List.length_cons] at h3; omega, ?_⟩
        obtain ⟨d, hd⟩ : ∃ d, p.2 - j = d + 1 := ⟨p.2 - j - 1, by omega⟩
        rw [hd, getD_cons_succ] at h4
        rw [show p.2 - (j + 1) = d by omega]; exact h4
    rw [cellsRow]
    have e0 : ∀ h : p.2 = j, (x :: t).getD (p.2 - j) 0 = x := fun h => by rw [h, Nat.sub_self]; rfl
    by_cases hx : x > 0
    · rw [if_pos hx, List.mem_cons, key]
      constructor
      · rintro (h | ⟨h1, h2, h3, h4⟩)
        · subst h
          exact ⟨rfl, Nat.le_refl _, by simp, by rw [e0 rfl]; exact hx⟩
        · exact ⟨h1, by omega, h3, h4⟩
      · rintro ⟨h1, h2, h3, h4⟩
        by_cases e : p.2 = j
        · exact .inl (Prod.ext h1 e)
        · exact .inr ⟨h1, by omega, h3, h4⟩
    · rw [if_neg hx, key]
      constructor
      · rintro ⟨h1, h2, h3, h4⟩; exact ⟨h1, by omega, h3, h4⟩
      · rintro ⟨h1, h2, h3, h4⟩
        refine ⟨h1, ?_, h3, h4⟩
        by_cases e : p.2 = j
        · rw [e0 e] at h4; omega
        · omega
theorem mem_cellsGo (p : Nat × Nat) : ∀ (m : List (List Int)) (i : Nat), p ∈ cellsGo i m ↔ i ≤ p.1 ∧ p.1 < i + m.length ∧ p.2 < (m.getD (p.1 - i) []).length ∧ 0 < (m.getD (p.1 - i) []).getD p.2 0
  | [], i => by simp [cellsGo]
  | r :: t, i => by
    rw [cellsGo, List.mem_append, mem_cellsRow, mem_cellsGo p t (i + 1), Nat.sub_zero, Nat.zero_add]
    have e0 : ∀ h : p.1 = i, (r :: t).getD (p.1 - i) [] = r := fun h => by rw [h, Nat.sub_self]; rfl
    have e1 : ∀ h : i + 1 ≤ p.1, (r :: t).getD (p.1 - i) [] = t.getD (p.1 - (i + 1)) [] := fun h => by
      obtain ⟨d, hd⟩ : ∃ d, p.1 - i = d + 1 := ⟨p.1 - i - 1, by omega⟩
      rw [hd, show p.1 - (i + 1) = d by omega]; simp
    constructor
    · rintro (⟨h1, _, h3, h4⟩ | ⟨h1, h2, h3, h4⟩)
      · rw [e0 h1]; exact ⟨by omega, by simp; omega, h3, h4⟩
      · rw [e1 h1]; exact ⟨by omega, by rw [List.length_cons]; omega, h3, h4⟩
    · rintro ⟨h1, h2, h3, h4⟩
      rw [List.length_cons] at h2
      by_cases e : p.1 = i
      · rw [e0 e] at h3 h4; exact .inl ⟨e, Nat.zero_le _, h3, h4⟩
      · have h5 : i + 1 ≤ p.1 := by omega
        rw [e1 h5] at h3 h4
        exact .inr ⟨h5, by omega, h3, h4⟩
theorem mem_cells {m : List (List Int)} {n : Nat} (h : Shp m n n) (p : Nat × Nat) : p ∈ cellsGo 0 m ↔ p.1 < n ∧ p.2 < n ∧ 0 < cell m p.1 p.2 := by
  rw [mem_cellsGo, Nat.sub_zero, Nat.zero_add, h.1]
  unfold cell
  constructor
  · rintro ⟨_, h2, h3, h4⟩; rw [h.row h2] at h3; exact ⟨h2, h3, h4⟩
  · rintro ⟨h2, h3, h4⟩; exact ⟨Nat.zero_le _, h2, by rw [h.row h2]; exact h3, h4⟩
end Go.Proofs.Ytojklddddedoeaa.Math
