/- Plain words for symmetric sums: products over indices, orders that are swapped, unit gifts of powers, and the chain of gifts between lists of which the one's sums are no less. No program in sight. -/
import Derived.Test.YtbnlfhdjcpegkaaMathFnGiftsInSums
namespace Go.Proofs.Ytbnlfhdjcpegkaa.Math
open Go.RowKit Go.Proofs.YtbnlfhdjcpegkaaW.PrintWords Go.Proofs.YtbnlfhdjcpegkaaW.PrintMore
set_option linter.unusedVariables false
set_option linter.unusedSimpArgs false

/-! ### products over indices -/
def pr : Nat → (Nat → Int) → Int
  | 0, _ => 1
  | n + 1, f => pr n f * f n
theorem pr_congr {f g : Nat → Int} : ∀ {n : Nat}, (∀ k, k < n → f k = g k) → pr n f = pr n g
  | 0, _ => rfl
  | n + 1, h => by rw [pr, pr, pr_congr (n := n) fun k hk => h k (by omega), h n (by omega)]
theorem pr_at (f : Nat → Int) (i : Nat) : ∀ n, i < n → pr n f = f i * pr n (fun k => if k = i then 1 else f k)
  | 0, h => by omega
  | n + 1, h => by
    by_cases e : i = n
    · subst e
      have : pr i f = pr i (fun k => if k = i then 1 else f k) := pr_congr fun k hk => by rw [if_neg (by omega)]
      rw [pr, pr, ← this, if_pos rfl, Int.mul_one, Int.mul_comm]
    · rw [pr, pr, pr_at f i n (by omega), if_neg (by omega), Int.mul_assoc]
theorem pr_pos {f : Nat → Int} : ∀ {n : Nat}, (∀ k, k < n → 0 < f k) → 0 < pr n f
  | 0, _ => by show (0 : Int) < 1; decide
  | n + 1, h => Int.mul_pos (pr_pos fun k hk => h k (by omega)) (h n (by omega))
theorem pr_le {f : Nat → Int} {B : Int} (hB : 0 ≤ B) : ∀ {n : Nat}, (∀ k, k < n → 0 ≤ f k ∧ f k ≤ B) → 0 ≤ pr n f ∧ pr n f ≤ B ^ n
  | 0, _ => by simp [pr]
  | n + 1, h => by
    have ih := pr_le hB (n := n) fun k hk => h k (by omega)
    have hn := h n (by omega)
    rw [pr, Int.pow_succ]
    exact ⟨Int.mul_nonneg ih.1 hn.1, Int.mul_le_mul ih.2 hn.2 hn.1 (by have := ih.1; have := ih.2; omega)⟩
theorem pr_two (f : Nat → Int) {i j n : Nat} (hi : i < n) (hj : j < n) (hij : i ≠ j) : pr n f = f i * f j * pr n (fun k => if k = i ∨ k = j then 1 else f k) := by
  rw [pr_at f i n hi, pr_at (fun k => if k = i then 1 else f k) j n hj, if_neg (fun h => hij h.symm), Int.mul_assoc]
  congr 2
  refine pr_congr fun k hk => ?_
  by_cases e : k = j
  · rw [if_pos e, if_pos (.inr e)]
  · by_cases e2 : k = i
    · rw [if_neg e, if_pos e2, if_pos (.inl e2)]
    · rw [if_neg e, if_neg e2, if_neg (by rintro (h | h); exact e2 h; exact e h)]

/-! ### powers -/
theorem pow_pos' {u : Int} (h : 0 < u) : ∀ k : Nat, 0 < u ^ k
  | 0 => by rw [Int.pow_zero]; decide
  | k + 1 => by rw [Int.pow_succ]; exact Int.mul_pos (pow_pos' h k) h
theorem pow_le' {u v : Int} (h0 : 0 < u) (h : u ≤ v) : ∀ k : Nat, u ^ k ≤ v ^ k
  | 0 => by rw [Int.pow_zero, Int.pow_zero]; omega
  | k + 1 => by
    rw [Int.pow_succ, Int.pow_succ]
    exact Int.mul_le_mul (pow_le' h0 h k) h (by omega) (by have := pow_pos' (u := v) (by omega) k; omega)
theorem pow_lt' {u v : Int} (h0 : 0 < u) (h : u < v) (k : Nat) : u ^ (k + 1) < v ^ (k + 1) := by
  rw [Int.pow_succ, Int.pow_succ]
  have h1 := pow_le' h0 (by omega : u ≤ v) k
  have h2 := pow_pos' (u := v) (by omega) k
  have h3 : u ^ k * u ≤ v ^ k * u := Int.mul_le_mul_of_nonneg_right h1 (by omega)
  have h4 : v ^ k * u < v ^ k * v := Int.mul_lt_mul_of_pos_left h h2
  omega
/-- What a unit gift of powers takes from the two orders of two numbers. -/
def gd (u v : Int) (q d : Nat) : Int := (u * v) ^ q * (u ^ (d + 1) - v ^ (d + 1)) * (u - v)
theorem gd_nonneg {u v : Int} (hu : 0 < u) (hv : 0 < v) (q d : Nat) : 0 ≤ gd u v q d := by
  unfold gd
  have h1 := pow_pos' (Int.mul_pos hu hv) q
  rw [Int.mul_assoc]
  refine Int.mul_nonneg (by omega) ?_
  by_cases c : u ≤ v
  · have := pow_le' hu c (d + 1)
    have h2 : 0 ≤ (v ^ (d + 1) - u ^ (d + 1)) * (v - u) := Int.mul_nonneg (by omega) (by omega)
    have e : (u ^ (d + 1) - v ^ (d + 1)) * (u - v) = (v ^ (d + 1) - u ^ (d + 1)) * (v - u) := by
      rw [show u ^ (d + 1) - v ^ (d + 1) = -(v ^ (d + 1) - u ^ (d + 1)) by omega, show u - v = -(v - u) by omega, Int.neg_mul_neg]
    rw [e]; exact h2
  · have := pow_le' hv (by omega : v ≤ u) (d + 1)
    exact Int.mul_nonneg (by omega) (by omega)
theorem gd_pos {u v : Int} (hu : 0 < u) (hv : 0 < v) (h : u ≠ v) (q d : Nat) : 0 < gd u v q d := by
  unfold gd
  have h1 := pow_pos' (Int.mul_pos hu hv) q
  rw [Int.mul_assoc]
  refine Int.mul_pos h1 ?_
  by_cases c : u < v
  · have := pow_lt' hu c d
    have e : (u ^ (d + 1) - v ^ (d + 1)) * (u - v) = (v ^ (d + 1) - u ^ (d + 1)) * (v - u) := by
      rw [show u ^ (d + 1) - v ^ (d + 1) = -(v ^ (d + 1) - u ^ (d + 1)) by omega, show u - v = -(v - u) by omega, Int.neg_mul_neg]
    rw [e]; exact Int.mul_pos (by omega) (by omega)
  · have := pow_lt' hv (by omega : v < u) d
    exact Int.mul_pos (by omega) (by omega)
theorem gd_self (u : Int) (q d : Nat) : gd u u q d = 0 := by unfold gd; rw [Int.sub_self (a := u), Int.mul_zero]
theorem gd_is (u v : Int) (q d : Nat) : gd u v q d = u ^ (q + d + 2) * v ^ q + v ^ (q + d + 2) * u ^ q - (u ^ (q + d + 1) * v ^ (q + 1) + v ^ (q + d + 1) * u ^ (q + 1)) := by
  unfold gd
  have a1 : u ^ (q + d + 1) = u ^ q * u ^ (d + 1) := by rw [Nat.add_assoc, Int.pow_add]
  have a2 : v ^ (q + d + 1) = v ^ q * v ^ (d + 1) := by rw [Nat.add_assoc, Int.pow_add]
  have b1 : u ^ (q + d + 2) = u ^ q * u ^ (d + 1) * u := by rw [show q + d + 2 = (q + d + 1) + 1 from rfl, Int.pow_succ, a1]
  have b2 : v ^ (q + d + 2) = v ^ q * v ^ (d + 1) * v := by rw [show q + d + 2 = (q + d + 1) + 1 from rfl, Int.pow_succ, a2]
  rw [b1, b2, a1, a2, Int.pow_succ v q, Int.pow_succ u q, Int.mul_pow]
  generalize u ^ q = U
  generalize v ^ q = V
  generalize u ^ (d + 1) = X
  generalize v ^ (d + 1) = Y
  rw [Int.mul_sub (U * V) X Y, Int.sub_mul, Int.mul_sub, Int.mul_sub]
  have e1 : U * V * X * u = U * X * u * V := by ac_rfl
  have e2 : U * V * X * v = U * X * (V * v) := by ac_rfl
  have e3 : U * V * Y * u = V * Y * (U * u) := by ac_rfl
  have e4 : U * V * Y * v = V * Y * v * U := by ac_rfl
  rw [e1, e2, e3, e4]
  omega

/-! ### symmetric sums -/
def fac (pw x o : List Int) (k : Nat) : Int := x.getD (o.getD k 0).toNat 0 ^ (pw.getD k 0).toNat
def valO (pw x o : List Int) : Int := pr pw.length (fac pw x o)
def msum (P : List (List Int)) (pw x : List Int) : Int := (P.map (valO pw x)).sum
def sw (i j : Nat) (o : List Int) : List Int := (o.set i (o.getD j 0)).set j (o.getD i 0)
theorem getD_set_eq {l : List Int} {i : Nat} (h : i < l.length) (v : Int) : (l.set i v).getD i 0 = v := by
  rw [List.getD_eq_getElem?_getD, List.getElem?_set_self h]; rfl
theorem getD_set_other {l : List Int} {i k : Nat} (h : i ≠ k) (v : Int) : (l.set i v).getD k 0 = l.getD k 0 := by
  rw [List.getD_eq_getElem?_getD, List.getElem?_set_ne h, List.getD_eq_getElem?_getD]
theorem sw_i {o : List Int} {i j : Nat} (hi : i < o.length) (hij : i ≠ j) : (sw i j o).getD i 0 = o.getD j 0 := by
  unfold sw; rw [getD_set_other (fun h => hij h.symm), getD_set_eq hi]
theorem sw_j {o : List Int} {i j : Nat} (hj : j < o.length) : (sw i j o).getD j 0 = o.getD i 0 := by
  unfold sw; rw [getD_set_eq (by rw [List.length_set]; exact hj)]
theorem sw_k {o : List Int} {i j k : Nat} (h1 : k ≠ i) (h2 : k ≠ j) : (sw i j o).getD k 0 = o.getD k 0 := by
  unfold sw; rw [getD_set_other (fun h => h2 h.symm), getD_set_other (fun h => h1 h.symm)]
/-- All orders of so many indices: closed under swapping, each with all of the indices' length. -/
structure Ords (P : List (List Int)) (n : Nat) : Prop where
  len : ∀ o ∈ P, o.length = n
  rng : ∀ o ∈ P, ∀ k, k < n → 0 ≤ o.getD k 0 ∧ o.getD k 0 < (n : Int)
  swp : ∀ i j, i < n → j < n → i ≠ j → List.Perm (P.map (sw i j)) P
  hit : ∀ i j s t, i < n → j < n → i ≠ j → s < n → t < n → s ≠ t → ∃ o ∈ P, o.getD i 0 = (s : Int) ∧ o.getD j 0 = (t : Int)
theorem perm_sumI {l m : List Int} (h : List.Perm l m) : l.sum = m.sum := by
  induction h with
  | nil => rfl
  | cons x _ ih => rw [List.sum_cons, List.sum_cons, ih]
  | swap x y l => simp only [List.sum_cons]; omega
  | trans _ _ h1 h2 => rw [h1, h2]
theorem sum_sw {P : List (List Int)} {n i j : Nat} (h : Ords P n) (hi : i < n) (hj : j < n) (hij : i ≠ j) (f : List Int → Int) : (P.map fun o => f (sw i j o)).sum = (P.map f).sum := by
  have e : (P.map fun o => f (sw i j o)) = (P.map (sw i j)).map f := by rw [List.map_map]; rfl
  rw [e]
  exact perm_sumI ((h.swp i j hi hj hij).map f)
theorem sum_map_add (f g : List Int → Int) : ∀ P : List (List Int), (P.map fun o => f o + g o).sum = (P.map f).sum + (P.map g).sum
  | [] => rfl
  | o :: P => by simp only [List.map_cons, List.sum_cons]; rw [sum_map_add f g P]; omega
theorem sum_map_sub (f g : List Int → Int) : ∀ P : List (List Int), (P.map fun o => f o - g o).sum = (P.map f).sum - (P.map g).sum
  | [] => rfl
  | o :: P => by simp only [List.map_cons, List.sum_cons]; rw [sum_map_sub f g P]; omega
theorem sum_map_congr {f g : List Int → Int} : ∀ {P : List (List Int)}, (∀ o ∈ P, f o = g o) → (P.map f).sum = (P.map g).sum
  | [], _ => rfl
  | o :: P, h => by
    simp only [List.map_cons, List.sum_cons]
    rw [h o (List.mem_cons_self ..), sum_map_congr fun q hq => h q (List.mem_cons_of_mem _ hq)]
theorem sum_map_nonneg {f : List Int → Int} : ∀ {P : List (List Int)}, (∀ o ∈ P, 0 ≤ f o) → 0 ≤ (P.map f).sum
  | [], _ => by simp
  | o :: P, h => by
    have := sum_map_nonneg (P := P) fun q hq => h q (List.mem_cons_of_mem _ hq)
    have := h o (List.mem_cons_self ..)
    simp only [List.map_cons, List.sum_cons]; omega
theorem sum_map_zero {f : List Int → Int} : ∀ {P : List (List Int)}, (∀ o ∈ P, 0 ≤ f o) → (P.map f).sum = 0 → ∀ o ∈ P, f o = 0
  | [], _, _, o, ho => by cases ho
  | q :: P, h, hs, o, ho => by
    have h1 := sum_map_nonneg (P := P) fun q hq => h q (List.mem_cons_of_mem _ hq)
    have h2 := h q (List.mem_cons_self ..)
    simp only [List.map_cons, List.sum_cons] at hs
    rcases List.mem_cons.1 ho with rfl | ho
    · omega
    · exact sum_map_zero (P := P) (fun q hq => h q (List.mem_cons_of_mem _ hq)) (by omega) o ho
theorem sum_zeros : ∀ P : List (List Int), (P.map fun _ => (0 : Int)).sum = 0
  | [] => rfl
  | _ :: P => by rw [List.map_cons, List.sum_cons, sum_zeros P]; rfl
/-- The list behind a unit gift. -/
def giftL (pw : List Int) (i j : Nat) : List Int := (pw.set i (pw.getD i 0 - 1)).set j (pw.getD j 0 + 1)
theorem giftL_len (pw : List Int) (i j : Nat) : (giftL pw i j).length = pw.length := by simp [giftL]
def rest (pw x o : List Int) (i j : Nat) : Int := pr pw.length (fun k => if k = i ∨ k = j then 1 else fac pw x o k)
/-- What one order gives to the difference. -/
def term (pw x o : List Int) (i j : Nat) : Int := gd (x.getD (o.getD i 0).toNat 0) (x.getD (o.getD j 0).toNat 0) (pw.getD j 0).toNat ((pw.getD i 0).toNat - (pw.getD j 0).toNat - 2) * rest pw x o i j
theorem val_two (pw x o : List Int) {i j : Nat} (hi : i < pw.length) (hj : j < pw.length) (hij : i ≠ j) : valO pw x o = fac pw x o i * fac pw x o j * rest pw x o i j := pr_two _ hi hj hij
theorem rest_gift (pw x o : List Int) {i j : Nat} (hi : i < pw.length) (hj : j < pw.length) : rest (giftL pw i j) x o i j = rest pw x o i j := by
  unfold rest
  rw [giftL_len]
  refine pr_congr fun k hk => ?_
  by_cases e : k = i ∨ k = j
  · rw [if_pos e, if_pos e]
  · rw [if_neg e, if_neg e]
    unfold fac giftL
    rw [getD_set_other (fun h => e (.inr h.symm)), getD_set_other (fun h => e (.inl h.symm))]
theorem rest_sw (pw x o : List Int) (i j : Nat) : rest pw x (sw i j o) i j = rest pw x o i j := by
  unfold rest
  refine pr_congr fun k hk => ?_
  by_cases e : k = i ∨ k = j
  · rw [if_pos e, if_pos e]
  · rw [if_neg e, if_neg e]
    unfold fac
    rw [sw_k (fun h => e (.inl h)) (fun h => e (.inr h))]
/-- Powers of which a unit can be given from the one to the other one, kindly. -/
def Kind (pw : List Int) (i j : Nat) : Prop := i < pw.length ∧ j < pw.length ∧ i ≠ j ∧ 0 ≤ pw.getD j 0 ∧ pw.getD j 0 + 2 ≤ pw.getD i 0
theorem term_is {pw x o : List Int} {i j : Nat} (h : Kind pw i j) (ho : o.length = pw.length) : term pw x o i j = (valO pw x o + valO pw x (sw i j o)) - (valO (giftL pw i j) x o + valO (giftL pw i j) x (sw i j o)) := by
  obtain ⟨hi, hj, hij, h0, h2⟩ := h
  have gi : i < (giftL pw i j).length := by rw [giftL_len]; exact hi
  have gj : j < (giftL pw i j).length := by rw [giftL_len]; exact hj
  rw [val_two pw x o hi hj hij, val_two pw x (sw i j o) hi hj hij, val_two _ x o gi gj hij, val_two _ x (sw i j o) gi gj hij, rest_gift pw x o hi hj, rest_gift pw x (sw i j o) hi hj, rest_sw]
  have e1 : (giftL pw i j).getD i 0 = pw.getD i 0 - 1 := by unfold giftL; rw [getD_set_other (fun h => hij h.symm), getD_set_eq hi]
  have e2 : (giftL pw i j).getD j 0 = pw.getD j 0 + 1 := by unfold giftL; rw [getD_set_eq (by rw [List.length_set]; exact hj)]
  unfold term fac
  rw [e1, e2, sw_i (by omega) hij, sw_j (by omega)]
  generalize x.getD (o.getD i 0).toNat 0 = u
  generalize x.getD (o.getD j 0).toNat 0 = v
  generalize rest pw x o i j = R
  generalize pw.getD i 0 = p at *
  generalize pw.getD j 0 = q at *
  obtain ⟨d, hd⟩ : ∃ d : Nat, p.toNat = q.toNat + d + 2 := ⟨p.toNat - q.toNat - 2, by omega⟩
  have f1 : p.toNat - q.toNat - 2 = d := by omega
  have f2 : (p - 1).toNat = q.toNat + d + 1 := by omega
  have f3 : (q + 1).toNat = q.toNat + 1 := by omega
  rw [f1, f2, f3, hd, gd_is]
  rw [Int.sub_mul, Int.add_mul, Int.add_mul]
theorem gift_terms {P : List (List Int)} {pw x : List Int} {i j : Nat} (hP : Ords P pw.length) (h : Kind pw i j) : (P.map fun o => term pw x o i j).sum = 2 * (msum P pw x - msum P (giftL pw i j) x) := by
  have e : (P.map fun o => term pw x o i j).sum = (P.map fun o => (valO pw x o + valO pw x (sw i j o)) - (valO (giftL pw i j) x o + valO (giftL pw i j) x (sw i j o))).sum := sum_map_congr fun o ho => term_is h (hP.len o ho)
  rw [e, sum_map_sub (fun o => valO pw x o + valO pw x (sw i j o)), sum_map_add, sum_map_add, sum_sw hP h.1 h.2.1 h.2.2.1, sum_sw hP h.1 h.2.1 h.2.2.1]
  unfold msum
  omega
theorem rest_pos {P : List (List Int)} {pw x : List Int} (hP : Ords P pw.length) (hx : ∀ k, k < pw.length → 0 < x.getD k 0) {o : List Int} (ho : o ∈ P) (i j : Nat) : 0 < rest pw x o i j := by
  refine pr_pos fun k hk => ?_
  by_cases e : k = i ∨ k = j
  · rw [if_pos e]; decide
  · rw [if_neg e]
    have r := hP.rng o ho k hk
    exact pow_pos' (hx _ (by omega)) _
theorem term_nonneg {P : List (List Int)} {pw x : List Int} {i j : Nat} (hP : Ords P pw.length) (h : Kind pw i j) (hx : ∀ k, k < pw.length → 0 < x.getD k 0) : ∀ o ∈ P, 0 ≤ term pw x o i j := fun o ho => by
  have r1 := hP.rng o ho i h.1
  have r2 := hP.rng o ho j h.2.1
  exact Int.mul_nonneg (gd_nonneg (hx _ (by omega)) (hx _ (by omega)) _ _) (by have := rest_pos hP hx ho i j; omega)
/-- A unit gift of powers makes the symmetric sum no greater, and less unless all arguments are equal. -/
theorem gift_le {P : List (List Int)} {pw x : List Int} {i j : Nat} (hP : Ords P pw.length) (h : Kind pw i j) (hx : ∀ k, k < pw.length → 0 < x.getD k 0) : msum P (giftL pw i j) x ≤ msum P pw x ∧ (msum P (giftL pw i j) x = msum P pw x ↔ ∀ s t, s < pw.length → t < pw.length → x.getD s 0 = x.getD t 0) := by
  have ht := gift_terms (x := x) hP h
  have hn := term_nonneg hP h hx
  have hs := sum_map_nonneg hn
  refine ⟨by omega, ?_, ?_⟩
  · intro e s t hs1 ht1
    by_cases est : s = t
    · rw [est]
    · obtain ⟨o, ho, e1, e2⟩ := hP.hit i j s t h.1 h.2.1 h.2.2.1 hs1 ht1 est
      have z := sum_map_zero hn (by omega) o ho
      unfold term at z
      rw [e1, e2] at z
      have r := rest_pos hP hx ho i j
      by_cases c : x.getD s 0 = x.getD t 0
      · exact c
      · have g := gd_pos (hx s hs1) (hx t ht1) c (pw.getD j 0).toNat ((pw.getD i 0).toNat - (pw.getD j 0).toNat - 2)
        have : 0 < gd (x.getD s 0) (x.getD t 0) (pw.getD j 0).toNat ((pw.getD i 0).toNat - (pw.getD j 0).toNat - 2) * rest pw x o i j := Int.mul_pos g r
        rw [Int.toNat_natCast, Int.toNat_natCast] at z
        omega
  · intro e
    have z : (P.map fun o => term pw x o i j).sum = 0 := by
      have : (P.map fun o => term pw x o i j).sum = (P.map fun _ => (0 : Int)).sum := sum_map_congr fun o ho => by
        have r1 := hP.rng o ho i h.1
        have r2 := hP.rng o ho j h.2.1
        unfold term
        rw [e (o.getD i 0).toNat (o.getD j 0).toNat (by omega) (by omega), gd_self, Int.zero_mul]
      rw [this]; exact sum_zeros P
    omega
end Go.Proofs.Ytbnlfhdjcpegkaa.Math
