/- Words of the kit's print, those of them that this law uses. -/
import Derived.Test.YtojklddddedoeaaTFnTopMathD
import Derived.Test.YtojklddddedoeaaTFnTopMathL
namespace Go.Proofs.Ytojklddddedoeaa.Math
open Go.RowKit Go.Proofs.YtojklddddedoeaaW.PrintWords Go.Proofs.YtojklddddedoeaaW.PrintMore
set_option linter.unusedVariables false
set_option linter.unusedSimpArgs false
theorem desc_getD {l : List Int} (h : Desc l) {i j : Nat} (hij : i < j) (hj : j < l.length) : l.getD j 0 ≤ l.getD i 0 := by
  have e1 : l.getD j 0 = l[j] := by simp [List.getD_eq_getElem?_getD, hj]
  have e2 : l.getD i 0 = l[i]'(by omega) := by
    have : i < l.length := by omega
    simp [List.getD_eq_getElem?_getD, this]
  rw [e1, e2]
  exact desc_le h hij hj
theorem desc_of_getD {l : List Int} (h : ∀ i j, i < j → j < l.length → l.getD j 0 ≤ l.getD i 0) : Desc l := by
  refine List.pairwise_iff_getElem.2 fun i j hi hj hij => ?_
  have := h i j hij hj
  simpa [List.getD_eq_getElem?_getD, hi, hj] using this
theorem rank_of_desc {l : List Int} (h : Desc l) : rankD l = l := desc_unique (rankD_perm l) (rankD_desc l) h
def giftU (l : List Int) (i j : Nat) : List Int := (l.set i (l.getD i 0 - 1)).set j (l.getD j 0 + 1)
theorem giftU_len (l : List Int) (i j : Nat) : (giftU l i j).length = l.length := by unfold giftU; rw [List.length_set, List.length_set]
theorem giftU_get {l : List Int} {f t : Nat} (hf : f < l.length) (ht : t < l.length) (hft : f ≠ t) (k : Nat) : (giftU l f t).getD k 0 = if k = f then l.getD f 0 - 1 else if k = t then l.getD t 0 + 1 else l.getD k 0 := by
  unfold giftU
  by_cases c1 : k = f
  · subst c1
    rw [if_pos rfl, getD_set_ne _ _ _ (Ne.symm hft), getD_set_self _ _ _ _ hf]
  · rw [if_neg c1]
    by_cases c2 : k = t
    · subst c2
      rw [if_pos rfl, getD_set_self _ _ _ _ (by rw [List.length_set]; exact ht)]
    · rw [if_neg c2, getD_set_ne _ _ _ (Ne.symm c2), getD_set_ne _ _ _ (Ne.symm c1)]
theorem giftU_cum {l : List Int} {f t : Nat} (hf : f < l.length) (ht : t < l.length) (hft : f ≠ t) : ∀ k, cum (giftU l f t) k = cum l k - (if f < k then 1 else 0) + (if t < k then 1 else 0)
  | 0 => by simp [cum, sm]
  | k + 1 => by
    rw [cum_succ, cum_succ, giftU_cum hf ht hft k, giftU_get hf ht hft k]
    by_cases c1 : k = f
    · subst c1
      rw [if_pos rfl, if_neg (Nat.lt_irrefl _), if_pos (Nat.lt_succ_self _)]
      by_cases c2 : t < k
      · rw [if_pos c2, if_pos (by omega)]; omega
      · rw [if_neg c2, if_neg (by omega)]; omega
    · rw [if_neg c1]
      have e : (f < k + 1) = (f < k) := propext ⟨fun h => by omega, fun h => by omega⟩
      simp only [e]
      by_cases c2 : k = t
      · subst c2
        rw [if_pos rfl, if_neg (Nat.lt_irrefl _), if_pos (Nat.lt_succ_self _)]
        omega
      · rw [if_neg c2]
        have e2 : (t < k + 1) = (t < k) := propext ⟨fun h => by omega, fun h => by omega⟩
        simp only [e2]
        omega
theorem lst_of_get {l : List Int} (h1 : 1 ≤ l.length) (h8 : l.length ≤ 8) (h : ∀ k, k < l.length → 0 ≤ l.getD k 0 ∧ l.getD k 0 ≤ 60) : Lst l := ⟨h1, h8, fun x hx => by
  obtain ⟨k, hk, e⟩ := List.getElem_of_mem hx
  have := h k hk
  rw [List.getD_eq_getElem?_getD, List.getElem?_eq_getElem hk, Option.getD_some, e] at this
  exact this⟩
theorem Lst.getD {l : List Int} (h : Lst l) {k : Nat} (hk : k < l.length) : 0 ≤ l.getD k 0 ∧ l.getD k 0 ≤ 60 := by
  rw [List.getD_eq_getElem?_getD, List.getElem?_eq_getElem hk, Option.getD_some]
  exact h.get hk
structure Above (x y : List Int) : Prop where
  lx : Lst x
  ly : Lst y
  dx : Desc x
  dy : Desc y
  len : x.length = y.length
  sum : cum x x.length = cum y x.length
  ge : ∀ k, k ≤ x.length → cum y k ≤ cum x k
structure Step (x y : List Int) (f t : Nat) : Prop where
  ft : f < t
  tn : t < x.length
  lt : x.getD t 0 < y.getD t 0
  before : ∀ i, i < t → y.getD i 0 ≤ x.getD i 0
  gt : y.getD f 0 < x.getD f 0
  between : ∀ i, f < i → i < t → x.getD i 0 ≤ y.getD i 0
theorem least_ex {P : Nat → Prop} : ∀ n, (∃ i, i < n ∧ P i) → ∃ i, i < n ∧ P i ∧ ∀ j, j < i → ¬ P j
  | 0, ⟨i, h, _⟩ => absurd h (by omega)
  | n + 1, ⟨i, h, hp⟩ => by
    by_cases c : ∃ j, j < n ∧ P j
    · obtain ⟨j, h1, h2, h3⟩ := least_ex n c
      exact ⟨j, by omega, h2, h3⟩
    · have : i = n := by
        by_cases e : i = n
        · exact e
        · exact absurd ⟨i, by omega, hp⟩ c
      subst this
      exact ⟨i, h, hp, fun j hj hpj => c ⟨j, hj, hpj⟩⟩
theorem last_ex {P : Nat → Prop} : ∀ n, (∃ i, i < n ∧ P i) → ∃ i, i < n ∧ P i ∧ ∀ j, i < j → j < n → ¬ P j
  | 0, ⟨i, h, _⟩ => absurd h (by omega)
  | n + 1, ⟨i, h, hp⟩ => by
    by_cases c : P n
    · exact ⟨n, by omega, c, fun j h1 h2 => by omega⟩
    · have hi : i < n := by
        by_cases e : i = n
        · subst e; exact absurd hp c
        · omega
      obtain ⟨k, h1, h2, h3⟩ := last_ex n ⟨i, hi, hp⟩
      refine ⟨k, by omega, h2, fun j hj hj2 => ?_⟩
      by_cases e : j = n
      · subst e; exact c
      · exact h3 j hj (by omega)
theorem step_ex {x y : List Int} (h : Above x y) (hne : x ≠ y) : ∃ f t, Step x y f t := by
  have ex : ∃ i, i < x.length ∧ x.getD i 0 < y.getD i 0 := by
    by_cases c : ∃ i, i < x.length ∧ x.getD i 0 < y.getD i 0
    · exact c
    · exfalso
      have c' : ∀ i, i < x.length → y.getD i 0 ≤ x.getD i 0 := fun i hi => by
        by_cases q : y.getD i 0 ≤ x.getD i 0
        · exact q
        · exact absurd ⟨i, hi, by omega⟩ c
      have z : sm x.length (fun i => x.getD i 0 - y.getD i 0) = 0 := by
        have := h.sum
        rw [sm_sub]
        show cum x x.length - cum y x.length = 0
        omega
      refine hne (list_ext_getD h.len fun i hi => ?_)
      have g := sm_ge (f := fun i => x.getD i 0 - y.getD i 0) (n := x.length) (k := i) (fun j hj => by have := c' j hj; show 0 ≤ x.getD j 0 - y.getD j 0; omega) hi
      rw [z] at g
      have := c' i hi
      have g : x.getD i 0 - y.getD i 0 ≤ 0 := g
      omega
  obtain ⟨t, ht, hlt, hbef⟩ := least_ex x.length ex
  have hb : ∀ i, i < t → y.getD i 0 ≤ x.getD i 0 := fun i hi => by have := hbef i hi; omega
  have ex2 : ∃ i, i < t ∧ y.getD i 0 < x.getD i 0 := by
    by_cases c : ∃ i, i < t ∧ y.getD i 0 < x.getD i 0
    · exact c
    · exfalso
      have e : cum x t = cum y t := sm_congr fun i hi => by
        have := hb i hi
        by_cases q : y.getD i 0 < x.getD i 0
        · exact absurd ⟨i, hi, q⟩ c
        · omega
      have := h.ge (t + 1) (by omega)
      rw [cum_succ, cum_succ] at this
      omega
  obtain ⟨f, hf, hgt, hbet⟩ := last_ex t ex2
  exact ⟨f, t, hf, ht, hlt, hb, hgt, fun i h1 h2 => by have := hbet i h1 h2; omega⟩
def units (x y : List Int) : Int := sm x.length fun i => max 0 (x.getD i 0 - y.getD i 0)
theorem units_nonneg (x y : List Int) : 0 ≤ units x y := sm_nonneg fun i _ => by omega
theorem sm_const_le {f : Nat → Int} {B : Int} : ∀ n, (∀ i, i < n → f i ≤ B) → sm n f ≤ n * B
  | 0, _ => by simp [sm]
  | n + 1, h => by
    have h1 := sm_const_le n fun i hi => h i (by omega)
    have h2 := h n (by omega)
    rw [sm, Int.natCast_succ, Int.add_mul, Int.one_mul]
    omega
theorem units_bound {x y : List Int} (h : Above x y) : units x y ≤ 240 := by
  have e1 : sm x.length (fun i => max 0 (x.getD i 0 - y.getD i 0) - max 0 (y.getD i 0 - x.getD i 0)) = 0 := by
    have : sm x.length (fun i => max 0 (x.getD i 0 - y.getD i 0) - max 0 (y.getD i 0 - x.getD i 0)) = sm x.length fun i => x.getD i 0 - y.getD i 0 := sm_congr fun i _ => by omega
    rw [this, sm_sub]
    have := h.sum
    show cum x x.length - cum y x.length = 0
    omega
  have e2 : sm x.length (fun i => max 0 (x.getD i 0 - y.getD i 0) + max 0 (y.getD i 0 - x.getD i 0)) ≤ x.length * 60 := sm_const_le _ fun i hi => by
    have := h.lx.getD hi
    have := h.ly.getD (k := i) (by rw [← h.len]; exact hi)
    omega
  rw [sm_sub] at e1
  rw [sm_add] at e2
  have := h.lx.2.1
  unfold units
  omega
theorem sm_two {f g : Nat → Int} {a b : Nat} {u v : Int} : ∀ n, (∀ i, i < n → f i = g i + (if i = a then u else 0) + (if i = b then v else 0)) → sm n f = sm n g + (if a < n then u else 0) + (if b < n then v else 0) := fun n h => by
  rw [sm_congr h, sm_add, sm_add, sm_at, sm_at]
theorem step_gap {x y : List Int} (h : Above x y) {f t : Nat} (s : Step x y f t) : x.getD f 0 - x.getD t 0 ≥ 2 := by
  have := desc_getD h.dy s.ft (by rw [← h.len]; exact s.tn)
  have := s.lt
  have := s.gt
  omega
theorem step_desc {x y : List Int} (h : Above x y) {f t : Nat} (s : Step x y f t) : Desc (giftU x f t) := by
  have hf : f < x.length := by have := s.ft; have := s.tn; omega
  have hft : f ≠ t := by have := s.ft; omega
  have h0 := s.ft
  have h1 := s.lt
  have h2 := s.gt
  have yft := desc_getD h.dy s.ft (by rw [← h.len]; exact s.tn)
  refine desc_of_getD fun i j hij hj => ?_
  rw [giftU_len] at hj
  rw [giftU_get hf s.tn hft, giftU_get hf s.tn hft]
  have xij := desc_getD h.dx hij hj
  have yij := desc_getD h.dy hij (by rw [← h.len]; exact hj)
  by_cases c1 : i = f
  · subst c1
    rw [if_pos rfl, if_neg (by omega)]
    by_cases c2 : j = t
    · subst c2; rw [if_pos rfl]; omega
    · rw [if_neg c2]
      by_cases c3 : j < t
      · have := s.between j hij c3; omega
      · have := desc_getD h.dx (i := t) (j := j) (by omega) hj; omega
  · rw [if_neg c1]
    by_cases c2 : i = t
    · subst c2
      rw [if_pos rfl, if_neg (by omega), if_neg (by omega)]
      omega
    · rw [if_neg c2]
      by_cases c3 : j = f
      · rw [if_pos c3]; subst c3; omega
      · rw [if_neg c3]
        by_cases c4 : j = t
        · rw [if_pos c4]; subst c4
          by_cases c5 : i < f
          · have := desc_getD h.dx c5 hf; omega
          · have := s.before i hij; omega
        · rw [if_neg c4]; exact xij
theorem step_above {x y : List Int} (h : Above x y) {f t : Nat} (s : Step x y f t) : Above (giftU x f t) y := by
  have hf : f < x.length := by have := s.ft; have := s.tn; omega
  have hft : f ≠ t := by have := s.ft; omega
  have gap := step_gap h s
  have bf := h.lx.getD hf
  have bt := h.lx.getD s.tn
  refine ⟨lst_of_get (by rw [giftU_len]; exact h.lx.1) (by rw [giftU_len]; exact h.lx.2.1) fun k hk => ?_, h.ly, step_desc h s, h.dy, by rw [giftU_len]; exact h.len, ?_, ?_⟩
  · rw [giftU_len] at hk
    rw [giftU_get hf s.tn hft]
    have := h.lx.getD hk
    by_cases c1 : k = f
    · rw [if_pos c1]; omega
    · rw [if_neg c1]
      by_cases c2 : k = t
      · rw [if_pos c2]; omega
      · rw [if_neg c2]; exact this
  · rw [giftU_len, giftU_cum hf s.tn hft, if_pos hf, if_pos s.tn]
    have := h.sum
    omega
  · intro k hk
    rw [giftU_len] at hk
    rw [giftU_cum hf s.tn hft]
    have g := h.ge k hk
    by_cases c1 : f < k
    · rw [if_pos c1]
      by_cases c2 : t < k
      · rw [if_pos c2]; omega
      · rw [if_neg c2]
        have key : ∀ d, f + 1 + d ≤ t → cum y (f + 1 + d) + 1 ≤ cum x (f + 1 + d) := by
          intro d
          induction d with
          | zero =>
            intro _
            have := h.ge f (by omega)
            have := s.gt
            rw [Nat.add_zero, cum_succ, cum_succ]
            omega
          | succ d ih =>
            intro hd
            have := ih (by omega)
            have := s.before (f + 1 + d) (by omega)
            rw [show f + 1 + (d + 1) = f + 1 + d + 1 by omega, cum_succ, cum_succ]
            omega
        have := key (k - (f + 1)) (by omega)
        rw [show f + 1 + (k - (f + 1)) = k by omega] at this
        omega
    · rw [if_neg c1, if_neg (by have := s.ft; omega)]
      omega
theorem step_units {x y : List Int} (h : Above x y) {f t : Nat} (s : Step x y f t) : units (giftU x f t) y = units x y - 1 := by
  have hf : f < x.length := by have := s.ft; have := s.tn; omega
  have hft : f ≠ t := by have := s.ft; omega
  have h1 := s.lt
  have h2 := s.gt
  unfold units
  rw [giftU_len]
  rw [sm_two (g := fun i => max 0 (x.getD i 0 - y.getD i 0)) (a := f) (b := t) (u := -1) (v := 0) x.length fun i hi => by
    rw [giftU_get hf s.tn hft]
    by_cases c1 : i = f
    · subst c1; rw [if_pos rfl, if_pos rfl, if_neg hft]; omega
    · rw [if_neg c1, if_neg c1]
      by_cases c2 : i = t
      · subst c2; rw [if_pos rfl, if_pos rfl]; omega
      · rw [if_neg c2, if_neg c2]; omega]
  rw [if_pos hf, if_pos s.tn]
  omega
inductive GiftWay (y : List Int) : List Int → List (Nat × Nat) → List (List Int) → Prop
  | done : GiftWay y y [] []
  | step {x : List Int} {f t : Nat} {gs : List (Nat × Nat)} {ls : List (List Int)} (ha : Above x y) (hn : x ≠ y) (hs : Step x y f t) (hw : GiftWay y (giftU x f t) gs ls) : GiftWay y x ((f, t) :: gs) (giftU x f t :: ls)
theorem way_ex {y : List Int} : ∀ (n : Nat) (x : List Int), Above x y → units x y ≤ n → ∃ gs ls, GiftWay y x gs ls ∧ gs.length ≤ n
  | 0, x, h, hu => by
    by_cases c : x = y
    · subst c; exact ⟨[], [], .done, Nat.le_refl _⟩
    · obtain ⟨f, t, s⟩ := step_ex h c
      have := step_units h s
      have := units_nonneg (giftU x f t) y
      omega
  | n + 1, x, h, hu => by
    by_cases c : x = y
    · subst c; exact ⟨[], [], .done, Nat.zero_le _⟩
    · obtain ⟨f, t, s⟩ := step_ex h c
      have e := step_units h s
      obtain ⟨gs, ls, hw, hl⟩ := way_ex n (giftU x f t) (step_above h s) (by omega)
      exact ⟨(f, t) :: gs, giftU x f t :: ls, .step h c s hw, by rw [List.length_cons]; omega⟩
theorem GiftWay.len {y x : List Int} {gs : List (Nat × Nat)} {ls : List (List Int)} (h : GiftWay y x gs ls) : ls.length = gs.length := by
  induction h with
  | done => rfl
  | step _ _ _ _ ih => rw [List.length_cons, List.length_cons, ih]
theorem above_of {a b : List Int} (ha : Lst a) (hb : Lst b) (hl : a.length = b.length) (hs : a.sum = b.sum) (h : subB a b = true) : Above (rankD b) (rankD a) := by
  refine ⟨rankD_lst hb, rankD_lst ha, rankD_desc b, rankD_desc a, by rw [rankD_length, rankD_length, hl], ?_, fun k hk => ?_⟩
  · have e : (rankD b).length = (rankD a).length := by rw [rankD_length, rankD_length, hl]
    rw [cum_sum, e, cum_sum, rankD_sum, rankD_sum, hs]
  · rw [rankD_length] at hk
    have := (subB_iff hl).1 h k (by omega)
    rwa [take_cum, take_cum] at this
def meetGo (b : Int) : List Int → List Int → List Int
  | x :: p, y :: q => (min x y - b) :: meetGo (min x y) p q
  | _, _ => []
theorem meet_left : ∀ (x q : List Int) (s : Int), x.length = q.length → leAll (psums s x) q = true → meetGo s (psums s x) q = x
  | [], _, _, _, _ => by simp [psums, meetGo]
  | z :: x, [], _, h, _ => absurd h (by simp)
  | z :: x, y :: q, s, h, g => by
    simp only [psums, leAll, Bool.and_eq_true, decide_eq_true_eq] at g
    have e : min (s + z) y = s + z := by omega
    simp only [psums, meetGo, e]
    rw [meet_left x q (s + z) (by simpa using h) g.2]
    congr 1
    omega
theorem meet_right : ∀ (x q : List Int) (s : Int), x.length = q.length → leAll (psums s x) q = true → meetGo s q (psums s x) = x
  | [], q, _, h, _ => by cases q <;> simp [psums, meetGo]
  | z :: x, [], _, h, _ => absurd h (by simp)
  | z :: x, y :: q, s, h, g => by
    simp only [psums, leAll, Bool.and_eq_true, decide_eq_true_eq] at g
    have e : min y (s + z) = s + z := by omega
    simp only [psums, meetGo, e]
    rw [meet_right x q (s + z) (by simpa using h) g.2]
    congr 1
    omega
theorem leAll_cum {x y : List Int} (hl : x.length = y.length) : leAll (psums 0 x) (psums 0 y) = true ↔ ∀ k, k ≤ x.length → cum x k ≤ cum y k := by
  rw [leAll_iff _ _ (by rw [psums_length, psums_length, hl])]
  simp only [psums_length, psums_get, Int.zero_add, take_cum]
  constructor
  · intro h k hk
    cases k with
    | zero => exact Int.le_refl _
    | succ k => exact h k (by omega) (by omega)
  · intro h i hi _
    exact h (i + 1) (by omega)
def cnt (i : Int) : List Int → Int
  | [] => 0
  | x :: l => (if i < x then 1 else 0) + cnt i l
theorem cnt_bound (i : Int) : ∀ l : List Int, 0 ≤ cnt i l ∧ cnt i l ≤ l.length
  | [] => by simp [cnt]
  | x :: l => by
    have := cnt_bound i l
    simp only [cnt, List.length_cons]
    split <;> omega
theorem cnt_mono {i j : Int} (h : i ≤ j) : ∀ l : List Int, cnt j l ≤ cnt i l
  | [] => by simp [cnt]
  | x :: l => by
    have := cnt_mono h l
    simp only [cnt]
    split <;> split <;> omega
theorem cnt_perm {i : Int} {a b : List Int} (h : List.Perm a b) : cnt i a = cnt i b := by
  induction h with
  | nil => rfl
  | cons x _ ih => simp only [cnt, ih]
  | swap x y l => simp only [cnt]; omega
  | trans _ _ h1 h2 => exact h1.trans h2
theorem cnt_zero {i : Int} : ∀ l : List Int, (∀ x ∈ l, x ≤ i) → cnt i l = 0
  | [], _ => rfl
  | x :: l, h => by
    have := h x (by simp)
    simp only [cnt]
    rw [if_neg (by omega), cnt_zero l fun y hy => h y (by simp [hy])]
    rfl
def conj (l : List Int) (m : Nat) : List Int := (List.range m).map fun i : Nat => cnt (i : Int) l
theorem conj_length (l : List Int) (m : Nat) : (conj l m).length = m := by simp [conj]
theorem conj_get (l : List Int) {m i : Nat} (h : i < m) : (conj l m).getD i 0 = cnt (i : Int) l := by
  simp [conj, List.getD_eq_getElem?_getD, h]
theorem conj_desc (l : List Int) (m : Nat) : Desc (conj l m) := desc_of_getD fun i j hij hj => by
  rw [conj_length] at hj
  rw [conj_get l hj, conj_get l (by omega)]
  exact cnt_mono (by omega) l
theorem conj_perm {a b : List Int} (h : List.Perm a b) (m : Nat) : conj a m = conj b m := by
  unfold conj
  exact List.map_congr_left fun i _ => cnt_perm h
theorem cnt_desc {i : Int} : ∀ (r : List Int), Desc r → ∀ j, j < r.length → ((j : Int) < cnt i r ↔ i < r.getD j 0)
  | [], _, j, h => by simp at h
  | x :: r, hd, j, h => by
    have hd' := List.pairwise_cons.1 hd
    by_cases c : i < x
    · simp only [cnt, if_pos c]
      cases j with
      | zero =>
        have := (cnt_bound i r).1
        have e : (x :: r).getD 0 0 = x := rfl
        rw [e]
        constructor
        · intro _; exact c
        · intro _; omega
      | succ j =>
        rw [getD_cons_succ, ← cnt_desc r hd'.2 j (by rw [List.length_cons] at h; omega)]
        omega
    · have z : cnt i r = 0 := cnt_zero r fun y hy => by have := hd'.1 y hy; omega
      simp only [cnt, if_neg c, z]
      have hle : (x :: r).getD j 0 ≤ x := by
        cases j with
        | zero => exact Int.le_refl _
        | succ j =>
          rw [getD_cons_succ]
          have hj : j < r.length := by rw [List.length_cons] at h; omega
          have := hd'.1 r[j] (List.getElem_mem hj)
          rw [List.getD_eq_getElem?_getD, List.getElem?_eq_getElem hj, Option.getD_some]
          exact this
      constructor
      · intro h; omega
      · intro h; omega
theorem cnt_range (f : Nat → Int) (v : Int) (j : Int) : ∀ m : Nat, 0 ≤ v → v ≤ m → (∀ i, i < m → (j < f i ↔ (i : Int) < v)) → cnt j ((List.range m).map f) = v
  | 0, h0, h1, _ => by simp [cnt]; omega
  | m + 1, h0, h1, h => by
    have app : ∀ (p q : List Int), cnt j (p ++ q) = cnt j p + cnt j q := fun p q => by
      induction p with
      | nil => simp [cnt]
      | cons x p ih => rw [List.cons_append, cnt, ih, cnt]; omega
    rw [List.range_succ, List.map_append, app]
    have e : cnt j ([m].map f) = if j < f m then 1 else 0 := by simp [cnt]
    rw [e]
    by_cases c : v ≤ m
    · rw [cnt_range f v j m h0 c fun i hi => h i (by omega), if_neg (by rw [h m (by omega)]; omega)]
      omega
    · have hv : v = (m : Int) + 1 := by omega
      rw [cnt_range f m j m (by omega) (Int.le_refl _) fun i hi => by rw [h i (by omega)]; omega, if_pos (by rw [h m (by omega)]; omega)]
      omega
theorem conj_conj {l : List Int} {m : Nat} (h0 : ∀ x ∈ l, 0 ≤ x) (hm : ∀ x ∈ l, x ≤ m) : conj (conj l m) l.length = rankD l := by
  rw [conj_perm (rankD_perm l).symm m]
  have hd := rankD_desc l
  refine list_ext_getD (by rw [conj_length, rankD_length]) fun j hj => ?_
  rw [conj_length] at hj
  rw [conj_get _ hj]
  have hj' : j < (rankD l).length := by rw [rankD_length]; exact hj
  have hmem : (rankD l).getD j 0 ∈ l := by
    rw [List.getD_eq_getElem?_getD, List.getElem?_eq_getElem hj', Option.getD_some]
    exact (rankD_perm l).mem_iff.1 (List.getElem_mem hj')
  exact cnt_range _ _ _ m (h0 _ hmem) (hm _ hmem) fun i _ => cnt_desc (rankD l) hd j hj'
theorem cnt_cum : ∀ (l : List Int) (k : Nat), (∀ x ∈ l, 0 ≤ x) → sm k (fun i => cnt (i : Int) l) = l.sum - exc l k
  | [], k, _ => by
    have : sm k (fun i => cnt (i : Int) []) = sm k fun _ => 0 := rfl
    rw [this, sm_zero]; simp [exc]
  | x :: l, k, h => by
    have ih := cnt_cum l k fun y hy => h y (by simp [hy])
    have hx := h x (by simp)
    have e : sm k (fun i => cnt (i : Int) (x :: l)) = sm k (fun i => (if (i : Int) < x then (1 : Int) else 0)) + sm k (fun i => cnt (i : Int) l) := by rw [← sm_add]; rfl
    have g : ∀ k : Nat, sm k (fun i => (if (i : Int) < x then (1 : Int) else 0)) = min x k := fun k => by
      induction k with
      | zero => show (0 : Int) = _; omega
      | succ k ih2 =>
        rw [sm, ih2]
        by_cases c : (k : Int) < x
        · rw [if_pos c]; omega
        · rw [if_neg c]; omega
    rw [e, ih, g]
    simp only [List.sum_cons, exc, List.map_cons]
    omega
theorem conj_cum {l : List Int} {m k : Nat} (hk : k ≤ m) (h : ∀ x ∈ l, 0 ≤ x) : cum (conj l m) k = l.sum - exc l k := by
  rw [← cnt_cum l k h]
  exact sm_congr fun i hi => conj_get l (by omega)
theorem conj_below {a b : List Int} {m : Nat} (ha : Lst a) (hb : Lst b) (hl : a.length = b.length) (hs : a.sum = b.sum) (h : subB a b = true) (hm : m ≤ 60) : leAll (psums 0 (conj b m)) (psums 0 (conj a m)) = true := by
  rw [leAll_cum (by rw [conj_length, conj_length])]
  intro k hk
  rw [conj_length] at hk
  rw [conj_cum hk fun x hx => (hb.2.2 x hx).1, conj_cum hk fun x hx => (ha.2.2 x hx).1]
  have := (subB_exc hb hl).1 h k (by omega)
  omega
theorem conj_bound {l : List Int} {m : Nat} (h : Lst l) : ∀ x ∈ conj l m, 0 ≤ x ∧ x ≤ 8 := by
  intro x hx
  obtain ⟨i, _, rfl⟩ := List.mem_map.1 hx
  have := cnt_bound (i : Int) l
  have := h.2.1
  omega
end Go.Proofs.Ytojklddddedoeaa.Math
