/- Plain words for the laws of this seat: rankings, excesses over thresholds, partial sums. No program in sight. -/
import Derived.Test.YtbbioadebhnfiaaMath
import Derived.Laws.BitsLemmas
namespace Go.Proofs.Ytbbioadebhnfiaa.Math
open Go.RowKit Go.Proofs.YtbbioadebhnfiaaW.PrintWords Go.Proofs.YtbbioadebhnfiaaW.PrintMore
set_option linter.unusedVariables false
set_option linter.unusedSimpArgs false

/-! ### draws: what comes is not told, only that something comes -/
def Ex {α : Type} (g : Nat → Option α) (P : α → Prop) : Prop := ∃ r, Ev g r ∧ P r
theorem Ex.now {α : Type} {r : α} {P : α → Prop} (h : P r) : Ex (fun _ => some r) P := ⟨r, Ev.now r, h⟩
theorem Ex.bind {α β : Type} {g : Nat → Option α} {f : Nat → α → Option β} {P : α → Prop} {Q : β → Prop} (h : Ex g P) (k : ∀ a, P a → Ex (fun n => f n a) Q) : Ex (fun n => (g n).bind (f n)) Q := by
  obtain ⟨a, ha, hp⟩ := h
  obtain ⟨r, hr, hq⟩ := k a hp
  exact ⟨r, Ev.bind ha hr, hq⟩
theorem Ex.succ {α : Type} {g : Nat → Option α} {P : α → Prop} (h : Ex (fun k => g (k + 1)) P) : Ex g P := by
  obtain ⟨r, hr, hp⟩ := h
  exact ⟨r, Ev.succ hr, hp⟩
theorem Ex.mono {α : Type} {g : Nat → Option α} {P Q : α → Prop} (h : Ex g P) (k : ∀ a, P a → Q a) : Ex g Q := by
  obtain ⟨r, hr, hp⟩ := h
  exact ⟨r, hr, k r hp⟩
theorem Ex.ev {α β : Type} {g : Nat → Option α} {f : Nat → α → Option β} {P : α → Prop} {b : β} (h : Ex g P) (k : ∀ a, P a → Ev (fun n => f n a) b) : Ev (fun n => (g n).bind (f n)) b := by
  obtain ⟨a, ha, hp⟩ := h
  exact Ev.bind ha (k a hp)
theorem wrapU64 (n : Int) : IntKind.u64.wrap n = n % 18446744073709551616 := by simp [IntKind.wrap, IntKind.bits, IntKind.signed]
theorem and255 (x : Int) (h0 : 0 ≤ x) (h1 : x < 18446744073709551616) : 0 ≤ wrap64 (Go.bits .and .u64 (x / 1099511627776) 255) ∧ wrap64 (Go.bits .and .u64 (x / 1099511627776) 255) ≤ 255 := by
  have h := bits_mask .u64 64 (by decide) (fun n h0 h1 => by rw [wrapU64]; omega) 8 (by decide) (x / 1099511627776) (by omega) (by omega)
  rw [show (255 : Int) = 2 ^ 8 - 1 by decide, h]
  unfold wrap64
  omega
/-- The input: bytes, no more than a slice has. -/
def Bts (c : List Int) : Prop := c.length ≤ 4611686018427387904 ∧ ∀ x ∈ c, 0 ≤ x ∧ x ≤ 255
theorem Bts.of {c : List Int} (h : c.length * 1 ≤ 140737488351232) (hw : ∀ x ∈ c, (Lit.int .u8 x).wf = true) : Bts c := ⟨by omega, fun x hx => by
  have := hw x hx
  simp only [Lit.wf, Bool.and_eq_true, decide_eq_true_eq] at this
  have e1 : IntKind.u8.min = 0 := by decide
  have e2 : IntKind.u8.max = 255 := by decide
  omega⟩
theorem rd_code {c : List Int} (h : Bts c) {i : Int} (h0 : 0 ≤ i) (h1 : i < c.length) : 0 ≤ rd c i ∧ rd c i ≤ 255 := by
  have hi : i.toNat < c.length := by omega
  have e : rd c i = c[i.toNat] := by
    unfold rd
    rw [List.getD_eq_getElem?_getD, List.getElem?_eq_getElem hi, Option.getD_some]
  rw [e]
  exact h.2 _ (List.getElem_mem hi)
/-- Where the cursor stands: at most at b. -/
def At (a b : Int) : Prop := 0 ≤ a ∧ a ≤ b

theorem getD_lt {l : List Int} {i : Nat} (h : i < l.length) : l.getD i 0 = l[i] := by simp [List.getD_eq_getElem?_getD, h]
theorem getD_mem {l : List Int} {i : Nat} (h : i < l.length) : l.getD i 0 ∈ l := by rw [getD_lt h]; exact List.getElem_mem h
def S1 (f : Nat → Int) : Nat → Int
  | 0 => 0
  | n + 1 => S1 f n + f n
theorem S1_succ (f : Nat → Int) (n : Nat) : S1 f (n + 1) = S1 f n + f n := rfl
theorem S1_congr {f g : Nat → Int} : ∀ n, (∀ i, i < n → f i = g i) → S1 f n = S1 g n
  | 0, _ => rfl
  | n + 1, h => by rw [S1, S1, S1_congr n fun i hi => h i (by omega), h n (by omega)]
theorem S1_add (f g : Nat → Int) : ∀ n, S1 (fun i => f i + g i) n = S1 f n + S1 g n
  | 0 => rfl
  | n + 1 => by rw [S1, S1, S1, S1_add f g n]; omega
theorem S1_mul (c : Int) (f : Nat → Int) : ∀ n, S1 (fun i => c * f i) n = c * S1 f n
  | 0 => by simp [S1]
  | n + 1 => by rw [S1, S1, S1_mul c f n, Int.mul_add]
theorem S1_le {f g : Nat → Int} : ∀ n, (∀ i, i < n → f i ≤ g i) → S1 f n ≤ S1 g n
  | 0, _ => Int.le_refl _
  | n + 1, h => by
    have := S1_le n fun i hi => h i (by omega)
    have := h n (by omega)
    rw [S1, S1]; omega
theorem S1_zero : ∀ n, S1 (fun _ => 0) n = 0
  | 0 => rfl
  | n + 1 => by rw [S1, S1_zero n]; rfl
theorem S1_shift (f : Nat → Int) : ∀ n, S1 f (n + 1) = f 0 + S1 (fun i => f (i + 1)) n
  | 0 => by simp [S1]
  | n + 1 => by rw [S1, S1_shift f n, S1]; omega
theorem perm_sum {a b : List Int} (h : List.Perm a b) : a.sum = b.sum := by
  induction h with
  | nil => rfl
  | cons x _ ih => simp only [List.sum_cons, ih]
  | swap x y l => simp only [List.sum_cons]; omega
  | trans _ _ h1 h2 => exact h1.trans h2
theorem exc_perm {a b : List Int} (h : List.Perm a b) (t : Int) : exc a t = exc b t := perm_sum (h.map _)
theorem exc_cons (x : Int) (l : List Int) (t : Int) : exc (x :: l) t = max 0 (x - t) + exc l t := rfl
theorem exc_nonneg : ∀ (l : List Int) (t : Int), 0 ≤ exc l t
  | [], _ => by simp [exc]
  | x :: l, t => by have := exc_nonneg l t; rw [exc_cons]; omega
/-- The excess is at least what the first numbers have more. -/
theorem take_le_exc : ∀ (l : List Int) (t : Int) (k : Nat), k ≤ l.length → (l.take k).sum - k * t ≤ exc l t
  | l, t, 0, _ => by have := exc_nonneg l t; simp; omega
  | [], t, k + 1, h => absurd h (by simp)
  | x :: l, t, k + 1, h => by
    have ih := take_le_exc l t k (by simpa using h)
    rw [List.take_succ_cons, List.sum_cons, exc_cons]
    have e : ((k + 1 : Nat) : Int) * t = k * t + t := by rw [Int.natCast_add, Int.add_mul]; omega
    omega
theorem exc_low : ∀ (l : List Int) (t : Int), (∀ x ∈ l, x ≤ t) → exc l t = 0
  | [], _, _ => by simp [exc]
  | x :: l, t, h => by
    have := h x (List.mem_cons_self ..)
    rw [exc_cons, exc_low l t fun y hy => h y (List.mem_cons_of_mem _ hy)]
    omega
theorem exc_at : ∀ (l : List Int) (t : Int) (k : Nat), k ≤ l.length → (∀ x ∈ l.take k, t ≤ x) → (∀ x ∈ l.drop k, x ≤ t) → exc l t = (l.take k).sum - k * t
  | l, t, 0, _, _, h => by rw [exc_low l t (by simpa using h)]; simp
  | [], t, k + 1, h, _, _ => absurd h (by simp)
  | x :: l, t, k + 1, h, h1, h2 => by
    have ih := exc_at l t k (by simpa using h) (fun y hy => h1 y (by rw [List.take_succ_cons]; exact List.mem_cons_of_mem _ hy)) (fun y hy => h2 y (by rw [List.drop_succ_cons]; exact hy))
    have hx := h1 x (by rw [List.take_succ_cons]; exact List.mem_cons_self ..)
    rw [List.take_succ_cons, List.sum_cons, exc_cons, ih]
    have e : ((k + 1 : Nat) : Int) * t = k * t + t := by rw [Int.natCast_add, Int.add_mul]; omega
    omega
theorem cut_ex : ∀ (l : List Int) (t : Int), Desc l → ∃ k, k ≤ l.length ∧ (∀ x ∈ l.take k, t ≤ x) ∧ (∀ x ∈ l.drop k, x ≤ t)
  | [], t, _ => ⟨0, by simp, by simp, by simp⟩
  | y :: l, t, h => by
    have h' := List.pairwise_cons.1 h
    by_cases c : y ≤ t
    · refine ⟨0, by simp, by simp, fun x hx => ?_⟩
      rw [List.drop_zero] at hx
      rcases List.mem_cons.1 hx with e | e
      · omega
      · have := h'.1 x e; omega
    · obtain ⟨k, hk, h1, h2⟩ := cut_ex l t h'.2
      refine ⟨k + 1, by simpa using hk, fun x hx => ?_, fun x hx => ?_⟩
      · rw [List.take_succ_cons] at hx
        rcases List.mem_cons.1 hx with e | e
        · omega
        · exact h1 x e
      · rw [List.drop_succ_cons] at hx; exact h2 x hx
/-- The first list's partial sums are at most the second's. -/
def subB (a b : List Int) : Bool := leAll (psums 0 (rankD a)) (psums 0 (rankD b))
theorem subB_iff {a b : List Int} (hl : a.length = b.length) : subB a b = true ↔ ∀ k, k ≤ a.length → ((rankD a).take k).sum ≤ ((rankD b).take k).sum := by
  unfold subB
  rw [leAll_iff _ _ (by simp only [psums_length, rankD_length]; exact hl)]
  simp only [psums_get, Int.zero_add, psums_length, rankD_length]
  constructor
  · intro h k hk
    cases k with
    | zero => simp
    | succ k => exact h k (by omega) (by omega)
  · intro h i hi hj
    exact h (i + 1) (by omega)
theorem take_desc {l : List Int} (h : Desc l) {j : Nat} (hj : j < l.length) : (∀ x ∈ l.take (j + 1), l[j] ≤ x) ∧ (∀ x ∈ l.drop (j + 1), x ≤ l[j]) := by
  constructor
  · intro x hx
    obtain ⟨i, hi, rfl⟩ := List.getElem_of_mem hx
    rw [List.getElem_take]
    rw [List.length_take] at hi
    by_cases c : i = j
    · subst c; exact Int.le_refl _
    · exact desc_le h (by omega) hj
  · intro x hx
    obtain ⟨i, hi, rfl⟩ := List.getElem_of_mem hx
    rw [List.length_drop] at hi
    rw [List.getElem_drop]
    exact desc_le h (by omega) (by omega)
/-- A list's partial sums are at most another one's exactly if over no threshold it has a greater excess. -/
theorem subB_exc {a b : List Int} (hb : Lst b) (hl : a.length = b.length) : subB a b = true ↔ ∀ t : Nat, t ≤ 60 → exc a t ≤ exc b t := by
  rw [subB_iff hl]
  have la := rankD_length a
  have lb := rankD_length b
  constructor
  · intro h t ht
    obtain ⟨k, hk, h1, h2⟩ := cut_ex (rankD a) t (rankD_desc a)
    have e := exc_at (rankD a) t k hk h1 h2
    have f := take_le_exc (rankD b) t k (by omega)
    rw [exc_perm (rankD_perm a)] at e
    rw [exc_perm (rankD_perm b)] at f
    have := h k (by omega)
    omega
  · intro h k hk
    cases k with
    | zero => simp
    | succ j =>
      have hj : j < (rankD b).length := by omega
      have g := (rankD_lst hb).get hj
      obtain ⟨h1, h2⟩ := take_desc (rankD_desc b) hj
      have e := exc_at (rankD b) ((rankD b)[j]) (j + 1) hj h1 h2
      have f := take_le_exc (rankD a) ((rankD b)[j]) (j + 1) (by omega)
      have t := h ((rankD b)[j]).toNat (by omega)
      rw [show (((rankD b)[j]).toNat : Int) = (rankD b)[j] by omega] at t
      rw [exc_perm (rankD_perm b)] at e
      rw [exc_perm (rankD_perm a)] at f
      omega
def majB (a b : List Int) : Bool := decide (a.length = b.length) && (decide (a.sum = b.sum) && subB a b)

/-! ### refusing weights -/
theorem refGo_bound : ∀ (i : Nat) (a b : List Int), refGo i a b = 0 ∨ ((i : Int) < refGo i a b ∧ refGo i a b ≤ i + a.length)
  | _, [], _ => .inl (by simp [refGo])
  | _, _ :: _, [] => .inl (by simp [refGo])
  | i, x :: a, y :: b => by
    simp only [refGo]
    by_cases c : x > y
    · rw [if_pos c]; right; simp only [List.length_cons]; omega
    · rw [if_neg c]
      rcases refGo_bound (i + 1) a b with h | h
      · exact .inl h
      · right; simp only [List.length_cons]; omega
/-- At the place that is told the first list has more, and nowhere ahead of it. -/
theorem refGo_at : ∀ (i : Nat) (a b : List Int) (k : Nat), refGo i a b = ((i + k + 1 : Nat) : Int) → k < a.length ∧ a.getD k 0 > b.getD k 0
  | _, [], _, k, h => by simp [refGo] at h; omega
  | _, _ :: _, [], k, h => by simp [refGo] at h; omega
  | i, x :: a, y :: b, k, h => by
    simp only [refGo] at h
    by_cases c : x > y
    · rw [if_pos c] at h
      obtain rfl : k = 0 := by omega
      exact ⟨by simp, by simpa using c⟩
    · rw [if_neg c] at h
      rcases refGo_bound (i + 1) a b with g | g
      · rw [g] at h; omega
      · obtain ⟨m, rfl⟩ : ∃ m, k = m + 1 := ⟨k - 1, by omega⟩
        have := refGo_at (i + 1) a b m (by rw [h]; omega)
        exact ⟨by simpa using this.1, by simpa using this.2⟩
def refK (a b : List Int) : Int := refGo 0 (partOf a) (partOf b)
theorem refK_bound (a b : List Int) : 0 ≤ refK a b ∧ refK a b ≤ a.length := by
  have := refGo_bound 0 (partOf a) (partOf b)
  rw [partOf_length] at this
  unfold refK
  omega
/-- k ones, then zeros. -/
def onesN (n k : Nat) : List Int := List.replicate k 1 ++ List.replicate (n - k) 0
theorem onesN_length {n k : Nat} (h : k ≤ n) : (onesN n k).length = n := by
  unfold onesN
  rw [List.length_append, List.length_replicate, List.length_replicate]; omega
theorem onesN_succ {n k : Nat} (h : k < n) : (onesN n k).set k 1 = onesN n (k + 1) := by
  unfold onesN
  have e : List.replicate (n - k) (0 : Int) = 0 :: List.replicate (n - (k + 1)) 0 := by rw [show n - k = (n - (k + 1)) + 1 by omega, List.replicate_succ]
  rw [e, set_mid _ _ _ _ _ (by rw [List.length_replicate]), List.replicate_succ', List.append_assoc]; rfl
def refW (a b : List Int) : List Int × Bool := if fits a b then (if refK a b > 0 then (onesN a.length (refK a b).toNat, true) else ([], false)) else ([], false)
theorem refW_len (a b : List Int) : (refW a b).1.length ≤ a.length := by
  unfold refW
  have kb := refK_bound a b
  split
  · split
    · exact Nat.le_of_eq (onesN_length (by omega))
    · simp
  · simp
theorem dot_zeros : ∀ (l : List Int) (m : Nat), dot l (List.replicate m 0) = 0
  | [], _ => rfl
  | _ :: _, 0 => rfl
  | x :: l, m + 1 => by rw [List.replicate_succ, dot_cons, dot_zeros l m]; simp
theorem dot_ones : ∀ (l : List Int) (k m : Nat), k + m = l.length → dot l (List.replicate k 1 ++ List.replicate m 0) = (l.take k).sum
  | l, 0, m, _ => by rw [List.replicate_zero, List.nil_append, dot_zeros]; simp
  | [], k + 1, m, h => absurd h (by simp)
  | x :: l, k + 1, m, h => by
    rw [List.replicate_succ, List.cons_append, dot_cons, dot_ones l k m (by simp only [List.length_cons] at h; omega), List.take_succ_cons, List.sum_cons]
    omega
theorem dot_onesN {l : List Int} {k : Nat} (h : k ≤ l.length) : dot l (onesN l.length k) = (l.take k).sum := dot_ones l k _ (by omega)
theorem part_get {l : List Int} {i : Nat} (h : i < l.length) : (partOf l).getD i 0 = ((rankD l).take (i + 1)).sum := by
  have hl : i < (partOf l).length := by rw [partOf_length]; exact h
  rw [getD_lt hl]
  have := psums_get 0 (rankD l) i (by rw [psums_length, rankD_length]; exact h)
  exact this.trans (Int.zero_add _)
theorem rank_ones {a : List Int} {n k : Nat} (hn : a.length = n) (h1 : 0 < k) (h : k ≤ n) : dot (rankD a) (onesN n k) = (partOf a).getD (k - 1) 0 := by
  have e := dot_onesN (l := rankD a) (k := k) (by rw [rankD_length]; omega)
  rw [rankD_length, hn] at e
  rw [e, part_get (by omega), show k - 1 + 1 = k by omega]
theorem onesN_weights {n k : Nat} (h : k ≤ n) : weightsB (onesN n k) n = true := by
  unfold weightsB
  rw [Bool.and_eq_true, Bool.and_eq_true, decide_eq_true_eq, allW_iff, onesN_length h]
  refine ⟨?_, rfl, ?_⟩
  · have z : ∀ m : Nat, adj noInc (List.replicate m 0) = true := fun m => by
      induction m with
      | zero => rfl
      | succ m ih =>
        cases m with
        | zero => rfl
        | succ m => rw [List.replicate_succ, List.replicate_succ, adj, Bool.and_eq_true]; exact ⟨by decide, by rw [← List.replicate_succ]; exact ih⟩
    have o : ∀ k m : Nat, adj noInc (List.replicate k 1 ++ List.replicate m 0) = true := fun k => by
      induction k with
      | zero => intro m; rw [List.replicate_zero, List.nil_append]; exact z m
      | succ k ih =>
        intro m
        cases k with
        | zero =>
          cases m with
          | zero => rfl
          | succ m => rw [show List.replicate (0 + 1) (1 : Int) ++ List.replicate (m + 1) 0 = 1 :: 0 :: List.replicate m 0 from rfl, adj, Bool.and_eq_true]; exact ⟨by decide, by rw [← List.replicate_succ]; exact z (m + 1)⟩
        | succ k =>
          have := ih m
          rw [List.replicate_succ, List.replicate_succ, List.cons_append, List.cons_append, adj, Bool.and_eq_true]
          exact ⟨by decide, by rw [← List.cons_append, ← List.replicate_succ]; exact this⟩
    exact o k (n - k)
  · intro x hx
    unfold onesN at hx
    rcases List.mem_append.1 hx with h | h
    · have := List.eq_of_mem_replicate h; omega
    · have := List.eq_of_mem_replicate h; omega
theorem onesN_sum {n k : Nat} : (onesN n k).sum = k := by
  have z : ∀ m : Nat, (List.replicate m (0 : Int)).sum = 0 := fun m => by
    induction m with
    | zero => rfl
    | succ m ih => rw [List.replicate_succ, List.sum_cons, ih]; rfl
  have o : ∀ k : Nat, (List.replicate k (1 : Int)).sum = k := fun k => by
    induction k with
    | zero => rfl
    | succ k ih => rw [List.replicate_succ, List.sum_cons, ih]; omega
  unfold onesN
  rw [List.sum_append, z, o]; omega
/-- Weights that do not rise, over sums of the first numbers that are not less. -/
theorem abel : ∀ (w p q : List Int) (s : Int), adj noInc w = true → 0 < w.length → w.length = p.length → w.length = q.length → (∀ k, k < w.length → 0 ≤ s + (q.take (k + 1)).sum - (p.take (k + 1)).sum) → s + q.sum - p.sum = 0 → -(w.headD 0 * s) ≤ dot q w - dot p w
  | [], _, _, _, _, h0, _, _, _, _ => absurd h0 (by simp)
  | _ :: _, [], _, _, _, _, h, _, _, _ => absurd h (by simp)
  | _ :: _, _ :: _, [], _, _, _, _, h, _, _ => absurd h (by simp)
  | [x], p :: ps, q :: qs, s, _, _, h1, h2, _, hs => by
    obtain rfl : ps = [] := List.eq_nil_of_length_eq_zero (by simpa using h1.symm)
    obtain rfl : qs = [] := List.eq_nil_of_length_eq_zero (by simpa using h2.symm)
    simp only [List.sum_cons, List.sum_nil] at hs
    simp only [dot, List.headD_cons]
    have e : p = s + q := by omega
    have e1 : (s + q) * x = s * x + q * x := Int.add_mul _ _ _
    have e2 : x * s = s * x := Int.mul_comm _ _
    rw [e, e1, e2]
    omega
  | x :: y :: w, p :: ps, q :: qs, s, hw, _, h1, h2, hp, hs => by
    simp only [adj, Bool.and_eq_true] at hw
    have hxy : y ≤ x := by have := hw.1; unfold noInc at this; exact of_decide_eq_true this
    have hd := hp 0 (by simp)
    simp only [List.take_succ_cons, List.take_zero, List.sum_cons, List.sum_nil] at hd
    have ih := abel (y :: w) ps qs (s + q - p) hw.2 (by simp) (by simpa using h1) (by simpa using h2) (fun k hk => by
      have := hp (k + 1) (by simpa using hk)
      simp only [List.take_succ_cons, List.sum_cons] at this ⊢
      omega) (by simp only [List.sum_cons] at hs; omega)
    rw [List.headD_cons] at ih ⊢
    rw [dot_cons, dot_cons]
    obtain ⟨d, hd0⟩ : ∃ d, d = s + q - p := ⟨_, rfl⟩
    rw [← hd0] at ih
    have eq : q = d - s + p := by omega
    have e1 : q * x = d * x - s * x + p * x := by rw [eq, Int.add_mul, Int.sub_mul]
    have e2 : 0 ≤ d * (x - y) := Int.mul_nonneg (by omega) (by omega)
    rw [Int.mul_sub] at e2
    have e3 : x * s = s * x := Int.mul_comm _ _
    have e4 : y * d = d * y := Int.mul_comm _ _
    omega
theorem rankSum_mono {x y w : List Int} (hw : adj noInc w = true) (h0 : 0 < x.length) (hl : x.length = w.length) (h : majB x y = true) : dot (rankD x) w ≤ dot (rankD y) w := by
  unfold majB at h
  rw [Bool.and_eq_true, Bool.and_eq_true, decide_eq_true_eq, decide_eq_true_eq] at h
  obtain ⟨h1, h2, h3⟩ := h
  rw [subB_iff h1] at h3
  have := abel w (rankD x) (rankD y) 0 hw (by omega) (by rw [rankD_length]; omega) (by rw [rankD_length]; omega) (fun k hk => by have := h3 (k + 1) (by omega); omega) (by rw [rankD_sum, rankD_sum]; omega)
  rw [Int.mul_zero] at this
  omega
theorem dot_w_bound : ∀ (a w : List Int), (∀ x ∈ a, 0 ≤ x ∧ x ≤ 60) → (∀ x ∈ w, -1000 ≤ x ∧ x ≤ 1000) → -60000 * (a.length : Int) ≤ dot a w ∧ dot a w ≤ 60000 * a.length
  | [], b, _, _ => by simp [dot]
  | x :: a, [], _, _ => by simp only [dot, List.length_cons]; omega
  | x :: a, y :: b, ha, hb => by
    have ih := dot_w_bound a b (fun z hz => ha z (List.mem_cons_of_mem _ hz)) (fun z hz => hb z (List.mem_cons_of_mem _ hz))
    have hx := ha x (List.mem_cons_self ..)
    have hy := hb y (List.mem_cons_self ..)
    have h1 : x * y ≤ x * 1000 := Int.mul_le_mul_of_nonneg_left hy.2 hx.1
    have h0 : x * -1000 ≤ x * y := Int.mul_le_mul_of_nonneg_left hy.1 hx.1
    rw [dot_cons, List.length_cons]
    omega
end Go.Proofs.Ytbbioadebhnfiaa.Math
