/- Words of the kit's print, those of them that this law uses. -/
import Derived.Test.YtojklddddedoeaaTFnMeasuresMath
import Derived.Laws.BitsLemmas
namespace Go.Proofs.Ytojklddddedoeaa.Math
open Go.RowKit Go.Proofs.YtojklddddedoeaaW.PrintWords Go.Proofs.YtojklddddedoeaaW.PrintMore
set_option linter.unusedVariables false
set_option linter.unusedSimpArgs false
def Ex {α : Type} (g : Nat → Option α) (P : α → Prop) : Prop := ∃ r, Ev g r ∧ P r
theorem Ex.now {α : Type} {r : α} {P : α → Prop} (h : P r) : Ex (fun _ => some r) P := ⟨r, Ev.now r, h⟩
theorem Ex.bind {α β : Type} {g : Nat → Option α} {f : Nat → α → Option β} {P : α → Prop} {Q : β → Prop} (h : Ex g P) (k : ∀ a, P a → Ex (fun n => f n a) Q) : Ex (fun n => (g n).bind (f n)) Q := by
  obtain ⟨a, ha, hp⟩ := h
  obtain ⟨r, hr, hq⟩ := k a hp
  exact ⟨r, Ev.bind ha hr, hq⟩
theorem Ex.succ {α : Type} {g : Nat → Option α} {P : α → Prop} (h : Ex (fun k => g (k + 1)) P) : Ex g P := by
  obtain ⟨r, hr, hp⟩ := h
  exact ⟨r, Ev.succ hr, hp⟩
theorem Ex.mono {α : Type} {g : Nat → Option α} {P Q : α → Prop} (h : Ex g P) (k : ∀ a, P a → Q a) : Ex g Q := by
  obtain ⟨r, hr, hp⟩ := h
  exact ⟨r, hr, k r hp⟩
theorem Ex.ev {α β : Type} {g : Nat → Option α} {f : Nat → α → Option β} {P : α → Prop} {b : β} (h : Ex g P) (k : ∀ a, P a → Ev (fun n => f n a) b) : Ev (fun n => (g n).bind (f n)) b := by
  obtain ⟨a, ha, hp⟩ := h
  exact Ev.bind ha (k a hp)
theorem wrapU64 (n : Int) : IntKind.u64.wrap n = n % 18446744073709551616 := by simp [IntKind.wrap, IntKind.bits, IntKind.signed]
theorem and255 (x : Int) (h0 : 0 ≤ x) (h1 : x < 18446744073709551616) : 0 ≤ wrap64 (Go.bits .and .u64 (x / 1099511627776) 255) ∧ wrap64 (Go.bits .and .u64 (x / 1099511627776) 255) ≤ 255 := by
  have h := bits_mask .u64 64 (by decide) (fun n h0 h1 => by rw [wrapU64]; omega) 8 (by decide) (x / 1099511627776) (by omega) (by omega)
  rw [show (255 : Int) = 2 ^ 8 - 1 by decide, h]
  unfold wrap64
  omega
def Bts (c : List Int) : Prop := c.length ≤ 4611686018427387904 ∧ ∀ x ∈ c, 0 ≤ x ∧ x ≤ 255
theorem Bts.of {c : List Int} (h : c.length * 1 ≤ 140737488351232) (hw : ∀ x ∈ c, (Lit.int .u8 x).wf = true) : Bts c := ⟨by omega, fun x hx => by
  have := hw x hx
  simp only [Lit.wf, Bool.and_eq_true, decide_eq_true_eq] at this
  have e1 : IntKind.u8.min = 0 := by decide
  have e2 : IntKind.u8.max = 255 := by decide
  omega⟩
theorem rd_code {c : List Int} (h : Bts c) {i : Int} (h0 : 0 ≤ i) (h1 : i < c.length) : 0 ≤ rd c i ∧ rd c i ≤ 255 := by
  have hi : i.toNat < c.length := by omega
  have e : rd c i = c[i.toNat] := by
    unfold rd
    rw [List.getD_eq_getElem?_getD, List.getElem?_eq_getElem hi, Option.getD_some]
  rw [e]
  exact h.2 _ (List.getElem_mem hi)
def At (a b : Int) : Prop := 0 ≤ a ∧ a ≤ b
theorem getD_lt {l : List Int} {i : Nat} (h : i < l.length) : l.getD i 0 = l[i] := by simp [List.getD_eq_getElem?_getD, h]
theorem getD_mem {l : List Int} {i : Nat} (h : i < l.length) : l.getD i 0 ∈ l := by rw [getD_lt h]; exact List.getElem_mem h
def S1 (f : Nat → Int) : Nat → Int
  | 0 => 0
  | n + 1 => S1 f n + f n
theorem S1_congr {f g : Nat → Int} : ∀ n, (∀ i, i < n → f i = g i) → S1 f n = S1 g n
  | 0, _ => rfl
  | n + 1, h => by rw [S1, S1, S1_congr n fun i hi => h i (by omega), h n (by omega)]
theorem S1_add (f g : Nat → Int) : ∀ n, S1 (fun i => f i + g i) n = S1 f n + S1 g n
  | 0 => rfl
  | n + 1 => by rw [S1, S1, S1, S1_add f g n]; omega
theorem S1_le {f g : Nat → Int} : ∀ n, (∀ i, i < n → f i ≤ g i) → S1 f n ≤ S1 g n
  | 0, _ => Int.le_refl _
  | n + 1, h => by
    have := S1_le n fun i hi => h i (by omega)
    have := h n (by omega)
    rw [S1, S1]; omega
theorem S1_zero : ∀ n, S1 (fun _ => 0) n = 0
  | 0 => rfl
  | n + 1 => by rw [S1, S1_zero n]; rfl
theorem perm_sum {a b : List Int} (h : List.Perm a b) : a.sum = b.sum := by
  induction h with
  | nil => rfl
  | cons x _ ih => simp only [List.sum_cons, ih]
  | swap x y l => simp only [List.sum_cons]; omega
  | trans _ _ h1 h2 => exact h1.trans h2
theorem exc_perm {a b : List Int} (h : List.Perm a b) (t : Int) : exc a t = exc b t := perm_sum (h.map _)
theorem exc_cons (x : Int) (l : List Int) (t : Int) : exc (x :: l) t = max 0 (x - t) + exc l t := rfl
theorem exc_nonneg : ∀ (l : List Int) (t : Int), 0 ≤ exc l t
  | [], _ => by simp [exc]
  | x :: l, t => by have := exc_nonneg l t; rw [exc_cons]; omega
theorem take_le_exc : ∀ (l : List Int) (t : Int) (k : Nat), k ≤ l.length → (l.take k).sum - k * t ≤ exc l t
  | l, t, 0, _ => by have := exc_nonneg l t; simp; omega
  | [], t, k + 1, h => absurd h (by simp)
  | x :: l, t, k + 1, h => by
    have ih := take_le_exc l t k (by simpa using h)
    rw [List.take_succ_cons, List.sum_cons, exc_cons]
    have e : ((k + 1 : Nat) : Int) * t = k * t + t := by rw [Int.natCast_add, Int.add_mul]; omega
    omega
theorem exc_low : ∀ (l : List Int) (t : Int), (∀ x ∈ l, x ≤ t) → exc l t = 0
  | [], _, _ => by simp [exc]
  | x :: l, t, h => by
    have := h x (List.mem_cons_self ..)
    rw [exc_cons, exc_low l t fun y hy => h y (List.mem_cons_of_mem _ hy)]
    omega
theorem exc_at : ∀ (l : List Int) (t : Int) (k : Nat), k ≤ l.length → (∀ x ∈ l.take k, t ≤ x) → (∀ x ∈ l.drop k, x ≤ t) → exc l t = (l.take k).sum - k * t
  | l, t, 0, _, _, h => by rw [exc_low l t (by simpa using h)]; simp
  | [], t, k + 1, h, _, _ => absurd h (by simp)
  | x :: l, t, k + 1, h, h1, h2 => by
    have ih := exc_at l t k (by simpa using h) (fun y hy => h1 y (by rw [List.take_succ_cons]; exact List.mem_cons_of_mem _ hy)) (fun y hy => h2 y (by rw [List.drop_succ_cons]; exact hy))
    have hx := h1 x (by rw [List.take_succ_cons]; exact List.mem_cons_self ..)
    rw [List.take_succ_cons, List.sum_cons, exc_cons, ih]
    have e : ((k + 1 : Nat) : Int) * t = k * t + t := by rw [Int.natCast_add, Int.add_mul]; omega
    omega
theorem cut_ex : ∀ (l : List Int) (t : Int), Desc l → ∃ k, k ≤ l.length ∧ (∀ x ∈ l.take k, t ≤ x) ∧ (∀ x ∈ l.drop k, x ≤ t)
  | [], t, _ => ⟨0, by simp, by simp, by simp⟩
  | y :: l, t, h => by
    have h' := List.pairwise_cons.1 h
    by_cases c : y ≤ t
    · refine ⟨0, by simp, by simp, fun x hx => ?_⟩
      rw [List.drop_zero] at hx
      rcases List.mem_cons.1 hx with e | e
      · omega
      · have := h'.1 x e; omega
    · obtain ⟨k, hk, h1, h2⟩ := cut_ex l t h'.2
      refine ⟨k + 1, by simpa using hk, fun x hx => ?_, fun x hx => ?_⟩
      · rw [List.take_succ_cons] at hx
        rcases List.mem_cons.1 hx with e | e
        · omega
        · exact h1 x e
      · rw [List.drop_succ_cons] at hx; exact h2 x hx
def subB (a b : List Int) : Bool := leAll (psums 0 (rankD a)) (psums 0 (rankD b))
theorem subB_iff {a b : List Int} (hl : a.length = b.length) : subB a b = true ↔ ∀ k, k ≤ a.length → ((rankD a).take k).sum ≤ ((rankD b).take k).sum := by
  unfold subB
  rw [leAll_iff _ _ (by simp only [psums_length, rankD_length]; exact hl)]
  simp only [psums_get, Int.zero_add, psums_length, rankD_length]
  constructor
  · intro h k hk
    cases k with
    | zero => simp
    | succ k => exact h k (by omega) (by omega)
  · intro h i hi hj
    exact h (i + 1) (by omega)
theorem take_desc {l : List Int} (h : Desc l) {j : Nat} (hj : j < l.length) : (∀ x ∈ l.take (j + 1), l[j] ≤ x) ∧ (∀ x ∈ l.drop (j + 1), x ≤ l[j]) := by
  constructor
  · intro x hx
    obtain ⟨i, hi, rfl⟩ := List.getElem_of_mem hx
    rw [List.getElem_take]
    rw [List.length_take] at hi
    by_cases c : i = j
    · subst c; exact Int.le_refl _
    · exact desc_le h (by omega) hj
  · intro x hx
    obtain ⟨i, hi, rfl⟩ := List.getElem_of_mem hx
    rw [List.length_drop] at hi
    rw [List.getElem_drop]
    exact desc_le h (by omega) (by omega)
theorem subB_exc {a b : List Int} (hb : Lst b) (hl : a.length = b.length) : subB a b = true ↔ ∀ t : Nat, t ≤ 60 → exc a t ≤ exc b t := by
  rw [subB_iff hl]
  have la := rankD_length a
  have lb := rankD_length b
  constructor
  · intro h t ht
    obtain ⟨k, hk, h1, h2⟩ := cut_ex (rankD a) t (rankD_desc a)
    have e := exc_at (rankD a) t k hk h1 h2
    have f := take_le_exc (rankD b) t k (by omega)
    rw [exc_perm (rankD_perm a)] at e
    rw [exc_perm (rankD_perm b)] at f
    have := h k (by omega)
    omega
  · intro h k hk
    cases k with
    | zero => simp
    | succ j =>
      have hj : j < (rankD b).length := by omega
      have g := (rankD_lst hb).get hj
      obtain ⟨h1, h2⟩ := take_desc (rankD_desc b) hj
      have e := exc_at (rankD b) ((rankD b)[j]) (j + 1) hj h1 h2
      have f := take_le_exc (rankD a) ((rankD b)[j]) (j + 1) (by omega)
      have t := h ((rankD b)[j]).toNat (by omega)
      rw [show (((rankD b)[j]).toNat : Int) = (rankD b)[j] by omega] at t
      rw [exc_perm (rankD_perm b)] at e
      rw [exc_perm (rankD_perm a)] at f
      omega
def majB (a b : List Int) : Bool := decide (a.length = b.length) && (decide (a.sum = b.sum) && subB a b)
def sd (f : Nat → Int) (t : Nat) : Int := f (t + 1 + 1) - 2 * f (t + 1) + f t
theorem tel (f : Nat → Int) (x : Nat) : ∀ n, S1 (fun t => if t + 1 ≤ x then sd f t else 0) n = f (min n x + 1) - f (min n x) - (f 1 - f 0)
  | 0 => by simp [S1]
  | n + 1 => by
    rw [S1, tel f x n]
    by_cases c : n + 1 ≤ x
    · rw [if_pos c, show min n x = n by omega, show min (n + 1) x = n + 1 by omega, sd]; omega
    · rw [if_neg c, show min n x = x by omega, show min (n + 1) x = x by omega]; omega
theorem made_of (f : Nat → Int) : ∀ x : Nat, x ≤ 60 → f x = f 0 + (f 1 - f 0) * x + S1 (fun t => sd f t * max 0 ((x : Int) - ((t + 1 : Nat) : Int))) 59
  | 0, _ => by
    have e : S1 (fun t => sd f t * max 0 (((0 : Nat) : Int) - ((t + 1 : Nat) : Int))) 59 = S1 (fun _ => 0) 59 := S1_congr _ fun t _ => by
      rw [show max 0 (((0 : Nat) : Int) - ((t + 1 : Nat) : Int)) = 0 by omega, Int.mul_zero]
    rw [e, S1_zero]; simp
  | x + 1, h => by
    have ih := made_of f x (by omega)
    have t := tel f x 59
    rw [show min 59 x = x by omega] at t
    have e : S1 (fun t => sd f t * max 0 (((x + 1 : Nat) : Int) - ((t + 1 : Nat) : Int))) 59 = S1 (fun t => sd f t * max 0 ((x : Int) - ((t + 1 : Nat) : Int)) + (if t + 1 ≤ x then sd f t else 0)) 59 := S1_congr _ fun t _ => by
      by_cases c : t + 1 ≤ x
      · rw [if_pos c, show max 0 (((x + 1 : Nat) : Int) - ((t + 1 : Nat) : Int)) = max 0 ((x : Int) - ((t + 1 : Nat) : Int)) + 1 by omega, Int.mul_add]; omega
      · rw [if_neg c, show max 0 (((x + 1 : Nat) : Int) - ((t + 1 : Nat) : Int)) = 0 by omega, show max 0 ((x : Int) - ((t + 1 : Nat) : Int)) = 0 by omega]; omega
    rw [e, S1_add, t]
    have e2 : (f 1 - f 0) * ((x + 1 : Nat) : Int) = (f 1 - f 0) * x + (f 1 - f 0) := by rw [Int.natCast_add, Int.mul_add]; omega
    omega
def over (f : Nat → Int) (l : List Int) : Int := (l.map fun x => f x.toNat).sum
theorem over_thr (f : Nat → Int) : ∀ l : List Int, (∀ x ∈ l, 0 ≤ x ∧ x ≤ 60) → over f l = f 0 * l.length + (f 1 - f 0) * l.sum + S1 (fun t => sd f t * exc l ((t + 1 : Nat) : Int)) 59
  | [], _ => by
    have e : S1 (fun t => sd f t * exc [] ((t + 1 : Nat) : Int)) 59 = S1 (fun _ => 0) 59 := S1_congr _ fun t _ => by simp [exc]
    rw [e, S1_zero]; simp [over]
  | x :: l, h => by
    have ih := over_thr f l fun y hy => h y (List.mem_cons_of_mem _ hy)
    have hx := h x (List.mem_cons_self ..)
    have m := made_of f x.toNat (by omega)
    rw [show ((x.toNat : Nat) : Int) = x by omega] at m
    have e : S1 (fun t => sd f t * exc (x :: l) ((t + 1 : Nat) : Int)) 59 = S1 (fun t => sd f t * max 0 (x - ((t + 1 : Nat) : Int)) + sd f t * exc l ((t + 1 : Nat) : Int)) 59 := S1_congr _ fun t _ => by
      rw [exc_cons, Int.mul_add]
    have e0 : over f (x :: l) = f x.toNat + over f l := rfl
    rw [e0, e, S1_add, ih, List.sum_cons, List.length_cons]
    have e2 : f 0 * ((l.length + 1 : Nat) : Int) = f 0 * l.length + f 0 := by rw [Int.natCast_add, Int.mul_add]; omega
    have e3 : (f 1 - f 0) * (x + l.sum) = (f 1 - f 0) * x + (f 1 - f 0) * l.sum := Int.mul_add _ _ _
    omega
theorem karamata {f : Nat → Int} (hf : ∀ t, t < 59 → 0 ≤ sd f t) {a b : List Int} (ha : Lst a) (hb : Lst b) (h : majB a b = true) : over f a ≤ over f b := by
  unfold majB at h
  rw [Bool.and_eq_true, Bool.and_eq_true, decide_eq_true_eq, decide_eq_true_eq] at h
  obtain ⟨hl, hs, hB⟩ := h
  rw [subB_exc hb hl] at hB
  rw [over_thr f a ha.2.2, over_thr f b hb.2.2, hl, hs]
  have : S1 (fun t => sd f t * exc a ((t + 1 : Nat) : Int)) 59 ≤ S1 (fun t => sd f t * exc b ((t + 1 : Nat) : Int)) 59 := S1_le 59 fun t ht => Int.mul_le_mul_of_nonneg_left (hB (t + 1) (by omega)) (hf t ht)
  omega
end Go.Proofs.Ytojklddddedoeaa.Math
