/- Words of the kit's print, those of them that this law uses. -/
import Derived.Test.YtclnfaclfplpmaaTFnConvexTablesMath
import Derived.Laws.BitsLemmas
namespace Go.Proofs.Ytclnfaclfplpmaa.Math
open Go.RowKit Go.Proofs.YtclnfaclfplpmaaW.PrintWords Go.Proofs.YtclnfaclfplpmaaW.PrintMore
set_option linter.unusedVariables false
set_option linter.unusedSimpArgs false
def Ex {α : Type} (g : Nat → Option α) (P : α → Prop) : Prop := ∃ r, Ev g r ∧ P r
theorem Ex.now {α : Type} {r : α} {P : α → Prop} (h : P r) : Ex (fun _ => some r) P := ⟨r, Ev.now r, h⟩
theorem Ex.bind {α β : Type} {g : Nat → Option α} {f : Nat → α → Option β} {P : α → Prop} {Q : β → Prop} (h : Ex g P) (k : ∀ a, P a → Ex (fun n => f n a) Q) : Ex (fun n => (g n).bind (f n)) Q := by
  obtain ⟨a, ha, hp⟩ := h
  obtain ⟨r, hr, hq⟩ := k a hp
  exact ⟨r, Ev.bind ha hr, hq⟩
theorem Ex.succ {α : Type} {g : Nat → Option α} {P : α → Prop} (h : Ex (fun k => g (k + 1)) P) : Ex g P := by
  obtain ⟨r, hr, hp⟩ := h
  exact ⟨r, Ev.succ hr, hp⟩
theorem Ex.mono {α : Type} {g : Nat → Option α} {P Q : α → Prop} (h : Ex g P) (k : ∀ a, P a → Q a) : Ex g Q := by
  obtain ⟨r, hr, hp⟩ := h
  exact ⟨r, hr, k r hp⟩
theorem Ex.ev {α β : Type} {g : Nat → Option α} {f : Nat → α → Option β} {P : α → Prop} {b : β} (h : Ex g P) (k : ∀ a, P a → Ev (fun n => f n a) b) : Ev (fun n => (g n).bind (f n)) b := by
  obtain ⟨a, ha, hp⟩ := h
  exact Ev.bind ha (k a hp)
theorem wrapU64 (n : Int) : IntKind.u64.wrap n = n % 18446744073709551616 := by simp [IntKind.wrap, IntKind.bits, IntKind.signed]
theorem and255 (x : Int) (h0 : 0 ≤ x) (h1 : x < 18446744073709551616) : 0 ≤ wrap64 (Go.bits .and .u64 (x / 1099511627776) 255) ∧ wrap64 (Go.bits .and .u64 (x / 1099511627776) 255) ≤ 255 := by
  have h := bits_mask .u64 64 (by decide) (fun n h0 h1 => by rw [wrapU64]; omega) 8 (by decide) (x / 1099511627776) (by omega) (by omega)
  rw [show (255 : Int) = 2 ^ 8 - 1 by decide, h]
  unfold wrap64
  omega
def Bts (c : List Int) : Prop := c.length ≤ 4611686018427387904 ∧ ∀ x ∈ c, 0 ≤ x ∧ x ≤ 255
theorem Bts.of {c : List Int} (h : c.length * 1 ≤ 140737488351232) (hw : ∀ x ∈ c, (Lit.int .u8 x).wf = true) : Bts c := ⟨by omega, fun x hx => by
  have := hw x hx
  simp only [Lit.wf, Bool.and_eq_true, decide_eq_true_eq] at this
  have e1 : IntKind.u8.min = 0 := by decide
  have e2 : IntKind.u8.max = 255 := by decide
  omega⟩
theorem rd_code {c : List Int} (h : Bts c) {i : Int} (h0 : 0 ≤ i) (h1 : i < c.length) : 0 ≤ rd c i ∧ rd c i ≤ 255 := by
  have hi : i.toNat < c.length := by omega
  have e : rd c i = c[i.toNat] := by
    unfold rd
    rw [List.getD_eq_getElem?_getD, List.getElem?_eq_getElem hi, Option.getD_some]
  rw [e]
  exact h.2 _ (List.getElem_mem hi)
def At (a b : Int) : Prop := 0 ≤ a ∧ a ≤ b
theorem getD_lt {l : List Int} {i : Nat} (h : i < l.length) : l.getD i 0 = l[i] := by simp [List.getD_eq_getElem?_getD, h]
theorem getD_mem {l : List Int} {i : Nat} (h : i < l.length) : l.getD i 0 ∈ l := by rw [getD_lt h]; exact List.getElem_mem h
def S1 (f : Nat → Int) : Nat → Int
  | 0 => 0
  | n + 1 => S1 f n + f n
theorem S1_congr {f g : Nat → Int} : ∀ n, (∀ i, i < n → f i = g i) → S1 f n = S1 g n
  | 0, _ => rfl
  | n + 1, h => by rw [S1, S1, S1_congr n fun i hi => h i (by omega), h n (by omega)]
theorem S1_add (f g : Nat → Int) : ∀ n, S1 (fun i => f i + g i) n = S1 f n + S1 g n
  | 0 => rfl
  | n + 1 => by rw [S1, S1, S1, S1_add f g n]; omega
theorem S1_mul (c : Int) (f : Nat → Int) : ∀ n, S1 (fun i => c * f i) n = c * S1 f n
  | 0 => by simp [S1]
  | n + 1 => by rw [S1, S1, S1_mul c f n, Int.mul_add]
theorem S1_le {f g : Nat → Int} : ∀ n, (∀ i, i < n → f i ≤ g i) → S1 f n ≤ S1 g n
  | 0, _ => Int.le_refl _
  | n + 1, h => by
    have := S1_le n fun i hi => h i (by omega)
    have := h n (by omega)
    rw [S1, S1]; omega
theorem S1_zero : ∀ n, S1 (fun _ => 0) n = 0
  | 0 => rfl
  | n + 1 => by rw [S1, S1_zero n]; rfl
theorem S1_shift (f : Nat → Int) : ∀ n, S1 f (n + 1) = f 0 + S1 (fun i => f (i + 1)) n
  | 0 => by simp [S1]
  | n + 1 => by rw [S1, S1_shift f n, S1]; omega
theorem perm_sum {a b : List Int} (h : List.Perm a b) : a.sum = b.sum := by
  induction h with
  | nil => rfl
  | cons x _ ih => simp only [List.sum_cons, ih]
  | swap x y l => simp only [List.sum_cons]; omega
  | trans _ _ h1 h2 => exact h1.trans h2
theorem exc_perm {a b : List Int} (h : List.Perm a b) (t : Int) : exc a t = exc b t := perm_sum (h.map _)
theorem exc_cons (x : Int) (l : List Int) (t : Int) : exc (x :: l) t = max 0 (x - t) + exc l t := rfl
theorem exc_nonneg : ∀ (l : List Int) (t : Int), 0 ≤ exc l t
  | [], _ => by simp [exc]
  | x :: l, t => by have := exc_nonneg l t; rw [exc_cons]; omega
theorem take_le_exc : ∀ (l : List Int) (t : Int) (k : Nat), k ≤ l.length → (l.take k).sum - k * t ≤ exc l t
  | l, t, 0, _ => by have := exc_nonneg l t; simp; omega
  | [], t, k + 1, h => absurd h (by simp)
  | x :: l, t, k + 1, h => by
    have ih := take_le_exc l t k (by simpa using h)
    rw [List.take_succ_cons, List.sum_cons, exc_cons]
    have e : ((k + 1 : Nat) : Int) * t = k * t + t := by rw [Int.natCast_add, Int.add_mul]; omega
    omega
theorem exc_low : ∀ (l : List Int) (t : Int), (∀ x ∈ l, x ≤ t) → exc l t = 0
  | [], _, _ => by simp [exc]
  | x :: l, t, h => by
    have := h x (List.mem_cons_self ..)
    rw [exc_cons, exc_low l t fun y hy => h y (List.mem_cons_of_mem _ hy)]
    omega
theorem exc_at : ∀ (l : List Int) (t : Int) (k : Nat), k ≤ l.length → (∀ x ∈ l.take k, t ≤ x) → (∀ x ∈ l.drop k, x ≤ t) → exc l t = (l.take k).sum - k * t
  | l, t, 0, _, _, h => by rw [exc_low l t (by simpa using h)]; simp
  | [], t, k + 1, h, _, _ => absurd h (by simp)
  | x :: l, t, k + 1, h, h1, h2 => by
    have ih := exc_at l t k (by simpa using h) (fun y hy => h1 y (by rw [List.take_succ_cons]; exact List.mem_cons_of_mem _ hy)) (fun y hy => h2 y (by rw [List.drop_succ_cons]; exact hy))
    have hx := h1 x (by rw [List.take_succ_cons]; exact List.mem_cons_self ..)
    rw [List.take_succ_cons, List.sum_cons, exc_cons, ih]
    have e : ((k + 1 : Nat) : Int) * t = k * t + t := by rw [Int.natCast_add, Int.add_mul]; omega
    omega
theorem cut_ex : ∀ (l : List Int) (t : Int), Desc l → ∃ k, k ≤ l.length ∧ (∀ x ∈ l.take k, t ≤ x) ∧ (∀ x ∈ l.drop k, x ≤ t)
  | [], t, _ => ⟨0, by simp, by simp, by simp⟩
  | y :: l, t, h => by
    have h' := List.pairwise_cons.1 h
    by_cases c : y ≤ t
    · refine ⟨0, by simp, by simp, fun x hx => ?_⟩
      rw [List.drop_zero] at hx
      rcases List.mem_cons.1 hx with e | e
      · omega
      · have := h'.1 x e; omega
    · obtain ⟨k, hk, h1, h2⟩ := cut_ex l t h'.2
      refine ⟨k + 1, by simpa using hk, fun x hx => ?_, fun x hx => ?_⟩
      · rw [List.take_succ_cons] at hx
        rcases List.mem_cons.1 hx with e | e
        · omega
        · exact h1 x e
      · rw [List.drop_succ_cons] at hx; exact h2 x hx
def subB (a b : List Int) : Bool := leAll (psums 0 (rankD a)) (psums 0 (rankD b))
theorem subB_iff {a b : List Int} (hl : a.length = b.length) : subB a b = true ↔ ∀ k, k ≤ a.length → ((rankD a).take k).sum ≤ ((rankD b).take k).sum := by
  unfold subB
  rw [leAll_iff _ _ (by simp only [psums_length, rankD_length]; exact hl)]
  simp only [psums_get, Int.zero_add, psums_length, rankD_length]
  constructor
  · intro h k hk
    cases k with
    | zero => simp
    | succ k => exact h k (by omega) (by omega)
  · intro h i hi hj
    exact h (i + 1) (by omega)
theorem take_desc {l : List Int} (h : Desc l) {j : Nat} (hj : j < l.length) : (∀ x ∈ l.take (j + 1), l[j] ≤ x) ∧ (∀ x ∈ l.drop (j + 1), x ≤ l[j]) := by
  constructor
  · intro x hx
    obtain ⟨i, hi, rfl⟩ := List.getElem_of_mem hx
    rw [List.getElem_take]
    rw [List.length_take] at hi
    by_cases c : i = j
    · subst c; exact Int.le_refl _
    · exact desc_le h (by omega) hj
  · intro x hx
    obtain ⟨i, hi, rfl⟩ := List.getElem_of_mem hx
    rw [List.length_drop] at hi
    rw [List.getElem_drop]
    exact desc_le h (by omega) (by omega)
theorem subB_exc {a b : List Int} (hb : Lst b) (hl : a.length = b.length) : subB a b = true ↔ ∀ t : Nat, t ≤ 60 → exc a t ≤ exc b t := by
  rw [subB_iff hl]
  have la := rankD_length a
  have lb := rankD_length b
  constructor
  · intro h t ht
    obtain ⟨k, hk, h1, h2⟩ := cut_ex (rankD a) t (rankD_desc a)
    have e := exc_at (rankD a) t k hk h1 h2
    have f := take_le_exc (rankD b) t k (by omega)
    rw [exc_perm (rankD_perm a)] at e
    rw [exc_perm (rankD_perm b)] at f
    have := h k (by omega)
    omega
  · intro h k hk
    cases k with
    | zero => simp
    | succ j =>
      have hj : j < (rankD b).length := by omega
      have g := (rankD_lst hb).get hj
      obtain ⟨h1, h2⟩ := take_desc (rankD_desc b) hj
      have e := exc_at (rankD b) ((rankD b)[j]) (j + 1) hj h1 h2
      have f := take_le_exc (rankD a) ((rankD b)[j]) (j + 1) (by omega)
      have t := h ((rankD b)[j]).toNat (by omega)
      rw [show (((rankD b)[j]).toNat : Int) = (rankD b)[j] by omega] at t
      rw [exc_perm (rankD_perm b)] at e
      rw [exc_perm (rankD_perm a)] at f
      omega
def majB (a b : List Int) : Bool := decide (a.length = b.length) && (decide (a.sum = b.sum) && subB a b)
def sd (f : Nat → Int) (t : Nat) : Int := f (t + 1 + 1) - 2 * f (t + 1) + f t
theorem tel (f : Nat → Int) (x : Nat) : ∀ n, S1 (fun t => if t + 1 ≤ x then sd f t else 0) n = f (min n x + 1) - f (min n x) - (f 1 - f 0)
  | 0 => by simp [S1]
  | n + 1 => by
    rw [S1, tel f x n]
    by_cases c : n + 1 ≤ x
    · rw [if_pos c, show min n x = n by omega, show min (n + 1) x = n + 1 by omega, sd]; omega
    · rw [if_neg c, show min n x = x by omega, show min (n + 1) x = x by omega]; omega
theorem made_of (f : Nat → Int) : ∀ x : Nat, x ≤ 60 → f x = f 0 + (f 1 - f 0) * x + S1 (fun t => sd f t * max 0 ((x : Int) - ((t + 1 : Nat) : Int))) 59
  | 0, _ => by
    have e : S1 (fun t => sd f t * max 0 (((0 : Nat) : Int) - ((t + 1 : Nat) : Int))) 59 = S1 (fun _ => 0) 59 := S1_congr _ fun t _ => by
      rw [show max 0 (((0 : Nat) : Int) - ((t + 1 : Nat) : Int)) = 0 by omega, Int.mul_zero]
    rw [e, S1_zero]; simp
  | x + 1, h => by
    have ih := made_of f x (by omega)
    have t := tel f x 59
    rw [show min 59 x = x by omega] at t
    have e : S1 (fun t => sd f t * max 0 (((x + 1 : Nat) : Int) - ((t + 1 : Nat) : Int))) 59 = S1 (fun t => sd f t * max 0 ((x : Int) - ((t + 1 : Nat) : Int)) + (if t + 1 ≤ x then sd f t else 0)) 59 := S1_congr _ fun t _ => by
      by_cases c : t + 1 ≤ x
      · rw [if_pos c, show max 0 (((x + 1 : Nat) : Int) - ((t + 1 : Nat) : Int)) = max 0 ((x : Int) - ((t + 1 : Nat) : Int)) + 1 by omega, Int.mul_add]; omega
      · rw [if_neg c, show max 0 (((x + 1 : Nat) : Int) - ((t + 1 : Nat) : Int)) = 0 by omega, show max 0 ((x : Int) - ((t + 1 : Nat) : Int)) = 0 by omega]; omega
    rw [e, S1_add, t]
    have e2 : (f 1 - f 0) * ((x + 1 : Nat) : Int) = (f 1 - f 0) * x + (f 1 - f 0) := by rw [Int.natCast_add, Int.mul_add]; omega
    omega
def over (f : Nat → Int) (l : List Int) : Int := (l.map fun x => f x.toNat).sum
theorem over_thr (f : Nat → Int) : ∀ l : List Int, (∀ x ∈ l, 0 ≤ x ∧ x ≤ 60) → over f l = f 0 * l.length + (f 1 - f 0) * l.sum + S1 (fun t => sd f t * exc l ((t + 1 : Nat) : Int)) 59
  | [], _ => by
    have e : S1 (fun t => sd f t * exc [] ((t + 1 : Nat) : Int)) 59 = S1 (fun _ => 0) 59 := S1_congr _ fun t _ => by simp [exc]
    rw [e, S1_zero]; simp [over]
  | x :: l, h => by
    have ih := over_thr f l fun y hy => h y (List.mem_cons_of_mem _ hy)
    have hx := h x (List.mem_cons_self ..)
    have m := made_of f x.toNat (by omega)
    rw [show ((x.toNat : Nat) : Int) = x by omega] at m
    have e : S1 (fun t => sd f t * exc (x :: l) ((t + 1 : Nat) : Int)) 59 = S1 (fun t => sd f t * max 0 (x - ((t + 1 : Nat) : Int)) + sd f t * exc l ((t + 1 : Nat) : Int)) 59 := S1_congr _ fun t _ => by
      rw [exc_cons, Int.mul_add]
    have e0 : over f (x :: l) = f x.toNat + over f l := rfl
    rw [e0, e, S1_add, ih, List.sum_cons, List.length_cons]
    have e2 : f 0 * ((l.length + 1 : Nat) : Int) = f 0 * l.length + f 0 := by rw [Int.natCast_add, Int.mul_add]; omega
    have e3 : (f 1 - f 0) * (x + l.sum) = (f 1 - f 0) * x + (f 1 - f 0) * l.sum := Int.mul_add _ _ _
    omega
theorem karamata {f : Nat → Int} (hf : ∀ t, t < 59 → 0 ≤ sd f t) {a b : List Int} (ha : Lst a) (hb : Lst b) (h : majB a b = true) : over f a ≤ over f b := by
  unfold majB at h
  rw [Bool.and_eq_true, Bool.and_eq_true, decide_eq_true_eq, decide_eq_true_eq] at h
  obtain ⟨hl, hs, hB⟩ := h
  rw [subB_exc hb hl] at hB
  rw [over_thr f a ha.2.2, over_thr f b hb.2.2, hl, hs]
  have : S1 (fun t => sd f t * exc a ((t + 1 : Nat) : Int)) 59 ≤ S1 (fun t => sd f t * exc b ((t + 1 : Nat) : Int)) 59 := S1_le 59 fun t ht => Int.mul_le_mul_of_nonneg_left (hB (t + 1) (by omega)) (hf t ht)
  omega
theorem ext_getD : ∀ {l m : List Int}, l.length = m.length → (∀ i, i < l.length → l.getD i 0 = m.getD i 0) → l = m
  | [], [], _, _ => rfl
  | [], _ :: _, h, _ => absurd h (by simp)
  | _ :: _, [], h, _ => absurd h (by simp)
  | x :: l, y :: m, h, hi => by
    have h0 : x = y := by simpa using hi 0 (by simp)
    have h1 : l = m := ext_getD (by simpa using h) fun i hl => by simpa using hi (i + 1) (by simpa using hl)
    rw [h0, h1]
theorem conv3_iff : ∀ l : List Int, conv3 l = true ↔ ∀ i, i + 2 < l.length → 2 * l.getD (i + 1) 0 ≤ l.getD i 0 + l.getD (i + 2) 0
  | [] => ⟨fun _ i h => absurd h (by simp), fun _ => rfl⟩
  | [x] => ⟨fun _ i h => absurd h (by simp), fun _ => rfl⟩
  | [x, y] => ⟨fun _ i h => absurd h (by simp), fun _ => rfl⟩
  | x :: y :: z :: t => by
    have ih := conv3_iff (y :: z :: t)
    rw [conv3, Bool.and_eq_true, decide_eq_true_eq, ih]
    constructor
    · rintro ⟨h0, h1⟩ i hi
      cases i with
      | zero => simpa using h0
      | succ i =>
        have := h1 i (by simp only [List.length_cons] at hi ⊢; omega)
        simpa using this
    · intro h
      refine ⟨by simpa using h 0 (by simp), fun i hi => ?_⟩
      have := h (i + 1) (by simp only [List.length_cons] at hi ⊢; omega)
      simpa using this
theorem sd3_length : ∀ l : List Int, (sd3 l).length = l.length - 2
  | [] => rfl
  | [x] => rfl
  | [x, y] => rfl
  | x :: y :: z :: t => by
    have ih := sd3_length (y :: z :: t)
    simp only [sd3, List.length_cons] at ih ⊢
    omega
theorem sd3_get : ∀ (l : List Int) (i : Nat), i + 2 < l.length → (sd3 l).getD i 0 = l.getD (i + 2) 0 - 2 * l.getD (i + 1) 0 + l.getD i 0
  | [], i, h => absurd h (by simp)
  | [x], i, h => absurd h (by simp)
  | [x, y], i, h => absurd h (by simp)
  | x :: y :: z :: t, 0, _ => by simp [sd3]
  | x :: y :: z :: t, i + 1, h => by
    have ih := sd3_get (y :: z :: t) i (by simp only [List.length_cons] at h ⊢; omega)
    simp only [sd3, List.getD_cons_succ] at ih ⊢
    exact ih
theorem thrGo_S1 : ∀ (l : List Int) (n i : Nat), thrGo l n i = S1 (fun j => l.getD j 0 * max 0 ((n : Int) - ((i + j : Nat) : Int))) l.length
  | [], n, i => rfl
  | x :: t, n, i => by
    have ih := thrGo_S1 t n (i + 1)
    rw [thrGo, ih, List.length_cons, S1_shift]
    have e : S1 (fun j => (x :: t).getD (j + 1) 0 * max 0 ((n : Int) - ((i + (j + 1) : Nat) : Int))) t.length = S1 (fun j => t.getD j 0 * max 0 ((n : Int) - ((i + 1 + j : Nat) : Int))) t.length := S1_congr _ fun j _ => by
      rw [List.getD_cons_succ, show ((i + (j + 1) : Nat) : Int) = ((i + 1 + j : Nat) : Int) by omega]
    rw [e, List.getD_cons_zero, show ((i + 0 : Nat) : Int) = (i : Int) by omega]
theorem S1_pick (g : Nat → Int) (m : Nat) : ∀ n, S1 (fun j => if j = m then g j else 0) n = if m < n then g m else 0
  | 0 => by simp [S1]
  | n + 1 => by
    rw [S1, S1_pick g m n]
    by_cases h : n = m
    · subst h
      rw [if_neg (by omega), if_pos rfl, if_pos (by omega)]; omega
    · rw [if_neg h]
      by_cases c : m < n
      · rw [if_pos c, if_pos (by omega)]; omega
      · rw [if_neg c, if_neg (by omega)]; rfl
theorem sd_thr {w : List Int} (hl : w.length = 60) (t : Nat) (ht : t < 59) : sd (fun n => thrGo w n 0) t = w.getD (t + 1) 0 := by
  unfold sd
  simp only [thrGo_S1, Nat.zero_add, hl]
  have e : S1 (fun j => w.getD j 0 * max 0 (((t + 1 + 1 : Nat) : Int) - (j : Int))) 60 - 2 * S1 (fun j => w.getD j 0 * max 0 (((t + 1 : Nat) : Int) - (j : Int))) 60 + S1 (fun j => w.getD j 0 * max 0 ((t : Int) - (j : Int))) 60 = S1 (fun j => if j = t + 1 then w.getD j 0 else 0) 60 := by
    have e1 : S1 (fun j => w.getD j 0 * max 0 (((t + 1 + 1 : Nat) : Int) - (j : Int))) 60 + S1 (fun j => w.getD j 0 * max 0 ((t : Int) - (j : Int))) 60 = S1 (fun j => if j = t + 1 then w.getD j 0 else 0) 60 + 2 * S1 (fun j => w.getD j 0 * max 0 (((t + 1 : Nat) : Int) - (j : Int))) 60 := by
      rw [← S1_mul, ← S1_add, ← S1_add]
      refine S1_congr _ fun j _ => ?_
      by_cases c : j = t + 1
      · rw [if_pos c, c, show max 0 (((t + 1 + 1 : Nat) : Int) - ((t + 1 : Nat) : Int)) = 1 by omega, show max 0 ((t : Int) - ((t + 1 : Nat) : Int)) = 0 by omega, show max 0 (((t + 1 : Nat) : Int) - ((t + 1 : Nat) : Int)) = 0 by omega]; omega
      · rw [if_neg c]
        by_cases d : j ≤ t
        · rw [show max 0 (((t + 1 + 1 : Nat) : Int) - (j : Int)) = max 0 (((t + 1 : Nat) : Int) - (j : Int)) + 1 by omega, show max 0 ((t : Int) - (j : Int)) = max 0 (((t + 1 : Nat) : Int) - (j : Int)) - 1 by omega, Int.mul_add, Int.mul_sub]; omega
        · rw [show max 0 (((t + 1 + 1 : Nat) : Int) - (j : Int)) = 0 by omega, show max 0 ((t : Int) - (j : Int)) = 0 by omega, show max 0 (((t + 1 : Nat) : Int) - (j : Int)) = 0 by omega]; omega
    omega
  rw [e, S1_pick (fun j => w.getD j 0), if_pos (by omega)]
theorem tabFrom_get (w : List Int) : ∀ (d n i : Nat), i < d → (tabFrom w n d).getD i 0 = thrGo w (n + i) 0
  | 0, _, _, h => absurd h (by omega)
  | d + 1, n, 0, _ => by simp [tabFrom]
  | d + 1, n, i + 1, h => by
    rw [tabFrom, List.getD_cons_succ, tabFrom_get w d (n + 1) i (by omega), show n + 1 + i = n + (i + 1) by omega]
theorem thr_zero (w : List Int) : thrGo w 0 0 = 0 := by
  rw [thrGo_S1]
  have e : S1 (fun j => w.getD j 0 * max 0 (((0 : Nat) : Int) - ((0 + j : Nat) : Int))) w.length = S1 (fun _ => 0) w.length := S1_congr _ fun j _ => by
    rw [show max 0 (((0 : Nat) : Int) - ((0 + j : Nat) : Int)) = 0 by omega, Int.mul_zero]
  rw [e, S1_zero]
theorem thr_one {w : List Int} (hl : w.length = 60) : thrGo w 1 0 = w.getD 0 0 := by
  rw [thrGo_S1]
  have e : S1 (fun j => w.getD j 0 * max 0 (((1 : Nat) : Int) - ((0 + j : Nat) : Int))) w.length = S1 (fun j => if j = 0 then w.getD j 0 else 0) w.length := S1_congr _ fun j _ => by
    by_cases c : j = 0
    · rw [if_pos c, c, show max 0 (((1 : Nat) : Int) - ((0 + 0 : Nat) : Int)) = 1 by omega, Int.mul_one]
    · rw [if_neg c, show max 0 (((1 : Nat) : Int) - ((0 + j : Nat) : Int)) = 0 by omega, Int.mul_zero]
  rw [e, S1_pick (fun j => w.getD j 0), if_pos (by omega)]
theorem wts_tab {w : List Int} (h : thrB w = true) : wtsB (tabFrom w 0 61) = true ∧ wts (tabFrom w 0 61) = w := by
  unfold thrB at h
  rw [Bool.and_eq_true, decide_eq_true_eq, allW_iff] at h
  obtain ⟨hl, hw⟩ := h
  have hl : w.length = 60 := by omega
  have len := tabFrom_len w 61 0
  have g : ∀ i, i < 61 → (tabFrom w 0 61).getD i 0 = thrGo w i 0 := fun i hi => by rw [tabFrom_get w 61 0 i hi, Nat.zero_add]
  have s : ∀ t, t < 59 → (tabFrom w 0 61).getD (t + 2) 0 - 2 * (tabFrom w 0 61).getD (t + 1) 0 + (tabFrom w 0 61).getD t 0 = w.getD (t + 1) 0 := fun t ht => by
    rw [g _ (by omega), g _ (by omega), g _ (by omega)]
    exact sd_thr hl t ht
  constructor
  · unfold wtsB
    rw [Bool.and_eq_true, Bool.and_eq_true, Bool.and_eq_true, decide_eq_true_eq, decide_eq_true_eq, conv3_iff]
    refine ⟨tab_ok hw, fun i hi => ?_, ?_, ?_⟩
    · have h1 := s i (by omega)
      have h2 := (hw _ (getD_mem (l := w) (i := i + 1) (by omega))).1
      omega
    · rw [g 0 (by omega), thr_zero]
    · rw [g 1 (by omega), thr_one hl]
      exact (hw _ (getD_mem (by omega))).1
  · unfold wts
    apply ext_getD
    · rw [List.length_cons, sd3_length, len, hl]
    · intro i hi
      cases i with
      | zero => rw [List.getD_cons_zero, g 1 (by omega), thr_one hl]
      | succ i =>
        rw [List.length_cons, sd3_length, len] at hi
        rw [List.getD_cons_succ, sd3_get _ i (by omega)]
        exact s i (by omega)
theorem tab_wts {g : List Int} (h : wtsB g = true) : tabFrom (wts g) 0 61 = g := by
  unfold wtsB tableB at h
  rw [Bool.and_eq_true, Bool.and_eq_true, Bool.and_eq_true, Bool.and_eq_true, decide_eq_true_eq, decide_eq_true_eq] at h
  obtain ⟨⟨hl, _⟩, _, h0, _⟩ := h
  have hl : g.length = 61 := by omega
  apply ext_getD
  · rw [tabFrom_len, hl]
  · intro i hi
    rw [tabFrom_len] at hi
    rw [tabFrom_get _ 61 0 i hi, Nat.zero_add, thrGo_S1]
    have m := made_of (fun n => g.getD n 0) i (by omega)
    simp only [h0] at m
    rw [show g.getD i 0 = 0 + (g.getD 1 0 - 0) * (i : Int) + S1 (fun t => sd (fun n => g.getD n 0) t * max 0 ((i : Int) - ((t + 1 : Nat) : Int))) 59 from m]
    have hln : (wts g).length = 59 + 1 := by unfold wts; rw [List.length_cons, sd3_length, hl]
    rw [hln, S1_shift]
    have e : S1 (fun j => (wts g).getD (j + 1) 0 * max 0 ((i : Int) - ((0 + (j + 1) : Nat) : Int))) 59 = S1 (fun t => sd (fun n => g.getD n 0) t * max 0 ((i : Int) - ((t + 1 : Nat) : Int))) 59 := S1_congr _ fun j hj => by
      have e1 : (wts g).getD (j + 1) 0 = sd (fun n => g.getD n 0) j := by
        unfold wts
        rw [List.getD_cons_succ, sd3_get g j (by omega)]
        rfl
      rw [e1, show ((0 + (j + 1) : Nat) : Int) = ((j + 1 : Nat) : Int) by omega]
    rw [e]
    have e2 : (wts g).getD 0 0 = g.getD 1 0 := rfl
    have e3 : (g.getD 1 0 - 0) * (i : Int) = g.getD 1 0 * i := by rw [Int.sub_zero]
    rw [e2, show max 0 ((i : Int) - ((0 + 0 : Nat) : Int)) = (i : Int) by omega]
    omega
theorem table_sd {g : List Int} (ht : tableB g = true) (hc : conv3 g = true) : ∀ t, t < 59 → 0 ≤ sd (fun n => g.getD n 0) t := by
  intro t h
  unfold tableB at ht
  rw [Bool.and_eq_true, decide_eq_true_eq] at ht
  have := (conv3_iff g).1 hc t (by omega)
  show 0 ≤ g.getD (t + 2) 0 - 2 * g.getD (t + 1) 0 + g.getD t 0
  omega
theorem over_bound {g : List Int} (ht : tableB g = true) : ∀ l : List Int, (∀ x ∈ l, 0 ≤ x ∧ x ≤ 60) → -1000000 * (l.length : Int) ≤ over (fun n => g.getD n 0) l ∧ over (fun n => g.getD n 0) l ≤ 1000000 * l.length
  | [], _ => by simp [over]
  | x :: l, h => by
    have ih := over_bound ht l fun y hy => h y (List.mem_cons_of_mem _ hy)
    have hx := h x (List.mem_cons_self ..)
    unfold tableB at ht
    rw [Bool.and_eq_true, decide_eq_true_eq, allW_iff] at ht
    have hg := ht.2 _ (getD_mem (l := g) (i := x.toNat) (by omega))
    have e : over (fun n => g.getD n 0) (x :: l) = g.getD x.toNat 0 + over (fun n => g.getD n 0) l := rfl
    rw [e, List.length_cons]
    omega
theorem over_w {g l : List Int} (ht : tableB g = true) (hl : Lst l) : wrap64 (over (fun n => g.getD n 0) l) = over (fun n => g.getD n 0) l := by
  have := over_bound ht l hl.2.2
  have := hl.2.1
  exact w64 (by omega) (by omega)
end Go.Proofs.Ytclnfaclfplpmaa.Math
