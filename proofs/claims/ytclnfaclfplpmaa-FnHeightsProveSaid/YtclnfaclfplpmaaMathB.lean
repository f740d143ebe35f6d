/- Plain words for the laws of this seat: rankings, excesses over thresholds, partial sums. No program in sight. -/
import Derived.Test.YtclnfaclfplpmaaMath
import Derived.Laws.BitsLemmas
namespace Go.Proofs.Ytclnfaclfplpmaa.Math
open Go.RowKit Go.Proofs.YtclnfaclfplpmaaW.PrintWords Go.Proofs.YtclnfaclfplpmaaW.PrintMore
set_option linter.unusedVariables false
set_option linter.unusedSimpArgs false

/-! ### draws: what comes is not told, only that something comes -/
def Ex {α : Type} (g : Nat → Option α) (P : α → Prop) : Prop := ∃ r, Ev g r ∧ P r
theorem Ex.now {α : Type} {r : α} {P : α → Prop} (h : P r) : Ex (fun _ => some r) P := ⟨r, Ev.now r, h⟩
theorem Ex.bind {α β : Type} {g : Nat → Option α} {f : Nat → α → Option β} {P : α → Prop} {Q : β → Prop} (h : Ex g P) (k : ∀ a, P a → Ex (fun n => f n a) Q) : Ex (fun n => (g n).bind (f n)) Q := by
  obtain ⟨a, ha, hp⟩ := h
  obtain ⟨r, hr, hq⟩ := k a hp
  exact ⟨r, Ev.bind ha hr, hq⟩
theorem Ex.succ {α : Type} {g : Nat → Option α} {P : α → Prop} (h : Ex (fun k => g (k + 1)) P) : Ex g P := by
  obtain ⟨r, hr, hp⟩ := h
  exact ⟨r, Ev.succ hr, hp⟩
theorem Ex.mono {α : Type} {g : Nat → Option α} {P Q : α → Prop} (h : Ex g P) (k : ∀ a, P a → Q a) : Ex g Q := by
  obtain ⟨r, hr, hp⟩ := h
  exact ⟨r, hr, k r hp⟩
theorem Ex.ev {α β : Type} {g : Nat → Option α} {f : Nat → α → Option β} {P : α → Prop} {b : β} (h : Ex g P) (k : ∀ a, P a → Ev (fun n => f n a) b) : Ev (fun n => (g n).bind (f n)) b := by
  obtain ⟨a, ha, hp⟩ := h
  exact Ev.bind ha (k a hp)
theorem wrapU64 (n : Int) : IntKind.u64.wrap n = n % 18446744073709551616 := by simp [IntKind.wrap, IntKind.bits, IntKind.signed]
theorem and255 (x : Int) (h0 : 0 ≤ x) (h1 : x < 18446744073709551616) : 0 ≤ wrap64 (Go.bits .and .u64 (x / 1099511627776) 255) ∧ wrap64 (Go.bits .and .u64 (x / 1099511627776) 255) ≤ 255 := by
  have h := bits_mask .u64 64 (by decide) (fun n h0 h1 => by rw [wrapU64]; omega) 8 (by decide) (x / 1099511627776) (by omega) (by omega)
  rw [show (255 : Int) = 2 ^ 8 - 1 by decide, h]
  unfold wrap64
  omega
/-- The input: bytes, no more than a slice has. -/
def Bts (c : List Int) : Prop := c.length ≤ 4611686018427387904 ∧ ∀ x ∈ c, 0 ≤ x ∧ x ≤ 255
theorem Bts.of {c : List Int} (h : c.length * 1 ≤ 140737488351232) (hw : ∀ x ∈ c, (Lit.int .u8 x).wf = true) : Bts c := ⟨by omega, fun x hx => by
  have := hw x hx
  simp only [Lit.wf, Bool.and_eq_true, decide_eq_true_eq] at this
  have e1 : IntKind.u8.min = 0 := by decide
  have e2 : IntKind.u8.max = 255 := by decide
  omega⟩
theorem rd_code {c : List Int} (h : Bts c) {i : Int} (h0 : 0 ≤ i) (h1 : i < c.length) : 0 ≤ rd c i ∧ rd c i ≤ 255 := by
  have hi : i.toNat < c.length := by omega
  have e : rd c i = c[i.toNat] := by
    unfold rd
    rw [List.getD_eq_getElem?_getD, List.getElem?_eq_getElem hi, Option.getD_some]
  rw [e]
  exact h.2 _ (List.getElem_mem hi)
/-- Where the cursor stands: at most at b. -/
def At (a b : Int) : Prop := 0 ≤ a ∧ a ≤ b

theorem perm_sum {a b : List Int} (h : List.Perm a b) : a.sum = b.sum := by
  induction h with
  | nil => rfl
  | cons x _ ih => simp only [List.sum_cons, ih]
  | swap x y l => simp only [List.sum_cons]; omega
  | trans _ _ h1 h2 => exact h1.trans h2
theorem exc_perm {a b : List Int} (h : List.Perm a b) (t : Int) : exc a t = exc b t := perm_sum (h.map _)
theorem exc_cons (x : Int) (l : List Int) (t : Int) : exc (x :: l) t = max 0 (x - t) + exc l t := rfl
theorem exc_nonneg : ∀ (l : List Int) (t : Int), 0 ≤ exc l t
  | [], _ => by simp [exc]
  | x :: l, t => by have := exc_nonneg l t; rw [exc_cons]; omega
/-- The excess is at least what the first numbers have more. -/
theorem take_le_exc : ∀ (l : List Int) (t : Int) (k : Nat), k ≤ l.length → (l.take k).sum - k * t ≤ exc l t
  | l, t, 0, _ => by have := exc_nonneg l t; simp; omega
  | [], t, k + 1, h => absurd h (by simp)
  | x :: l, t, k + 1, h => by
    have ih := take_le_exc l t k (by simpa using h)
    rw [List.take_succ_cons, List.sum_cons, exc_cons]
    have e : ((k + 1 : Nat) : Int) * t = k * t + t := by rw [Int.natCast_add, Int.add_mul]; omega
    omega
theorem exc_low : ∀ (l : List Int) (t : Int), (∀ x ∈ l, x ≤ t) → exc l t = 0
  | [], _, _ => by simp [exc]
  | x :: l, t, h => by
    have := h x (List.mem_cons_self ..)
    rw [exc_cons, exc_low l t fun y hy => h y (List.mem_cons_of_mem _ hy)]
    omega
theorem exc_at : ∀ (l : List Int) (t : Int) (k : Nat), k ≤ l.length → (∀ x ∈ l.take k, t ≤ x) → (∀ x ∈ l.drop k, x ≤ t) → exc l t = (l.take k).sum - k * t
  | l, t, 0, _, _, h => by rw [exc_low l t (by simpa using h)]; simp
  | [], t, k + 1, h, _, _ => absurd h (by simp)
  | x :: l, t, k + 1, h, h1, h2 => by
    have ih := exc_at l t k (by simpa using h) (fun y hy => h1 y (by rw [List.take_succ_cons]; exact List.mem_cons_of_mem _ hy)) (fun y hy => h2 y (by rw [List.drop_succ_cons]; exact hy))
    have hx := h1 x (by rw [List.take_succ_cons]; exact List.mem_cons_self ..)
    rw [List.take_succ_cons, List.sum_cons, exc_cons, ih]
    have e : ((k + 1 : Nat) : Int) * t = k * t + t := by rw [Int.natCast_add, Int.add_mul]; omega
    omega
theorem cut_ex : ∀ (l : List Int) (t : Int), Desc l → ∃ k, k ≤ l.length ∧ (∀ x ∈ l.take k, t ≤ x) ∧ (∀ x ∈ l.drop k, x ≤ t)
  | [], t, _ => ⟨0, by simp, by simp, by simp⟩
  | y :: l, t, h => by
    have h' := List.pairwise_cons.1 h
    by_cases c : y ≤ t
    · refine ⟨0, by simp, by simp, fun x hx => ?_⟩
      rw [List.drop_zero] at hx
      rcases List.mem_cons.1 hx with e | e
      · omega
      · have := h'.1 x e; omega
    · obtain ⟨k, hk, h1, h2⟩ := cut_ex l t h'.2
      refine ⟨k + 1, by simpa using hk, fun x hx => ?_, fun x hx => ?_⟩
      · rw [List.take_succ_cons] at hx
        rcases List.mem_cons.1 hx with e | e
        · omega
        · exact h1 x e
      · rw [List.drop_succ_cons] at hx; exact h2 x hx
/-- The first list's partial sums are at most the second's. -/
def subB (a b : List Int) : Bool := leAll (psums 0 (rankD a)) (psums 0 (rankD b))
theorem subB_iff {a b : List Int} (hl : a.length = b.length) : subB a b = true ↔ ∀ k, k ≤ a.length → ((rankD a).take k).sum ≤ ((rankD b).take k).sum := by
  unfold subB
  rw [leAll_iff _ _ (by simp only [psums_length, rankD_length]; exact hl)]
  simp only [psums_get, Int.zero_add, psums_length, rankD_length]
  constructor
  · intro h k hk
    cases k with
    | zero => simp
    | succ k => exact h k (by omega) (by omega)
  · intro h i hi hj
    exact h (i + 1) (by omega)
theorem take_desc {l : List Int} (h : Desc l) {j : Nat} (hj : j < l.length) : (∀ x ∈ l.take (j + 1), l[j] ≤ x) ∧ (∀ x ∈ l.drop (j + 1), x ≤ l[j]) := by
  constructor
  · intro x hx
    obtain ⟨i, hi, rfl⟩ := List.getElem_of_mem hx
    rw [List.getElem_take]
    rw [List.length_take] at hi
    by_cases c : i = j
    · subst c; exact Int.le_refl _
    · exact desc_le h (by omega) hj
  · intro x hx
    obtain ⟨i, hi, rfl⟩ := List.getElem_of_mem hx
    rw [List.length_drop] at hi
    rw [List.getElem_drop]
    exact desc_le h (by omega) (by omega)
/-- A list's partial sums are at most another one's exactly if over no threshold it has a greater excess. -/
theorem subB_exc {a b : List Int} (hb : Lst b) (hl : a.length = b.length) : subB a b = true ↔ ∀ t : Nat, t ≤ 60 → exc a t ≤ exc b t := by
  rw [subB_iff hl]
  have la := rankD_length a
  have lb := rankD_length b
  constructor
  · intro h t ht
    obtain ⟨k, hk, h1, h2⟩ := cut_ex (rankD a) t (rankD_desc a)
    have e := exc_at (rankD a) t k hk h1 h2
    have f := take_le_exc (rankD b) t k (by omega)
    rw [exc_perm (rankD_perm a)] at e
    rw [exc_perm (rankD_perm b)] at f
    have := h k (by omega)
    omega
  · intro h k hk
    cases k with
    | zero => simp
    | succ j =>
      have hj : j < (rankD b).length := by omega
      have g := (rankD_lst hb).get hj
      obtain ⟨h1, h2⟩ := take_desc (rankD_desc b) hj
      have e := exc_at (rankD b) ((rankD b)[j]) (j + 1) hj h1 h2
      have f := take_le_exc (rankD a) ((rankD b)[j]) (j + 1) (by omega)
      have t := h ((rankD b)[j]).toNat (by omega)
      rw [show (((rankD b)[j]).toNat : Int) = (rankD b)[j] by omega] at t
      rw [exc_perm (rankD_perm b)] at e
      rw [exc_perm (rankD_perm a)] at f
      omega
def majB (a b : List Int) : Bool := decide (a.length = b.length) && (decide (a.sum = b.sum) && subB a b)

/-! ### heights -/
theorem gain_le : ∀ (h : List Int) (s : Int) (a b : List Int), adj hp h = true → 0 < h.length → h.length = a.length → h.length = b.length → s + a.sum - b.sum = 0 → dot h a - dot h b ≤ sabs1 (dsums s a b) - h.headD 0 * s
  | [], _, _, _, _, h0, _, _, _ => absurd h0 (by simp)
  | [p], s, a, b, _, _, ha, hb, hs => by
    cases a with
    | nil => simp at ha
    | cons x a =>
      cases b with
      | nil => simp at hb
      | cons y b =>
        obtain rfl : a = [] := List.eq_nil_of_length_eq_zero (by simpa using ha.symm)
        obtain rfl : b = [] := List.eq_nil_of_length_eq_zero (by simpa using hb.symm)
        simp only [List.sum_cons, List.sum_nil] at hs
        simp only [dot, dsums, sabs1, List.headD_cons]
        have e : y = s + x := by omega
        subst e
        have e1 : p * (s + x) = p * s + p * x := Int.mul_add _ _ _
        omega
  | p :: q :: h, s, a, b, hh, _, ha, hb, hs => by
    cases a with
    | nil => simp at ha
    | cons x a =>
      cases b with
      | nil => simp at hb
      | cons y b =>
        simp only [adj, Bool.and_eq_true] at hh
        have hd := hh.1
        unfold hp at hd
        rw [wth_iff] at hd
        have ih := gain_le (q :: h) (s + (x - y)) a b hh.2 (by simp) (by simpa using ha) (by simpa using hb) (by simp only [List.sum_cons] at hs; omega)
        simp only [dsums, sabs1, List.headD_cons] at ih ⊢
        rw [dot_cons, dot_cons]
        obtain ⟨d, hd0⟩ : ∃ d, d = s + (x - y) := ⟨_, rfl⟩
        rw [← hd0] at ih ⊢
        have ex : x = d - s + y := by omega
        have e1 : p * x = p * d - p * s + p * y := by rw [ex, Int.mul_add, Int.mul_sub]
        have e2 : p = q - 1 ∨ p = q ∨ p = q + 1 := by omega
        have e3 : p * d = q * d - d ∨ p * d = q * d ∨ p * d = q * d + d := by
          rcases e2 with e | e | e
          · left; rw [e, Int.sub_mul]; omega
          · right; left; rw [e]
          · right; right; rw [e, Int.add_mul]; omega
        omega
theorem heightsGo_head (d e : Int) (t : List Int) : heightsGo (d :: e :: t) = ((heightsGo (e :: t)).headD 0 + cmpI d 0) :: heightsGo (e :: t) := rfl
theorem gain_best : ∀ (s : Int) (a b : List Int), 0 < a.length → a.length = b.length → s + a.sum - b.sum = 0 → dot (heightsGo (dsums s a b)) a - dot (heightsGo (dsums s a b)) b = sabs1 (dsums s a b) - (heightsGo (dsums s a b)).headD 0 * s
  | _, [], _, h0, _, _ => absurd h0 (by simp)
  | _, _ :: _, [], _, h, _ => absurd h (by simp)
  | s, [x], y :: b, _, hl, hs => by
    obtain rfl : b = [] := List.eq_nil_of_length_eq_zero (by simpa using hl.symm)
    simp only [List.sum_cons, List.sum_nil] at hs
    simp only [dsums, heightsGo, dot, sabs1, List.headD_cons]
    omega
  | s, x :: x2 :: a, y :: b, _, hl, hs => by
    cases b with
    | nil => simp at hl
    | cons y2 b =>
      have ih := gain_best (s + (x - y)) (x2 :: a) (y2 :: b) (by simp) (by simpa using hl) (by simp only [List.sum_cons] at hs ⊢; omega)
      simp only [dsums] at ih ⊢
      rw [heightsGo_head]
      obtain ⟨r, hr⟩ : ∃ r, r = heightsGo ((s + (x - y) + (x2 - y2)) :: dsums (s + (x - y) + (x2 - y2)) a b) := ⟨_, rfl⟩
      rw [← hr] at ih ⊢
      rw [dot_cons, dot_cons, List.headD_cons, sabs1]
      obtain ⟨g, hg⟩ : ∃ g, g = r.headD 0 := ⟨_, rfl⟩
      rw [← hg] at ih ⊢
      obtain ⟨d, hd0⟩ : ∃ d, d = s + (x - y) := ⟨_, rfl⟩
      rw [← hd0] at ih ⊢
      have ex : x = d - s + y := by omega
      obtain ⟨c, hc⟩ : ∃ c, c = cmpI d 0 := ⟨_, rfl⟩
      have ec : c * d = max d (-d) := by
        rw [hc]; unfold cmpI
        split
        · omega
        · split <;> omega
      rw [← hc]
      have e1 : (g + c) * x = (g + c) * d - (g + c) * s + (g + c) * y := by rw [ex, Int.mul_add, Int.mul_sub]
      have e2 : (g + c) * d = g * d + c * d := Int.add_mul _ _ _
      omega
theorem heightsGo_bound : ∀ D : List Int, (∀ x ∈ heightsGo D, -(D.length : Int) ≤ x ∧ x ≤ D.length) ∧ adj hp (heightsGo D) = true
  | [] => by simp [heightsGo, adj]
  | [d] => by simp [heightsGo, adj]
  | d :: e :: t => by
    obtain ⟨h1, h2⟩ := heightsGo_bound (e :: t)
    have hl := heightsGo_len (e :: t)
    rw [heightsGo_head]
    obtain ⟨r, hr⟩ : ∃ r, r = heightsGo (e :: t) := ⟨_, rfl⟩
    rw [← hr] at h1 h2 hl ⊢
    cases r with
    | nil => simp at hl
    | cons z r =>
      have hc := cmpI_bound d 0
      have hz := h1 z (List.mem_cons_self ..)
      constructor
      · intro x hx
        simp only [List.length_cons] at hz h1 ⊢
        rcases List.mem_cons.1 hx with q | q
        · rw [q, List.headD_cons]; omega
        · have := h1 x q; omega
      · rw [adj, Bool.and_eq_true]
        refine ⟨?_, h2⟩
        unfold hp
        rw [wth_iff, List.headD_cons]
        omega
theorem heightsGo_zero : ∀ D : List Int, 0 < D.length → (heightsGo D).getD (D.length - 1) 0 = 0
  | [], h => absurd h (by simp)
  | [d], _ => rfl
  | d :: e :: t, _ => by
    have ih := heightsGo_zero (e :: t) (by simp)
    rw [heightsGo_head]
    simpa [List.length_cons] using ih

/-! ### sums of products: how many are greater than s and t -/
def S1 (f : Nat → Int) : Nat → Int
  | 0 => 0
  | n + 1 => S1 f n + f n
theorem S1_succ (f : Nat → Int) (n : Nat) : S1 f (n + 1) = S1 f n + f n := rfl
theorem S1_congr {f g : Nat → Int} : ∀ n, (∀ i, i < n → f i = g i) → S1 f n = S1 g n
  | 0, _ => rfl
  | n + 1, h => by rw [S1, S1, S1_congr n fun i hi => h i (by omega), h n (by omega)]
theorem S1_add (f g : Nat → Int) : ∀ n, S1 (fun i => f i + g i) n = S1 f n + S1 g n
  | 0 => rfl
  | n + 1 => by rw [S1, S1, S1, S1_add f g n]; omega
theorem S1_mul (c : Int) (f : Nat → Int) : ∀ n, S1 (fun i => c * f i) n = c * S1 f n
  | 0 => by simp [S1]
  | n + 1 => by rw [S1, S1, S1_mul c f n, Int.mul_add]
theorem S1_le {f g : Nat → Int} : ∀ n, (∀ i, i < n → f i ≤ g i) → S1 f n ≤ S1 g n
  | 0, _ => Int.le_refl _
  | n + 1, h => by
    have := S1_le n fun i hi => h i (by omega)
    have := h n (by omega)
    rw [S1, S1]; omega
theorem S1_zero : ∀ n, S1 (fun _ => 0) n = 0
  | 0 => rfl
  | n + 1 => by rw [S1, S1_zero n]; rfl
def ind (x : Int) (s : Nat) : Int := if x > (s : Int) then 1 else 0
theorem S1_ind (x : Int) (h : 0 ≤ x) : ∀ n : Nat, S1 (ind x) n = min x n
  | 0 => by rw [S1]; omega
  | n + 1 => by
    rw [S1, S1_ind x h n, ind]
    split <;> omega
def S2 (f : Nat → Nat → Int) : Int := S1 (fun s => S1 (fun t => f s t) 60) 60
theorem S2_congr {f g : Nat → Nat → Int} (h : ∀ s t, f s t = g s t) : S2 f = S2 g := S1_congr 60 fun s _ => S1_congr 60 fun t _ => h s t
theorem S2_le {f g : Nat → Nat → Int} (h : ∀ s t, f s t ≤ g s t) : S2 f ≤ S2 g := S1_le 60 fun s _ => S1_le 60 fun t _ => h s t
theorem S2_add (f g : Nat → Nat → Int) : S2 (fun s t => f s t + g s t) = S2 f + S2 g := by
  unfold S2
  rw [← S1_add]
  exact S1_congr 60 fun s _ => S1_add _ _ 60
theorem S2_ind {x y : Int} (hx : 0 ≤ x ∧ x ≤ 60) (hy : 0 ≤ y ∧ y ≤ 60) : S2 (fun s t => ind x s * ind y t) = x * y := by
  unfold S2
  have e : S1 (fun s => S1 (fun t => ind x s * ind y t) 60) 60 = S1 (fun s => y * ind x s) 60 := S1_congr 60 fun s _ => by
    rw [S1_mul, S1_ind y hy.1, show min y ((60 : Nat) : Int) = y by omega, Int.mul_comm]
  rw [e, S1_mul, S1_ind x hx.1, show min x ((60 : Nat) : Int) = x by omega, Int.mul_comm]
def cnt (l : List Int) (s : Nat) : Int := (l.map fun x => ind x s).sum
def cnt2 : List Int → List Int → Nat → Nat → Int
  | x :: a, y :: b, s, t => ind x s * ind y t + cnt2 a b s t
  | _, _, _, _ => 0
theorem ind_01 (x : Int) (s : Nat) : ind x s = 0 ∨ ind x s = 1 := by unfold ind; split <;> simp
theorem cnt_nonneg : ∀ (l : List Int) (s : Nat), 0 ≤ cnt l s
  | [], _ => by simp [cnt]
  | x :: l, s => by
    have := cnt_nonneg l s
    have e : cnt (x :: l) s = ind x s + cnt l s := rfl
    have := ind_01 x s
    omega
theorem cnt_cons (x : Int) (l : List Int) (s : Nat) : cnt (x :: l) s = ind x s + cnt l s := rfl
theorem dot_S2 : ∀ (a b : List Int), (∀ x ∈ a, 0 ≤ x ∧ x ≤ 60) → (∀ x ∈ b, 0 ≤ x ∧ x ≤ 60) → dot a b = S2 (cnt2 a b)
  | [], b, _, _ => by
    have : S2 (cnt2 [] b) = S2 (fun _ _ => 0) := S2_congr fun s t => by simp [cnt2]
    rw [this, S2]
    simp only [S1_zero, dot]
  | x :: a, [], _, _ => by
    have : S2 (cnt2 (x :: a) []) = S2 (fun _ _ => 0) := S2_congr fun s t => by simp [cnt2]
    rw [this, S2]
    simp only [S1_zero, dot]
  | x :: a, y :: b, ha, hb => by
    have ih := dot_S2 a b (fun z hz => ha z (List.mem_cons_of_mem _ hz)) (fun z hz => hb z (List.mem_cons_of_mem _ hz))
    have e : S2 (cnt2 (x :: a) (y :: b)) = S2 (fun s t => ind x s * ind y t + cnt2 a b s t) := S2_congr fun s t => rfl
    rw [dot_cons, e, S2_add, S2_ind (ha x (List.mem_cons_self ..)) (hb y (List.mem_cons_self ..)), ih]
theorem dot_bound : ∀ (a b : List Int), (∀ x ∈ a, 0 ≤ x ∧ x ≤ 60) → (∀ x ∈ b, 0 ≤ x ∧ x ≤ 60) → 0 ≤ dot a b ∧ dot a b ≤ 3600 * a.length
  | [], b, _, _ => by simp [dot]
  | x :: a, [], _, _ => by simp only [dot, List.length_cons]; omega
  | x :: a, y :: b, ha, hb => by
    have ih := dot_bound a b (fun z hz => ha z (List.mem_cons_of_mem _ hz)) (fun z hz => hb z (List.mem_cons_of_mem _ hz))
    have hx := ha x (List.mem_cons_self ..)
    have hy := hb y (List.mem_cons_self ..)
    have h1 : x * y ≤ 60 * 60 := Int.mul_le_mul hx.2 hy.2 hy.1 (by omega)
    have h0 : 0 ≤ x * y := Int.mul_nonneg hx.1 hy.1
    rw [dot_cons, List.length_cons]
    omega
theorem dot_w {a b : List Int} (ha : Lst a) (hb : Lst b) : wrap64 (dot a b) = dot a b := by
  have h := dot_bound a b ha.2.2 hb.2.2
  have := ha.2.1
  exact w64 (by omega) (by omega)
theorem cnt2_le : ∀ (a b : List Int) (s t : Nat), cnt2 a b s t ≤ cnt a s ∧ cnt2 a b s t ≤ cnt b t
  | [], b, s, t => by have := cnt_nonneg b t; have := cnt_nonneg [] s; simp only [cnt2]; omega
  | x :: a, [], s, t => by have := cnt_nonneg (x :: a) s; have := cnt_nonneg [] t; simp only [cnt2]; omega
  | x :: a, y :: b, s, t => by
    have := cnt2_le a b s t
    rw [cnt2, cnt_cons, cnt_cons]
    rcases ind_01 x s with e | e <;> rcases ind_01 y t with f | f <;> rw [e, f] <;> omega
theorem cnt2_l : ∀ (a b : List Int) (s t : Nat), a.length = b.length → (∀ i, i < a.length → a.getD i 0 > (s : Int) → b.getD i 0 > (t : Int)) → cnt2 a b s t = cnt a s
  | [], b, s, t, _, _ => by simp [cnt2, cnt]
  | x :: a, [], _, _, h, _ => absurd h (by simp)
  | x :: a, y :: b, s, t, h, hi => by
    have ih := cnt2_l a b s t (by simpa using h) (fun i h1 h2 => by have := hi (i + 1) (by simpa using h1) (by simpa using h2); simpa using this)
    have h0 : x > (s : Int) → y > (t : Int) := fun h2 => by have := hi 0 (by simp) (by simpa using h2); simpa using this
    rw [cnt2, cnt_cons, ih]
    unfold ind
    by_cases c : x > (s : Int)
    · rw [if_pos c, if_pos (h0 c)]; omega
    · rw [if_neg c]; omega
theorem cnt2_r : ∀ (a b : List Int) (s t : Nat), a.length = b.length → (∀ i, i < a.length → b.getD i 0 > (t : Int) → a.getD i 0 > (s : Int)) → cnt2 a b s t = cnt b t
  | [], [], s, t, _, _ => by simp [cnt2, cnt]
  | [], y :: b, _, _, h, _ => absurd h (by simp)
  | x :: a, [], _, _, h, _ => absurd h (by simp)
  | x :: a, y :: b, s, t, h, hi => by
    have ih := cnt2_r a b s t (by simpa using h) (fun i h1 h2 => by have := hi (i + 1) (by simpa using h1) (by simpa using h2); simpa using this)
    have h0 : y > (t : Int) → x > (s : Int) := fun h2 => by have := hi 0 (by simp) (by simpa using h2); simpa using this
    rw [cnt2, cnt_cons, ih]
    unfold ind
    by_cases c : y > (t : Int)
    · rw [if_pos c, if_pos (h0 c)]; omega
    · rw [if_neg c]; omega
/-- No two stand the wrong way. -/
def NoInv (a b : List Int) : Prop := ∀ i j, i < a.length → j < a.length → a.getD i 0 > a.getD j 0 → b.getD j 0 ≤ b.getD i 0
theorem cnt2_noinv {a b : List Int} (hl : a.length = b.length) (h : NoInv a b) (s t : Nat) : cnt2 a b s t = min (cnt a s) (cnt b t) := by
  have hle := cnt2_le a b s t
  by_cases c : ∀ i, i < a.length → a.getD i 0 > (s : Int) → b.getD i 0 > (t : Int)
  · have := cnt2_l a b s t hl c; omega
  · have c2 : ∀ j, j < a.length → b.getD j 0 > (t : Int) → a.getD j 0 > (s : Int) := by
      intro j hj hb
      apply Classical.byContradiction
      intro hn
      apply c
      intro i hi ha
      have := h i j hi hj (by omega)
      omega
    have := cnt2_r a b s t hl c2; omega
theorem getD_lt {l : List Int} {i : Nat} (h : i < l.length) : l.getD i 0 = l[i] := by simp [List.getD_eq_getElem?_getD, h]
theorem noinv_rank (a b : List Int) (hl : a.length = b.length) : NoInv (rankD a) (rankD b) := by
  intro i j hi hj h
  have la := rankD_length a
  have lb := rankD_length b
  rw [getD_lt hi, getD_lt hj] at h
  rw [getD_lt (by omega), getD_lt (by omega)]
  by_cases c : i < j
  · exact desc_le (rankD_desc b) c (by omega)
  · by_cases e : i = j
    · subst e; exact Int.le_refl _
    · have := desc_le (rankD_desc a) (by omega : j < i) hi; omega
theorem cnt_perm {a b : List Int} (h : List.Perm a b) (s : Nat) : cnt a s = cnt b s := perm_sum (h.map _)
theorem rank_S2 {a b : List Int} (ha : Lst a) (hb : Lst b) (hl : a.length = b.length) : dot (rankD a) (rankD b) = S2 (fun s t => min (cnt a s) (cnt b t)) := by
  rw [dot_S2 _ _ (rankD_lst ha).2.2 (rankD_lst hb).2.2]
  refine S2_congr fun s t => ?_
  rw [cnt2_noinv (by rw [rankD_length, rankD_length]; exact hl) (noinv_rank a b hl), cnt_perm (rankD_perm a), cnt_perm (rankD_perm b)]
theorem dot_le_rank {a b : List Int} (ha : Lst a) (hb : Lst b) (hl : a.length = b.length) : dot a b ≤ dot (rankD a) (rankD b) := by
  rw [rank_S2 ha hb hl, dot_S2 a b ha.2.2 hb.2.2]
  exact S2_le fun s t => by have := cnt2_le a b s t; omega
theorem dot_noinv {a b : List Int} (ha : Lst a) (hb : Lst b) (hl : a.length = b.length) (h : NoInv a b) : dot a b = dot (rankD a) (rankD b) := by
  rw [rank_S2 ha hb hl, dot_S2 a b ha.2.2 hb.2.2]
  exact S2_congr fun s t => cnt2_noinv hl h s t
theorem cnt_set : ∀ (l : List Int) (i : Nat) (v : Int) (s : Nat), i < l.length → cnt (l.set i v) s = cnt l s - ind (l.getD i 0) s + ind v s
  | [], _, _, _, h => absurd h (by simp)
  | x :: l, 0, v, s, _ => by simp only [List.set_cons_zero, cnt_cons, List.getD_cons_zero]; omega
  | x :: l, i + 1, v, s, h => by
    have := cnt_set l i v s (by simpa using h)
    simp only [List.set_cons_succ, cnt_cons, List.getD_cons_succ]; omega
theorem dot_set : ∀ (a b : List Int) (i : Nat) (v : Int), a.length = b.length → i < b.length → dot a (b.set i v) = dot a b + a.getD i 0 * (v - b.getD i 0)
  | _, [], _, _, _, h => absurd h (by simp)
  | [], _ :: _, _, _, h, _ => absurd h (by simp)
  | x :: a, y :: b, 0, v, _, _ => by
    simp only [List.set_cons_zero, dot_cons, List.getD_cons_zero]
    have : x * (v - y) = x * v - x * y := Int.mul_sub _ _ _
    omega
  | x :: a, y :: b, i + 1, v, hl, h => by
    have := dot_set a b i v (by simpa using hl) (by simpa using h)
    simp only [List.set_cons_succ, dot_cons, List.getD_cons_succ]; omega
/-- Two numbers exchanged. -/
def swapped (b : List Int) (i j : Nat) : List Int := (b.set i (b.getD j 0)).set j (b.getD i 0)
theorem swapped_len (b : List Int) (i j : Nat) : (swapped b i j).length = b.length := by simp [swapped]
theorem swapped_lst {b : List Int} (h : Lst b) {i j : Nat} (hi : i < b.length) (hj : j < b.length) : Lst (swapped b i j) := by
  refine ⟨by rw [swapped_len]; exact h.1, by rw [swapped_len]; exact h.2.1, fun x hx => ?_⟩
  unfold swapped at hx
  rcases List.mem_or_eq_of_mem_set hx with hx | e
  · rcases List.mem_or_eq_of_mem_set hx with hx | e
    · exact h.2.2 x hx
    · rw [e, getD_lt hj]; exact h.get hj
  · rw [e, getD_lt hi]; exact h.get hi
theorem swapped_dot {a b : List Int} (hl : a.length = b.length) {i j : Nat} (hi : i < b.length) (hj : j < b.length) (hij : i ≠ j) : dot a (swapped b i j) = dot a b + (a.getD i 0 - a.getD j 0) * (b.getD j 0 - b.getD i 0) := by
  unfold swapped
  have e : (b.set i (b.getD j 0)).getD j 0 = b.getD j 0 := by
    rw [List.getD_eq_getElem?_getD, List.getElem?_set_ne hij, ← List.getD_eq_getElem?_getD]
  rw [dot_set a _ j _ (by simpa using hl) (by simpa using hj), dot_set a b i _ hl hi, e]
  obtain ⟨p, hp⟩ : ∃ p, p = b.getD i 0 := ⟨_, rfl⟩
  obtain ⟨q, hq⟩ : ∃ q, q = b.getD j 0 := ⟨_, rfl⟩
  rw [← hp, ← hq, Int.sub_mul, Int.mul_sub, Int.mul_sub, Int.mul_sub]
  omega
theorem swapped_rank {a b : List Int} (ha : Lst a) (hb : Lst b) (hl : a.length = b.length) {i j : Nat} (hi : i < b.length) (hj : j < b.length) (hij : i ≠ j) : dot (rankD a) (rankD (swapped b i j)) = dot (rankD a) (rankD b) := by
  rw [rank_S2 ha hb hl, rank_S2 ha (swapped_lst hb hi hj) (by rw [swapped_len]; exact hl)]
  refine S2_congr fun s t => ?_
  have e : (b.set i (b.getD j 0)).getD j 0 = b.getD j 0 := by
    rw [List.getD_eq_getElem?_getD, List.getElem?_set_ne hij, ← List.getD_eq_getElem?_getD]
  have : cnt (swapped b i j) t = cnt b t := by
    unfold swapped
    rw [cnt_set _ j _ t (by simpa using hj), cnt_set b i _ t hi, e]
    omega
  rw [this]
/-- Two that stand the wrong way. -/
def wrong (a b : List Int) (i j : Nat) : Bool := decide (a.getD i 0 > a.getD j 0) && decide (b.getD i 0 < b.getD j 0)
theorem wrong_more {a b : List Int} (hl : a.length = b.length) {i j : Nat} (hi : i < b.length) (hj : j < b.length) (h : wrong a b i j = true) : dot a b < dot a (swapped b i j) := by
  unfold wrong at h
  rw [Bool.and_eq_true, decide_eq_true_eq, decide_eq_true_eq] at h
  have hij : i ≠ j := by rintro rfl; omega
  rw [swapped_dot hl hi hj hij]
  have : 0 < (a.getD i 0 - a.getD j 0) * (b.getD j 0 - b.getD i 0) := Int.mul_pos (by omega) (by omega)
  omega
theorem wrong_iff {a b : List Int} (ha : Lst a) (hb : Lst b) (hl : a.length = b.length) : (∃ i j, i < a.length ∧ j < a.length ∧ wrong a b i j = true) ↔ dot a b < dot (rankD a) (rankD b) := by
  constructor
  · rintro ⟨i, j, hi, hj, h⟩
    have h1 := wrong_more hl (by omega) (by omega) h
    have hij : i ≠ j := by
      rintro rfl
      unfold wrong at h
      rw [Bool.and_eq_true, decide_eq_true_eq] at h
      omega
    have h2 := dot_le_rank ha (swapped_lst hb (by omega : i < b.length) (by omega : j < b.length)) (by rw [swapped_len]; exact hl)
    rw [swapped_rank ha hb hl (by omega) (by omega) hij] at h2
    omega
  · intro h
    apply Classical.byContradiction
    intro hn
    have : NoInv a b := by
      intro i j hi hj h1
      apply Classical.byContradiction
      intro h2
      exact hn ⟨i, j, hi, hj, by unfold wrong; rw [Bool.and_eq_true, decide_eq_true_eq, decide_eq_true_eq]; omega⟩
    have := dot_noinv ha hb hl this
    omega

/-! ### Newton's identities -/
theorem S1_shift (f : Nat → Int) : ∀ n, S1 f (n + 1) = f 0 + S1 (fun i => f (i + 1)) n
  | 0 => by simp [S1]
  | n + 1 => by rw [S1, S1_shift f n, S1]; omega
def CV (f h : Nat → Int) (k : Nat) : Int := S1 (fun i => f i * h (k - i)) (k + 1)
theorem CV_step (f h g : Nat → Int) (x : Int) (h0 : g 0 = h 0) (hs : ∀ j, h (j + 1) = g (j + 1) + x * h j) (k : Nat) : CV f h (k + 1) = CV f g (k + 1) + x * CV f h k := by
  unfold CV
  rw [S1_succ (fun i => f i * h (k + 1 - i)) (k + 1), S1_succ (fun i => f i * g (k + 1 - i)) (k + 1), ← S1_mul]
  simp only [Nat.sub_self, h0]
  have e : S1 (fun i => f i * h (k + 1 - i)) (k + 1) = S1 (fun i => f i * g (k + 1 - i) + x * (f i * h (k - i))) (k + 1) := S1_congr _ fun i hi => by
    rw [show k + 1 - i = (k - i) + 1 by omega, hs, Int.mul_add, Int.mul_left_comm]
  rw [e, S1_add]
  omega
theorem CV_shift (f p h : Nat → Int) (x : Int) (h0 : f 0 = p 0) (hs : ∀ j, f (j + 1) = p (j + 1) - x * p j) (k : Nat) : CV f h (k + 1) = CV p h (k + 1) - x * CV p h k := by
  unfold CV
  rw [S1_shift, S1_shift (fun i => p i * h (k + 1 - i)), h0, ← S1_mul]
  have e : S1 (fun i => f (i + 1) * h (k + 1 - (i + 1))) (k + 1) = S1 (fun i => p (i + 1) * h (k + 1 - (i + 1)) + -1 * (x * (p i * h (k - i)))) (k + 1) := S1_congr _ fun i hi => by
    rw [hs, show k + 1 - (i + 1) = k - i by omega, Int.sub_mul, Int.mul_assoc]; omega
  rw [e, S1_add, S1_mul]
  omega
def sg : Nat → Int
  | 0 => 1
  | n + 1 => -(sg n)
theorem chZ_zero (ag : Bool) (l : List Int) : chZ ag 0 l = 1 := by cases l <;> simp [chZ]
theorem newton_e (l : List Int) : ∀ k, CV (fun i => sg i * chZ false i l) (fun i => chZ true i l) (k + 1) = 0 := by
  induction l with
  | nil =>
    intro k
    unfold CV
    rw [S1_shift]
    have e : S1 (fun i => sg (i + 1) * chZ false (i + 1) [] * chZ true (k + 1 - (i + 1)) []) (k + 1) = S1 (fun _ => 0) (k + 1) := S1_congr _ fun i _ => by simp [chZ]
    rw [e, S1_zero]
    simp [chZ]
  | cons x t ih =>
    intro k
    rw [CV_shift _ (fun i => sg i * chZ false i t) _ x (by simp [chZ_zero]) (fun j => by
      show sg (j + 1) * chZ false (j + 1) (x :: t) = sg (j + 1) * chZ false (j + 1) t - x * (sg j * chZ false j t)
      have e : chZ false (j + 1) (x :: t) = chZ false (j + 1) t + x * chZ false j t := by rw [chZ]; simp
      have e2 : sg (j + 1) = -(sg j) := rfl
      rw [e, Int.mul_add, e2, Int.neg_mul, Int.neg_mul, Int.mul_left_comm]; omega)]
    rw [CV_step _ _ (fun i => chZ true i t) x (by simp [chZ_zero]) (fun j => by
      show chZ true (j + 1) (x :: t) = chZ true (j + 1) t + x * chZ true j (x :: t)
      rw [chZ]; simp)]
    rw [ih k]; omega
def pwS (l : List Int) : Nat → Int
  | 0 => 0
  | n + 1 => (l.map fun x => x ^ (n + 1)).sum
def pwX (x : Int) : Nat → Int
  | 0 => 0
  | n + 1 => x ^ (n + 1)
theorem CV_pwX (x : Int) (h : Nat → Int) (k : Nat) : CV (pwX x) h (k + 1) = x * (h k + CV (pwX x) h k) := by
  unfold CV
  rw [S1_shift, S1_shift (fun i => pwX x i * h (k - i))]
  have e : S1 (fun i => pwX x (i + 1) * h (k + 1 - (i + 1))) (k + 1) = S1 (fun i => x * (x ^ i * h (k - i))) (k + 1) := S1_congr _ fun i _ => by
    show x ^ (i + 1) * _ = _
    rw [show k + 1 - (i + 1) = k - i by omega, Int.pow_succ, Int.mul_comm (x ^ i) x, Int.mul_assoc]
  rw [e, S1_mul, S1_shift]
  show 0 * _ + _ = x * (_ + (0 * _ + S1 (fun i => x ^ (i + 1) * h (k - (i + 1))) k))
  simp
theorem CV_add (f g h : Nat → Int) (k : Nat) : CV (fun i => f i + g i) h k = CV f h k + CV g h k := by
  unfold CV
  rw [← S1_add]
  exact S1_congr _ fun i _ => Int.add_mul _ _ _
theorem newton_p (l : List Int) : ∀ k : Nat, CV (pwS l) (fun i => chZ true i l) k = k * chZ true k l := by
  induction l with
  | nil =>
    intro k
    unfold CV
    have e : S1 (fun i => pwS [] i * chZ true (k - i) []) (k + 1) = S1 (fun _ => 0) (k + 1) := S1_congr _ fun i _ => by cases i <;> simp [pwS]
    rw [e, S1_zero]
    cases k <;> simp [chZ]
  | cons x t ih =>
    intro k
    have ef : pwS (x :: t) = fun i => pwX x i + pwS t i := by
      funext i
      cases i with
      | zero => rfl
      | succ i => simp [pwS, pwX]
    rw [ef]
    have hs : ∀ j, chZ true (j + 1) (x :: t) = chZ true (j + 1) t + x * chZ true j (x :: t) := fun j => by rw [chZ]; simp
    induction k with
    | zero => simp [CV, S1, pwX, pwS]
    | succ k ihk =>
      rw [CV_add] at ihk ⊢
      rw [CV_pwX, CV_step _ _ (fun i => chZ true i t) x (by simp [chZ_zero]) hs, ih (k + 1), hs k]
      obtain ⟨A, hA⟩ : ∃ A, A = CV (pwX x) (fun i => chZ true i (x :: t)) k := ⟨_, rfl⟩
      obtain ⟨B, hB⟩ : ∃ B, B = CV (pwS t) (fun i => chZ true i (x :: t)) k := ⟨_, rfl⟩
      rw [← hA, ← hB] at ihk ⊢
      have e1 : x * (chZ true k (x :: t) + A) = x * chZ true k (x :: t) + x * A := Int.mul_add _ _ _
      have e2 : x * A + x * B = (k : Int) * (x * chZ true k (x :: t)) := by rw [← Int.mul_add, ihk, Int.mul_left_comm]
      have e3 : ((k + 1 : Nat) : Int) * (chZ true (k + 1) t + x * chZ true k (x :: t)) = ((k + 1 : Nat) : Int) * chZ true (k + 1) t + ((k : Int) * (x * chZ true k (x :: t)) + x * chZ true k (x :: t)) := by
        rw [Int.mul_add]
        have : ((k + 1 : Nat) : Int) * (x * chZ true k (x :: t)) = (k : Int) * (x * chZ true k (x :: t)) + x * chZ true k (x :: t) := by
          rw [Int.natCast_add, Int.add_mul]; omega
        omega
      rw [e3, e1]
      omega
theorem chZ_long : ∀ (l : List Int) (k : Nat), l.length < k → chZ false k l = 0
  | [], 0, h => absurd h (by simp)
  | [], k + 1, _ => by simp [chZ]
  | x :: t, 0, h => absurd h (by simp)
  | x :: t, k + 1, h => by
    have e : chZ false (k + 1) (x :: t) = chZ false (k + 1) t + x * chZ false k t := by rw [chZ]; simp
    simp only [List.length_cons] at h
    rw [e, chZ_long t (k + 1) (by omega), chZ_long t k (by omega)]; simp

/-! ### sums over a convex function -/
def sd (f : Nat → Int) (t : Nat) : Int := f (t + 1 + 1) - 2 * f (t + 1) + f t
theorem tel (f : Nat → Int) (x : Nat) : ∀ n, S1 (fun t => if t + 1 ≤ x then sd f t else 0) n = f (min n x + 1) - f (min n x) - (f 1 - f 0)
  | 0 => by simp [S1]
  | n + 1 => by
    rw [S1, tel f x n]
    by_cases c : n + 1 ≤ x
    · rw [if_pos c, show min n x = n by omega, show min (n + 1) x = n + 1 by omega, sd]; omega
    · rw [if_neg c, show min n x = x by omega, show min (n + 1) x = x by omega]; omega
/-- A function of the numbers from 0 to 60, made of thresholds. -/
theorem made_of (f : Nat → Int) : ∀ x : Nat, x ≤ 60 → f x = f 0 + (f 1 - f 0) * x + S1 (fun t => sd f t * max 0 ((x : Int) - ((t + 1 : Nat) : Int))) 59
  | 0, _ => by
    have e : S1 (fun t => sd f t * max 0 (((0 : Nat) : Int) - ((t + 1 : Nat) : Int))) 59 = S1 (fun _ => 0) 59 := S1_congr _ fun t _ => by
      rw [show max 0 (((0 : Nat) : Int) - ((t + 1 : Nat) : Int)) = 0 by omega, Int.mul_zero]
    rw [e, S1_zero]; simp
  | x + 1, h => by
    have ih := made_of f x (by omega)
    have t := tel f x 59
    rw [show min 59 x = x by omega] at t
    have e : S1 (fun t => sd f t * max 0 (((x + 1 : Nat) : Int) - ((t + 1 : Nat) : Int))) 59 = S1 (fun t => sd f t * max 0 ((x : Int) - ((t + 1 : Nat) : Int)) + (if t + 1 ≤ x then sd f t else 0)) 59 := S1_congr _ fun t _ => by
      by_cases c : t + 1 ≤ x
      · rw [if_pos c, show max 0 (((x + 1 : Nat) : Int) - ((t + 1 : Nat) : Int)) = max 0 ((x : Int) - ((t + 1 : Nat) : Int)) + 1 by omega, Int.mul_add]; omega
      · rw [if_neg c, show max 0 (((x + 1 : Nat) : Int) - ((t + 1 : Nat) : Int)) = 0 by omega, show max 0 ((x : Int) - ((t + 1 : Nat) : Int)) = 0 by omega]; omega
    rw [e, S1_add, t]
    have e2 : (f 1 - f 0) * ((x + 1 : Nat) : Int) = (f 1 - f 0) * x + (f 1 - f 0) := by rw [Int.natCast_add, Int.mul_add]; omega
    omega
/-- The sum of a function over a list. -/
def over (f : Nat → Int) (l : List Int) : Int := (l.map fun x => f x.toNat).sum
theorem over_thr (f : Nat → Int) : ∀ l : List Int, (∀ x ∈ l, 0 ≤ x ∧ x ≤ 60) → over f l = f 0 * l.length + (f 1 - f 0) * l.sum + S1 (fun t => sd f t * exc l ((t + 1 : Nat) : Int)) 59
  | [], _ => by
    have e : S1 (fun t => sd f t * exc [] ((t + 1 : Nat) : Int)) 59 = S1 (fun _ => 0) 59 := S1_congr _ fun t _ => by simp [exc]
    rw [e, S1_zero]; simp [over]
  | x :: l, h => by
    have ih := over_thr f l fun y hy => h y (List.mem_cons_of_mem _ hy)
    have hx := h x (List.mem_cons_self ..)
    have m := made_of f x.toNat (by omega)
    rw [show ((x.toNat : Nat) : Int) = x by omega] at m
    have e : S1 (fun t => sd f t * exc (x :: l) ((t + 1 : Nat) : Int)) 59 = S1 (fun t => sd f t * max 0 (x - ((t + 1 : Nat) : Int)) + sd f t * exc l ((t + 1 : Nat) : Int)) 59 := S1_congr _ fun t _ => by
      rw [exc_cons, Int.mul_add]
    have e0 : over f (x :: l) = f x.toNat + over f l := rfl
    rw [e0, e, S1_add, ih, List.sum_cons, List.length_cons]
    have e2 : f 0 * ((l.length + 1 : Nat) : Int) = f 0 * l.length + f 0 := by rw [Int.natCast_add, Int.mul_add]; omega
    have e3 : (f 1 - f 0) * (x + l.sum) = (f 1 - f 0) * x + (f 1 - f 0) * l.sum := Int.mul_add _ _ _
    omega
theorem karamata {f : Nat → Int} (hf : ∀ t, t < 59 → 0 ≤ sd f t) {a b : List Int} (ha : Lst a) (hb : Lst b) (h : majB a b = true) : over f a ≤ over f b := by
  unfold majB at h
  rw [Bool.and_eq_true, Bool.and_eq_true, decide_eq_true_eq, decide_eq_true_eq] at h
  obtain ⟨hl, hs, hB⟩ := h
  rw [subB_exc hb hl] at hB
  rw [over_thr f a ha.2.2, over_thr f b hb.2.2, hl, hs]
  have : S1 (fun t => sd f t * exc a ((t + 1 : Nat) : Int)) 59 ≤ S1 (fun t => sd f t * exc b ((t + 1 : Nat) : Int)) 59 := S1_le 59 fun t ht => Int.mul_le_mul_of_nonneg_left (hB (t + 1) (by omega)) (hf t ht)
  omega

/-! ### heights, at the law -/
theorem dot_h_bound : ∀ (h a : List Int), (∀ x ∈ h, -100 ≤ x ∧ x ≤ 100) → (∀ x ∈ a, 0 ≤ x ∧ x ≤ 60) → -6000 * (h.length : Int) ≤ dot h a ∧ dot h a ≤ 6000 * h.length
  | [], b, _, _ => by simp [dot]
  | x :: a, [], _, _ => by simp only [dot, List.length_cons]; omega
  | x :: a, y :: b, ha, hb => by
    have ih := dot_h_bound a b (fun z hz => ha z (List.mem_cons_of_mem _ hz)) (fun z hz => hb z (List.mem_cons_of_mem _ hz))
    have hx := ha x (List.mem_cons_self ..)
    have hy := hb y (List.mem_cons_self ..)
    have h1 : x * y ≤ 100 * y := Int.mul_le_mul_of_nonneg_right hx.2 hy.1
    have h0 : -100 * y ≤ x * y := Int.mul_le_mul_of_nonneg_right hx.1 hy.1
    rw [dot_cons, List.length_cons]
    omega
theorem heightsB_parts {h : List Int} (hh : heightsB h = true) : 1 ≤ h.length ∧ h.length ≤ 8 ∧ (∀ x ∈ h, -100 ≤ x ∧ x ≤ 100) ∧ adj hp h = true := by
  unfold heightsB at hh
  rw [Bool.and_eq_true, Bool.and_eq_true, wth_iff, allW_iff] at hh
  exact ⟨by omega, by omega, hh.2.1, hh.2.2⟩
theorem gain_w {h a b : List Int} (hh : heightsB h = true) (ha : Lst a) (hb : Lst b) : wrap64 (wrap64 (dot h a) - wrap64 (dot h b)) = dot h a - dot h b := by
  obtain ⟨h1, h2, h3, h4⟩ := heightsB_parts hh
  have p := dot_h_bound h a h3 ha.2.2
  have q := dot_h_bound h b h3 hb.2.2
  rw [w64 (x := dot h a) (by omega) (by omega), w64 (x := dot h b) (by omega) (by omega), w64 (by omega) (by omega)]
theorem gain_line {h a b : List Int} (hh : heightsB h = true) (ha : Lst a) (hb : Lst b) (hl : h.length = a.length) (hl2 : a.length = b.length) (hs : a.sum = b.sum) : dot h a - dot h b ≤ lineDist a b := by
  obtain ⟨h1, h2, h3, h4⟩ := heightsB_parts hh
  have := gain_le h 0 a b h4 (by omega) hl (by omega) (by omega)
  unfold lineDist
  omega
theorem best_parts {a b : List Int} (ha : Lst a) (hl : a.length = b.length) (hs : a.sum = b.sum) :
    let h := heightsFrom (dsums 0 a b) 0
    heightsB h = true ∧ h.length = a.length ∧ dot h a - dot h b = lineDist a b ∧ h.getD (h.length - 1) 0 = 0 := by
  have e : heightsFrom (dsums 0 a b) 0 = heightsGo (dsums 0 a b) := by unfold heightsFrom; rw [List.drop_zero]
  have l1 := heightsGo_len (dsums 0 a b)
  have l2 := dsums_length 0 a b hl
  have h1 := ha.1
  have h2 := ha.2.1
  obtain ⟨p, q⟩ := heightsGo_bound (dsums 0 a b)
  show heightsB (heightsFrom (dsums 0 a b) 0) = true ∧ _
  rw [e]
  refine ⟨?_, by omega, ?_, ?_⟩
  · unfold heightsB
    rw [Bool.and_eq_true, Bool.and_eq_true, wth_iff, allW_iff]
    exact ⟨by omega, fun x hx => by have := p x hx; omega, q⟩
  · have := gain_best 0 a b (by omega) hl (by omega)
    unfold lineDist
    omega
  · rw [l1]; exact heightsGo_zero _ (by omega)

/-! ### tables and weights -/
theorem ext_getD : ∀ {l m : List Int}, l.length = m.length → (∀ i, i < l.length → l.getD i 0 = m.getD i 0) → l = m
  | [], [], _, _ => rfl
  | [], _ :: _, h, _ => absurd h (by simp)
  | _ :: _, [], h, _ => absurd h (by simp)
  | x :: l, y :: m, h, hi => by
    have h0 : x = y := by simpa using hi 0 (by simp)
    have h1 : l = m := ext_getD (by simpa using h) fun i hl => by simpa using hi (i + 1) (by simpa using hl)
    rw [h0, h1]
theorem conv3_iff : ∀ l : List Int, conv3 l = true ↔ ∀ i, i + 2 < l.length → 2 * l.getD (i + 1) 0 ≤ l.getD i 0 + l.getD (i + 2) 0
  | [] => ⟨fun _ i h => absurd h (by simp), fun _ => rfl⟩
  | [x] => ⟨fun _ i h => absurd h (by simp), fun _ => rfl⟩
  | [x, y] => ⟨fun _ i h => absurd h (by simp), fun _ => rfl⟩
  | x :: y :: z :: t => by
    have ih := conv3_iff (y :: z :: t)
    rw [conv3, Bool.and_eq_true, decide_eq_true_eq, ih]
    constructor
    · rintro ⟨h0, h1⟩ i hi
      cases i with
      | zero => simpa using h0
      | succ i =>
        have := h1 i (by simp only [List.length_cons] at hi ⊢; omega)
        simpa using this
    · intro h
      refine ⟨by simpa using h 0 (by simp), fun i hi => ?_⟩
      have := h (i + 1) (by simp only [List.length_cons] at hi ⊢; omega)
      simpa using this
theorem sd3_length : ∀ l : List Int, (sd3 l).length = l.length - 2
  | [] => rfl
  | [x] => rfl
  | [x, y] => rfl
  | x :: y :: z :: t => by
    have ih := sd3_length (y :: z :: t)
    simp only [sd3, List.length_cons] at ih ⊢
    omega
theorem sd3_get : ∀ (l : List Int) (i : Nat), i + 2 < l.length → (sd3 l).getD i 0 = l.getD (i + 2) 0 - 2 * l.getD (i + 1) 0 + l.getD i 0
  | [], i, h => absurd h (by simp)
  | [x], i, h => absurd h (by simp)
  | [x, y], i, h => absurd h (by simp)
  | x :: y :: z :: t, 0, _ => by simp [sd3]
  | x :: y :: z :: t, i + 1, h => by
    have ih := sd3_get (y :: z :: t) i (by simp only [List.length_cons] at h ⊢; omega)
    simp only [sd3, List.getD_cons_succ] at ih ⊢
    exact ih
theorem thrGo_S1 : ∀ (l : List Int) (n i : Nat), thrGo l n i = S1 (fun j => l.getD j 0 * max 0 ((n : Int) - ((i + j : Nat) : Int))) l.length
  | [], n, i => rfl
  | x :: t, n, i => by
    have ih := thrGo_S1 t n (i + 1)
    rw [thrGo, ih, List.length_cons, S1_shift]
    have e : S1 (fun j => (x :: t).getD (j + 1) 0 * max 0 ((n : Int) - ((i + (j + 1) : Nat) : Int))) t.length = S1 (fun j => t.getD j 0 * max 0 ((n : Int) - ((i + 1 + j : Nat) : Int))) t.length := S1_congr _ fun j _ => by
      rw [List.getD_cons_succ, show ((i + (j + 1) : Nat) : Int) = ((i + 1 + j : Nat) : Int) by omega]
    rw [e, List.getD_cons_zero, show ((i + 0 : Nat) : Int) = (i : Int) by omega]
theorem S1_pick (g : Nat → Int) (m : Nat) : ∀ n, S1 (fun j => if j = m then g j else 0) n = if m < n then g m else 0
  | 0 => by simp [S1]
  | n + 1 => by
    rw [S1, S1_pick g m n]
    by_cases h : n = m
    · subst h
      rw [if_neg (by omega), if_pos rfl, if_pos (by omega)]; omega
    · rw [if_neg h]
      by_cases c : m < n
      · rw [if_pos c, if_pos (by omega)]; omega
      · rw [if_neg c, if_neg (by omega)]; rfl
theorem sd_thr {w : List Int} (hl : w.length = 60) (t : Nat) (ht : t < 59) : sd (fun n => thrGo w n 0) t = w.getD (t + 1) 0 := by
  unfold sd
  simp only [thrGo_S1, Nat.zero_add, hl]
  have e : S1 (fun j => w.getD j 0 * max 0 (((t + 1 + 1 : Nat) : Int) - (j : Int))) 60 - 2 * S1 (fun j => w.getD j 0 * max 0 (((t + 1 : Nat) : Int) - (j : Int))) 60 + S1 (fun j => w.getD j 0 * max 0 ((t : Int) - (j : Int))) 60 = S1 (fun j => if j = t + 1 then w.getD j 0 else 0) 60 := by
    have e1 : S1 (fun j => w.getD j 0 * max 0 (((t + 1 + 1 : Nat) : Int) - (j : Int))) 60 + S1 (fun j => w.getD j 0 * max 0 ((t : Int) - (j : Int))) 60 = S1 (fun j => if j = t + 1 then w.getD j 0 else 0) 60 + 2 * S1 (fun j => w.getD j 0 * max 0 (((t + 1 : Nat) : Int) - (j : Int))) 60 := by
      rw [← S1_mul, ← S1_add, ← S1_add]
      refine S1_congr _ fun j _ => ?_
      by_cases c : j = t + 1
      · rw [if_pos c, c, show max 0 (((t + 1 + 1 : Nat) : Int) - ((t + 1 : Nat) : Int)) = 1 by omega, show max 0 ((t : Int) - ((t + 1 : Nat) : Int)) = 0 by omega, show max 0 (((t + 1 : Nat) : Int) - ((t + 1 : Nat) : Int)) = 0 by omega]; omega
      · rw [if_neg c]
        by_cases d : j ≤ t
        · rw [show max 0 (((t + 1 + 1 : Nat) : Int) - (j : Int)) = max 0 (((t + 1 : Nat) : Int) - (j : Int)) + 1 by omega, show max 0 ((t : Int) - (j : Int)) = max 0 (((t + 1 : Nat) : Int) - (j : Int)) - 1 by omega, Int.mul_add, Int.mul_sub]; omega
        · rw [show max 0 (((t + 1 + 1 : Nat) : Int) - (j : Int)) = 0 by omega, show max 0 ((t : Int) - (j : Int)) = 0 by omega, show max 0 (((t + 1 : Nat) : Int) - (j : Int)) = 0 by omega]; omega
    omega
  rw [e, S1_pick (fun j => w.getD j 0), if_pos (by omega)]
theorem tabFrom_get (w : List Int) : ∀ (d n i : Nat), i < d → (tabFrom w n d).getD i 0 = thrGo w (n + i) 0
  | 0, _, _, h => absurd h (by omega)
  | d + 1, n, 0, _ => by simp [tabFrom]
  | d + 1, n, i + 1, h => by
    rw [tabFrom, List.getD_cons_succ, tabFrom_get w d (n + 1) i (by omega), show n + 1 + i = n + (i + 1) by omega]
theorem thr_zero (w : List Int) : thrGo w 0 0 = 0 := by
  rw [thrGo_S1]
  have e : S1 (fun j => w.getD j 0 * max 0 (((0 : Nat) : Int) - ((0 + j : Nat) : Int))) w.length = S1 (fun _ => 0) w.length := S1_congr _ fun j _ => by
    rw [show max 0 (((0 : Nat) : Int) - ((0 + j : Nat) : Int)) = 0 by omega, Int.mul_zero]
  rw [e, S1_zero]
theorem thr_one {w : List Int} (hl : w.length = 60) : thrGo w 1 0 = w.getD 0 0 := by
  rw [thrGo_S1]
  have e : S1 (fun j => w.getD j 0 * max 0 (((1 : Nat) : Int) - ((0 + j : Nat) : Int))) w.length = S1 (fun j => if j = 0 then w.getD j 0 else 0) w.length := S1_congr _ fun j _ => by
    by_cases c : j = 0
    · rw [if_pos c, c, show max 0 (((1 : Nat) : Int) - ((0 + 0 : Nat) : Int)) = 1 by omega, Int.mul_one]
    · rw [if_neg c, show max 0 (((1 : Nat) : Int) - ((0 + j : Nat) : Int)) = 0 by omega, Int.mul_zero]
  rw [e, S1_pick (fun j => w.getD j 0), if_pos (by omega)]
theorem getD_mem {l : List Int} {i : Nat} (h : i < l.length) : l.getD i 0 ∈ l := by rw [getD_lt h]; exact List.getElem_mem h
/-- The weights of a table that weights made are these. -/
theorem wts_tab {w : List Int} (h : thrB w = true) : wtsB (tabFrom w 0 61) = true ∧ wts (tabFrom w 0 61) = w := by
  unfold thrB at h
  rw [Bool.and_eq_true, decide_eq_true_eq, allW_iff] at h
  obtain ⟨hl, hw⟩ := h
  have hl : w.length = 60 := by omega
  have len := tabFrom_len w 61 0
  have g : ∀ i, i < 61 → (tabFrom w 0 61).getD i 0 = thrGo w i 0 := fun i hi => by rw [tabFrom_get w 61 0 i hi, Nat.zero_add]
  have s : ∀ t, t < 59 → (tabFrom w 0 61).getD (t + 2) 0 - 2 * (tabFrom w 0 61).getD (t + 1) 0 + (tabFrom w 0 61).getD t 0 = w.getD (t + 1) 0 := fun t ht => by
    rw [g _ (by omega), g _ (by omega), g _ (by omega)]
    exact sd_thr hl t ht
  constructor
  · unfold wtsB
    rw [Bool.and_eq_true, Bool.and_eq_true, Bool.and_eq_true, decide_eq_true_eq, decide_eq_true_eq, conv3_iff]
    refine ⟨tab_ok hw, fun i hi => ?_, ?_, ?_⟩
    · have h1 := s i (by omega)
      have h2 := (hw _ (getD_mem (l := w) (i := i + 1) (by omega))).1
      omega
    · rw [g 0 (by omega), thr_zero]
    · rw [g 1 (by omega), thr_one hl]
      exact (hw _ (getD_mem (by omega))).1
  · unfold wts
    apply ext_getD
    · rw [List.length_cons, sd3_length, len, hl]
    · intro i hi
      cases i with
      | zero => rw [List.getD_cons_zero, g 1 (by omega), thr_one hl]
      | succ i =>
        rw [List.length_cons, sd3_length, len] at hi
        rw [List.getD_cons_succ, sd3_get _ i (by omega)]
        exact s i (by omega)
/-- The table that a table's weights make is this one. -/
theorem tab_wts {g : List Int} (h : wtsB g = true) : tabFrom (wts g) 0 61 = g := by
  unfold wtsB tableB at h
  rw [Bool.and_eq_true, Bool.and_eq_true, Bool.and_eq_true, Bool.and_eq_true, decide_eq_true_eq, decide_eq_true_eq] at h
  obtain ⟨⟨hl, _⟩, _, h0, _⟩ := h
  have hl : g.length = 61 := by omega
  apply ext_getD
  · rw [tabFrom_len, hl]
  · intro i hi
    rw [tabFrom_len] at hi
    rw [tabFrom_get _ 61 0 i hi, Nat.zero_add, thrGo_S1]
    have m := made_of (fun n => g.getD n 0) i (by omega)
    simp only [h0] at m
    rw [show g.getD i 0 = 0 + (g.getD 1 0 - 0) * (i : Int) + S1 (fun t => sd (fun n => g.getD n 0) t * max 0 ((i : Int) - ((t + 1 : Nat) : Int))) 59 from m]
    have hln : (wts g).length = 59 + 1 := by unfold wts; rw [List.length_cons, sd3_length, hl]
    rw [hln, S1_shift]
    have e : S1 (fun j => (wts g).getD (j + 1) 0 * max 0 ((i : Int) - ((0 + (j + 1) : Nat) : Int))) 59 = S1 (fun t => sd (fun n => g.getD n 0) t * max 0 ((i : Int) - ((t + 1 : Nat) : Int))) 59 := S1_congr _ fun j hj => by
      have e1 : (wts g).getD (j + 1) 0 = sd (fun n => g.getD n 0) j := by
        unfold wts
        rw [List.getD_cons_succ, sd3_get g j (by omega)]
        rfl
      rw [e1, show ((0 + (j + 1) : Nat) : Int) = ((j + 1 : Nat) : Int) by omega]
    rw [e]
    have e2 : (wts g).getD 0 0 = g.getD 1 0 := rfl
    have e3 : (g.getD 1 0 - 0) * (i : Int) = g.getD 1 0 * i := by rw [Int.sub_zero]
    rw [e2, show max 0 ((i : Int) - ((0 + 0 : Nat) : Int)) = (i : Int) by omega]
    omega
theorem table_sd {g : List Int} (ht : tableB g = true) (hc : conv3 g = true) : ∀ t, t < 59 → 0 ≤ sd (fun n => g.getD n 0) t := by
  intro t h
  unfold tableB at ht
  rw [Bool.and_eq_true, decide_eq_true_eq] at ht
  have := (conv3_iff g).1 hc t (by omega)
  show 0 ≤ g.getD (t + 2) 0 - 2 * g.getD (t + 1) 0 + g.getD t 0
  omega
theorem over_bound {g : List Int} (ht : tableB g = true) : ∀ l : List Int, (∀ x ∈ l, 0 ≤ x ∧ x ≤ 60) → -1000000 * (l.length : Int) ≤ over (fun n => g.getD n 0) l ∧ over (fun n => g.getD n 0) l ≤ 1000000 * l.length
  | [], _ => by simp [over]
  | x :: l, h => by
    have ih := over_bound ht l fun y hy => h y (List.mem_cons_of_mem _ hy)
    have hx := h x (List.mem_cons_self ..)
    unfold tableB at ht
    rw [Bool.and_eq_true, decide_eq_true_eq, allW_iff] at ht
    have hg := ht.2 _ (getD_mem (l := g) (i := x.toNat) (by omega))
    have e : over (fun n => g.getD n 0) (x :: l) = g.getD x.toNat 0 + over (fun n => g.getD n 0) l := rfl
    rw [e, List.length_cons]
    omega
theorem over_w {g l : List Int} (ht : tableB g = true) (hl : Lst l) : wrap64 (over (fun n => g.getD n 0) l) = over (fun n => g.getD n 0) l := by
  have := over_bound ht l hl.2.2
  have := hl.2.1
  exact w64 (by omega) (by omega)
end Go.Proofs.Ytclnfaclfplpmaa.Math
