/- Plain words for the laws of this seat: rankings, excesses over thresholds, partial sums. No program in sight. -/
import Derived.Test.YtbbioadebhnfiaaMath
import Derived.Laws.BitsLemmas
namespace Go.Proofs.Ytbbioadebhnfiaa.Math
open Go.RowKit Go.Proofs.YtbbioadebhnfiaaW.PrintWords Go.Proofs.YtbbioadebhnfiaaW.PrintMore
set_option linter.unusedVariables false
set_option linter.unusedSimpArgs false

/-! ### draws: what comes is not told, only that something comes -/
def Ex {α : Type} (g : Nat → Option α) (P : α → Prop) : Prop := ∃ r, Ev g r ∧ P r
theorem Ex.now {α : Type} {r : α} {P : α → Prop} (h : P r) : Ex (fun _ => some r) P := ⟨r, Ev.now r, h⟩
theorem Ex.bind {α β : Type} {g : Nat → Option α} {f : Nat → α → Option β} {P : α → Prop} {Q : β → Prop} (h : Ex g P) (k : ∀ a, P a → Ex (fun n => f n a) Q) : Ex (fun n => (g n).bind (f n)) Q := by
  obtain ⟨a, ha, hp⟩ := h
  obtain ⟨r, hr, hq⟩ := k a hp
  exact ⟨r, Ev.bind ha hr, hq⟩
theorem Ex.succ {α : Type} {g : Nat → Option α} {P : α → Prop} (h : Ex (fun k => g (k + 1)) P) : Ex g P := by
  obtain ⟨r, hr, hp⟩ := h
  exact ⟨r, Ev.succ hr, hp⟩
theorem Ex.mono {α : Type} {g : Nat → Option α} {P Q : α → Prop} (h : Ex g P) (k : ∀ a, P a → Q a) : Ex g Q := by
  obtain ⟨r, hr, hp⟩ := h
  exact ⟨r, hr, k r hp⟩
theorem Ex.ev {α β : Type} {g : Nat → Option α} {f : Nat → α → Option β} {P : α → Prop} {b : β} (h : Ex g P) (k : ∀ a, P a → Ev (fun n => f n a) b) : Ev (fun n => (g n).bind (f n)) b := by
  obtain ⟨a, ha, hp⟩ := h
  exact Ev.bind ha (k a hp)
theorem wrapU64 (n : Int) : IntKind.u64.wrap n = n % 18446744073709551616 := by simp [IntKind.wrap, IntKind.bits, IntKind.signed]
theorem and255 (x : Int) (h0 : 0 ≤ x) (h1 : x < 18446744073709551616) : 0 ≤ wrap64 (Go.bits .and .u64 (x / 1099511627776) 255) ∧ wrap64 (Go.bits .and .u64 (x / 1099511627776) 255) ≤ 255 := by
  have h := bits_mask .u64 64 (by decide) (fun n h0 h1 => by rw [wrapU64]; omega) 8 (by decide) (x / 1099511627776) (by omega) (by omega)
  rw [show (255 : Int) = 2 ^ 8 - 1 by decide, h]
  unfold wrap64
  omega
/-- The input: bytes, no more than a slice has. -/
def Bts (c : List Int) : Prop := c.length ≤ 4611686018427387904 ∧ ∀ x ∈ c, 0 ≤ x ∧ x ≤ 255
theorem Bts.of {c : List Int} (h : c.length * 1 ≤ 140737488351232) (hw : ∀ x ∈ c, (Lit.int .u8 x).wf = true) : Bts c := ⟨by omega, fun x hx => by
  have := hw x hx
  simp only [Lit.wf, Bool.and_eq_true, decide_eq_true_eq] at this
  have e1 : IntKind.u8.min = 0 := by decide
  have e2 : IntKind.u8.max = 255 := by decide
  omega⟩
theorem rd_code {c : List Int} (h : Bts c) {i : Int} (h0 : 0 ≤ i) (h1 : i < c.length) : 0 ≤ rd c i ∧ rd c i ≤ 255 := by
  have hi : i.toNat < c.length := by omega
  have e : rd c i = c[i.toNat] := by
    unfold rd
    rw [List.getD_eq_getElem?_getD, List.getElem?_eq_getElem hi, Option.getD_some]
  rw [e]
  exact h.2 _ (List.getElem_mem hi)
/-- Where the cursor stands: at most at b. -/
def At (a b : Int) : Prop := 0 ≤ a ∧ a ≤ b

theorem getD_lt {l : List Int} {i : Nat} (h : i < l.length) : l.getD i 0 = l[i] := by simp [List.getD_eq_getElem?_getD, h]
theorem getD_mem {l : List Int} {i : Nat} (h : i < l.length) : l.getD i 0 ∈ l := by rw [getD_lt h]; exact List.getElem_mem h
def S1 (f : Nat → Int) : Nat → Int
  | 0 => 0
  | n + 1 => S1 f n + f n
theorem S1_succ (f : Nat → Int) (n : Nat) : S1 f (n + 1) = S1 f n + f n := rfl
theorem S1_congr {f g : Nat → Int} : ∀ n, (∀ i, i < n → f i = g i) → S1 f n = S1 g n
  | 0, _ => rfl
  | n + 1, h => by rw [S1, S1, S1_congr n fun i hi => h i (by omega), h n (by omega)]
theorem S1_add (f g : Nat → Int) : ∀ n, S1 (fun i => f i + g i) n = S1 f n + S1 g n
  | 0 => rfl
  | n + 1 => by rw [S1, S1, S1, S1_add f g n]; omega
theorem S1_mul (c : Int) (f : Nat → Int) : ∀ n, S1 (fun i => c * f i) n = c * S1 f n
  | 0 => by simp [S1]
  | n + 1 => by rw [S1, S1, S1_mul c f n, Int.mul_add]
theorem S1_le {f g : Nat → Int} : ∀ n, (∀ i, i < n → f i ≤ g i) → S1 f n ≤ S1 g n
  | 0, _ => Int.le_refl _
  | n + 1, h => by
    have := S1_le n fun i hi => h i (by omega)
    have := h n (by omega)
    rw [S1, S1]; omega
theorem S1_zero : ∀ n, S1 (fun _ => 0) n = 0
  | 0 => rfl
  | n + 1 => by rw [S1, S1_zero n]; rfl
theorem S1_shift (f : Nat → Int) : ∀ n, S1 f (n + 1) = f 0 + S1 (fun i => f (i + 1)) n
  | 0 => by simp [S1]
  | n + 1 => by rw [S1, S1_shift f n, S1]; omega
theorem perm_sum {a b : List Int} (h : List.Perm a b) : a.sum = b.sum := by
  induction h with
  | nil => rfl
  | cons x _ ih => simp only [List.sum_cons, ih]
  | swap x y l => simp only [List.sum_cons]; omega
  | trans _ _ h1 h2 => exact h1.trans h2
theorem exc_perm {a b : List Int} (h : List.Perm a b) (t : Int) : exc a t = exc b t := perm_sum (h.map _)
theorem exc_cons (x : Int) (l : List Int) (t : Int) : exc (x :: l) t = max 0 (x - t) + exc l t := rfl
theorem exc_nonneg : ∀ (l : List Int) (t : Int), 0 ≤ exc l t
  | [], _ => by simp [exc]
  | x :: l, t => by have := exc_nonneg l t; rw [exc_cons]; omega
/-- The excess is at least what the first numbers have more. -/
theorem take_le_exc : ∀ (l : List Int) (t : Int) (k : Nat), k ≤ l.length → (l.take k).sum - k * t ≤ exc l t
  | l, t, 0, _ => by have := exc_nonneg l t; simp; omega
  | [], t, k + 1, h => absurd h (by simp)
  | x :: l, t, k + 1, h => by
    have ih := take_le_exc l t k (by simpa using h)
    rw [List.take_succ_cons, List.sum_cons, exc_cons]
    have e : ((k + 1 : Nat) : Int) * t = k * t + t := by rw [Int.natCast_add, Int.add_mul]; omega
    omega
theorem exc_low : ∀ (l : List Int) (t : Int), (∀ x ∈ l, x ≤ t) → exc l t = 0
  | [], _, _ => by simp [exc]
  | x :: l, t, h => by
    have := h x (List.mem_cons_self ..)
    rw [exc_cons, exc_low l t fun y hy => h y (List.mem_cons_of_mem _ hy)]
    omega
theorem exc_at : ∀ (l : List Int) (t : Int) (k : Nat), k ≤ l.length → (∀ x ∈ l.take k, t ≤ x) → (∀ x ∈ l.drop k, x ≤ t) → exc l t = (l.take k).sum - k * t
  | l, t, 0, _, _, h => by rw [exc_low l t (by simpa using h)]; simp
  | [], t, k + 1, h, _, _ => absurd h (by simp)
  | x :: l, t, k + 1, h, h1, h2 => by
    have ih := exc_at l t k (by simpa using h) (fun y hy => h1 y (by rw [List.take_succ_cons]; exact List.mem_cons_of_mem _ hy)) (fun y hy => h2 y (by rw [List.drop_succ_cons]; exact hy))
    have hx := h1 x (by rw [List.take_succ_cons]; exact List.mem_cons_self ..)
    rw [List.take_succ_cons, List.sum_cons, exc_cons, ih]
    have e : ((k + 1 : Nat) : Int) * t = k * t + t := by rw [Int.natCast_add, Int.add_mul]; omega
    omega
theorem cut_ex : ∀ (l : List Int) (t : Int), Desc l → ∃ k, k ≤ l.length ∧ (∀ x ∈ l.take k, t ≤ x) ∧ (∀ x ∈ l.drop k, x ≤ t)
  | [], t, _ => ⟨0, by simp, by simp, by simp⟩
  | y :: l, t, h => by
    have h' := List.pairwise_cons.1 h
    by_cases c : y ≤ t
    · refine ⟨0, by simp, by simp, fun x hx => ?_⟩
      rw [List.drop_zero] at hx
      rcases List.mem_cons.1 hx with e | e
      · omega
      · have := h'.1 x e; omega
    · obtain ⟨k, hk, h1, h2⟩ := cut_ex l t h'.2
      refine ⟨k + 1, by simpa using hk, fun x hx => ?_, fun x hx => ?_⟩
      · rw [List.take_succ_cons] at hx
        rcases List.mem_cons.1 hx with e | e
        · omega
        · exact h1 x e
      · rw [List.drop_succ_cons] at hx; exact h2 x hx
/-- The first list's partial sums are at most the second's. -/
def subB (a b : List Int) : Bool := leAll (psums 0 (rankD a)) (psums 0 (rankD b))
theorem subB_iff {a b : List Int} (hl : a.length = b.length) : subB a b = true ↔ ∀ k, k ≤ a.length → ((rankD a).take k).sum ≤ ((rankD b).take k).sum := by
  unfold subB
  rw [leAll_iff _ _ (by simp only [psums_length, rankD_length]; exact hl)]
  simp only [psums_get, Int.zero_add, psums_length, rankD_length]
  constructor
  · intro h k hk
    cases k with
    | zero => simp
    | succ k => exact h k (by omega) (by omega)
  · intro h i hi hj
    exact h (i + 1) (by omega)
theorem take_desc {l : List Int} (h : Desc l) {j : Nat} (hj : j < l.length) : (∀ x ∈ l.take (j + 1), l[j] ≤ x) ∧ (∀ x ∈ l.drop (j + 1), x ≤ l[j]) := by
  constructor
  · intro x hx
    obtain ⟨i, hi, rfl⟩ := List.getElem_of_mem hx
    rw [List.getElem_take]
    rw [List.length_take] at hi
    by_cases c : i = j
    · subst c; exact Int.le_refl _
    · exact desc_le h (by omega) hj
  · intro x hx
    obtain ⟨i, hi, rfl⟩ := List.getElem_of_mem hx
    rw [List.length_drop] at hi
    rw [List.getElem_drop]
    exact desc_le h (by omega) (by omega)
/-- A list's partial sums are at most another one's exactly if over no threshold it has a greater excess. -/
theorem subB_exc {a b : List Int} (hb : Lst b) (hl : a.length = b.length) : subB a b = true ↔ ∀ t : Nat, t ≤ 60 → exc a t ≤ exc b t := by
  rw [subB_iff hl]
  have la := rankD_length a
  have lb := rankD_length b
  constructor
  · intro h t ht
    obtain ⟨k, hk, h1, h2⟩ := cut_ex (rankD a) t (rankD_desc a)
    have e := exc_at (rankD a) t k hk h1 h2
    have f := take_le_exc (rankD b) t k (by omega)
    rw [exc_perm (rankD_perm a)] at e
    rw [exc_perm (rankD_perm b)] at f
    have := h k (by omega)
    omega
  · intro h k hk
    cases k with
    | zero => simp
    | succ j =>
      have hj : j < (rankD b).length := by omega
      have g := (rankD_lst hb).get hj
      obtain ⟨h1, h2⟩ := take_desc (rankD_desc b) hj
      have e := exc_at (rankD b) ((rankD b)[j]) (j + 1) hj h1 h2
      have f := take_le_exc (rankD a) ((rankD b)[j]) (j + 1) (by omega)
      have t := h ((rankD b)[j]).toNat (by omega)
      rw [show (((rankD b)[j]).toNat : Int) = (rankD b)[j] by omega] at t
      rw [exc_perm (rankD_perm b)] at e
      rw [exc_perm (rankD_perm a)] at f
      omega
def majB (a b : List Int) : Bool := decide (a.length = b.length) && (decide (a.sum = b.sum) && subB a b)

/-! ### Newton's identities -/
def CV (f h : Nat → Int) (k : Nat) : Int := S1 (fun i => f i * h (k - i)) (k + 1)
theorem CV_step (f h g : Nat → Int) (x : Int) (h0 : g 0 = h 0) (hs : ∀ j, h (j + 1) = g (j + 1) + x * h j) (k : Nat) : CV f h (k + 1) = CV f g (k + 1) + x * CV f h k := by
  unfold CV
  rw [S1_succ (fun i => f i * h (k + 1 - i)) (k + 1), S1_succ (fun i => f i * g (k + 1 - i)) (k + 1), ← S1_mul]
  simp only [Nat.sub_self, h0]
  have e : S1 (fun i => f i * h (k + 1 - i)) (k + 1) = S1 (fun i => f i * g (k + 1 - i) + x * (f i * h (k - i))) (k + 1) := S1_congr _ fun i hi => by
    rw [show k + 1 - i = (k - i) + 1 by omega, hs, Int.mul_add, Int.mul_left_comm]
  rw [e, S1_add]
  omega
theorem CV_shift (f p h : Nat → Int) (x : Int) (h0 : f 0 = p 0) (hs : ∀ j, f (j + 1) = p (j + 1) - x * p j) (k : Nat) : CV f h (k + 1) = CV p h (k + 1) - x * CV p h k := by
  unfold CV
  rw [S1_shift, S1_shift (fun i => p i * h (k + 1 - i)), h0, ← S1_mul]
  have e : S1 (fun i => f (i + 1) * h (k + 1 - (i + 1))) (k + 1) = S1 (fun i => p (i + 1) * h (k + 1 - (i + 1)) + -1 * (x * (p i * h (k - i)))) (k + 1) := S1_congr _ fun i hi => by
    rw [hs, show k + 1 - (i + 1) = k - i by omega, Int.sub_mul, Int.mul_assoc]; omega
  rw [e, S1_add, S1_mul]
  omega
def sg : Nat → Int
  | 0 => 1
  | n + 1 => -(sg n)
theorem chZ_zero (ag : Bool) (l : List Int) : chZ ag 0 l = 1 := by cases l <;> simp [chZ]
theorem newton_e (l : List Int) : ∀ k, CV (fun i => sg i * chZ false i l) (fun i => chZ true i l) (k + 1) = 0 := by
  induction l with
  | nil =>
    intro k
    unfold CV
    rw [S1_shift]
    have e : S1 (fun i => sg (i + 1) * chZ false (i + 1) [] * chZ true (k + 1 - (i + 1)) []) (k + 1) = S1 (fun _ => 0) (k + 1) := S1_congr _ fun i _ => by simp [chZ]
    rw [e, S1_zero]
    simp [chZ]
  | cons x t ih =>
    intro k
    rw [CV_shift _ (fun i => sg i * chZ false i t) _ x (by simp [chZ_zero]) (fun j => by
      show sg (j + 1) * chZ false (j + 1) (x :: t) = sg (j + 1) * chZ false (j + 1) t - x * (sg j * chZ false j t)
      have e : chZ false (j + 1) (x :: t) = chZ false (j + 1) t + x * chZ false j t := by rw [chZ]; simp
      have e2 : sg (j + 1) = -(sg j) := rfl
      rw [e, Int.mul_add, e2, Int.neg_mul, Int.neg_mul, Int.mul_left_comm]; omega)]
    rw [CV_step _ _ (fun i => chZ true i t) x (by simp [chZ_zero]) (fun j => by
      show chZ true (j + 1) (x :: t) = chZ true (j + 1) t + x * chZ true j (x :: t)
      rw [chZ]; simp)]
    rw [ih k]; omega
def pwS (l : List Int) : Nat → Int
  | 0 => 0
  | n + 1 => (l.map fun x => x ^ (n + 1)).sum
def pwX (x : Int) : Nat → Int
  | 0 => 0
  | n + 1 => x ^ (n + 1)
theorem CV_pwX (x : Int) (h : Nat → Int) (k : Nat) : CV (pwX x) h (k + 1) = x * (h k + CV (pwX x) h k) := by
  unfold CV
  rw [S1_shift, S1_shift (fun i => pwX x i * h (k - i))]
  have e : S1 (fun i => pwX x (i + 1) * h (k + 1 - (i + 1))) (k + 1) = S1 (fun i => x * (x ^ i * h (k - i))) (k + 1) := S1_congr _ fun i _ => by
    show x ^ (i + 1) * _ = _
    rw [show k + 1 - (i + 1) = k - i by omega, Int.pow_succ, Int.mul_comm (x ^ i) x, Int.mul_assoc]
  rw [e, S1_mul, S1_shift]
  show 0 * _ + _ = x * (_ + (0 * _ + S1 (fun i => x ^ (i + 1) * h (k - (i + 1))) k))
  simp
theorem CV_add (f g h : Nat → Int) (k : Nat) : CV (fun i => f i + g i) h k = CV f h k + CV g h k := by
  unfold CV
  rw [← S1_add]
  exact S1_congr _ fun i _ => Int.add_mul _ _ _
theorem newton_p (l : List Int) : ∀ k : Nat, CV (pwS l) (fun i => chZ true i l) k = k * chZ true k l := by
  induction l with
  | nil =>
    intro k
    unfold CV
    have e : S1 (fun i => pwS [] i * chZ true (k - i) []) (k + 1) = S1 (fun _ => 0) (k + 1) := S1_congr _ fun i _ => by cases i <;> simp [pwS]
    rw [e, S1_zero]
    cases k <;> simp [chZ]
  | cons x t ih =>
    intro k
    have ef : pwS (x :: t) = fun i => pwX x i + pwS t i := by
      funext i
      cases i with
      | zero => rfl
      | succ i => simp [pwS, pwX]
    rw [ef]
    have hs : ∀ j, chZ true (j + 1) (x :: t) = chZ true (j + 1) t + x * chZ true j (x :: t) := fun j => by rw [chZ]; simp
    induction k with
    | zero => simp [CV, S1, pwX, pwS]
    | succ k ihk =>
      rw [CV_add] at ihk ⊢
      rw [CV_pwX, CV_step _ _ (fun i => chZ true i t) x (by simp [chZ_zero]) hs, ih (k + 1), hs k]
      obtain ⟨A, hA⟩ : ∃ A, A = CV (pwX x) (fun i => chZ true i (x :: t)) k := ⟨_, rfl⟩
      obtain ⟨B, hB⟩ : ∃ B, B = CV (pwS t) (fun i => chZ true i (x :: t)) k := ⟨_, rfl⟩
      rw [← hA, ← hB] at ihk ⊢
      have e1 : x * (chZ true k (x :: t) + A) = x * chZ true k (x :: t) + x * A := Int.mul_add _ _ _
      have e2 : x * A + x * B = (k : Int) * (x * chZ true k (x :: t)) := by rw [← Int.mul_add, ihk, Int.mul_left_comm]
      have e3 : ((k + 1 : Nat) : Int) * (chZ true (k + 1) t + x * chZ true k (x :: t)) = ((k + 1 : Nat) : Int) * chZ true (k + 1) t + ((k : Int) * (x * chZ true k (x :: t)) + x * chZ true k (x :: t)) := by
        rw [Int.mul_add]
        have : ((k + 1 : Nat) : Int) * (x * chZ true k (x :: t)) = (k : Int) * (x * chZ true k (x :: t)) + x * chZ true k (x :: t) := by
          rw [Int.natCast_add, Int.add_mul]; omega
        omega
      rw [e3, e1]
      omega
theorem chZ_long : ∀ (l : List Int) (k : Nat), l.length < k → chZ false k l = 0
  | [], 0, h => absurd h (by simp)
  | [], k + 1, _ => by simp [chZ]
  | x :: t, 0, h => absurd h (by simp)
  | x :: t, k + 1, h => by
    have e : chZ false (k + 1) (x :: t) = chZ false (k + 1) t + x * chZ false k t := by rw [chZ]; simp
    simp only [List.length_cons] at h
    rw [e, chZ_long t (k + 1) (by omega), chZ_long t k (by omega)]; simp

end Go.Proofs.Ytbbioadebhnfiaa.Math
