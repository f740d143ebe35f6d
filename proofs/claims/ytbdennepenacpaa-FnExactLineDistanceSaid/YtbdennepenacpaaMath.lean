/- Plain words for the laws of this seat: numbers that don't wrap, loops that go up, lists of small whole numbers. No program in sight. -/
import Derived.Test.YtbdennepenacpaaWWords
import Derived.Test.YtbdennepenacpaaWMore
import Derived.Test.YtbdennepenacpaaWSized
namespace Go.Proofs.Ytbdennepenacpaa.PrintWords
/-- The printed rows name it so. -/
abbrev sized_ints := @Go.Proofs.YtbdennepenacpaaW.PrintWords.sized_ints
end Go.Proofs.Ytbdennepenacpaa.PrintWords
namespace Go.Proofs.YtbdennepenacpaaW.PrintWords
/-! ### rounds that come to an answer -/
theorem Ev.succ {α : Type} {g : Nat → Option α} {r : α} (h : Ev (fun k => g (k + 1)) r) : Ev g r := Ev.step (fun _ => rfl) h
theorem Ev.ret {α β : Type} {g : Nat → Option α} {a : α} {f : α → β} (h : Ev g a) : Ev (fun k => (g k).bind fun t => some (f t)) (f a) :=
  Ev.bind (f := fun _ t => some (f t)) h (Ev.now _)
theorem Ev.and {g h : Nat → Option Bool} {a b : Bool} (hg : Ev g a) (hh : a = true → Ev h b) : Ev (fun k => (g k).bind fun t => if t = true then h k else some false) (a && b) := by
  refine Ev.bind (f := fun k t => if t = true then h k else some false) hg ?_
  cases a with
  | true => simpa using hh rfl
  | false => simpa using Ev.now false
theorem Ev.andS {h : Nat → Option Bool} {a b : Bool} (hh : a = true → Ev h b) : Ev (fun k => if a = true then h k else some false) (a && b) := by
  cases a with
  | true => simpa using hh rfl
  | false => simpa using Ev.now false
theorem Ev.eqv {α : Type} {g : Nat → Option α} {r q : α} (h : Ev g r) (e : r = q) : Ev g q := e ▸ h
end Go.Proofs.YtbdennepenacpaaW.PrintWords
namespace Go.Proofs.Ytbdennepenacpaa.Math
open Go.RowKit Go.Proofs.YtbdennepenacpaaW.PrintWords Go.Proofs.YtbdennepenacpaaW.PrintMore
set_option linter.unusedVariables false
set_option linter.unusedSimpArgs false

/-! ### numbers -/
def InR (x : Int) : Prop := -9223372036854775808 ≤ x ∧ x ≤ 9223372036854775807
theorem w64 {x : Int} (h0 : -9223372036854775808 ≤ x) (h1 : x ≤ 9223372036854775807) : wrap64 x = x := by unfold wrap64; omega
theorem wR {x : Int} (h : InR x) : wrap64 x = x := w64 h.1 h.2
theorem inR_wrap (x : Int) : InR (wrap64 x) := by unfold InR wrap64; omega
theorem inR_0 : InR 0 := ⟨by omega, by omega⟩
theorem wrap_add (a b : Int) : wrap64 (wrap64 a + b) = wrap64 (a + b) := by unfold wrap64; omega
theorem wrap_add' (a b : Int) : wrap64 (a + wrap64 b) = wrap64 (a + b) := by unfold wrap64; omega
theorem wrap_wrap (a : Int) : wrap64 (wrap64 a) = wrap64 a := by unfold wrap64; omega
theorem wrap_0 : wrap64 0 = 0 := by unfold wrap64; omega
theorem wnext {i n : Nat} (h : i < n) (hn : n ≤ 4611686018427387904) : wrap64 ((i : Int) + 1) = ((i + 1 : Nat) : Int) := by unfold wrap64; omega
theorem ilt {i n : Nat} (h : i < n) : ((i : Int) < (n : Int)) = True := eq_true (by omega)
theorem nlt {i n : Nat} (h : n ≤ i) : ((i : Int) < (n : Int)) = False := eq_false (by omega)
theorem inn (i : Nat) : (0 ≤ (i : Int)) = True := eq_true (by omega)
theorem ile {i n : Nat} (h : i ≤ n) : ((i : Int) ≤ (n : Int)) = True := eq_true (by omega)
theorem mx_eq (a b : Int) : mx a b = max a b := by unfold mx; omega
theorem mn_eq (a b : Int) : mn a b = min a b := by unfold mn; omega
def wth (n lo hi : Int) : Bool := decide (lo ≤ n) && decide (n ≤ hi)
theorem wth_iff {n lo hi : Int} : wth n lo hi = true ↔ lo ≤ n ∧ n ≤ hi := by simp [wth]
theorem wth_opt (n lo hi : Int) : (if n ≥ lo then some (decide (n ≤ hi)) else some false) = some (wth n lo hi) := by
  unfold wth
  by_cases h : lo ≤ n
  · rw [if_pos h]; simp [h]
  · rw [if_neg h]; simp [h]

/-! ### rounds -/
theorem down {n : Nat} {P : Nat → Prop} (hn : P n) (hs : ∀ i, i < n → P (i + 1) → P i) : ∀ i, i ≤ n → P i := by
  have key : ∀ d i, i ≤ n → n - i = d → P i := by
    intro d
    induction d with
    | zero => intro i hi h; obtain rfl : i = n := by omega
              exact hn
    | succ d ih => intro i hi h; exact hs i (by omega) (ih (i + 1) (by omega) (by omega))
  exact fun i hi => key _ i hi rfl

/-! ### lists -/
theorem rd_lt {l : List Int} {i : Nat} (h : i < l.length) : rd l (i : Int) = l[i] := by simp [rd, List.getD_eq_getElem?_getD, h]
theorem rd_get (l : List Int) (i : Nat) : rd l (i : Int) = l.getD i 0 := by simp [rd]
theorem drop_cons {α : Type} {l : List α} {i : Nat} (h : i < l.length) : l.drop i = l[i] :: l.drop (i + 1) := List.drop_eq_getElem_cons h
def allW (l : List Int) (lo hi : Int) : Bool := l.all fun x => wth x lo hi
theorem allW_iff {l : List Int} {lo hi : Int} : allW l lo hi = true ↔ ∀ x ∈ l, lo ≤ x ∧ x ≤ hi := by simp [allW, wth_iff]
def goodB (l : List Int) : Bool := wth l.length 1 8 && allW l 0 60
def Lst (l : List Int) : Prop := 1 ≤ l.length ∧ l.length ≤ 8 ∧ ∀ x ∈ l, 0 ≤ x ∧ x ≤ 60
theorem goodB_iff {l : List Int} : goodB l = true ↔ Lst l := by
  unfold goodB Lst
  rw [Bool.and_eq_true, wth_iff, allW_iff]
  constructor
  · rintro ⟨⟨a, b⟩, c⟩; exact ⟨by omega, by omega, c⟩
  · rintro ⟨a, b, c⟩; exact ⟨⟨by omega, by omega⟩, c⟩
theorem sum_bound {l : List Int} {lo hi : Int} (h : ∀ x ∈ l, lo ≤ x ∧ x ≤ hi) : l.length * lo ≤ l.sum ∧ l.sum ≤ l.length * hi := by
  induction l with
  | nil => simp
  | cons x t ih =>
    have h1 := h x (by simp)
    have h2 := ih (fun y hy => h y (by simp [hy]))
    simp only [List.sum_cons, List.length_cons]
    have e1 : ((t.length + 1 : Nat) : Int) * lo = t.length * lo + lo := by rw [Int.natCast_add, Int.add_mul]; simp
    have e2 : ((t.length + 1 : Nat) : Int) * hi = t.length * hi + hi := by rw [Int.natCast_add, Int.add_mul]; simp
    omega
theorem Lst.sum {l : List Int} (h : Lst l) : 0 ≤ l.sum ∧ l.sum ≤ 480 := by
  have := sum_bound h.2.2
  have h2 := h.2.1
  omega
theorem Lst.get {l : List Int} (h : Lst l) {i : Nat} (hi : i < l.length) : 0 ≤ l[i] ∧ l[i] ≤ 60 := h.2.2 _ (List.getElem_mem hi)
/-- Each two neighbours. -/
def adj (p : Int → Int → Bool) : List Int → Bool
  | x :: y :: t => p x y && adj p (y :: t)
  | _ => true
theorem set_take (l m : List Int) (i : Nat) (hi : i < l.length) (hm : m.length = l.length) (h : m.take i = l.take i) : (m.set i l[i]).take (i + 1) = l.take (i + 1) := by
  rw [List.take_succ_eq_append_getElem (by simpa [hm] using hi), List.take_succ_eq_append_getElem hi, List.take_set_of_le (Nat.le_refl _), h]
  simp
theorem wprev {i : Nat} (hi : i ≤ 4611686018427387904) : wrap64 (((i + 1 : Nat) : Int) - 1) = (i : Int) := by unfold wrap64; omega
theorem wrap_shift (a q : Int) : wrap64 (a + 18446744073709551616 * q) = wrap64 a := by unfold wrap64; omega
theorem wrap_ex (a : Int) : ∃ q, wrap64 a = a + 18446744073709551616 * q := ⟨-((a + 9223372036854775808) / 18446744073709551616), by unfold wrap64; omega⟩
theorem wrap_mul (a b : Int) : wrap64 (wrap64 a * b) = wrap64 (a * b) := by
  obtain ⟨q, h⟩ := wrap_ex a
  rw [h, Int.add_mul, Int.mul_assoc, wrap_shift]
theorem wrap_mul' (a b : Int) : wrap64 (a * wrap64 b) = wrap64 (a * b) := by rw [Int.mul_comm, wrap_mul, Int.mul_comm]
theorem adj_short {p : Int → Int → Bool} : ∀ {l : List Int}, l.length ≤ 1 → adj p l = true
  | [], _ => rfl
  | [_], _ => rfl
  | _ :: _ :: _, h => by simp at h
/-- Neighbours differ by at most 1. -/
def hp (x y : Int) : Bool := wth (y - x) (-1) 1
def heightsB (l : List Int) : Bool := wth l.length 1 8 && (allW l (-100) 100 && adj hp l)
/-- Each number, taken twice, is at most the sum of both neighbours. -/
def conv3 : List Int → Bool
  | x :: y :: z :: t => decide (2 * y ≤ x + z) && conv3 (y :: z :: t)
  | _ => true
theorem conv3_short : ∀ {l : List Int}, l.length ≤ 2 → conv3 l = true
  | [], _ => rfl
  | [_], _ => rfl
  | [_, _], _ => rfl
  | _ :: _ :: _ :: _, h => by simp at h
def tableB (l : List Int) : Bool := decide ((l.length : Int) = 61) && allW l (-1000000) 1000000
/-- The sum of all products of k numbers, again or not. -/
def chZ (ag : Bool) : Nat → List Int → Int
  | 0, _ => 1
  | _ + 1, [] => 0
  | k + 1, x :: t => chZ ag (k + 1) t + x * chZ ag k (if ag then x :: t else t)
termination_by k l => (k, l.length)
def argsB (l : List Int) : Bool := wth l.length 1 4 && allW l 1 9
def absd (x y : Int) : Int := max (x - y) (y - x)

theorem absd_bound {x y : Int} (hx : 0 ≤ x ∧ x ≤ 60) (hy : 0 ≤ y ∧ y ≤ 60) : 0 ≤ absd x y ∧ absd x y ≤ 60 := by unfold absd; omega
/-- The differences of all pairs, the later one with the index from i on. -/
def pairsGo (l : List Int) (i : Nat) : Nat → Int
  | 0 => 0
  | d + 1 => ((l.take i).map (absd (l.getD i 0))).sum + pairsGo l (i + 1) d
def pairsFrom (l : List Int) (i : Nat) : Int := pairsGo l i (l.length - i)
def pairsSum (l : List Int) : Int := pairsFrom l 0
theorem pairsFrom_step {l : List Int} {i : Nat} (hi : i < l.length) : pairsFrom l i = ((l.take i).map (absd l[i])).sum + pairsFrom l (i + 1) := by
  unfold pairsFrom
  rw [show l.length - i = (l.length - (i + 1)) + 1 by omega, pairsGo]
  simp [List.getD_eq_getElem?_getD, hi]
theorem pairsGo_bound {l : List Int} (h : ∀ x ∈ l, 0 ≤ x ∧ x ≤ 60) : ∀ d i, i + d ≤ l.length → i + d ≤ 8 → 0 ≤ pairsGo l i d ∧ pairsGo l i d ≤ 480 * d
  | 0, _, _, _ => by simp [pairsGo]
  | d + 1, i, h1, h2 => by
    have ih := pairsGo_bound h d (i + 1) (by omega) (by omega)
    have hx : 0 ≤ l.getD i 0 ∧ l.getD i 0 ≤ 60 := by
      have hi : i < l.length := by omega
      simp only [List.getD_eq_getElem?_getD, List.getElem?_eq_getElem hi, Option.getD_some]
      exact h _ (List.getElem_mem hi)
    have hs := sum_bound (l := (l.take i).map (absd (l.getD i 0))) (lo := 0) (hi := 60) (by
      intro z hz
      obtain ⟨y, hy, rfl⟩ := List.mem_map.1 hz
      exact absd_bound hx (h y (List.mem_of_mem_take hy)))
    simp only [List.length_map, List.length_take] at hs
    rw [pairsGo]
    omega
theorem pairsSum_bound {l : List Int} (h : Lst l) : 0 ≤ pairsSum l ∧ pairsSum l ≤ 3840 := by
  have := pairsGo_bound h.2.2 l.length 0 (by omega) (by have := h.2.1; omega)
  have := h.2.1
  unfold pairsSum pairsFrom
  rw [Nat.sub_zero]
  omega
/-- The sum of the products of numbers with the same index. -/
def dot : List Int → List Int → Int
  | x :: l, y :: m => x * y + dot l m
  | _, _ => 0
theorem dot_nil {m : List Int} : dot [] m = 0 := rfl
theorem dot_cons {x y : Int} {l m : List Int} : dot (x :: l) (y :: m) = x * y + dot l m := rfl

def fits (a b : List Int) : Bool := goodB a && (goodB b && (decide (a.length = b.length) && decide (a.sum = b.sum)))
theorem fits_iff {a b : List Int} : fits a b = true ↔ Lst a ∧ Lst b ∧ a.length = b.length ∧ a.sum = b.sum := by
  unfold fits
  rw [Bool.and_eq_true, Bool.and_eq_true, Bool.and_eq_true, goodB_iff, goodB_iff, decide_eq_true_eq, decide_eq_true_eq]
/-- The sums of the first numbers, from s on. -/
def psums (s : Int) : List Int → List Int
  | [] => []
  | x :: t => (s + x) :: psums (s + x) t
theorem psums_length (s : Int) (l : List Int) : (psums s l).length = l.length := by
  induction l generalizing s with
  | nil => rfl
  | cons x t ih => simp [psums, ih]
/-- The differences of the sums of the first numbers. -/
def dsums (s : Int) : List Int → List Int → List Int
  | x :: a, y :: b => (s + (x - y)) :: dsums (s + (x - y)) a b
  | _, _ => []
theorem dsums_length (s : Int) (a b : List Int) (h : a.length = b.length) : (dsums s a b).length = a.length := by
  induction a generalizing s b with
  | nil => cases b <;> rfl
  | cons x t ih =>
    cases b with
    | nil => simp at h
    | cons y u => simp [dsums, ih _ u (by simpa using h)]
/-- The first index, from i on, at which the first list has more. -/
def fgt (i : Nat) : List Int → List Int → Int × Bool
  | x :: a, y :: b => if x > y then ((i : Int), true) else fgt (i + 1) a b
  | _, _ => (0, false)
def fpos (i : Nat) : List Int → Int × Bool
  | x :: a => if x > 0 then ((i : Int), true) else fpos (i + 1) a
  | [] => (0, false)
theorem fgt_psums (i : Nat) (p q : Int) (a b : List Int) (h : a.length = b.length) : fgt i (psums p a) (psums q b) = fpos i (dsums (p - q) a b) := by
  induction a generalizing i p q b with
  | nil => cases b <;> rfl
  | cons x t ih =>
    cases b with
    | nil => simp at h
    | cons y u =>
      have e : p - q + (x - y) = p + x - (q + y) := by omega
      simp only [psums, dsums, fgt, fpos, e]
      rw [ih _ _ _ u (by simpa using h)]
      by_cases c : p + x > q + y
      · rw [if_pos c, if_pos (by omega)]
      · rw [if_neg c, if_neg (by omega)]
/-- The sum of all distances. -/
def sabs : List Int → List Int → Int
  | x :: a, y :: b => max (x - y) (y - x) + sabs a b
  | _, _ => 0
def sabs1 : List Int → Int
  | x :: a => max x (-x) + sabs1 a
  | [] => 0
theorem sabs_psums (p q : Int) (a b : List Int) (h : a.length = b.length) : sabs (psums p a) (psums q b) = sabs1 (dsums (p - q) a b) := by
  induction a generalizing p q b with
  | nil => cases b <;> rfl
  | cons x t ih =>
    cases b with
    | nil => simp at h
    | cons y u =>
      have e : p - q + (x - y) = p + x - (q + y) := by omega
      simp only [psums, dsums, sabs, sabs1, e]
      rw [ih _ _ u (by simpa using h)]
      congr 1
      omega
def lineDist (a b : List Int) : Int := sabs1 (dsums 0 a b)
theorem psums_bound {s lo hi : Int} {l : List Int} (hl : ∀ x ∈ l, 0 ≤ x ∧ x ≤ 60) (h0 : lo ≤ s) (h1 : s + 60 * l.length ≤ hi) : ∀ x ∈ psums s l, lo ≤ x ∧ x ≤ hi := by
  induction l generalizing s with
  | nil => intro x hx; simp [psums] at hx
  | cons y t ih =>
    have hy := hl y (by simp)
    simp only [List.length_cons] at h1
    intro x hx
    simp only [psums, List.mem_cons] at hx
    rcases hx with rfl | hx
    · omega
    · exact ih (fun z hz => hl z (by simp [hz])) (by omega) (by omega) x hx
theorem dsums_bound {s : Int} {a b : List Int} {B : Int} (ha : ∀ x ∈ a, 0 ≤ x ∧ x ≤ 60) (hb : ∀ x ∈ b, 0 ≤ x ∧ x ≤ 60) (h0 : 60 * (a.length : Int) - B ≤ s) (h1 : s + 60 * a.length ≤ B) : ∀ x ∈ dsums s a b, -B ≤ x ∧ x ≤ B := by
  induction a generalizing s b with
  | nil => intro x hx; cases b <;> simp [dsums] at hx
  | cons y t ih =>
    cases b with
    | nil => intro x hx; simp [dsums] at hx
    | cons z u =>
      have hy := ha y (by simp)
      have hz := hb z (by simp)
      simp only [List.length_cons] at h0 h1
      intro x hx
      simp only [dsums, List.mem_cons] at hx
      rcases hx with rfl | hx
      · omega
      · exact ih (fun z hz => ha z (by simp [hz])) (fun z hz => hb z (by simp [hz])) (by omega) (by omega) x hx
/-- By how much numbers are greater than t. -/
def exc (l : List Int) (t : Int) : Int := (l.map fun x => max 0 (x - t)).sum
theorem exc_bound {l : List Int} (h : Lst l) {t : Int} (ht : 0 ≤ t) : 0 ≤ exc l t ∧ exc l t ≤ 480 := by
  have := sum_bound (l := l.map fun x => max 0 (x - t)) (lo := 0) (hi := 60) (by
    intro z hz
    obtain ⟨y, hy, rfl⟩ := List.mem_map.1 hz
    have := h.2.2 y hy
    omega)
  have h2 := h.2.1
  simp only [List.length_map] at this
  unfold exc
  omega
/-- The least number from t on, d of them, over which the first list has more. -/
def fthr (a b : List Int) (t : Nat) : Nat → Int × Bool
  | 0 => (0, false)
  | d + 1 => if exc a t > exc b t then ((t : Int), true) else fthr a b (t + 1) d
/-- Second differences. -/
def sd3 : List Int → List Int
  | x :: y :: z :: t => (z - 2 * y + x) :: sd3 (y :: z :: t)
  | _ => []
theorem sd3_short : ∀ {l : List Int}, l.length ≤ 2 → sd3 l = []
  | [], _ => rfl
  | [_], _ => rfl
  | [_, _], _ => rfl
  | _ :: _ :: _ :: _, h => by simp at h
def wtsB (l : List Int) : Bool := tableB l && (conv3 l && (decide (l.getD 0 0 = 0) && decide (0 ≤ l.getD 1 0)))
def wts (l : List Int) : List Int := l.getD 1 0 :: sd3 l
/-- s, s + 1, .., n numbers -/
def iotaF (s n : Nat) : List Int := (List.range n).map fun i : Nat => ((s + i : Nat) : Int)
theorem iotaF_length (s n : Nat) : (iotaF s n).length = n := by simp [iotaF]
theorem iotaF_get {s n i : Nat} (h : i < n) : (iotaF s n)[i]'(by rw [iotaF_length]; exact h) = ((s + i : Nat) : Int) := by simp [iotaF]
def spreadOf (l : List Int) : Int := wrap64 (wrap64 (l.length * wrap64 (dot l l)) - wrap64 (l.sum * l.sum))
/-- By how much n times the greater numbers are greater than the sum. -/
def excessOf (l : List Int) : Int := (l.map fun x => max 0 (l.length * x - l.sum)).sum

theorem nneg (n : Nat) : ((n : Int) < 0) = False := eq_false (by omega)
theorem sd3_len : ∀ l : List Int, (sd3 l).length ≤ l.length
  | [] => by simp [sd3]
  | [_] => by simp [sd3]
  | [_, _] => by simp [sd3]
  | _ :: y :: z :: t => by
    have := sd3_len (y :: z :: t)
    simp only [sd3, List.length_cons] at this ⊢
    omega
theorem wts_len (l : List Int) : (if wtsB l then (wts l, true) else (([] : List Int), false)).1.length ≤ 62 := by
  cases h : wtsB l with
  | false => simp
  | true =>
    unfold wtsB tableB at h
    rw [Bool.and_eq_true, Bool.and_eq_true, decide_eq_true_eq] at h
    have := sd3_len l
    simp only [if_true, wts, List.length_cons]
    omega

end Go.Proofs.Ytbdennepenacpaa.Math
