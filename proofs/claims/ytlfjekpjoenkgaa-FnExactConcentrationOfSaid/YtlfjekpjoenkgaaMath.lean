/- Plain words for the laws of this seat: numbers that don't wrap, loops that go up, lists of small whole numbers. No program in sight. -/
import Derived.Test.YtlfjekpjoenkgaaWWords
import Derived.Test.YtlfjekpjoenkgaaWMore
import Derived.Test.YtlfjekpjoenkgaaWSized
namespace Go.Proofs.Ytlfjekpjoenkgaa.PrintWords
/-- The printed rows name it so. -/
abbrev sized_ints := @Go.Proofs.YtlfjekpjoenkgaaW.PrintWords.sized_ints
end Go.Proofs.Ytlfjekpjoenkgaa.PrintWords
namespace Go.Proofs.YtlfjekpjoenkgaaW.PrintWords
/-! ### rounds that come to an answer -/
theorem Ev.succ {α : Type} {g : Nat → Option α} {r : α} (h : Ev (fun k => g (k + 1)) r) : Ev g r := Ev.step (fun _ => rfl) h
theorem Ev.ret {α β : Type} {g : Nat → Option α} {a : α} {f : α → β} (h : Ev g a) : Ev (fun k => (g k).bind fun t => some (f t)) (f a) :=
  Ev.bind (f := fun _ t => some (f t)) h (Ev.now _)
theorem Ev.and {g h : Nat → Option Bool} {a b : Bool} (hg : Ev g a) (hh : a = true → Ev h b) : Ev (fun k => (g k).bind fun t => if t = true then h k else some false) (a && b) := by
  refine Ev.bind (f := fun k t => if t = true then h k else some false) hg ?_
  cases a with
  | true => simpa using hh rfl
  | false => simpa using Ev.now false
theorem Ev.andS {h : Nat → Option Bool} {a b : Bool} (hh : a = true → Ev h b) : Ev (fun k => if a = true then h k else some false) (a && b) := by
  cases a with
  | true => simpa using hh rfl
  | false => simpa using Ev.now false
theorem Ev.eqv {α : Type} {g : Nat → Option α} {r q : α} (h : Ev g r) (e : r = q) : Ev g q := e ▸ h
end Go.Proofs.YtlfjekpjoenkgaaW.PrintWords
namespace Go.Proofs.Ytlfjekpjoenkgaa.Math
open Go.RowKit Go.Proofs.YtlfjekpjoenkgaaW.PrintWords Go.Proofs.YtlfjekpjoenkgaaW.PrintMore
set_option linter.unusedVariables false
set_option linter.unusedSimpArgs false

/-! ### numbers -/
def InR (x : Int) : Prop := -9223372036854775808 ≤ x ∧ x ≤ 9223372036854775807
theorem w64 {x : Int} (h0 : -9223372036854775808 ≤ x) (h1 : x ≤ 9223372036854775807) : wrap64 x = x := by unfold wrap64; omega
theorem wR {x : Int} (h : InR x) : wrap64 x = x := w64 h.1 h.2
theorem inR_wrap (x : Int) : InR (wrap64 x) := by unfold InR wrap64; omega
theorem inR_0 : InR 0 := ⟨by omega, by omega⟩
theorem wrap_add (a b : Int) : wrap64 (wrap64 a + b) = wrap64 (a + b) := by unfold wrap64; omega
theorem wrap_add' (a b : Int) : wrap64 (a + wrap64 b) = wrap64 (a + b) := by unfold wrap64; omega
theorem wrap_wrap (a : Int) : wrap64 (wrap64 a) = wrap64 a := by unfold wrap64; omega
theorem wrap_0 : wrap64 0 = 0 := by unfold wrap64; omega
theorem wnext {i n : Nat} (h : i < n) (hn : n ≤ 4611686018427387904) : wrap64 ((i : Int) + 1) = ((i + 1 : Nat) : Int) := by unfold wrap64; omega
theorem ilt {i n : Nat} (h : i < n) : ((i : Int) < (n : Int)) = True := eq_true (by omega)
theorem nlt {i n : Nat} (h : n ≤ i) : ((i : Int) < (n : Int)) = False := eq_false (by omega)
theorem inn (i : Nat) : (0 ≤ (i : Int)) = True := eq_true (by omega)
theorem ile {i n : Nat} (h : i ≤ n) : ((i : Int) ≤ (n : Int)) = True := eq_true (by omega)
theorem mx_eq (a b : Int) : mx a b = max a b := by unfold mx; omega
theorem mn_eq (a b : Int) : mn a b = min a b := by unfold mn; omega
def wth (n lo hi : Int) : Bool := decide (lo ≤ n) && decide (n ≤ hi)
theorem wth_iff {n lo hi : Int} : wth n lo hi = true ↔ lo ≤ n ∧ n ≤ hi := by simp [wth]
theorem wth_opt (n lo hi : Int) : (if n ≥ lo then some (decide (n ≤ hi)) else some false) = some (wth n lo hi) := by
  unfold wth
  by_cases h : lo ≤ n
  · rw [if_pos h]; simp [h]
  · rw [if_neg h]; simp [h]

/-! ### rounds -/
theorem down {n : Nat} {P : Nat → Prop} (hn : P n) (hs : ∀ i, i < n → P (i + 1) → P i) : ∀ i, i ≤ n → P i := by
  have key : ∀ d i, i ≤ n → n - i = d → P i := by
    intro d
    induction d with
    | zero => intro i hi h; obtain rfl : i = n := by omega
              exact hn
    | succ d ih => intro i hi h; exact hs i (by omega) (ih (i + 1) (by omega) (by omega))
  exact fun i hi => key _ i hi rfl

/-! ### lists -/
theorem rd_lt {l : List Int} {i : Nat} (h : i < l.length) : rd l (i : Int) = l[i] := by simp [rd, List.getD_eq_getElem?_getD, h]
theorem rd_get (l : List Int) (i : Nat) : rd l (i : Int) = l.getD i 0 := by simp [rd]
theorem drop_cons {α : Type} {l : List α} {i : Nat} (h : i < l.length) : l.drop i = l[i] :: l.drop (i + 1) := List.drop_eq_getElem_cons h
def allW (l : List Int) (lo hi : Int) : Bool := l.all fun x => wth x lo hi
theorem allW_iff {l : List Int} {lo hi : Int} : allW l lo hi = true ↔ ∀ x ∈ l, lo ≤ x ∧ x ≤ hi := by simp [allW, wth_iff]
def goodB (l : List Int) : Bool := wth l.length 1 8 && allW l 0 60
def Lst (l : List Int) : Prop := 1 ≤ l.length ∧ l.length ≤ 8 ∧ ∀ x ∈ l, 0 ≤ x ∧ x ≤ 60
theorem goodB_iff {l : List Int} : goodB l = true ↔ Lst l := by
  unfold goodB Lst
  rw [Bool.and_eq_true, wth_iff, allW_iff]
  constructor
  · rintro ⟨⟨a, b⟩, c⟩; exact ⟨by omega, by omega, c⟩
  · rintro ⟨a, b, c⟩; exact ⟨⟨by omega, by omega⟩, c⟩
theorem sum_bound {l : List Int} {lo hi : Int} (h : ∀ x ∈ l, lo ≤ x ∧ x ≤ hi) : l.length * lo ≤ l.sum ∧ l.sum ≤ l.length * hi := by
  induction l with
  | nil => simp
  | cons x t ih =>
    have h1 := h x (by simp)
    have h2 := ih (fun y hy => h y (by simp [hy]))
    simp only [List.sum_cons, List.length_cons]
    have e1 : ((t.length + 1 : Nat) : Int) * lo = t.length * lo + lo := by rw [Int.natCast_add, Int.add_mul]; simp
    have e2 : ((t.length + 1 : Nat) : Int) * hi = t.length * hi + hi := by rw [Int.natCast_add, Int.add_mul]; simp
    omega
theorem Lst.sum {l : List Int} (h : Lst l) : 0 ≤ l.sum ∧ l.sum ≤ 480 := by
  have := sum_bound h.2.2
  have h2 := h.2.1
  omega
theorem Lst.get {l : List Int} (h : Lst l) {i : Nat} (hi : i < l.length) : 0 ≤ l[i] ∧ l[i] ≤ 60 := h.2.2 _ (List.getElem_mem hi)
/-- Each two neighbours. -/
def adj (p : Int → Int → Bool) : List Int → Bool
  | x :: y :: t => p x y && adj p (y :: t)
  | _ => true
theorem set_take (l m : List Int) (i : Nat) (hi : i < l.length) (hm : m.length = l.length) (h : m.take i = l.take i) : (m.set i l[i]).take (i + 1) = l.take (i + 1) := by
  rw [List.take_succ_eq_append_getElem (by simpa [hm] using hi), List.take_succ_eq_append_getElem hi, List.take_set_of_le (Nat.le_refl _), h]
  simp
theorem wprev {i : Nat} (hi : i ≤ 4611686018427387904) : wrap64 (((i + 1 : Nat) : Int) - 1) = (i : Int) := by unfold wrap64; omega
theorem wrap_shift (a q : Int) : wrap64 (a + 18446744073709551616 * q) = wrap64 a := by unfold wrap64; omega
theorem wrap_ex (a : Int) : ∃ q, wrap64 a = a + 18446744073709551616 * q := ⟨-((a + 9223372036854775808) / 18446744073709551616), by unfold wrap64; omega⟩
theorem wrap_mul (a b : Int) : wrap64 (wrap64 a * b) = wrap64 (a * b) := by
  obtain ⟨q, h⟩ := wrap_ex a
  rw [h, Int.add_mul, Int.mul_assoc, wrap_shift]
theorem wrap_mul' (a b : Int) : wrap64 (a * wrap64 b) = wrap64 (a * b) := by rw [Int.mul_comm, wrap_mul, Int.mul_comm]
theorem adj_short {p : Int → Int → Bool} : ∀ {l : List Int}, l.length ≤ 1 → adj p l = true
  | [], _ => rfl
  | [_], _ => rfl
  | _ :: _ :: _, h => by simp at h
/-- Neighbours differ by at most 1. -/
def hp (x y : Int) : Bool := wth (y - x) (-1) 1
def heightsB (l : List Int) : Bool := wth l.length 1 8 && (allW l (-100) 100 && adj hp l)
/-- Each number, taken twice, is at most the sum of both neighbours. -/
def conv3 : List Int → Bool
  | x :: y :: z :: t => decide (2 * y ≤ x + z) && conv3 (y :: z :: t)
  | _ => true
theorem conv3_short : ∀ {l : List Int}, l.length ≤ 2 → conv3 l = true
  | [], _ => rfl
  | [_], _ => rfl
  | [_, _], _ => rfl
  | _ :: _ :: _ :: _, h => by simp at h
def tableB (l : List Int) : Bool := decide ((l.length : Int) = 61) && allW l (-1000000) 1000000
/-- The sum of all products of k numbers, again or not. -/
def chZ (ag : Bool) : Nat → List Int → Int
  | 0, _ => 1
  | _ + 1, [] => 0
  | k + 1, x :: t => chZ ag (k + 1) t + x * chZ ag k (if ag then x :: t else t)
termination_by k l => (k, l.length)
def argsB (l : List Int) : Bool := wth l.length 1 4 && allW l 1 9
def absd (x y : Int) : Int := max (x - y) (y - x)

theorem absd_bound {x y : Int} (hx : 0 ≤ x ∧ x ≤ 60) (hy : 0 ≤ y ∧ y ≤ 60) : 0 ≤ absd x y ∧ absd x y ≤ 60 := by unfold absd; omega
/-- The differences of all pairs, the later one with the index from i on. -/
def pairsGo (l : List Int) (i : Nat) : Nat → Int
  | 0 => 0
  | d + 1 => ((l.take i).map (absd (l.getD i 0))).sum + pairsGo l (i + 1) d
def pairsFrom (l : List Int) (i : Nat) : Int := pairsGo l i (l.length - i)
def pairsSum (l : List Int) : Int := pairsFrom l 0
theorem pairsFrom_step {l : List Int} {i : Nat} (hi : i < l.length) : pairsFrom l i = ((l.take i).map (absd l[i])).sum + pairsFrom l (i + 1) := by
  unfold pairsFrom
  rw [show l.length - i = (l.length - (i + 1)) + 1 by omega, pairsGo]
  simp [List.getD_eq_getElem?_getD, hi]
theorem pairsGo_bound {l : List Int} (h : ∀ x ∈ l, 0 ≤ x ∧ x ≤ 60) : ∀ d i, i + d ≤ l.length → i + d ≤ 8 → 0 ≤ pairsGo l i d ∧ pairsGo l i d ≤ 480 * d
  | 0, _, _, _ => by simp [pairsGo]
  | d + 1, i, h1, h2 => by
    have ih := pairsGo_bound h d (i + 1) (by omega) (by omega)
    have hx : 0 ≤ l.getD i 0 ∧ l.getD i 0 ≤ 60 := by
      have hi : i < l.length := by omega
      simp only [List.getD_eq_getElem?_getD, List.getElem?_eq_getElem hi, Option.getD_some]
      exact h _ (List.getElem_mem hi)
    have hs := sum_bound (l := (l.take i).map (absd (l.getD i 0))) (lo := 0) (hi := 60) (by
      intro z hz
      obtain ⟨y, hy, rfl⟩ := List.mem_map.1 hz
      exact absd_bound hx (h y (List.mem_of_mem_take hy)))
    simp only [List.length_map, List.length_take] at hs
    rw [pairsGo]
    omega
theorem pairsSum_bound {l : List Int} (h : Lst l) : 0 ≤ pairsSum l ∧ pairsSum l ≤ 3840 := by
  have := pairsGo_bound h.2.2 l.length 0 (by omega) (by have := h.2.1; omega)
  have := h.2.1
  unfold pairsSum pairsFrom
  rw [Nat.sub_zero]
  omega
/-- The sum of the products of numbers with the same index. -/
def dot : List Int → List Int → Int
  | x :: l, y :: m => x * y + dot l m
  | _, _ => 0
theorem dot_nil {m : List Int} : dot [] m = 0 := rfl
theorem dot_cons {x y : Int} {l m : List Int} : dot (x :: l) (y :: m) = x * y + dot l m := rfl

end Go.Proofs.Ytlfjekpjoenkgaa.Math
