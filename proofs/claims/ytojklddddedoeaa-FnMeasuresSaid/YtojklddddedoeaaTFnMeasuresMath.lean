/- Words of the kit's print, those of them that this law uses. -/
import Derived.Test.YtojklddddedoeaaTFnMeasuresWords
import Derived.Test.YtojklddddedoeaaTFnMeasuresMore
import Derived.Test.YtojklddddedoeaaTFnMeasuresSized
namespace Go.Proofs.Ytojklddddedoeaa.PrintWords
abbrev sized_ints := @Go.Proofs.YtojklddddedoeaaW.PrintWords.sized_ints
end Go.Proofs.Ytojklddddedoeaa.PrintWords
namespace Go.Proofs.YtojklddddedoeaaW.PrintWords
theorem Ev.succ {α : Type} {g : Nat → Option α} {r : α} (h : Ev (fun k => g (k + 1)) r) : Ev g r := Ev.step (fun _ => rfl) h
theorem Ev.ret {α β : Type} {g : Nat → Option α} {a : α} {f : α → β} (h : Ev g a) : Ev (fun k => (g k).bind fun t => some (f t)) (f a) :=
  Ev.bind (f := fun _ t => some (f t)) h (Ev.now _)
theorem Ev.and {g h : Nat → Option Bool} {a b : Bool} (hg : Ev g a) (hh : a = true → Ev h b) : Ev (fun k => (g k).bind fun t => if t = true then h k else some false) (a && b) := by
  refine Ev.bind (f := fun k t => if t = true then h k else some false) hg ?_
  cases a with
  | true => simpa using hh rfl
  | false => simpa using Ev.now false
theorem Ev.andS {h : Nat → Option Bool} {a b : Bool} (hh : a = true → Ev h b) : Ev (fun k => if a = true then h k else some false) (a && b) := by
  cases a with
  | true => simpa using hh rfl
  | false => simpa using Ev.now false
theorem Ev.eqv {α : Type} {g : Nat → Option α} {r q : α} (h : Ev g r) (e : r = q) : Ev g q := e ▸ h
end Go.Proofs.YtojklddddedoeaaW.PrintWords
namespace Go.Proofs.Ytojklddddedoeaa.Math
open Go.RowKit Go.Proofs.YtojklddddedoeaaW.PrintWords Go.Proofs.YtojklddddedoeaaW.PrintMore
set_option linter.unusedVariables false
set_option linter.unusedSimpArgs false
def InR (x : Int) : Prop := -9223372036854775808 ≤ x ∧ x ≤ 9223372036854775807
theorem w64 {x : Int} (h0 : -9223372036854775808 ≤ x) (h1 : x ≤ 9223372036854775807) : wrap64 x = x := by unfold wrap64; omega
theorem wR {x : Int} (h : InR x) : wrap64 x = x := w64 h.1 h.2
theorem inR_wrap (x : Int) : InR (wrap64 x) := by unfold InR wrap64; omega
theorem inR_0 : InR 0 := ⟨by omega, by omega⟩
theorem wr_add (a b : Int) : wrap64 (wrap64 a + b) = wrap64 (a + b) := by unfold wrap64; omega
theorem wr_add' (a b : Int) : wrap64 (a + wrap64 b) = wrap64 (a + b) := by unfold wrap64; omega
theorem wnext {i n : Nat} (h : i < n) (hn : n ≤ 4611686018427387904) : wrap64 ((i : Int) + 1) = ((i + 1 : Nat) : Int) := by unfold wrap64; omega
theorem ilt {i n : Nat} (h : i < n) : ((i : Int) < (n : Int)) = True := eq_true (by omega)
theorem nlt {i n : Nat} (h : n ≤ i) : ((i : Int) < (n : Int)) = False := eq_false (by omega)
theorem inn (i : Nat) : (0 ≤ (i : Int)) = True := eq_true (by omega)
theorem ile {i n : Nat} (h : i ≤ n) : ((i : Int) ≤ (n : Int)) = True := eq_true (by omega)
theorem mx_eq (a b : Int) : mx a b = max a b := by unfold mx; omega
theorem mn_eq (a b : Int) : mn a b = min a b := by unfold mn; omega
def wth (n lo hi : Int) : Bool := decide (lo ≤ n) && decide (n ≤ hi)
theorem wth_iff {n lo hi : Int} : wth n lo hi = true ↔ lo ≤ n ∧ n ≤ hi := by simp [wth]
theorem wth_opt (n lo hi : Int) : (if n ≥ lo then some (decide (n ≤ hi)) else some false) = some (wth n lo hi) := by
  unfold wth
  by_cases h : lo ≤ n
  · rw [if_pos h]; simp [h]
  · rw [if_neg h]; simp [h]
theorem down {n : Nat} {P : Nat → Prop} (hn : P n) (hs : ∀ i, i < n → P (i + 1) → P i) : ∀ i, i ≤ n → P i := by
  have key : ∀ d i, i ≤ n → n - i = d → P i := by
    intro d
    induction d with
    | zero => intro i hi h; obtain rfl : i = n := by omega
              exact hn
    | succ d ih => intro i hi h; exact hs i (by omega) (ih (i + 1) (by omega) (by omega))
  exact fun i hi => key _ i hi rfl
theorem rd_lt {l : List Int} {i : Nat} (h : i < l.length) : rd l (i : Int) = l[i] := by simp [rd, List.getD_eq_getElem?_getD, h]
theorem rd_get (l : List Int) (i : Nat) : rd l (i : Int) = l.getD i 0 := by simp [rd]
theorem drop_cons {α : Type} {l : List α} {i : Nat} (h : i < l.length) : l.drop i = l[i] :: l.drop (i + 1) := List.drop_eq_getElem_cons h
def allW (l : List Int) (lo hi : Int) : Bool := l.all fun x => wth x lo hi
theorem allW_iff {l : List Int} {lo hi : Int} : allW l lo hi = true ↔ ∀ x ∈ l, lo ≤ x ∧ x ≤ hi := by simp [allW, wth_iff]
def goodB (l : List Int) : Bool := wth l.length 1 8 && allW l 0 60
def Lst (l : List Int) : Prop := 1 ≤ l.length ∧ l.length ≤ 8 ∧ ∀ x ∈ l, 0 ≤ x ∧ x ≤ 60
theorem goodB_iff {l : List Int} : goodB l = true ↔ Lst l := by
  unfold goodB Lst
  rw [Bool.and_eq_true, wth_iff, allW_iff]
  constructor
  · rintro ⟨⟨a, b⟩, c⟩; exact ⟨by omega, by omega, c⟩
  · rintro ⟨a, b, c⟩; exact ⟨⟨by omega, by omega⟩, c⟩
theorem sum_bound {l : List Int} {lo hi : Int} (h : ∀ x ∈ l, lo ≤ x ∧ x ≤ hi) : l.length * lo ≤ l.sum ∧ l.sum ≤ l.length * hi := by
  induction l with
  | nil => simp
  | cons x t ih =>
    have h1 := h x (by simp)
    have h2 := ih (fun y hy => h y (by simp [hy]))
    simp only [List.sum_cons, List.length_cons]
    have e1 : ((t.length + 1 : Nat) : Int) * lo = t.length * lo + lo := by rw [Int.natCast_add, Int.add_mul]; simp
    have e2 : ((t.length + 1 : Nat) : Int) * hi = t.length * hi + hi := by rw [Int.natCast_add, Int.add_mul]; simp
    omega
theorem Lst.sum {l : List Int} (h : Lst l) : 0 ≤ l.sum ∧ l.sum ≤ 480 := by
  have := sum_bound h.2.2
  have h2 := h.2.1
  omega
theorem Lst.get {l : List Int} (h : Lst l) {i : Nat} (hi : i < l.length) : 0 ≤ l[i] ∧ l[i] ≤ 60 := h.2.2 _ (List.getElem_mem hi)
theorem wprev {i : Nat} (hi : i ≤ 4611686018427387904) : wrap64 (((i + 1 : Nat) : Int) - 1) = (i : Int) := by unfold wrap64; omega
def hp (x y : Int) : Bool := wth (y - x) (-1) 1
def absd (x y : Int) : Int := max (x - y) (y - x)
theorem absd_bound {x y : Int} (hx : 0 ≤ x ∧ x ≤ 60) (hy : 0 ≤ y ∧ y ≤ 60) : 0 ≤ absd x y ∧ absd x y ≤ 60 := by unfold absd; omega
def pairsGo (l : List Int) (i : Nat) : Nat → Int
  | 0 => 0
  | d + 1 => ((l.take i).map (absd (l.getD i 0))).sum + pairsGo l (i + 1) d
def pairsFrom (l : List Int) (i : Nat) : Int := pairsGo l i (l.length - i)
def pairsSum (l : List Int) : Int := pairsFrom l 0
theorem pairsFrom_step {l : List Int} {i : Nat} (hi : i < l.length) : pairsFrom l i = ((l.take i).map (absd l[i])).sum + pairsFrom l (i + 1) := by
  unfold pairsFrom
  rw [show l.length - i = (l.length - (i + 1)) + 1 by omega, pairsGo]
  simp [List.getD_eq_getElem?_getD, hi]
theorem pairsGo_bound {l : List Int} (h : ∀ x ∈ l, 0 ≤ x ∧ x ≤ 60) : ∀ d i, i + d ≤ l.length → i + d ≤ 8 → 0 ≤ pairsGo l i d ∧ pairsGo l i d ≤ 480 * d
  | 0, _, _, _ => by simp [pairsGo]
  | d + 1, i, h1, h2 => by
    have ih := pairsGo_bound h d (i + 1) (by omega) (by omega)
    have hx : 0 ≤ l.getD i 0 ∧ l.getD i 0 ≤ 60 := by
      have hi : i < l.length := by omega
      simp only [List.getD_eq_getElem?_getD, List.getElem?_eq_getElem hi, Option.getD_some]
      exact h _ (List.getElem_mem hi)
    have hs := sum_bound (l := (l.take i).map (absd (l.getD i 0))) (lo := 0) (hi := 60) (by
      intro z hz
      obtain ⟨y, hy, rfl⟩ := List.mem_map.1 hz
      exact absd_bound hx (h y (List.mem_of_mem_take hy)))
    simp only [List.length_map, List.length_take] at hs
    rw [pairsGo]
    omega
theorem pairsSum_bound {l : List Int} (h : Lst l) : 0 ≤ pairsSum l ∧ pairsSum l ≤ 3840 := by
  have := pairsGo_bound h.2.2 l.length 0 (by omega) (by have := h.2.1; omega)
  have := h.2.1
  unfold pairsSum pairsFrom
  rw [Nat.sub_zero]
  omega
def dot : List Int → List Int → Int
  | x :: l, y :: m => x * y + dot l m
  | _, _ => 0
theorem dot_nil {m : List Int} : dot [] m = 0 := rfl
theorem dot_cons {x y : Int} {l m : List Int} : dot (x :: l) (y :: m) = x * y + dot l m := rfl
def fits (a b : List Int) : Bool := goodB a && (goodB b && (decide (a.length = b.length) && decide (a.sum = b.sum)))
theorem fits_iff {a b : List Int} : fits a b = true ↔ Lst a ∧ Lst b ∧ a.length = b.length ∧ a.sum = b.sum := by
  unfold fits
  rw [Bool.and_eq_true, Bool.and_eq_true, Bool.and_eq_true, goodB_iff, goodB_iff, decide_eq_true_eq, decide_eq_true_eq]
def psums (s : Int) : List Int → List Int
  | [] => []
  | x :: t => (s + x) :: psums (s + x) t
theorem psums_length (s : Int) (l : List Int) : (psums s l).length = l.length := by
  induction l generalizing s with
  | nil => rfl
  | cons x t ih => simp [psums, ih]
def exc (l : List Int) (t : Int) : Int := (l.map fun x => max 0 (x - t)).sum
def spreadOf (l : List Int) : Int := wrap64 (wrap64 (l.length * wrap64 (dot l l)) - wrap64 (l.sum * l.sum))
def excessOf (l : List Int) : Int := (l.map fun x => max 0 (l.length * x - l.sum)).sum
def cmpI (a b : Int) : Int := if a < b then -1 else if a > b then 1 else 0
theorem cmpI_sub (a b : Int) : cmpI a b = cmpI (a - b) 0 := by
  have e1 : (a < b) = (a - b < 0) := propext (by omega)
  have e2 : (a > b) = (a - b > 0) := propext (by omega)
  simp only [cmpI, e1, e2]
def insD (x : Int) : List Int → List Int
  | [] => [x]
  | y :: ys => if y ≥ x then y :: insD x ys else x :: y :: ys
def rankFrom (r : List Int) (l : List Int) : List Int := l.foldl (fun a x => insD x a) r
def rankD (l : List Int) : List Int := rankFrom [] l
theorem insD_perm (x : Int) : ∀ l : List Int, List.Perm (insD x l) (x :: l)
  | [] => List.Perm.refl _
  | y :: ys => by
    simp only [insD]
    split
    · exact ((insD_perm x ys).cons y).trans (List.Perm.swap x y ys)
    · exact List.Perm.refl _
theorem insD_length (x : Int) (l : List Int) : (insD x l).length = l.length + 1 := by rw [(insD_perm x l).length_eq, List.length_cons]
def Desc (l : List Int) : Prop := l.Pairwise fun x y => y ≤ x
theorem insD_desc (x : Int) : ∀ l : List Int, Desc l → Desc (insD x l)
  | [], _ => List.pairwise_singleton _ _
  | y :: ys, h => by
    have h' := List.pairwise_cons.1 h
    simp only [insD]
    split
    next c =>
      refine List.pairwise_cons.2 ⟨fun z hz => ?_, insD_desc x ys h'.2⟩
      rcases List.mem_cons.1 ((insD_perm x ys).mem_iff.1 hz) with e | e
      · omega
      · exact h'.1 z e
    next c =>
      refine List.pairwise_cons.2 ⟨fun z hz => ?_, h⟩
      rcases List.mem_cons.1 hz with e | e
      · omega
      · have := h'.1 z e; omega
theorem rankFrom_perm : ∀ (l r : List Int), List.Perm (rankFrom r l) (l ++ r)
  | [], r => List.Perm.refl _
  | x :: l, r => (rankFrom_perm l (insD x r)).trans (((insD_perm x r).append_left l).trans List.perm_middle)
theorem rankFrom_desc : ∀ (l r : List Int), Desc r → Desc (rankFrom r l)
  | [], _, h => h
  | x :: l, r, h => rankFrom_desc l (insD x r) (insD_desc x r h)
theorem rankD_perm (l : List Int) : List.Perm (rankD l) l := by have := rankFrom_perm l []; rwa [List.append_nil] at this
theorem rankD_desc (l : List Int) : Desc (rankD l) := rankFrom_desc l [] List.Pairwise.nil
theorem rankD_length (l : List Int) : (rankD l).length = l.length := (rankD_perm l).length_eq
theorem rankD_lst {l : List Int} (h : Lst l) : Lst (rankD l) := ⟨by rw [rankD_length]; exact h.1, by rw [rankD_length]; exact h.2.1, fun x hx => h.2.2 x ((rankD_perm l).mem_iff.1 hx)⟩
theorem rankD_sum (l : List Int) : (rankD l).sum = l.sum := by
  have : ∀ a b : List Int, List.Perm a b → a.sum = b.sum := by
    intro a b h
    induction h with
    | nil => rfl
    | cons x _ ih => simp only [List.sum_cons, ih]
    | swap x y l => simp only [List.sum_cons]; omega
    | trans _ _ h1 h2 => exact h1.trans h2
  exact this _ _ (rankD_perm l)
theorem desc_le {l : List Int} (h : Desc l) {i j : Nat} (hij : i < j) (hj : j < l.length) : l[j] ≤ l[i] := (List.pairwise_iff_getElem.1 h) i j (by omega) hj hij
theorem foldl_max_mem : ∀ (l : List Int) (a : Int), l.foldl max a ∈ a :: l
  | [], a => List.mem_cons_self ..
  | x :: l, a => by
    have h := foldl_max_mem l (max a x)
    rw [List.foldl_cons]
    rcases List.mem_cons.1 h with e | e
    · rw [e]
      by_cases c : a ≤ x
      · rw [show max a x = x by omega]; exact List.mem_cons_of_mem _ (List.mem_cons_self ..)
      · rw [show max a x = a by omega]; exact List.mem_cons_self ..
    · exact List.mem_cons_of_mem _ (List.mem_cons_of_mem _ e)
theorem foldl_max_le : ∀ (l : List Int) (a : Int), ∀ x ∈ a :: l, x ≤ l.foldl max a
  | [], a, x, hx => by
    rcases List.mem_cons.1 hx with e | e
    · exact Int.le_of_eq e
    · exact absurd e (List.not_mem_nil)
  | y :: l, a, x, hx => by
    rw [List.foldl_cons]
    have h0 := foldl_max_le l (max a y) (max a y) (List.mem_cons_self ..)
    rcases List.mem_cons.1 hx with e | e
    · omega
    · rcases List.mem_cons.1 e with e | e
      · omega
      · exact foldl_max_le l (max a y) x (List.mem_cons_of_mem _ e)
theorem foldl_min_mem : ∀ (l : List Int) (a : Int), l.foldl min a ∈ a :: l
  | [], a => List.mem_cons_self ..
  | x :: l, a => by
    have h := foldl_min_mem l (min a x)
    rw [List.foldl_cons]
    rcases List.mem_cons.1 h with e | e
    · rw [e]
      by_cases c : a ≤ x
      · rw [show min a x = a by omega]; exact List.mem_cons_self ..
      · rw [show min a x = x by omega]; exact List.mem_cons_of_mem _ (List.mem_cons_self ..)
    · exact List.mem_cons_of_mem _ (List.mem_cons_of_mem _ e)
theorem foldl_min_le : ∀ (l : List Int) (a : Int), ∀ x ∈ a :: l, l.foldl min a ≤ x
  | [], a, x, hx => by
    rcases List.mem_cons.1 hx with e | e
    · exact Int.le_of_eq e.symm
    · exact absurd e (List.not_mem_nil)
  | y :: l, a, x, hx => by
    rw [List.foldl_cons]
    have h0 := foldl_min_le l (min a y) (min a y) (List.mem_cons_self ..)
    rcases List.mem_cons.1 hx with e | e
    · omega
    · rcases List.mem_cons.1 e with e | e
      · omega
      · exact foldl_min_le l (min a y) x (List.mem_cons_of_mem _ e)
def mostOf (l : List Int) : Int := (l.drop 1).foldl max (l.getD 0 0)
def lowOf (l : List Int) : Int := (l.drop 1).foldl min (l.getD 0 0)
theorem cons_drop_one {l : List Int} (h : 0 < l.length) : l.getD 0 0 :: l.drop 1 = l := by
  cases l with
  | nil => exact absurd h (by simp)
  | cons x l => rfl
theorem mostOf_mem {l : List Int} (h : 0 < l.length) : mostOf l ∈ l := by
  have := foldl_max_mem (l.drop 1) (l.getD 0 0); rwa [cons_drop_one h] at this
theorem mostOf_le {l : List Int} (h : 0 < l.length) {x : Int} (hx : x ∈ l) : x ≤ mostOf l := by
  have := foldl_max_le (l.drop 1) (l.getD 0 0) x; rw [cons_drop_one h] at this; exact this hx
theorem lowOf_mem {l : List Int} (h : 0 < l.length) : lowOf l ∈ l := by
  have := foldl_min_mem (l.drop 1) (l.getD 0 0); rwa [cons_drop_one h] at this
theorem lowOf_le {l : List Int} (h : 0 < l.length) {x : Int} (hx : x ∈ l) : lowOf l ≤ x := by
  have := foldl_min_le (l.drop 1) (l.getD 0 0) x; rw [cons_drop_one h] at this; exact this hx
theorem rankD_first {l : List Int} (h : 0 < l.length) : (rankD l).getD 0 0 = mostOf l := by
  have hl := rankD_length l
  have h0 : 0 < (rankD l).length := by omega
  have e : (rankD l).getD 0 0 = (rankD l)[0] := by simp [List.getD_eq_getElem?_getD, h0]
  have m1 := mostOf_le h ((rankD_perm l).mem_iff.1 (List.getElem_mem h0))
  obtain ⟨j, hj, ej⟩ := List.getElem_of_mem ((rankD_perm l).mem_iff.2 (mostOf_mem h))
  rw [e]
  by_cases c : j = 0
  · subst c; exact ej
  · have := desc_le (rankD_desc l) (by omega : 0 < j) hj
    rw [ej] at this
    omega
theorem rankD_last {l : List Int} (h : 0 < l.length) : (rankD l).getD (l.length - 1) 0 = lowOf l := by
  have hl := rankD_length l
  have h0 : l.length - 1 < (rankD l).length := by omega
  have e : (rankD l).getD (l.length - 1) 0 = (rankD l)[l.length - 1] := by simp [List.getD_eq_getElem?_getD, h0]
  have m1 := lowOf_le h ((rankD_perm l).mem_iff.1 (List.getElem_mem h0))
  obtain ⟨j, hj, ej⟩ := List.getElem_of_mem ((rankD_perm l).mem_iff.2 (lowOf_mem h))
  rw [e]
  by_cases c : j = l.length - 1
  · subst c; exact ej
  · have := desc_le (rankD_desc l) (by omega : j < l.length - 1) h0
    rw [ej] at this
    omega
theorem dot_self_bound : ∀ l : List Int, (∀ x ∈ l, 0 ≤ x ∧ x ≤ 60) → 0 ≤ dot l l ∧ dot l l ≤ 3600 * (l.length : Int)
  | [], _ => by simp [dot]
  | x :: l, h => by
    have ih := dot_self_bound l fun y hy => h y (List.mem_cons_of_mem _ hy)
    have hx := h x (List.mem_cons_self ..)
    have h1 : x * x ≤ 60 * 60 := Int.mul_le_mul hx.2 hx.2 hx.1 (by omega)
    have h0 : 0 ≤ x * x := Int.mul_nonneg hx.1 hx.1
    rw [dot_cons, List.length_cons]
    omega
theorem spreadOf_bound {l : List Int} (h : Lst l) : -1000000 ≤ spreadOf l ∧ spreadOf l ≤ 1000000 := by
  have d := dot_self_bound l h.2.2
  have s := h.sum
  have h1 := h.2.1
  have p1 : l.sum * l.sum ≤ 480 * 480 := Int.mul_le_mul s.2 s.2 s.1 (by omega)
  have p0 : 0 ≤ l.sum * l.sum := Int.mul_nonneg s.1 s.1
  have q1 : (l.length : Int) * dot l l ≤ 8 * 28800 := Int.mul_le_mul (by omega) (by omega) d.1 (by omega)
  have q0 : 0 ≤ (l.length : Int) * dot l l := Int.mul_nonneg (by omega) d.1
  unfold spreadOf
  rw [w64 (x := dot l l) (by omega) (by omega), w64 (x := l.sum * l.sum) (by omega) (by omega), w64 (x := (l.length : Int) * dot l l) (by omega) (by omega), w64 (by omega) (by omega)]
  omega
theorem sum_map_bound {f : Int → Int} {hi : Int} : ∀ l : List Int, (∀ x ∈ l, 0 ≤ f x ∧ f x ≤ hi) → 0 ≤ (l.map f).sum ∧ (l.map f).sum ≤ l.length * hi
  | [], _ => by simp
  | x :: l, h => by
    have ih := sum_map_bound l fun y hy => h y (List.mem_cons_of_mem _ hy)
    have hx := h x (List.mem_cons_self ..)
    rw [List.map_cons, List.sum_cons, List.length_cons]
    have e : ((l.length + 1 : Nat) : Int) * hi = l.length * hi + hi := by rw [Int.natCast_add, Int.add_mul]; omega
    omega
theorem excessOf_bound {l : List Int} (h : Lst l) : 0 ≤ excessOf l ∧ excessOf l ≤ 10000 := by
  have s := h.sum
  have h1 := h.2.1
  have b := sum_map_bound (f := fun x => max 0 (l.length * x - l.sum)) (hi := 480) l fun x hx => by
    have hx := h.2.2 x hx
    have h1 : (l.length : Int) * x ≤ 8 * 60 := Int.mul_le_mul (by omega) hx.2 hx.1 (by omega)
    show 0 ≤ max 0 ((l.length : Int) * x - l.sum) ∧ max 0 ((l.length : Int) * x - l.sum) ≤ 480
    omega
  unfold excessOf
  omega
def measuresOf (l : List Int) : List Int := [spreadOf l, pairsSum l, mostOf l, mostOf l - lowOf l, excessOf l]
def signsOf (a b : List Int) : List Int := List.zipWith cmpI (measuresOf a) (measuresOf b)
theorem Lst.most {l : List Int} (h : Lst l) : 0 ≤ mostOf l ∧ mostOf l ≤ 60 := h.2.2 _ (mostOf_mem (by have := h.1; omega))
theorem Lst.low {l : List Int} (h : Lst l) : 0 ≤ lowOf l ∧ lowOf l ≤ 60 := h.2.2 _ (lowOf_mem (by have := h.1; omega))
theorem signs_len (a b : List Int) : (if fits a b then (signsOf a b, true) else (([] : List Int), false)).1.length ≤ 1048576 := by
  cases fits a b
  · simp
  · simp [signsOf, measuresOf]
theorem rd_mid (A : List Int) (a : Int) (B : List Int) (m : Nat) (h : A.length = m) : rd (A ++ a :: B) (m : Int) = a := by
  rw [rd_get, List.getD_eq_getElem?_getD, ← h]
  simp
theorem set_mid (A : List Int) (a b : Int) (B : List Int) (m : Nat) (h : A.length = m) : (A ++ a :: B).set m b = A ++ b :: B := by
  rw [← h, List.set_append]
  simp
theorem insD_split (x : Int) : ∀ (P Q : List Int), (∀ y ∈ P, x ≤ y) → (∀ y ∈ Q, y < x) → insD x (P ++ Q) = P ++ x :: Q
  | [], [], _, _ => rfl
  | [], y :: Q, _, h => by
    have := h y (List.mem_cons_self ..)
    show insD x (y :: Q) = x :: y :: Q
    simp only [insD]
    rw [if_neg (by omega)]
  | p :: P, Q, h1, h2 => by
    have := h1 p (List.mem_cons_self ..)
    show insD x (p :: (P ++ Q)) = p :: (P ++ x :: Q)
    simp only [insD]
    rw [if_pos (by omega), insD_split x P Q (fun y hy => h1 y (List.mem_cons_of_mem _ hy)) h2]
theorem desc_split {P Q : List Int} (h : Desc (P ++ Q)) {p q : Int} (hp : p ∈ P) (hq : q ∈ Q) : q ≤ p := (List.pairwise_append.1 h).2.2 p hp q hq
theorem psums_get (s : Int) : ∀ (l : List Int) (i : Nat) (h : i < (psums s l).length), (psums s l)[i] = s + (l.take (i + 1)).sum
  | [], i, h => by simp [psums] at h
  | x :: t, 0, _ => by simp [psums]
  | x :: t, i + 1, h => by
    have h' : i < (psums (s + x) t).length := by simpa [psums] using h
    show (psums (s + x) t)[i] = _
    rw [psums_get (s + x) t i h', List.take_succ_cons, List.sum_cons]
    omega
def leAll : List Int → List Int → Bool
  | x :: a, y :: b => decide (x ≤ y) && leAll a b
  | _, _ => true
theorem leAll_iff : ∀ (a b : List Int), a.length = b.length → (leAll a b = true ↔ ∀ i, (h : i < a.length) → (h2 : i < b.length) → a[i] ≤ b[i])
  | [], [], _ => ⟨fun _ i h _ => absurd h (by simp), fun _ => rfl⟩
  | [], _ :: _, h => absurd h (by simp)
  | _ :: _, [], h => absurd h (by simp)
  | x :: a, y :: b, h => by
    have ih := leAll_iff a b (by simpa using h)
    simp only [leAll, Bool.and_eq_true, decide_eq_true_eq, ih]
    constructor
    · intro ⟨h0, h1⟩ i hi hj
      cases i with
      | zero => exact h0
      | succ i => exact h1 i (by simpa using hi) (by simpa using hj)
    · intro h0
      exact ⟨h0 0 (by simp) (by simp), fun i hi hj => h0 (i + 1) (by simpa using hi) (by simpa using hj)⟩
def refGo : Nat → List Int → List Int → Int
  | i, x :: a, y :: b => if x > y then ((i + 1 : Nat) : Int) else refGo (i + 1) a b
  | _, _, _ => 0
theorem refGo_zero : ∀ (i : Nat) (a b : List Int), (refGo i a b == 0) = leAll a b
  | _, [], _ => by simp [refGo, leAll]
  | _, _ :: _, [] => by simp [refGo, leAll]
  | i, x :: a, y :: b => by
    simp only [refGo, leAll]
    by_cases c : x > y
    · rw [if_pos c, decide_eq_false (by omega : ¬ x ≤ y), Bool.false_and]
      exact beq_eq_false_iff_ne.2 (by omega)
    · rw [if_neg c, decide_eq_true (by omega : x ≤ y), Bool.true_and, refGo_zero (i + 1) a b]
def partOf (l : List Int) : List Int := psums 0 (rankD l)
theorem partOf_length (l : List Int) : (partOf l).length = l.length := by rw [partOf, psums_length, rankD_length]
end Go.Proofs.Ytojklddddedoeaa.Math
