/- Words of the kit's print, those of them that this law uses. -/
import Derived.Test.YtojklddddedoeaaTFnTopWords
import Derived.Test.YtojklddddedoeaaTFnTopMore
import Derived.Test.YtojklddddedoeaaTFnTopSized
namespace Go.Proofs.Ytojklddddedoeaa.PrintWords
abbrev sized_ints := @Go.Proofs.YtojklddddedoeaaW.PrintWords.sized_ints
end Go.Proofs.Ytojklddddedoeaa.PrintWords
namespace Go.Proofs.YtojklddddedoeaaW.PrintWords
theorem Ev.succ {α : Type} {g : Nat → Option α} {r : α} (h : Ev (fun k => g (k + 1)) r) : Ev g r := Ev.step (fun _ => rfl) h
theorem Ev.ret {α β : Type} {g : Nat → Option α} {a : α} {f : α → β} (h : Ev g a) : Ev (fun k => (g k).bind fun t => some (f t)) (f a) :=
  Ev.bind (f := fun _ t => some (f t)) h (Ev.now _)
theorem Ev.and {g h : Nat → Option Bool} {a b : Bool} (hg : Ev g a) (hh : a = true → Ev h b) : Ev (fun k => (g k).bind fun t => if t = true then h k else some false) (a && b) := by
  refine Ev.bind (f := fun k t => if t = true then h k else some false) hg ?_
  cases a with
  | true => simpa using hh rfl
  | false => simpa using Ev.now false
theorem Ev.andS {h : Nat → Option Bool} {a b : Bool} (hh : a = true → Ev h b) : Ev (fun k => if a = true then h k else some false) (a && b) := by
  cases a with
  | true => simpa using hh rfl
  | false => simpa using Ev.now false
theorem Ev.eqv {α : Type} {g : Nat → Option α} {r q : α} (h : Ev g r) (e : r = q) : Ev g q := e ▸ h
end Go.Proofs.YtojklddddedoeaaW.PrintWords
namespace Go.Proofs.Ytojklddddedoeaa.Math
open Go.RowKit Go.Proofs.YtojklddddedoeaaW.PrintWords Go.Proofs.YtojklddddedoeaaW.PrintMore
set_option linter.unusedVariables false
set_option linter.unusedSimpArgs false
def InR (x : Int) : Prop := -9223372036854775808 ≤ x ∧ x ≤ 9223372036854775807
theorem w64 {x : Int} (h0 : -9223372036854775808 ≤ x) (h1 : x ≤ 9223372036854775807) : wrap64 x = x := by unfold wrap64; omega
theorem wR {x : Int} (h : InR x) : wrap64 x = x := w64 h.1 h.2
theorem inR_wrap (x : Int) : InR (wrap64 x) := by unfold InR wrap64; omega
theorem inR_0 : InR 0 := ⟨by omega, by omega⟩
theorem wr_add (a b : Int) : wrap64 (wrap64 a + b) = wrap64 (a + b) := by unfold wrap64; omega
theorem wr_add' (a b : Int) : wrap64 (a + wrap64 b) = wrap64 (a + b) := by unfold wrap64; omega
theorem wnext {i n : Nat} (h : i < n) (hn : n ≤ 4611686018427387904) : wrap64 ((i : Int) + 1) = ((i + 1 : Nat) : Int) := by unfold wrap64; omega
theorem ilt {i n : Nat} (h : i < n) : ((i : Int) < (n : Int)) = True := eq_true (by omega)
theorem nlt {i n : Nat} (h : n ≤ i) : ((i : Int) < (n : Int)) = False := eq_false (by omega)
theorem inn (i : Nat) : (0 ≤ (i : Int)) = True := eq_true (by omega)
theorem ile {i n : Nat} (h : i ≤ n) : ((i : Int) ≤ (n : Int)) = True := eq_true (by omega)
theorem mx_eq (a b : Int) : mx a b = max a b := by unfold mx; omega
theorem mn_eq (a b : Int) : mn a b = min a b := by unfold mn; omega
def wth (n lo hi : Int) : Bool := decide (lo ≤ n) && decide (n ≤ hi)
theorem wth_iff {n lo hi : Int} : wth n lo hi = true ↔ lo ≤ n ∧ n ≤ hi := by simp [wth]
theorem wth_opt (n lo hi : Int) : (if n ≥ lo then some (decide (n ≤ hi)) else some false) = some (wth n lo hi) := by
  unfold wth
  by_cases h : lo ≤ n
  · rw [if_pos h]; simp [h]
  · rw [if_neg h]; simp [h]
theorem down {n : Nat} {P : Nat → Prop} (hn : P n) (hs : ∀ i, i < n → P (i + 1) → P i) : ∀ i, i ≤ n → P i := by
  have key : ∀ d i, i ≤ n → n - i = d → P i := by
    intro d
    induction d with
    | zero => intro i hi h; obtain rfl : i = n := by omega
              exact hn
    | succ d ih => intro i hi h; exact hs i (by omega) (ih (i + 1) (by omega) (by omega))
  exact fun i hi => key _ i hi rfl
theorem rd_lt {l : List Int} {i : Nat} (h : i < l.length) : rd l (i : Int) = l[i] := by simp [rd, List.getD_eq_getElem?_getD, h]
theorem rd_get (l : List Int) (i : Nat) : rd l (i : Int) = l.getD i 0 := by simp [rd]
theorem drop_cons {α : Type} {l : List α} {i : Nat} (h : i < l.length) : l.drop i = l[i] :: l.drop (i + 1) := List.drop_eq_getElem_cons h
def allW (l : List Int) (lo hi : Int) : Bool := l.all fun x => wth x lo hi
theorem allW_iff {l : List Int} {lo hi : Int} : allW l lo hi = true ↔ ∀ x ∈ l, lo ≤ x ∧ x ≤ hi := by simp [allW, wth_iff]
def goodB (l : List Int) : Bool := wth l.length 1 8 && allW l 0 60
def Lst (l : List Int) : Prop := 1 ≤ l.length ∧ l.length ≤ 8 ∧ ∀ x ∈ l, 0 ≤ x ∧ x ≤ 60
theorem goodB_iff {l : List Int} : goodB l = true ↔ Lst l := by
  unfold goodB Lst
  rw [Bool.and_eq_true, wth_iff, allW_iff]
  constructor
  · rintro ⟨⟨a, b⟩, c⟩; exact ⟨by omega, by omega, c⟩
  · rintro ⟨a, b, c⟩; exact ⟨⟨by omega, by omega⟩, c⟩
theorem sum_bound {l : List Int} {lo hi : Int} (h : ∀ x ∈ l, lo ≤ x ∧ x ≤ hi) : l.length * lo ≤ l.sum ∧ l.sum ≤ l.length * hi := by
  induction l with
  | nil => simp
  | cons x t ih =>
    have h1 := h x (by simp)
    have h2 := ih (fun y hy => h y (by simp [hy]))
    simp only [List.sum_cons, List.length_cons]
    have e1 : ((t.length + 1 : Nat) : Int) * lo = t.length * lo + lo := by rw [Int.natCast_add, Int.add_mul]; simp
    have e2 : ((t.length + 1 : Nat) : Int) * hi = t.length * hi + hi := by rw [Int.natCast_add, Int.add_mul]; simp
    omega
theorem Lst.sum {l : List Int} (h : Lst l) : 0 ≤ l.sum ∧ l.sum ≤ 480 := by
  have := sum_bound h.2.2
  have h2 := h.2.1
  omega
theorem Lst.get {l : List Int} (h : Lst l) {i : Nat} (hi : i < l.length) : 0 ≤ l[i] ∧ l[i] ≤ 60 := h.2.2 _ (List.getElem_mem hi)
theorem wprev {i : Nat} (hi : i ≤ 4611686018427387904) : wrap64 (((i + 1 : Nat) : Int) - 1) = (i : Int) := by unfold wrap64; omega
def hp (x y : Int) : Bool := wth (y - x) (-1) 1
def absd (x y : Int) : Int := max (x - y) (y - x)
def pairsGo (l : List Int) (i : Nat) : Nat → Int
  | 0 => 0
  | d + 1 => ((l.take i).map (absd (l.getD i 0))).sum + pairsGo l (i + 1) d
def pairsFrom (l : List Int) (i : Nat) : Int := pairsGo l i (l.length - i)
def pairsSum (l : List Int) : Int := pairsFrom l 0
def dot : List Int → List Int → Int
  | x :: l, y :: m => x * y + dot l m
  | _, _ => 0
def fits (a b : List Int) : Bool := goodB a && (goodB b && (decide (a.length = b.length) && decide (a.sum = b.sum)))
theorem fits_iff {a b : List Int} : fits a b = true ↔ Lst a ∧ Lst b ∧ a.length = b.length ∧ a.sum = b.sum := by
  unfold fits
  rw [Bool.and_eq_true, Bool.and_eq_true, Bool.and_eq_true, goodB_iff, goodB_iff, decide_eq_true_eq, decide_eq_true_eq]
def psums (s : Int) : List Int → List Int
  | [] => []
  | x :: t => (s + x) :: psums (s + x) t
theorem psums_length (s : Int) (l : List Int) : (psums s l).length = l.length := by
  induction l generalizing s with
  | nil => rfl
  | cons x t ih => simp [psums, ih]
def dsums (s : Int) : List Int → List Int → List Int
  | x :: a, y :: b => (s + (x - y)) :: dsums (s + (x - y)) a b
  | _, _ => []
theorem dsums_length (s : Int) (a b : List Int) (h : a.length = b.length) : (dsums s a b).length = a.length := by
  induction a generalizing s b with
  | nil => cases b <;> rfl
  | cons x t ih =>
    cases b with
    | nil => simp at h
    | cons y u => simp [dsums, ih _ u (by simpa using h)]
def sabs1 : List Int → Int
  | x :: a => max x (-x) + sabs1 a
  | [] => 0
def lineDist (a b : List Int) : Int := sabs1 (dsums 0 a b)
theorem psums_bound {s lo hi : Int} {l : List Int} (hl : ∀ x ∈ l, 0 ≤ x ∧ x ≤ 60) (h0 : lo ≤ s) (h1 : s + 60 * l.length ≤ hi) : ∀ x ∈ psums s l, lo ≤ x ∧ x ≤ hi := by
  induction l generalizing s with
  | nil => intro x hx; simp [psums] at hx
  | cons y t ih =>
    have hy := hl y (by simp)
    simp only [List.length_cons] at h1
    intro x hx
    simp only [psums, List.mem_cons] at hx
    rcases hx with rfl | hx
    · omega
    · exact ih (fun z hz => hl z (by simp [hz])) (by omega) (by omega) x hx
theorem dsums_bound {s : Int} {a b : List Int} {B : Int} (ha : ∀ x ∈ a, 0 ≤ x ∧ x ≤ 60) (hb : ∀ x ∈ b, 0 ≤ x ∧ x ≤ 60) (h0 : 60 * (a.length : Int) - B ≤ s) (h1 : s + 60 * a.length ≤ B) : ∀ x ∈ dsums s a b, -B ≤ x ∧ x ≤ B := by
  induction a generalizing s b with
  | nil => intro x hx; cases b <;> simp [dsums] at hx
  | cons y t ih =>
    cases b with
    | nil => intro x hx; simp [dsums] at hx
    | cons z u =>
      have hy := ha y (by simp)
      have hz := hb z (by simp)
      simp only [List.length_cons] at h0 h1
      intro x hx
      simp only [dsums, List.mem_cons] at hx
      rcases hx with rfl | hx
      · omega
      · exact ih (fun z hz => ha z (by simp [hz])) (fun z hz => hb z (by simp [hz])) (by omega) (by omega) x hx
def exc (l : List Int) (t : Int) : Int := (l.map fun x => max 0 (x - t)).sum
def fthr (a b : List Int) (t : Nat) : Nat → Int × Bool
  | 0 => (0, false)
  | d + 1 => if exc a t > exc b t then ((t : Int), true) else fthr a b (t + 1) d
def spreadOf (l : List Int) : Int := wrap64 (wrap64 (l.length * wrap64 (dot l l)) - wrap64 (l.sum * l.sum))
def excessOf (l : List Int) : Int := (l.map fun x => max 0 (l.length * x - l.sum)).sum
def Siz (m : List (List Int)) : Prop := m.length ≤ 1048576 ∧ ∀ r ∈ m, r.length ≤ 1048576
def rowOk (n : Nat) (r : List Int) : Bool := decide (r.length = n) && allW r 0 60
def planB (m : List (List Int)) : Bool := wth m.length 1 8 && m.all (rowOk m.length)
def Plan (m : List (List Int)) : Prop := 1 ≤ m.length ∧ m.length ≤ 8 ∧ ∀ r ∈ m, r.length = m.length ∧ ∀ x ∈ r, 0 ≤ x ∧ x ≤ 60
theorem rowOk_iff {n : Nat} {r : List Int} : rowOk n r = true ↔ r.length = n ∧ ∀ x ∈ r, 0 ≤ x ∧ x ≤ 60 := by
  rw [rowOk, Bool.and_eq_true, decide_eq_true_eq, allW_iff]
theorem planB_iff {m : List (List Int)} : planB m = true ↔ Plan m := by
  unfold planB Plan
  rw [Bool.and_eq_true, wth_iff, List.all_eq_true]
  constructor
  · rintro ⟨⟨a, b⟩, c⟩; exact ⟨by omega, by omega, fun r hr => rowOk_iff.1 (c r hr)⟩
  · rintro ⟨a, b, c⟩; exact ⟨⟨by omega, by omega⟩, fun r hr => rowOk_iff.2 (c r hr)⟩
theorem Plan.siz {m : List (List Int)} (h : Plan m) : Siz m := ⟨by have := h.2.1; omega, fun r hr => by have := (h.2.2 r hr).1; have := h.2.1; omega⟩
def rowCost (i j : Nat) : List Int → Int
  | [] => 0
  | x :: t => x * max ((i : Int) - j) ((j : Int) - i) + rowCost i (j + 1) t
def costGo (i : Nat) : List (List Int) → Int
  | [] => 0
  | r :: t => rowCost i 0 r + costGo (i + 1) t
def cellsRow (i j : Nat) : List Int → List (Nat × Nat)
  | [] => []
  | x :: t => if x > 0 then (i, j) :: cellsRow i (j + 1) t else cellsRow i (j + 1) t
def cellsGo (i : Nat) : List (List Int) → List (Nat × Nat)
  | [] => []
  | r :: t => cellsRow i 0 r ++ cellsGo (i + 1) t
def lowGo (i : Nat) : List (List Int) → Bool
  | [] => true
  | r :: t => allW (r.drop (i + 1)) 0 0 && lowGo (i + 1) t
theorem low_row (i : Nat) : ∀ (l : List Int) (j : Nat), (∀ x ∈ l, 0 ≤ x) → (cellsRow i j l).all (fun p => decide (p.2 ≤ p.1)) = allW (l.drop (i + 1 - j)) 0 0
  | [], _, _ => by simp [cellsRow, allW]
  | x :: t, j, h => by
    have ih := low_row i t (j + 1) (fun y hy => h y (by simp [hy]))
    have hx := h x (by simp)
    by_cases c : j ≤ i
    · rw [show i + 1 - j = (i + 1 - (j + 1)) + 1 by omega, List.drop_succ_cons, ← ih, cellsRow]
      by_cases g : x > 0
      · simp [g, c]
      · simp [g]
    · rw [show i + 1 - (j + 1) = 0 by omega] at ih
      rw [show i + 1 - j = 0 by omega, List.drop_zero]
      rw [List.drop_zero] at ih
      rw [cellsRow]
      by_cases g : x > 0
      · rw [if_pos g, List.all_cons, decide_eq_false (by simpa using c), Bool.false_and, allW, List.all_cons, show wth x 0 0 = false by simp [wth]; omega, Bool.false_and]
      · have : x = 0 := by omega
        rw [if_neg g, ih, allW, allW, List.all_cons, this, show wth 0 0 0 = true by decide, Bool.true_and]
theorem low_cells : ∀ (m : List (List Int)) (i : Nat), (∀ r ∈ m, ∀ x ∈ r, 0 ≤ x) → (cellsGo i m).all (fun p => decide (p.2 ≤ p.1)) = lowGo i m
  | [], _, _ => rfl
  | r :: t, i, h => by
    rw [cellsGo, List.all_append, lowGo, low_row i r 0 (h r (by simp)), low_cells t (i + 1) (fun q hq => h q (by simp [hq])), Nat.sub_zero]
def Short (l : List Int) : Prop := l.length ≤ 8 ∧ ∀ x ∈ l, 0 ≤ x ∧ x ≤ 60
theorem Short.sum {l : List Int} (h : Short l) : 0 ≤ l.sum ∧ l.sum ≤ 480 := by
  have := sum_bound h.2
  have := h.1
  omega
theorem Plan.short {m : List (List Int)} (h : Plan m) : ∀ r ∈ m, Short r := fun r hr => ⟨by have := (h.2.2 r hr).1; have := h.2.1; omega, (h.2.2 r hr).2⟩
theorem Plan.getD {m : List (List Int)} (h : Plan m) {r : List Int} (hr : r ∈ m) (j : Nat) : 0 ≤ r.getD j 0 ∧ r.getD j 0 ≤ 60 := by
  rw [List.getD_eq_getElem?_getD]
  by_cases c : j < r.length
  · rw [List.getElem?_eq_getElem c]
    exact (h.2.2 r hr).2 _ (List.getElem_mem c)
  · rw [List.getElem?_eq_none (by omega)]
    simp
def colsUpto (m : List (List Int)) (i : Nat) : List (List Int) := (List.range m.length).map fun c => (m.take i).map fun r => r.getD c 0
def Shp (m : List (List Int)) (p q : Nat) : Prop := m.length = p ∧ ∀ r ∈ m, r.length = q
theorem Shp.row {m : List (List Int)} {p q i : Nat} (h : Shp m p q) (hi : i < p) : (m.getD i []).length = q := by
  have hl : i < m.length := by rw [h.1]; exact hi
  rw [List.getD_eq_getElem?_getD, List.getElem?_eq_getElem hl, Option.getD_some]
  exact h.2 _ (List.getElem_mem hl)
theorem Shp.set {m : List (List Int)} {p q i : Nat} (h : Shp m p q) {r : List Int} (hr : r.length = q) : Shp (m.set i r) p q := by
  refine ⟨by rw [List.length_set]; exact h.1, fun x hx => ?_⟩
  rcases List.mem_or_eq_of_mem_set hx with h1 | h1
  · exact h.2 x h1
  · rw [h1]; exact hr
theorem shp_zeros (p q : Nat) : Shp (List.replicate p (List.replicate q 0)) p q := ⟨by simp, fun r hr => by rw [List.eq_of_mem_replicate hr]; simp⟩
theorem Shp.siz {m : List (List Int)} {p q : Nat} (h : Shp m p q) (hp : p ≤ 1048576) (hq : q ≤ 1048576) : Siz m := ⟨by rw [h.1]; exact hp, fun r hr => by rw [h.2 r hr]; exact hq⟩
def carryN : Nat → List (List Int) → List Int → List Int → Nat → Nat → List (List Int)
  | 0, m, _, _, _, _ => m
  | d + 1, m, a, b, i, j =>
    if i < a.length ∧ j < b.length then
      if (a.set i (wrap64 (a.getD i 0 - min (a.getD i 0) (b.getD j 0)))).getD i 0 = 0 then carryN d (m.set i ((m.getD i []).set j (wrap64 ((m.getD i []).getD j 0 + min (a.getD i 0) (b.getD j 0))))) (a.set i (wrap64 (a.getD i 0 - min (a.getD i 0) (b.getD j 0)))) (b.set j (wrap64 (b.getD j 0 - min (a.getD i 0) (b.getD j 0)))) (i + 1) j
      else carryN d (m.set i ((m.getD i []).set j (wrap64 ((m.getD i []).getD j 0 + min (a.getD i 0) (b.getD j 0))))) (a.set i (wrap64 (a.getD i 0 - min (a.getD i 0) (b.getD j 0)))) (b.set j (wrap64 (b.getD j 0 - min (a.getD i 0) (b.getD j 0)))) i (j + 1)
    else m
theorem carryN_shp : ∀ (d : Nat) (m : List (List Int)) (a b : List Int) (i j p q : Nat), a.length = p → Shp m p q → Shp (carryN d m a b i j) p q
  | 0, _, _, _, _, _, _, _, _, h => h
  | d + 1, m, a, b, i, j, p, q, ha, h => by
    unfold carryN
    by_cases c : i < a.length ∧ j < b.length
    · rw [if_pos c]
      have hs : Shp (m.set i ((m.getD i []).set j (wrap64 ((m.getD i []).getD j 0 + min (a.getD i 0) (b.getD j 0))))) p q := h.set (by rw [List.length_set]; exact h.row (by omega))
      split
      · exact carryN_shp d _ _ _ _ _ p q (by rw [List.length_set]; exact ha) hs
      · exact carryN_shp d _ _ _ _ _ p q (by rw [List.length_set]; exact ha) hs
    · rw [if_neg c]; exact h
def zerosP (p q : Nat) : List (List Int) := List.replicate p (List.replicate q 0)
def monoP (a b : List Int) : List (List Int) := carryN (a.length + b.length + 1) (zerosP a.length a.length) a b 0 0
theorem monoP_shp (a b : List Int) : Shp (monoP a b) a.length a.length := carryN_shp _ _ _ _ _ _ _ _ rfl (shp_zeros _ _)
def insD (x : Int) : List Int → List Int
  | [] => [x]
  | y :: ys => if y ≥ x then y :: insD x ys else x :: y :: ys
def rankFrom (r : List Int) (l : List Int) : List Int := l.foldl (fun a x => insD x a) r
def rankD (l : List Int) : List Int := rankFrom [] l
theorem insD_perm (x : Int) : ∀ l : List Int, List.Perm (insD x l) (x :: l)
  | [] => List.Perm.refl _
  | y :: ys => by
    simp only [insD]
    split
    · exact ((insD_perm x ys).cons y).trans (List.Perm.swap x y ys)
    · exact List.Perm.refl _
theorem insD_length (x : Int) (l : List Int) : (insD x l).length = l.length + 1 := by rw [(insD_perm x l).length_eq, List.length_cons]
def Desc (l : List Int) : Prop := l.Pairwise fun x y => y ≤ x
theorem insD_desc (x : Int) : ∀ l : List Int, Desc l → Desc (insD x l)
  | [], _ => List.pairwise_singleton _ _
  | y :: ys, h => by
    have h' := List.pairwise_cons.1 h
    simp only [insD]
    split
    next c =>
      refine List.pairwise_cons.2 ⟨fun z hz => ?_, insD_desc x ys h'.2⟩
      rcases List.mem_cons.1 ((insD_perm x ys).mem_iff.1 hz) with e | e
      · omega
      · exact h'.1 z e
    next c =>
      refine List.pairwise_cons.2 ⟨fun z hz => ?_, h⟩
      rcases List.mem_cons.1 hz with e | e
      · omega
      · have := h'.1 z e; omega
theorem rankFrom_perm : ∀ (l r : List Int), List.Perm (rankFrom r l) (l ++ r)
  | [], r => List.Perm.refl _
  | x :: l, r => (rankFrom_perm l (insD x r)).trans (((insD_perm x r).append_left l).trans List.perm_middle)
theorem rankFrom_desc : ∀ (l r : List Int), Desc r → Desc (rankFrom r l)
  | [], _, h => h
  | x :: l, r, h => rankFrom_desc l (insD x r) (insD_desc x r h)
theorem rankD_perm (l : List Int) : List.Perm (rankD l) l := by have := rankFrom_perm l []; rwa [List.append_nil] at this
theorem rankD_desc (l : List Int) : Desc (rankD l) := rankFrom_desc l [] List.Pairwise.nil
theorem rankD_length (l : List Int) : (rankD l).length = l.length := (rankD_perm l).length_eq
theorem rankD_lst {l : List Int} (h : Lst l) : Lst (rankD l) := ⟨by rw [rankD_length]; exact h.1, by rw [rankD_length]; exact h.2.1, fun x hx => h.2.2 x ((rankD_perm l).mem_iff.1 hx)⟩
theorem rankD_sum (l : List Int) : (rankD l).sum = l.sum := by
  have : ∀ a b : List Int, List.Perm a b → a.sum = b.sum := by
    intro a b h
    induction h with
    | nil => rfl
    | cons x _ ih => simp only [List.sum_cons, ih]
    | swap x y l => simp only [List.sum_cons]; omega
    | trans _ _ h1 h2 => exact h1.trans h2
  exact this _ _ (rankD_perm l)
theorem desc_le {l : List Int} (h : Desc l) {i j : Nat} (hij : i < j) (hj : j < l.length) : l[j] ≤ l[i] := (List.pairwise_iff_getElem.1 h) i j (by omega) hj hij
theorem foldl_max_mem : ∀ (l : List Int) (a : Int), l.foldl max a ∈ a :: l
  | [], a => List.mem_cons_self ..
  | x :: l, a => by
    have h := foldl_max_mem l (max a x)
    rw [List.foldl_cons]
    rcases List.mem_cons.1 h with e | e
    · rw [e]
      by_cases c : a ≤ x
      · rw [show max a x = x by omega]; exact List.mem_cons_of_mem _ (List.mem_cons_self ..)
      · rw [show max a x = a by omega]; exact List.mem_cons_self ..
    · exact List.mem_cons_of_mem _ (List.mem_cons_of_mem _ e)
theorem foldl_max_le : ∀ (l : List Int) (a : Int), ∀ x ∈ a :: l, x ≤ l.foldl max a
  | [], a, x, hx => by
    rcases List.mem_cons.1 hx with e | e
    · exact Int.le_of_eq e
    · exact absurd e (List.not_mem_nil)
  | y :: l, a, x, hx => by
    rw [List.foldl_cons]
    have h0 := foldl_max_le l (max a y) (max a y) (List.mem_cons_self ..)
    rcases List.mem_cons.1 hx with e | e
    · omega
    · rcases List.mem_cons.1 e with e | e
      · omega
      · exact foldl_max_le l (max a y) x (List.mem_cons_of_mem _ e)
def mostOf (l : List Int) : Int := (l.drop 1).foldl max (l.getD 0 0)
def lowOf (l : List Int) : Int := (l.drop 1).foldl min (l.getD 0 0)
theorem cons_drop_one {l : List Int} (h : 0 < l.length) : l.getD 0 0 :: l.drop 1 = l := by
  cases l with
  | nil => exact absurd h (by simp)
  | cons x l => rfl
theorem mostOf_mem {l : List Int} (h : 0 < l.length) : mostOf l ∈ l := by
  have := foldl_max_mem (l.drop 1) (l.getD 0 0); rwa [cons_drop_one h] at this
theorem mostOf_le {l : List Int} (h : 0 < l.length) {x : Int} (hx : x ∈ l) : x ≤ mostOf l := by
  have := foldl_max_le (l.drop 1) (l.getD 0 0) x; rw [cons_drop_one h] at this; exact this hx
theorem desc_unique : ∀ {l m : List Int}, List.Perm l m → Desc l → Desc m → l = m
  | [], m, hp, _, _ => (List.nil_perm.1 hp).symm
  | x :: l, [], hp, _, _ => absurd hp.length_eq (by simp)
  | x :: l, y :: m, hp, h1, h2 => by
    have a := List.pairwise_cons.1 h1
    have b := List.pairwise_cons.1 h2
    have e : x = y := by
      have hx : x ∈ y :: m := hp.mem_iff.1 (List.mem_cons_self ..)
      have hy : y ∈ x :: l := hp.mem_iff.2 (List.mem_cons_self ..)
      rcases List.mem_cons.1 hx with e | e
      · exact e
      · rcases List.mem_cons.1 hy with f | f
        · exact f.symm
        · have := a.1 y f; have := b.1 x e; omega
    subst e
    rw [desc_unique ((List.perm_cons x).1 hp) a.2 b.2]
theorem Lst.most {l : List Int} (h : Lst l) : 0 ≤ mostOf l ∧ mostOf l ≤ 60 := h.2.2 _ (mostOf_mem (by have := h.1; omega))
theorem psums_get (s : Int) : ∀ (l : List Int) (i : Nat) (h : i < (psums s l).length), (psums s l)[i] = s + (l.take (i + 1)).sum
  | [], i, h => by simp [psums] at h
  | x :: t, 0, _ => by simp [psums]
  | x :: t, i + 1, h => by
    have h' : i < (psums (s + x) t).length := by simpa [psums] using h
    show (psums (s + x) t)[i] = _
    rw [psums_get (s + x) t i h', List.take_succ_cons, List.sum_cons]
    omega
def leAll : List Int → List Int → Bool
  | x :: a, y :: b => decide (x ≤ y) && leAll a b
  | _, _ => true
theorem leAll_iff : ∀ (a b : List Int), a.length = b.length → (leAll a b = true ↔ ∀ i, (h : i < a.length) → (h2 : i < b.length) → a[i] ≤ b[i])
  | [], [], _ => ⟨fun _ i h _ => absurd h (by simp), fun _ => rfl⟩
  | [], _ :: _, h => absurd h (by simp)
  | _ :: _, [], h => absurd h (by simp)
  | x :: a, y :: b, h => by
    have ih := leAll_iff a b (by simpa using h)
    simp only [leAll, Bool.and_eq_true, decide_eq_true_eq, ih]
    constructor
    · intro ⟨h0, h1⟩ i hi hj
      cases i with
      | zero => exact h0
      | succ i => exact h1 i (by simpa using hi) (by simpa using hj)
    · intro h0
      exact ⟨h0 0 (by simp) (by simp), fun i hi hj => h0 (i + 1) (by simpa using hi) (by simpa using hj)⟩
def refGo : Nat → List Int → List Int → Int
  | i, x :: a, y :: b => if x > y then ((i + 1 : Nat) : Int) else refGo (i + 1) a b
  | _, _, _ => 0
theorem refGo_zero : ∀ (i : Nat) (a b : List Int), (refGo i a b == 0) = leAll a b
  | _, [], _ => by simp [refGo, leAll]
  | _, _ :: _, [] => by simp [refGo, leAll]
  | i, x :: a, y :: b => by
    simp only [refGo, leAll]
    by_cases c : x > y
    · rw [if_pos c, decide_eq_false (by omega : ¬ x ≤ y), Bool.false_and]
      exact beq_eq_false_iff_ne.2 (by omega)
    · rw [if_neg c, decide_eq_true (by omega : x ≤ y), Bool.true_and, refGo_zero (i + 1) a b]
def partOf (l : List Int) : List Int := psums 0 (rankD l)
theorem partOf_length (l : List Int) : (partOf l).length = l.length := by rw [partOf, psums_length, rankD_length]
end Go.Proofs.Ytojklddddedoeaa.Math
