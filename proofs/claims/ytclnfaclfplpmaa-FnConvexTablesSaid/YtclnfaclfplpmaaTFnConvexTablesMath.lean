/- Words of the kit's print, those of them that this law uses. -/
import Derived.Test.YtclnfaclfplpmaaTFnConvexTablesWords
import Derived.Test.YtclnfaclfplpmaaTFnConvexTablesMore
import Derived.Test.YtclnfaclfplpmaaTFnConvexTablesSized
namespace Go.Proofs.Ytclnfaclfplpmaa.PrintWords
abbrev sized_ints := @Go.Proofs.YtclnfaclfplpmaaW.PrintWords.sized_ints
end Go.Proofs.Ytclnfaclfplpmaa.PrintWords
namespace Go.Proofs.YtclnfaclfplpmaaW.PrintWords
theorem Ev.succ {α : Type} {g : Nat → Option α} {r : α} (h : Ev (fun k => g (k + 1)) r) : Ev g r := Ev.step (fun _ => rfl) h
theorem Ev.ret {α β : Type} {g : Nat → Option α} {a : α} {f : α → β} (h : Ev g a) : Ev (fun k => (g k).bind fun t => some (f t)) (f a) :=
  Ev.bind (f := fun _ t => some (f t)) h (Ev.now _)
theorem Ev.and {g h : Nat → Option Bool} {a b : Bool} (hg : Ev g a) (hh : a = true → Ev h b) : Ev (fun k => (g k).bind fun t => if t = true then h k else some false) (a && b) := by
  refine Ev.bind (f := fun k t => if t = true then h k else some false) hg ?_
  cases a with
  | true => simpa using hh rfl
  | false => simpa using Ev.now false
theorem Ev.andS {h : Nat → Option Bool} {a b : Bool} (hh : a = true → Ev h b) : Ev (fun k => if a = true then h k else some false) (a && b) := by
  cases a with
  | true => simpa using hh rfl
  | false => simpa using Ev.now false
theorem Ev.eqv {α : Type} {g : Nat → Option α} {r q : α} (h : Ev g r) (e : r = q) : Ev g q := e ▸ h
end Go.Proofs.YtclnfaclfplpmaaW.PrintWords
namespace Go.Proofs.Ytclnfaclfplpmaa.Math
open Go.RowKit Go.Proofs.YtclnfaclfplpmaaW.PrintWords Go.Proofs.YtclnfaclfplpmaaW.PrintMore
set_option linter.unusedVariables false
set_option linter.unusedSimpArgs false
def InR (x : Int) : Prop := -9223372036854775808 ≤ x ∧ x ≤ 9223372036854775807
theorem w64 {x : Int} (h0 : -9223372036854775808 ≤ x) (h1 : x ≤ 9223372036854775807) : wrap64 x = x := by unfold wrap64; omega
theorem wR {x : Int} (h : InR x) : wrap64 x = x := w64 h.1 h.2
theorem inR_wrap (x : Int) : InR (wrap64 x) := by unfold InR wrap64; omega
theorem inR_0 : InR 0 := ⟨by omega, by omega⟩
theorem wr_add (a b : Int) : wrap64 (wrap64 a + b) = wrap64 (a + b) := by unfold wrap64; omega
theorem wr_add' (a b : Int) : wrap64 (a + wrap64 b) = wrap64 (a + b) := by unfold wrap64; omega
theorem wnext {i n : Nat} (h : i < n) (hn : n ≤ 4611686018427387904) : wrap64 ((i : Int) + 1) = ((i + 1 : Nat) : Int) := by unfold wrap64; omega
theorem ilt {i n : Nat} (h : i < n) : ((i : Int) < (n : Int)) = True := eq_true (by omega)
theorem nlt {i n : Nat} (h : n ≤ i) : ((i : Int) < (n : Int)) = False := eq_false (by omega)
theorem inn (i : Nat) : (0 ≤ (i : Int)) = True := eq_true (by omega)
theorem ile {i n : Nat} (h : i ≤ n) : ((i : Int) ≤ (n : Int)) = True := eq_true (by omega)
def wth (n lo hi : Int) : Bool := decide (lo ≤ n) && decide (n ≤ hi)
theorem wth_iff {n lo hi : Int} : wth n lo hi = true ↔ lo ≤ n ∧ n ≤ hi := by simp [wth]
theorem wth_opt (n lo hi : Int) : (if n ≥ lo then some (decide (n ≤ hi)) else some false) = some (wth n lo hi) := by
  unfold wth
  by_cases h : lo ≤ n
  · rw [if_pos h]; simp [h]
  · rw [if_neg h]; simp [h]
theorem down {n : Nat} {P : Nat → Prop} (hn : P n) (hs : ∀ i, i < n → P (i + 1) → P i) : ∀ i, i ≤ n → P i := by
  have key : ∀ d i, i ≤ n → n - i = d → P i := by
    intro d
    induction d with
    | zero => intro i hi h; obtain rfl : i = n := by omega
              exact hn
    | succ d ih => intro i hi h; exact hs i (by omega) (ih (i + 1) (by omega) (by omega))
  exact fun i hi => key _ i hi rfl
theorem rd_lt {l : List Int} {i : Nat} (h : i < l.length) : rd l (i : Int) = l[i] := by simp [rd, List.getD_eq_getElem?_getD, h]
theorem rd_get (l : List Int) (i : Nat) : rd l (i : Int) = l.getD i 0 := by simp [rd]
theorem drop_cons {α : Type} {l : List α} {i : Nat} (h : i < l.length) : l.drop i = l[i] :: l.drop (i + 1) := List.drop_eq_getElem_cons h
def allW (l : List Int) (lo hi : Int) : Bool := l.all fun x => wth x lo hi
theorem allW_iff {l : List Int} {lo hi : Int} : allW l lo hi = true ↔ ∀ x ∈ l, lo ≤ x ∧ x ≤ hi := by simp [allW, wth_iff]
def goodB (l : List Int) : Bool := wth l.length 1 8 && allW l 0 60
def Lst (l : List Int) : Prop := 1 ≤ l.length ∧ l.length ≤ 8 ∧ ∀ x ∈ l, 0 ≤ x ∧ x ≤ 60
theorem goodB_iff {l : List Int} : goodB l = true ↔ Lst l := by
  unfold goodB Lst
  rw [Bool.and_eq_true, wth_iff, allW_iff]
  constructor
  · rintro ⟨⟨a, b⟩, c⟩; exact ⟨by omega, by omega, c⟩
  · rintro ⟨a, b, c⟩; exact ⟨⟨by omega, by omega⟩, c⟩
theorem sum_bound {l : List Int} {lo hi : Int} (h : ∀ x ∈ l, lo ≤ x ∧ x ≤ hi) : l.length * lo ≤ l.sum ∧ l.sum ≤ l.length * hi := by
  induction l with
  | nil => simp
  | cons x t ih =>
    have h1 := h x (by simp)
    have h2 := ih (fun y hy => h y (by simp [hy]))
    simp only [List.sum_cons, List.length_cons]
    have e1 : ((t.length + 1 : Nat) : Int) * lo = t.length * lo + lo := by rw [Int.natCast_add, Int.add_mul]; simp
    have e2 : ((t.length + 1 : Nat) : Int) * hi = t.length * hi + hi := by rw [Int.natCast_add, Int.add_mul]; simp
    omega
theorem Lst.sum {l : List Int} (h : Lst l) : 0 ≤ l.sum ∧ l.sum ≤ 480 := by
  have := sum_bound h.2.2
  have h2 := h.2.1
  omega
theorem Lst.get {l : List Int} (h : Lst l) {i : Nat} (hi : i < l.length) : 0 ≤ l[i] ∧ l[i] ≤ 60 := h.2.2 _ (List.getElem_mem hi)
theorem wprev {i : Nat} (hi : i ≤ 4611686018427387904) : wrap64 (((i + 1 : Nat) : Int) - 1) = (i : Int) := by unfold wrap64; omega
def hp (x y : Int) : Bool := wth (y - x) (-1) 1
def conv3 : List Int → Bool
  | x :: y :: z :: t => decide (2 * y ≤ x + z) && conv3 (y :: z :: t)
  | _ => true
theorem conv3_short : ∀ {l : List Int}, l.length ≤ 2 → conv3 l = true
  | [], _ => rfl
  | [_], _ => rfl
  | [_, _], _ => rfl
  | _ :: _ :: _ :: _, h => by simp at h
def tableB (l : List Int) : Bool := decide ((l.length : Int) = 61) && allW l (-1000000) 1000000
def psums (s : Int) : List Int → List Int
  | [] => []
  | x :: t => (s + x) :: psums (s + x) t
theorem psums_length (s : Int) (l : List Int) : (psums s l).length = l.length := by
  induction l generalizing s with
  | nil => rfl
  | cons x t ih => simp [psums, ih]
def exc (l : List Int) (t : Int) : Int := (l.map fun x => max 0 (x - t)).sum
def sd3 : List Int → List Int
  | x :: y :: z :: t => (z - 2 * y + x) :: sd3 (y :: z :: t)
  | _ => []
theorem sd3_short : ∀ {l : List Int}, l.length ≤ 2 → sd3 l = []
  | [], _ => rfl
  | [_], _ => rfl
  | [_, _], _ => rfl
  | _ :: _ :: _ :: _, h => by simp at h
def wtsB (l : List Int) : Bool := tableB l && (conv3 l && (decide (l.getD 0 0 = 0) && decide (0 ≤ l.getD 1 0)))
def wts (l : List Int) : List Int := l.getD 1 0 :: sd3 l
theorem sd3_len : ∀ l : List Int, (sd3 l).length ≤ l.length
  | [] => by simp [sd3]
  | [_] => by simp [sd3]
  | [_, _] => by simp [sd3]
  | _ :: y :: z :: t => by
    have := sd3_len (y :: z :: t)
    simp only [sd3, List.length_cons] at this ⊢
    omega
theorem wts_len (l : List Int) : (if wtsB l then (wts l, true) else (([] : List Int), false)).1.length ≤ 62 := by
  cases h : wtsB l with
  | false => simp
  | true =>
    unfold wtsB tableB at h
    rw [Bool.and_eq_true, Bool.and_eq_true, decide_eq_true_eq] at h
    have := sd3_len l
    simp only [if_true, wts, List.length_cons]
    omega
def thrGo : List Int → Nat → Nat → Int
  | [], _, _ => 0
  | x :: t, n, i => x * max 0 ((n : Int) - i) + thrGo t n (i + 1)
def thrI : List Int → Nat → Nat → Int
  | [], _, _ => 0
  | x :: t, n, i => x * ((n : Int) - i) + thrI t n (i + 1)
def tabFrom (w : List Int) (n : Nat) : Nat → List Int
  | 0 => []
  | d + 1 => thrGo w n 0 :: tabFrom w (n + 1) d
def thrB (w : List Int) : Bool := decide ((w.length : Int) = 60) && allW w 0 500
theorem thrGo_0 : ∀ (l : List Int) (n i : Nat), n ≤ i → thrGo l n i = 0
  | [], _, _, _ => rfl
  | x :: t, n, i, h => by rw [thrGo, thrGo_0 t n (i + 1) (by omega), show max 0 ((n : Int) - i) = 0 by omega]; simp
theorem thrI_take : ∀ (l : List Int) (n i : Nat), thrGo l n i = thrI (l.take (n - i)) n i
  | [], _, _ => by simp [thrGo, thrI]
  | x :: t, n, i => by
    by_cases h : n ≤ i
    · rw [thrGo_0 _ _ _ h, show n - i = 0 by omega, List.take_zero, thrI]
    · rw [show n - i = (n - (i + 1)) + 1 by omega, List.take_succ_cons, thrGo, thrI, thrI_take t n (i + 1), show max 0 ((n : Int) - i) = (n : Int) - i by omega]
def tri : Nat → Int
  | 0 => 0
  | m + 1 => ((m + 1 : Nat) : Int) + tri m
theorem tri_mono : ∀ {m n : Nat}, m ≤ n → tri m ≤ tri n := by
  intro m n h
  induction n with
  | zero => obtain rfl : m = 0 := by omega
            exact Int.le_refl _
  | succ n ih =>
    by_cases c : m = n + 1
    · rw [c]; exact Int.le_refl _
    · have := ih (by omega)
      simp only [tri]
      omega
theorem thrGo_bound {l : List Int} (h : ∀ x ∈ l, 0 ≤ x ∧ x ≤ 500) (n i : Nat) : 0 ≤ thrGo l n i ∧ thrGo l n i ≤ 500 * tri (n - i) := by
  induction l generalizing i with
  | nil =>
    have := tri_mono (Nat.zero_le (n - i))
    simp only [thrGo, tri] at this ⊢
    omega
  | cons x t ih =>
    by_cases c : n ≤ i
    · rw [thrGo_0 _ _ _ c, show n - i = 0 by omega]; simp [tri]
    · have hx := h x (by simp)
      have := ih (fun y hy => h y (by simp [hy])) (i + 1)
      have e : max 0 ((n : Int) - i) = (n : Int) - i := by omega
      have p0 : 0 ≤ x * ((n : Int) - i) := Int.mul_nonneg hx.1 (by omega)
      have p1 : x * ((n : Int) - i) ≤ 500 * ((n : Int) - i) := Int.mul_le_mul_of_nonneg_right hx.2 (by omega)
      rw [thrGo, e, show n - i = (n - (i + 1)) + 1 by omega, tri]
      omega
theorem thr_le {w : List Int} (h : ∀ x ∈ w, 0 ≤ x ∧ x ≤ 500) {n : Nat} (hn : n ≤ 60) : 0 ≤ thrGo w n 0 ∧ thrGo w n 0 ≤ 915000 := by
  have h1 := thrGo_bound h n 0
  have h2 := tri_mono (show n - 0 ≤ 60 by omega)
  have h3 : tri 60 = 1830 := by decide
  omega
theorem thr_wrap {w : List Int} (h : ∀ x ∈ w, 0 ≤ x ∧ x ≤ 500) {n : Nat} (hn : n ≤ 60) : wrap64 (thrGo w n 0) = thrGo w n 0 := by
  have := thr_le h hn
  exact w64 (by omega) (by omega)
theorem tabFrom_len (w : List Int) : ∀ d n, (tabFrom w n d).length = d
  | 0, _ => rfl
  | d + 1, n => by simp [tabFrom, tabFrom_len w d (n + 1)]
theorem tabFrom_le {w : List Int} (h : ∀ x ∈ w, 0 ≤ x ∧ x ≤ 500) : ∀ d n, n + d ≤ 61 → ∀ x ∈ tabFrom w n d, -1000000 ≤ x ∧ x ≤ 1000000
  | 0, _, _ => by simp [tabFrom]
  | d + 1, n, hd => by
    intro x hx
    have := thr_le h (show n ≤ 60 by omega)
    simp only [tabFrom, List.mem_cons] at hx
    rcases hx with rfl | hx
    · omega
    · exact tabFrom_le h d (n + 1) (by omega) x hx
theorem tab_ok {w : List Int} (h : ∀ x ∈ w, 0 ≤ x ∧ x ≤ 500) : tableB (tabFrom w 0 61) = true := by
  rw [tableB, Bool.and_eq_true, decide_eq_true_eq, allW_iff, tabFrom_len]
  exact ⟨rfl, tabFrom_le h 61 0 (by omega)⟩
theorem tab_len (w : List Int) : (if thrB w then (tabFrom w 0 61, true) else (([] : List Int), false)).1.length ≤ 61 := by
  cases thrB w <;> simp [tabFrom_len]
def insD (x : Int) : List Int → List Int
  | [] => [x]
  | y :: ys => if y ≥ x then y :: insD x ys else x :: y :: ys
def rankFrom (r : List Int) (l : List Int) : List Int := l.foldl (fun a x => insD x a) r
def rankD (l : List Int) : List Int := rankFrom [] l
theorem insD_perm (x : Int) : ∀ l : List Int, List.Perm (insD x l) (x :: l)
  | [] => List.Perm.refl _
  | y :: ys => by
    simp only [insD]
    split
    · exact ((insD_perm x ys).cons y).trans (List.Perm.swap x y ys)
    · exact List.Perm.refl _
theorem insD_length (x : Int) (l : List Int) : (insD x l).length = l.length + 1 := by rw [(insD_perm x l).length_eq, List.length_cons]
def Desc (l : List Int) : Prop := l.Pairwise fun x y => y ≤ x
theorem insD_desc (x : Int) : ∀ l : List Int, Desc l → Desc (insD x l)
  | [], _ => List.pairwise_singleton _ _
  | y :: ys, h => by
    have h' := List.pairwise_cons.1 h
    simp only [insD]
    split
    next c =>
      refine List.pairwise_cons.2 ⟨fun z hz => ?_, insD_desc x ys h'.2⟩
      rcases List.mem_cons.1 ((insD_perm x ys).mem_iff.1 hz) with e | e
      · omega
      · exact h'.1 z e
    next c =>
      refine List.pairwise_cons.2 ⟨fun z hz => ?_, h⟩
      rcases List.mem_cons.1 hz with e | e
      · omega
      · have := h'.1 z e; omega
theorem rankFrom_perm : ∀ (l r : List Int), List.Perm (rankFrom r l) (l ++ r)
  | [], r => List.Perm.refl _
  | x :: l, r => (rankFrom_perm l (insD x r)).trans (((insD_perm x r).append_left l).trans List.perm_middle)
theorem rankFrom_desc : ∀ (l r : List Int), Desc r → Desc (rankFrom r l)
  | [], _, h => h
  | x :: l, r, h => rankFrom_desc l (insD x r) (insD_desc x r h)
theorem rankD_perm (l : List Int) : List.Perm (rankD l) l := by have := rankFrom_perm l []; rwa [List.append_nil] at this
theorem rankD_desc (l : List Int) : Desc (rankD l) := rankFrom_desc l [] List.Pairwise.nil
theorem rankD_length (l : List Int) : (rankD l).length = l.length := (rankD_perm l).length_eq
theorem rankD_lst {l : List Int} (h : Lst l) : Lst (rankD l) := ⟨by rw [rankD_length]; exact h.1, by rw [rankD_length]; exact h.2.1, fun x hx => h.2.2 x ((rankD_perm l).mem_iff.1 hx)⟩
theorem desc_le {l : List Int} (h : Desc l) {i j : Nat} (hij : i < j) (hj : j < l.length) : l[j] ≤ l[i] := (List.pairwise_iff_getElem.1 h) i j (by omega) hj hij
theorem rd_mid (A : List Int) (a : Int) (B : List Int) (m : Nat) (h : A.length = m) : rd (A ++ a :: B) (m : Int) = a := by
  rw [rd_get, List.getD_eq_getElem?_getD, ← h]
  simp
theorem set_mid (A : List Int) (a b : Int) (B : List Int) (m : Nat) (h : A.length = m) : (A ++ a :: B).set m b = A ++ b :: B := by
  rw [← h, List.set_append]
  simp
theorem insD_split (x : Int) : ∀ (P Q : List Int), (∀ y ∈ P, x ≤ y) → (∀ y ∈ Q, y < x) → insD x (P ++ Q) = P ++ x :: Q
  | [], [], _, _ => rfl
  | [], y :: Q, _, h => by
    have := h y (List.mem_cons_self ..)
    show insD x (y :: Q) = x :: y :: Q
    simp only [insD]
    rw [if_neg (by omega)]
  | p :: P, Q, h1, h2 => by
    have := h1 p (List.mem_cons_self ..)
    show insD x (p :: (P ++ Q)) = p :: (P ++ x :: Q)
    simp only [insD]
    rw [if_pos (by omega), insD_split x P Q (fun y hy => h1 y (List.mem_cons_of_mem _ hy)) h2]
theorem desc_split {P Q : List Int} (h : Desc (P ++ Q)) {p q : Int} (hp : p ∈ P) (hq : q ∈ Q) : q ≤ p := (List.pairwise_append.1 h).2.2 p hp q hq
theorem psums_get (s : Int) : ∀ (l : List Int) (i : Nat) (h : i < (psums s l).length), (psums s l)[i] = s + (l.take (i + 1)).sum
  | [], i, h => by simp [psums] at h
  | x :: t, 0, _ => by simp [psums]
  | x :: t, i + 1, h => by
    have h' : i < (psums (s + x) t).length := by simpa [psums] using h
    show (psums (s + x) t)[i] = _
    rw [psums_get (s + x) t i h', List.take_succ_cons, List.sum_cons]
    omega
def leAll : List Int → List Int → Bool
  | x :: a, y :: b => decide (x ≤ y) && leAll a b
  | _, _ => true
theorem leAll_iff : ∀ (a b : List Int), a.length = b.length → (leAll a b = true ↔ ∀ i, (h : i < a.length) → (h2 : i < b.length) → a[i] ≤ b[i])
  | [], [], _ => ⟨fun _ i h _ => absurd h (by simp), fun _ => rfl⟩
  | [], _ :: _, h => absurd h (by simp)
  | _ :: _, [], h => absurd h (by simp)
  | x :: a, y :: b, h => by
    have ih := leAll_iff a b (by simpa using h)
    simp only [leAll, Bool.and_eq_true, decide_eq_true_eq, ih]
    constructor
    · intro ⟨h0, h1⟩ i hi hj
      cases i with
      | zero => exact h0
      | succ i => exact h1 i (by simpa using hi) (by simpa using hj)
    · intro h0
      exact ⟨h0 0 (by simp) (by simp), fun i hi hj => h0 (i + 1) (by simpa using hi) (by simpa using hj)⟩
def refGo : Nat → List Int → List Int → Int
  | i, x :: a, y :: b => if x > y then ((i + 1 : Nat) : Int) else refGo (i + 1) a b
  | _, _, _ => 0
theorem refGo_zero : ∀ (i : Nat) (a b : List Int), (refGo i a b == 0) = leAll a b
  | _, [], _ => by simp [refGo, leAll]
  | _, _ :: _, [] => by simp [refGo, leAll]
  | i, x :: a, y :: b => by
    simp only [refGo, leAll]
    by_cases c : x > y
    · rw [if_pos c, decide_eq_false (by omega : ¬ x ≤ y), Bool.false_and]
      exact beq_eq_false_iff_ne.2 (by omega)
    · rw [if_neg c, decide_eq_true (by omega : x ≤ y), Bool.true_and, refGo_zero (i + 1) a b]
def partOf (l : List Int) : List Int := psums 0 (rankD l)
theorem partOf_length (l : List Int) : (partOf l).length = l.length := by rw [partOf, psums_length, rankD_length]
end Go.Proofs.Ytclnfaclfplpmaa.Math
