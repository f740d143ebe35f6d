/- Words of the kit's print, those of them that this law uses. -/
import Derived.Test.YtojklddddedoeaaTFnUncrossingWords
import Derived.Test.YtojklddddedoeaaTFnUncrossingMore
import Derived.Test.YtojklddddedoeaaTFnUncrossingSized
namespace Go.Proofs.Ytojklddddedoeaa.PrintWords
abbrev sized_ints := @Go.Proofs.YtojklddddedoeaaW.PrintWords.sized_ints
end Go.Proofs.Ytojklddddedoeaa.PrintWords
namespace Go.Proofs.YtojklddddedoeaaW.PrintWords
theorem Ev.succ {α : Type} {g : Nat → Option α} {r : α} (h : Ev (fun k => g (k + 1)) r) : Ev g r := Ev.step (fun _ => rfl) h
theorem Ev.ret {α β : Type} {g : Nat → Option α} {a : α} {f : α → β} (h : Ev g a) : Ev (fun k => (g k).bind fun t => some (f t)) (f a) :=
  Ev.bind (f := fun _ t => some (f t)) h (Ev.now _)
theorem Ev.and {g h : Nat → Option Bool} {a b : Bool} (hg : Ev g a) (hh : a = true → Ev h b) : Ev (fun k => (g k).bind fun t => if t = true then h k else some false) (a && b) := by
  refine Ev.bind (f := fun k t => if t = true then h k else some false) hg ?_
  cases a with
  | true => simpa using hh rfl
  | false => simpa using Ev.now false
theorem Ev.andS {h : Nat → Option Bool} {a b : Bool} (hh : a = true → Ev h b) : Ev (fun k => if a = true then h k else some false) (a && b) := by
  cases a with
  | true => simpa using hh rfl
  | false => simpa using Ev.now false
theorem Ev.eqv {α : Type} {g : Nat → Option α} {r q : α} (h : Ev g r) (e : r = q) : Ev g q := e ▸ h
end Go.Proofs.YtojklddddedoeaaW.PrintWords
namespace Go.Proofs.Ytojklddddedoeaa.Math
open Go.RowKit Go.Proofs.YtojklddddedoeaaW.PrintWords Go.Proofs.YtojklddddedoeaaW.PrintMore
set_option linter.unusedVariables false
set_option linter.unusedSimpArgs false
def InR (x : Int) : Prop := -9223372036854775808 ≤ x ∧ x ≤ 9223372036854775807
theorem w64 {x : Int} (h0 : -9223372036854775808 ≤ x) (h1 : x ≤ 9223372036854775807) : wrap64 x = x := by unfold wrap64; omega
theorem wR {x : Int} (h : InR x) : wrap64 x = x := w64 h.1 h.2
theorem inR_wrap (x : Int) : InR (wrap64 x) := by unfold InR wrap64; omega
theorem inR_0 : InR 0 := ⟨by omega, by omega⟩
theorem wr_add (a b : Int) : wrap64 (wrap64 a + b) = wrap64 (a + b) := by unfold wrap64; omega
theorem wr_add' (a b : Int) : wrap64 (a + wrap64 b) = wrap64 (a + b) := by unfold wrap64; omega
theorem wnext {i n : Nat} (h : i < n) (hn : n ≤ 4611686018427387904) : wrap64 ((i : Int) + 1) = ((i + 1 : Nat) : Int) := by unfold wrap64; omega
theorem ilt {i n : Nat} (h : i < n) : ((i : Int) < (n : Int)) = True := eq_true (by omega)
theorem nlt {i n : Nat} (h : n ≤ i) : ((i : Int) < (n : Int)) = False := eq_false (by omega)
theorem inn (i : Nat) : (0 ≤ (i : Int)) = True := eq_true (by omega)
theorem mx_eq (a b : Int) : mx a b = max a b := by unfold mx; omega
theorem mn_eq (a b : Int) : mn a b = min a b := by unfold mn; omega
def wth (n lo hi : Int) : Bool := decide (lo ≤ n) && decide (n ≤ hi)
theorem wth_iff {n lo hi : Int} : wth n lo hi = true ↔ lo ≤ n ∧ n ≤ hi := by simp [wth]
theorem wth_opt (n lo hi : Int) : (if n ≥ lo then some (decide (n ≤ hi)) else some false) = some (wth n lo hi) := by
  unfold wth
  by_cases h : lo ≤ n
  · rw [if_pos h]; simp [h]
  · rw [if_neg h]; simp [h]
theorem down {n : Nat} {P : Nat → Prop} (hn : P n) (hs : ∀ i, i < n → P (i + 1) → P i) : ∀ i, i ≤ n → P i := by
  have key : ∀ d i, i ≤ n → n - i = d → P i := by
    intro d
    induction d with
    | zero => intro i hi h; obtain rfl : i = n := by omega
              exact hn
    | succ d ih => intro i hi h; exact hs i (by omega) (ih (i + 1) (by omega) (by omega))
  exact fun i hi => key _ i hi rfl
theorem rd_lt {l : List Int} {i : Nat} (h : i < l.length) : rd l (i : Int) = l[i] := by simp [rd, List.getD_eq_getElem?_getD, h]
theorem rd_get (l : List Int) (i : Nat) : rd l (i : Int) = l.getD i 0 := by simp [rd]
theorem drop_cons {α : Type} {l : List α} {i : Nat} (h : i < l.length) : l.drop i = l[i] :: l.drop (i + 1) := List.drop_eq_getElem_cons h
def allW (l : List Int) (lo hi : Int) : Bool := l.all fun x => wth x lo hi
theorem allW_iff {l : List Int} {lo hi : Int} : allW l lo hi = true ↔ ∀ x ∈ l, lo ≤ x ∧ x ≤ hi := by simp [allW, wth_iff]
def goodB (l : List Int) : Bool := wth l.length 1 8 && allW l 0 60
def Lst (l : List Int) : Prop := 1 ≤ l.length ∧ l.length ≤ 8 ∧ ∀ x ∈ l, 0 ≤ x ∧ x ≤ 60
theorem goodB_iff {l : List Int} : goodB l = true ↔ Lst l := by
  unfold goodB Lst
  rw [Bool.and_eq_true, wth_iff, allW_iff]
  constructor
  · rintro ⟨⟨a, b⟩, c⟩; exact ⟨by omega, by omega, c⟩
  · rintro ⟨a, b, c⟩; exact ⟨⟨by omega, by omega⟩, c⟩
theorem sum_bound {l : List Int} {lo hi : Int} (h : ∀ x ∈ l, lo ≤ x ∧ x ≤ hi) : l.length * lo ≤ l.sum ∧ l.sum ≤ l.length * hi := by
  induction l with
  | nil => simp
  | cons x t ih =>
    have h1 := h x (by simp)
    have h2 := ih (fun y hy => h y (by simp [hy]))
    simp only [List.sum_cons, List.length_cons]
    have e1 : ((t.length + 1 : Nat) : Int) * lo = t.length * lo + lo := by rw [Int.natCast_add, Int.add_mul]; simp
    have e2 : ((t.length + 1 : Nat) : Int) * hi = t.length * hi + hi := by rw [Int.natCast_add, Int.add_mul]; simp
    omega
theorem Lst.sum {l : List Int} (h : Lst l) : 0 ≤ l.sum ∧ l.sum ≤ 480 := by
  have := sum_bound h.2.2
  have h2 := h.2.1
  omega
theorem wprev {i : Nat} (hi : i ≤ 4611686018427387904) : wrap64 (((i + 1 : Nat) : Int) - 1) = (i : Int) := by unfold wrap64; omega
def hp (x y : Int) : Bool := wth (y - x) (-1) 1
def fits (a b : List Int) : Bool := goodB a && (goodB b && (decide (a.length = b.length) && decide (a.sum = b.sum)))
theorem fits_iff {a b : List Int} : fits a b = true ↔ Lst a ∧ Lst b ∧ a.length = b.length ∧ a.sum = b.sum := by
  unfold fits
  rw [Bool.and_eq_true, Bool.and_eq_true, Bool.and_eq_true, goodB_iff, goodB_iff, decide_eq_true_eq, decide_eq_true_eq]
def Siz (m : List (List Int)) : Prop := m.length ≤ 1048576 ∧ ∀ r ∈ m, r.length ≤ 1048576
def rowOk (n : Nat) (r : List Int) : Bool := decide (r.length = n) && allW r 0 60
def planB (m : List (List Int)) : Bool := wth m.length 1 8 && m.all (rowOk m.length)
def Plan (m : List (List Int)) : Prop := 1 ≤ m.length ∧ m.length ≤ 8 ∧ ∀ r ∈ m, r.length = m.length ∧ ∀ x ∈ r, 0 ≤ x ∧ x ≤ 60
theorem rowOk_iff {n : Nat} {r : List Int} : rowOk n r = true ↔ r.length = n ∧ ∀ x ∈ r, 0 ≤ x ∧ x ≤ 60 := by
  rw [rowOk, Bool.and_eq_true, decide_eq_true_eq, allW_iff]
theorem planB_iff {m : List (List Int)} : planB m = true ↔ Plan m := by
  unfold planB Plan
  rw [Bool.and_eq_true, wth_iff, List.all_eq_true]
  constructor
  · rintro ⟨⟨a, b⟩, c⟩; exact ⟨by omega, by omega, fun r hr => rowOk_iff.1 (c r hr)⟩
  · rintro ⟨a, b, c⟩; exact ⟨⟨by omega, by omega⟩, fun r hr => rowOk_iff.2 (c r hr)⟩
theorem Plan.siz {m : List (List Int)} (h : Plan m) : Siz m := ⟨by have := h.2.1; omega, fun r hr => by have := (h.2.2 r hr).1; have := h.2.1; omega⟩
def rowCost (i j : Nat) : List Int → Int
  | [] => 0
  | x :: t => x * max ((i : Int) - j) ((j : Int) - i) + rowCost i (j + 1) t
def costGo (i : Nat) : List (List Int) → Int
  | [] => 0
  | r :: t => rowCost i 0 r + costGo (i + 1) t
def cellsRow (i j : Nat) : List Int → List (Nat × Nat)
  | [] => []
  | x :: t => if x > 0 then (i, j) :: cellsRow i (j + 1) t else cellsRow i (j + 1) t
def cellsGo (i : Nat) : List (List Int) → List (Nat × Nat)
  | [] => []
  | r :: t => cellsRow i 0 r ++ cellsGo (i + 1) t
theorem cellsRow_len (i : Nat) : ∀ (l : List Int) (j : Nat), (cellsRow i j l).length ≤ l.length
  | [], _ => by simp [cellsRow]
  | x :: t, j => by
    have := cellsRow_len i t (j + 1)
    rw [cellsRow]
    split
    · simp only [List.length_cons]; omega
    · simp only [List.length_cons]; omega
theorem cellsGo_len' : ∀ (m : List (List Int)) (i : Nat), (∀ r ∈ m, r.length ≤ 8) → (cellsGo i m).length ≤ 8 * m.length
  | [], _, _ => by simp [cellsGo]
  | r :: t, i, h => by
    have h1 := cellsGo_len' t (i + 1) (fun q hq => h q (by simp [hq]))
    have h2 := cellsRow_len i r 0
    have h3 := h r (by simp)
    simp only [cellsGo, List.length_append, List.length_cons]
    omega
theorem cellsGo_len {m : List (List Int)} (h : Plan m) : (cellsGo 0 m).length ≤ 64 := by
  have := cellsGo_len' m 0 (fun r hr => by have := (h.2.2 r hr).1; have := h.2.1; omega)
  have := h.2.1
  omega
def crossGo (L : List (Nat × Nat)) : List (Nat × Nat) → Option ((Nat × Nat) × (Nat × Nat))
  | [] => none
  | p :: t => match L.find? (fun y => decide (p.1 < y.1) && decide (p.2 > y.2)) with
    | some y => some (p, y)
    | none => crossGo L t
def findRow (r c : Nat) : List Int → Option (Nat × Nat)
  | [] => none
  | x :: t => if x > 0 then some (r, c) else findRow r (c + 1) t
def findRows (j r : Nat) : List (List Int) → Option (Nat × Nat)
  | [] => none
  | row :: t => match findRow r 0 (row.take j) with
    | some q => some q
    | none => findRows j (r + 1) t
def crossCols (m : List (List Int)) (i j : Nat) : List Int → Option ((Nat × Nat) × (Nat × Nat))
  | [] => none
  | x :: t => if x > 0 then (match findRows j (i + 1) (m.drop (i + 1)) with | some q => some ((i, j), q) | none => crossCols m i (j + 1) t) else crossCols m i (j + 1) t
def crossRows (m : List (List Int)) (i : Nat) : List (List Int) → Option ((Nat × Nat) × (Nat × Nat))
  | [] => none
  | r :: t => match crossCols m i 0 r with
    | some q => some q
    | none => crossRows m (i + 1) t
theorem find_row (a b r : Nat) (h : a < r) : ∀ (l : List Int) (c : Nat), (cellsRow r c l).find? (fun y => decide (a < y.1) && decide (b > y.2)) = findRow r c (l.take (b - c))
  | [], c => by simp [cellsRow, findRow]
  | x :: t, c => by
    have ih := find_row a b r h t (c + 1)
    by_cases g : c < b
    · rw [show b - c = (b - (c + 1)) + 1 by omega, List.take_succ_cons, findRow, cellsRow]
      by_cases k : x > 0
      · simp [k, h, g]
      · simp only [k, if_false]; exact ih
    · rw [show b - c = 0 by omega, List.take_zero, findRow]
      rw [show b - (c + 1) = 0 by omega, List.take_zero, findRow] at ih
      rw [cellsRow]
      split
      · rw [List.find?_cons, decide_eq_false (by omega : ¬ b > c), Bool.and_false]
        exact ih
      · exact ih
theorem find_rows (a b : Nat) : ∀ (m : List (List Int)) (r : Nat), a < r → (cellsGo r m).find? (fun y => decide (a < y.1) && decide (b > y.2)) = findRows b r m
  | [], _, _ => rfl
  | row :: t, r, h => by
    rw [cellsGo, List.find?_append, find_row a b r h row 0, Nat.sub_zero, find_rows a b t (r + 1) (by omega), findRows]
    cases findRow r 0 (row.take b) <;> rfl
theorem find_low_row (a b r : Nat) (h : r ≤ a) : ∀ (l : List Int) (c : Nat), (cellsRow r c l).find? (fun y => decide (a < y.1) && decide (b > y.2)) = none
  | [], c => rfl
  | x :: t, c => by
    have ih := find_low_row a b r h t (c + 1)
    rw [cellsRow]
    split
    · rw [List.find?_cons, decide_eq_false (by omega : ¬ a < r), Bool.false_and]
      exact ih
    · exact ih
theorem find_low (a b : Nat) : ∀ (m : List (List Int)) (r : Nat), (∀ q, r ≤ q → q < r + m.length → q ≤ a → True) → a + 1 - r ≤ m.length → (cellsGo r m).find? (fun y => decide (a < y.1) && decide (b > y.2)) = findRows b (max r (a + 1)) (m.drop (a + 1 - r))
  | [], r, _, _ => by simp [cellsGo, findRows]
  | row :: t, r, _, hl => by
    by_cases c : r ≤ a
    · rw [cellsGo, List.find?_append, find_low_row a b r c row 0, Option.none_or, find_low a b t (r + 1) (fun _ _ _ _ => trivial) (by simp only [List.length_cons] at hl; omega)]
      rw [show a + 1 - r = (a + 1 - (r + 1)) + 1 by omega, List.drop_succ_cons, show max r (a + 1) = max (r + 1) (a + 1) by omega]
    · rw [find_rows a b (row :: t) r (by omega), show a + 1 - r = 0 by omega, List.drop_zero, show max r (a + 1) = r by omega]
theorem find_all (m : List (List Int)) (a b : Nat) (ha : a < m.length) : (cellsGo 0 m).find? (fun y => decide (a < y.1) && decide (b > y.2)) = findRows b (a + 1) (m.drop (a + 1)) := by
  have := find_low a b m 0 (fun _ _ _ _ => trivial) (by omega)
  rw [this, Nat.sub_zero, show max 0 (a + 1) = a + 1 by omega]
theorem crossCols_eq (m : List (List Int)) (i : Nat) (hi : i < m.length) : ∀ (l : List Int) (j : Nat) (rest : List (Nat × Nat)), crossGo (cellsGo 0 m) (cellsRow i j l ++ rest) = match crossCols m i j l with | some q => some q | none => crossGo (cellsGo 0 m) rest
  | [], j, rest => rfl
  | x :: t, j, rest => by
    have ih := crossCols_eq m i hi t (j + 1) rest
    rw [cellsRow, crossCols]
    by_cases g : x > 0
    · rw [if_pos g, if_pos g, List.cons_append, crossGo, find_all m i j hi]
      cases findRows j (i + 1) (m.drop (i + 1)) with
      | some y => rfl
      | none => exact ih
    · rw [if_neg g, if_neg g]
      exact ih
theorem crossRows_eq (m : List (List Int)) : ∀ (i : Nat) (l : List (List Int)), l = m.drop i → crossRows m i l = crossGo (cellsGo 0 m) (cellsGo i l)
  | i, [], _ => rfl
  | i, r :: t, h => by
    have hi : i < m.length := by
      have := congrArg List.length h
      simp only [List.length_cons, List.length_drop] at this
      omega
    have ht : t = m.drop (i + 1) := by
      rw [drop_cons hi] at h
      exact (List.cons.inj h).2
    rw [crossRows, cellsGo, crossCols_eq m i hi r 0, crossRows_eq m (i + 1) t ht]
def Short (l : List Int) : Prop := l.length ≤ 8 ∧ ∀ x ∈ l, 0 ≤ x ∧ x ≤ 60
theorem Short.sum {l : List Int} (h : Short l) : 0 ≤ l.sum ∧ l.sum ≤ 480 := by
  have := sum_bound h.2
  have := h.1
  omega
theorem Plan.short {m : List (List Int)} (h : Plan m) : ∀ r ∈ m, Short r := fun r hr => ⟨by have := (h.2.2 r hr).1; have := h.2.1; omega, (h.2.2 r hr).2⟩
theorem Plan.getD {m : List (List Int)} (h : Plan m) {r : List Int} (hr : r ∈ m) (j : Nat) : 0 ≤ r.getD j 0 ∧ r.getD j 0 ≤ 60 := by
  rw [List.getD_eq_getElem?_getD]
  by_cases c : j < r.length
  · rw [List.getElem?_eq_getElem c]
    exact (h.2.2 r hr).2 _ (List.getElem_mem c)
  · rw [List.getElem?_eq_none (by omega)]
    simp
def colsUpto (m : List (List Int)) (i : Nat) : List (List Int) := (List.range m.length).map fun c => (m.take i).map fun r => r.getD c 0
def Shp (m : List (List Int)) (p q : Nat) : Prop := m.length = p ∧ ∀ r ∈ m, r.length = q
theorem Shp.row {m : List (List Int)} {p q i : Nat} (h : Shp m p q) (hi : i < p) : (m.getD i []).length = q := by
  have hl : i < m.length := by rw [h.1]; exact hi
  rw [List.getD_eq_getElem?_getD, List.getElem?_eq_getElem hl, Option.getD_some]
  exact h.2 _ (List.getElem_mem hl)
theorem Shp.set {m : List (List Int)} {p q i : Nat} (h : Shp m p q) {r : List Int} (hr : r.length = q) : Shp (m.set i r) p q := by
  refine ⟨by rw [List.length_set]; exact h.1, fun x hx => ?_⟩
  rcases List.mem_or_eq_of_mem_set hx with h1 | h1
  · exact h.2 x h1
  · rw [h1]; exact hr
theorem shp_zeros (p q : Nat) : Shp (List.replicate p (List.replicate q 0)) p q := ⟨by simp, fun r hr => by rw [List.eq_of_mem_replicate hr]; simp⟩
theorem Shp.siz {m : List (List Int)} {p q : Nat} (h : Shp m p q) (hp : p ≤ 1048576) (hq : q ≤ 1048576) : Siz m := ⟨by rw [h.1]; exact hp, fun r hr => by rw [h.2 r hr]; exact hq⟩
def carryN : Nat → List (List Int) → List Int → List Int → Nat → Nat → List (List Int)
  | 0, m, _, _, _, _ => m
  | d + 1, m, a, b, i, j =>
    if i < a.length ∧ j < b.length then
      if (a.set i (wrap64 (a.getD i 0 - min (a.getD i 0) (b.getD j 0)))).getD i 0 = 0 then carryN d (m.set i ((m.getD i []).set j (wrap64 ((m.getD i []).getD j 0 + min (a.getD i 0) (b.getD j 0))))) (a.set i (wrap64 (a.getD i 0 - min (a.getD i 0) (b.getD j 0)))) (b.set j (wrap64 (b.getD j 0 - min (a.getD i 0) (b.getD j 0)))) (i + 1) j
      else carryN d (m.set i ((m.getD i []).set j (wrap64 ((m.getD i []).getD j 0 + min (a.getD i 0) (b.getD j 0))))) (a.set i (wrap64 (a.getD i 0 - min (a.getD i 0) (b.getD j 0)))) (b.set j (wrap64 (b.getD j 0 - min (a.getD i 0) (b.getD j 0)))) i (j + 1)
    else m
theorem carryN_shp : ∀ (d : Nat) (m : List (List Int)) (a b : List Int) (i j p q : Nat), a.length = p → Shp m p q → Shp (carryN d m a b i j) p q
  | 0, _, _, _, _, _, _, _, _, h => h
  | d + 1, m, a, b, i, j, p, q, ha, h => by
    unfold carryN
    by_cases c : i < a.length ∧ j < b.length
    · rw [if_pos c]
      have hs : Shp (m.set i ((m.getD i []).set j (wrap64 ((m.getD i []).getD j 0 + min (a.getD i 0) (b.getD j 0))))) p q := h.set (by rw [List.length_set]; exact h.row (by omega))
      split
      · exact carryN_shp d _ _ _ _ _ p q (by rw [List.length_set]; exact ha) hs
      · exact carryN_shp d _ _ _ _ _ p q (by rw [List.length_set]; exact ha) hs
    · rw [if_neg c]; exact h
def zerosP (p q : Nat) : List (List Int) := List.replicate p (List.replicate q 0)
def monoP (a b : List Int) : List (List Int) := carryN (a.length + b.length + 1) (zerosP a.length a.length) a b 0 0
theorem monoP_shp (a b : List Int) : Shp (monoP a b) a.length a.length := carryN_shp _ _ _ _ _ _ _ _ rfl (shp_zeros _ _)
end Go.Proofs.Ytojklddddedoeaa.Math
