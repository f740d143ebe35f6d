/- The program's CompareSums returns what the reference's returns, for all arguments; the printed functions' own bounds on lengths are the only conditions. -/
import Derived.Test.YtnbhmanmdgjceaaPFnExactCompareSumsx4
import Derived.Test.YtnbhmanmdgjceaaMath
namespace Go.Proofs.Ytnbhmanmdgjceaa.Pure
open Go.RowKit Go.Proofs.Ytnbhmanmdgjceaa.PFnExactCompareSums Go.Proofs.YtnbhmanmdgjceaaW.PrintWords Go.Proofs.YtnbhmanmdgjceaaW.PrintLast Go.Proofs.YtnbhmanmdgjceaaW.PrintMore Go.Proofs.Ytnbhmanmdgjceaa.Math
set_option linter.unusedVariables false
set_option linter.unusedSimpArgs false
set_option linter.unusedSectionVars false

theorem laws_toIntS_l (l : List Int) (hl : l.length ≤ 4611686018427387904) : ∀ i, i ≤ l.length → ∀ m : List Int, m.length = l.length → m.take i = l.take i → Ev (fun k => laws_toIntS.l0 k l m (i : Int)) l := by
  refine down ?_ ?_
  · intro m hm h
    refine Ev.succ ?_
    simp only [laws_toIntS.l0, nlt (Nat.le_refl l.length), if_false]
    rw [← hm, List.take_length, hm, List.take_length] at h
    rw [h]
    exact Ev.now _
  · intro i hi ih m hm h
    refine Ev.succ ?_
    simp only [laws_toIntS.l0, ilt hi, inn, if_true, hm, rd_lt hi, wnext hi hl, Int.toNat_natCast]
    exact ih _ (by simpa using hm) (set_take l m i hi hm h)
theorem laws_toIntS_ev (l : List Int) (hl : l.length ≤ 35184372088832) : Ev (fun k => laws_toIntS.f k l) l := by
  have := laws_toIntS_l l (by omega) 0 (Nat.zero_le _) (List.replicate l.length 0) (by simp) (by simp)
  simp only [laws_toIntS.f, inn, if_true, Int.toNat_natCast, hl]
  exact this

theorem laws_eqIntS_l (l m : List Int) (he : m.length = l.length) (hl : l.length ≤ 4611686018427387904) : ∀ i, i ≤ l.length → Ev (fun k => laws_eqIntS.l0 k l m (i : Int)) (decide (l.drop i = m.drop i)) := by
  refine down ?_ ?_
  · refine Ev.succ ?_
    simp only [laws_eqIntS.l0, nlt (Nat.le_refl l.length), if_false, List.drop_length]
    rw [← he, List.drop_length]
    exact Ev.now _
  · intro i hi ih
    refine Ev.succ ?_
    simp only [laws_eqIntS.l0, ilt hi, inn, if_true, he, rd_lt hi, rd_lt (he ▸ hi : i < m.length), wnext hi hl]
    rw [drop_cons hi, drop_cons (he ▸ hi : i < m.length)]
    by_cases hx : l[i] = m[i]
    · simp only [hx, if_true, List.cons.injEq, true_and]
      exact ih
    · simp only [hx, if_false, List.cons.injEq, false_and, decide_false]
      exact Ev.now _
theorem laws_eqIntS_ev (l m : List Int) (hl : l.length ≤ 4611686018427387904) : Ev (fun k => laws_eqIntS.f k l m) (decide (l = m)) := by
  simp only [laws_eqIntS.f]
  by_cases he : (l.length : Int) = (m.length : Int)
  · simp only [he, if_true]
    exact laws_eqIntS_l l m (by omega) hl 0 (Nat.zero_le _)
  · simp only [he, if_false]
    rw [decide_eq_false (fun h => he (by rw [h]))]
    exact Ev.now _
theorem laws_eqIntS_self (l : List Int) (hl : l.length ≤ 4611686018427387904) : Ev (fun k => laws_eqIntS.f k l l) true := by
  simpa using laws_eqIntS_ev l l hl

theorem spec_l1In_e (a b c : Int) : spec_l1In.f a b c = some (wth a b c) := wth_opt a b c

theorem spec_l1All_l (l : List Int) (lo hi : Int) (hl : l.length ≤ 4611686018427387904) : ∀ i, i ≤ l.length → Ev (fun k => spec_l1All.l0 k lo hi l (l.length : Int) (i : Int)) (allW (l.drop i) lo hi) := by
  refine down ?_ ?_
  · refine Ev.succ ?_
    simp only [spec_l1All.l0, nlt (Nat.le_refl l.length), if_false, List.drop_length]
    exact Ev.now _
  · intro i hi ih
    refine Ev.succ ?_
    simp only [spec_l1All.l0, ilt hi, inn, if_true, spec_l1In_e, Option.bind_some, rd_lt hi, wnext hi hl]
    rw [drop_cons hi]
    exact Ev.andS fun _ => ih
theorem spec_l1All_ev (l : List Int) (lo hi : Int) (hl : l.length ≤ 4611686018427387904) : Ev (fun k => spec_l1All.f k l lo hi) (allW l lo hi) := by
  have := spec_l1All_l l lo hi hl 0 (Nat.zero_le _)
  simpa only [spec_l1All.f, List.drop_zero, Int.natCast_zero] using this

def symB (p x : List Int) : Bool := wth p.length 1 4 && (allW p 0 4 && (decide ((x.length : Int) = (p.length : Int)) && allW x 1 9))
theorem spec_syGiven_ev (p x : List Int) (hp : p.length ≤ 1048576) (hx : x.length ≤ 1048576) : Ev (fun k => spec_syGiven.f k p x) (symB p x) := by
  simp only [spec_syGiven.f, spec_l1In_e, Option.bind_some, symB]
  refine Ev.andS fun _ => ?_
  refine Ev.and (spec_l1All_ev p 0 4 (by omega)) fun _ => ?_
  by_cases c : (x.length : Int) = (p.length : Int)
  · simp only [c, if_true, decide_true, Bool.true_and]
    exact Ev.ret (f := fun t => t) (spec_l1All_ev x 1 9 (by omega))
  · simp only [c, if_false, decide_false, Bool.false_and]
    exact Ev.now _

theorem spec_l1Own_e (l : List Int) (hl : l.length < 17592186044416) : spec_l1Own.f l = some l := by
  simp only [spec_l1Own.f, Option.bind_some, List.nil_append, List.length_nil, Nat.zero_add, hl, if_true]

theorem spec_l1Has_l (a : Int) (l : List Int) (hl : l.length ≤ 4611686018427387904) : ∀ i, i ≤ l.length → Ev (fun k => spec_l1Has.l0 k a l (l.length : Int) (i : Int)) (decide (a ∈ l.drop i)) := by
  refine down ?_ ?_
  · refine Ev.succ ?_
    simp only [spec_l1Has.l0, nlt (Nat.le_refl l.length), if_false, List.drop_length]
    exact (Ev.now _).eqv (by simp)
  · intro i hi ih
    refine Ev.succ ?_
    simp only [spec_l1Has.l0, ilt hi, inn, if_true, rd_lt hi, wnext hi hl]
    rw [drop_cons hi]
    by_cases c : l[i] = a
    · simp only [c, if_true]
      exact (Ev.now _).eqv (by simp)
    · simp only [c, if_false]
      have e : (a ∈ l[i] :: l.drop (i + 1)) ↔ a ∈ l.drop (i + 1) := ⟨fun h => (List.mem_cons.1 h).resolve_left (fun h => c h.symm), List.mem_cons_of_mem _⟩
      exact ih.eqv (decide_eq_decide.2 e.symm)
theorem spec_l1Has_ev (l : List Int) (a : Int) (hl : l.length ≤ 4611686018427387904) : Ev (fun k => spec_l1Has.f k l a) (decide (a ∈ l)) := by
  simp only [spec_l1Has.f]
  have := spec_l1Has_l a l hl 0 (Nat.zero_le _)
  rwa [List.drop_zero] at this
/-- The orders that go on l by a number from n - c on. -/
def tries (g : List Int → List (List Int)) (l : List Int) (n : Nat) : Nat → List (List Int)
  | 0 => []
  | c + 1 => (if ((n - (c + 1) : Nat) : Int) ∈ l then [] else g (l ++ [((n - (c + 1) : Nat) : Int)])) ++ tries g l n c
def goOn (n : Nat) : Nat → List Int → List (List Int)
  | 0, l => [l]
  | d + 1, l => tries (goOn n d) l n n
theorem tries_len {g : List Int → List (List Int)} {l : List Int} {n B : Nat} (h : ∀ m, (g m).length ≤ B) : ∀ c, (tries g l n c).length ≤ c * B
  | 0 => by simp [tries]
  | c + 1 => by
    have ih := tries_len h (l := l) (n := n) c
    rw [tries, List.length_append, Nat.succ_mul]
    split
    · simp; omega
    · have := h (l ++ [((n - (c + 1) : Nat) : Int)])
      omega
theorem goOn_len {n : Nat} (hn : n ≤ 4) : ∀ d l, (goOn n d l).length ≤ 4 ^ d
  | 0, l => by simp [goOn]
  | d + 1, l => by
    have := tries_len (l := l) (n := n) (goOn_len hn d) n
    rw [goOn, Nat.pow_succ, Nat.mul_comm]
    exact Nat.le_trans this (Nat.mul_le_mul_right _ hn)
theorem tries_mem {g : List Int → List (List Int)} {l : List Int} {n : Nat} {P : List Int → Prop} (h : ∀ i : Nat, i < n → ∀ o ∈ g (l ++ [(i : Int)]), P o) : ∀ c, c ≤ n → ∀ o ∈ tries g l n c, P o
  | 0, _, o, ho => by simp [tries] at ho
  | c + 1, hc, o, ho => by
    rw [tries, List.mem_append] at ho
    rcases ho with ho | ho
    · split at ho
      · simp at ho
      · exact h _ (by omega) o ho
    · exact tries_mem h c (by omega) o ho
theorem goOn_mem {n : Nat} : ∀ d (l : List Int), l.length + d = n → (∀ j ∈ l, 0 ≤ j ∧ j < (n : Int)) → ∀ o ∈ goOn n d l, o.length = n ∧ ∀ j ∈ o, 0 ≤ j ∧ j < (n : Int)
  | 0, l, hl, hb, o, ho => by
    rw [goOn, List.mem_singleton] at ho
    subst ho
    exact ⟨by omega, hb⟩
  | d + 1, l, hl, hb, o, ho => by
    rw [goOn] at ho
    refine tries_mem (P := fun o => o.length = n ∧ ∀ j ∈ o, 0 ≤ j ∧ j < (n : Int)) (fun i hi o ho => ?_) n (Nat.le_refl _) o ho
    refine goOn_mem d _ (by rw [List.length_append, List.length_singleton]; omega) (fun j hj => ?_) o ho
    rcases List.mem_append.1 hj with hj | hj
    · exact hb j hj
    · rw [List.mem_singleton] at hj; omega
/-- The product of an order's powers, and the sum over orders. -/
def prodW (pw x : List Int) : List Int → Nat → Int → Int
  | [], _, p => p
  | j :: t, i, p => prodW pw x t (i + 1) (wrap64 (p * wrap64 (x.getD j.toNat 0 ^ (pw.getD i 0).toNat)))
def sumW (pw x : List Int) : List (List Int) → Int → Int
  | [], s => s
  | o :: t, s => sumW pw x t (wrap64 (s + prodW pw x o 0 1))
theorem sumW_app (pw x : List Int) : ∀ (a b : List (List Int)) (s : Int), sumW pw x (a ++ b) s = sumW pw x b (sumW pw x a s)
  | [], _, _ => rfl
  | _ :: a, b, s => sumW_app pw x a b _
def symS (pw x : List Int) : Int := sumW pw x (goOn x.length x.length []) 0
def symV (pw x : List Int) : Int × Bool := if symB pw x then (symS pw x, true) else (0, false)
theorem symB_parts {p x : List Int} (h : symB p x = true) : (1 ≤ p.length ∧ p.length ≤ 4) ∧ (∀ y ∈ p, 0 ≤ y ∧ y ≤ 4) ∧ x.length = p.length ∧ (∀ y ∈ x, 1 ≤ y ∧ y ≤ 9) := by
  unfold symB at h
  rw [Bool.and_eq_true, Bool.and_eq_true, Bool.and_eq_true, wth_iff, allW_iff, allW_iff, decide_eq_true_eq] at h
  obtain ⟨h1, h2, h3, h4⟩ := h
  exact ⟨by omega, h2, by omega, h4⟩

theorem spec_syGoOn_l (n d : Nat) (hn : n ≤ 4) (l : List Int) (hd : l.length + (d + 1) = n) (ih : ∀ m : List Int, m.length + d = n → Ev (fun k => spec_syGoOn.f k m (n : Int)) (goOn n d m)) : ∀ (c i : Nat), i + c = n → ∀ acc : List (List Int), acc.length ≤ 4 ^ d * i → Ev (fun k => spec_syGoOn.l0 k l (n : Int) acc (i : Int)) (acc ++ tries (goOn n d) l n c)
  | 0, i, hi, acc, ha => by
    have e : i = n := by omega
    subst e
    refine Ev.succ ?_
    simp only [spec_syGoOn.l0, nlt (Nat.le_refl i), if_false, tries, List.append_nil]
    exact Ev.now _
  | c + 1, i, hi, acc, ha => by
    have e : n - (c + 1) = i := by omega
    have p4 : 4 ^ d ≤ 256 := Nat.le_trans (Nat.pow_le_pow_right (by omega) (by omega : d ≤ 4)) (by decide)
    have p6 : 4 ^ d * i ≤ 256 * 4 := Nat.mul_le_mul p4 (by omega)
    refine Ev.succ ?_
    simp only [spec_syGoOn.l0, ilt (by omega : i < n), if_true]
    refine Ev.bind (spec_l1Has_ev l (i : Int) (by omega)) ?_
    rw [tries, e]
    by_cases h : (i : Int) ∈ l
    · simp only [decide_eq_true h, if_true, if_pos h, List.nil_append, wnext (by omega : i < n) (by omega : n ≤ 4611686018427387904)]
      exact spec_syGoOn_l n d hn l hd ih c (i + 1) (by omega) acc (Nat.le_trans ha (Nat.mul_le_mul_left _ (Nat.le_succ i)))
    · have g := goOn_len hn d (l ++ [(i : Int)])
      have c1 : l.length < 17592186044416 := by omega
      have c2 : acc.length + (goOn n d (l ++ [(i : Int)])).length < 5864062014805 := by omega
      simp only [decide_eq_false h, Bool.false_eq_true, if_false, if_neg h, spec_l1Own_e l (by omega), Option.bind_some, c1, if_true]
      refine Ev.bind (ih (l ++ [(i : Int)]) (by rw [List.length_append, List.length_singleton]; omega)) ?_
      simp only [c2, if_true, wnext (by omega : i < n) (by omega : n ≤ 4611686018427387904)]
      refine (spec_syGoOn_l n d hn l hd ih c (i + 1) (by omega) (acc ++ goOn n d (l ++ [(i : Int)])) (by rw [List.length_append, Nat.mul_succ]; exact Nat.add_le_add ha g)).eqv ?_
      rw [List.append_assoc]
theorem spec_syGoOn_ev (n : Nat) (hn : n ≤ 4) : ∀ (d : Nat) (l : List Int), l.length + d = n → Ev (fun k => spec_syGoOn.f k l (n : Int)) (goOn n d l)
  | 0, l, hl => by
    refine Ev.succ ?_
    have c : (l.length : Int) = (n : Int) := by omega
    simp only [spec_syGoOn.f, c, if_true, goOn]
    exact Ev.now _
  | d + 1, l, hl => by
    refine Ev.succ ?_
    have c : ¬ ((l.length : Int) = (n : Int)) := by omega
    simp only [spec_syGoOn.f, c, if_false]
    have := spec_syGoOn_l n d hn l hl (fun m hm => spec_syGoOn_ev n hn d m hm) n 0 (by omega) [] (by simp)
    rw [List.nil_append] at this
    exact this

theorem spec_syOrders_ev (n : Nat) (hn : n ≤ 4) : Ev (fun k => spec_syOrders.f k (n : Int)) (goOn n n []) := by
  simp only [spec_syOrders.f]
  exact Ev.ret (f := fun t => t) (spec_syGoOn_ev n hn n [] (by simp))

theorem spec_syPower_l (x : Int) : ∀ (n : Nat), n ≤ 4611686018427387904 → ∀ acc, InR acc → Ev (fun k => spec_syPower.l0 k x (n : Int) acc) (wrap64 (acc * x ^ n))
  | 0, _, acc, ha => by
    refine Ev.succ ?_
    simp only [spec_syPower.l0, (by decide : ¬ (((0 : Nat) : Int) > 0)), if_false, Int.pow_zero, Int.mul_one, wR ha]
    exact Ev.now _
  | n + 1, hn, acc, ha => by
    refine Ev.succ ?_
    have c : ((n + 1 : Nat) : Int) > 0 := by omega
    simp only [spec_syPower.l0, c, if_true, wprev (by omega : n ≤ 4611686018427387904)]
    rw [show acc * x ^ (n + 1) = (acc * x) * x ^ n by rw [Int.pow_succ, Int.mul_assoc, Int.mul_comm x]]
    exact (spec_syPower_l x n (by omega) _ (inR_wrap _)).eqv (wrap_mul _ _)
theorem spec_syPower_ev (x n : Int) (hn : n ≤ 4611686018427387904) : Ev (fun k => spec_syPower.f k x n) (wrap64 (x ^ n.toNat)) := by
  simp only [spec_syPower.f]
  by_cases h : 0 ≤ n
  · have := spec_syPower_l x n.toNat (by omega) 1 ⟨by decide, by decide⟩
    simpa only [Int.toNat_of_nonneg h, Int.one_mul] using this
  · rw [Int.toNat_of_nonpos (by omega), Int.pow_zero]
    have c : ¬ n > 0 := by omega
    refine Ev.succ ?_
    simp only [spec_syPower.l0, c, if_false]
    exact (Ev.now _).eqv (w64 (by omega) (by omega)).symm

theorem spec_sySymmetric_l1 (pw x : List Int) (hp : pw.length = x.length) (h4 : x.length ≤ 4) (hb : ∀ y ∈ pw, 0 ≤ y ∧ y ≤ 4) (os : List (List Int)) (j : Nat) (o : List Int) (ho : o.length = x.length) (hm : ∀ y ∈ o, 0 ≤ y ∧ y < (x.length : Int)) (s T R : Int) (hT : wrap64 (s + T) = R) (r : Int)
    (hK : Ev (fun k => spec_sySymmetric.l0 k pw x R os (os.length : Int) (wrap64 ((j : Int) + 1))) r) : ∀ i, i ≤ o.length → ∀ p, prodW pw x (o.drop i) i p = T → Ev (fun k => spec_sySymmetric.l1 k pw x s p os (os.length : Int) (j : Int) o (o.length : Int) (i : Int)) r := by
  refine down ?_ ?_
  · intro p hp2
    rw [List.drop_length] at hp2
    have e : p = T := hp2
    subst e
    refine Ev.succ ?_
    simp only [spec_sySymmetric.l1, nlt (Nat.le_refl o.length), if_false, hT]
    exact hK
  · intro i hi ih p hp2
    have m := hm _ (List.getElem_mem hi)
    have hip : i < pw.length := by omega
    have b := hb _ (List.getElem_mem hip)
    rw [drop_cons hi, prodW] at hp2
    have eg : pw.getD i 0 = pw[i] := by simp [List.getD_eq_getElem?_getD, hip]
    refine Ev.succ ?_
    simp only [spec_sySymmetric.l1, ilt hi, inn, if_true, rd_lt hi, eq_true m.1, eq_true m.2, ilt hip, rd_lt hip]
    have e2 : rd x o[i] = x.getD (o[i]).toNat 0 := rfl
    rw [e2]
    refine Ev.bind (spec_syPower_ev (x.getD (o[i]).toNat 0) pw[i] (by omega)) ?_
    simp only [wnext hi (by omega : o.length ≤ 4611686018427387904)]
    rw [eg] at hp2
    exact ih _ hp2
theorem spec_sySymmetric_l0 (pw x : List Int) (hp : pw.length = x.length) (h4 : x.length ≤ 4) (hb : ∀ y ∈ pw, 0 ≤ y ∧ y ≤ 4) (os : List (List Int)) (hl : os.length ≤ 4096) (hm : ∀ o ∈ os, o.length = x.length ∧ ∀ y ∈ o, 0 ≤ y ∧ y < (x.length : Int)) : ∀ j, j ≤ os.length → ∀ s, Ev (fun k => spec_sySymmetric.l0 k pw x s os (os.length : Int) (j : Int)) (sumW pw x (os.drop j) s) := by
  refine down ?_ ?_
  · intro s
    refine Ev.succ ?_
    simp only [spec_sySymmetric.l0, nlt (Nat.le_refl os.length), if_false, List.drop_length, sumW]
    exact Ev.now _
  · intro j hj ih s
    have m := hm _ (List.getElem_mem hj)
    have er : rd_L1 os (j : Int) = os[j] := by
      show os.getD ((j : Int)).toNat [] = os[j]
      simp [List.getD_eq_getElem?_getD, hj]
    have ed : os.drop j = os[j] :: os.drop (j + 1) := List.drop_eq_getElem_cons hj
    refine Ev.succ ?_
    simp only [spec_sySymmetric.l0, ilt hj, inn, if_true, er]
    rw [ed, sumW]
    refine spec_sySymmetric_l1 pw x hp h4 hb os j os[j] m.1 m.2 s _ _ rfl _ ?_ 0 (Nat.zero_le _) 1 (by rw [List.drop_zero])
    rw [wnext hj (by omega : os.length ≤ 4611686018427387904)]
    exact ih _
theorem spec_sySymmetric_ev {pw x : List Int} (h : symB pw x = true) : Ev (fun k => spec_sySymmetric.f k pw x) (symS pw x) := by
  obtain ⟨h1, h2, h3, h4⟩ := symB_parts h
  have hx : x.length ≤ 4 := by omega
  simp only [spec_sySymmetric.f]
  refine Ev.bind (spec_syOrders_ev x.length hx) ?_
  have g := goOn_len hx x.length []
  have p4 : 4 ^ x.length ≤ 256 := Nat.le_trans (Nat.pow_le_pow_right (by omega) hx) (by decide)
  have := spec_sySymmetric_l0 pw x (by omega) hx h2 (goOn x.length x.length []) (by omega) (goOn_mem x.length [] (by simp) (by simp)) 0 (Nat.zero_le _) 0
  rw [List.drop_zero] at this
  exact this

def cmpV (a b x : List Int) : Int × Bool := if symB a x && symB b x then (cmpI (symS a x) (symS b x), true) else (0, false)
theorem spec_CompareSums_ev (a b x : List Int) (ha : a.length ≤ 1048576) (hb : b.length ≤ 1048576) (hx : x.length ≤ 1048576) : Ev (fun k => spec_CompareSums.f k a b x) (cmpV a b x) := by
  simp only [spec_CompareSums.f]
  have off : (symB a x && symB b x) = false → Ev (fun k => spec_CompareSums.j0 k a b x true) (cmpV a b x) := fun h => by
    unfold cmpV; rw [h]
    refine Ev.succ ?_
    simp only [spec_CompareSums.j0, if_true]
    exact Ev.now _
  refine Ev.bind (spec_syGiven_ev a x ha hx) ?_
  cases h1 : symB a x with
  | false => simp only [Bool.false_eq_true, if_false]; exact off (by rw [h1]; rfl)
  | true =>
    simp only [if_true]
    refine Ev.bind (spec_syGiven_ev b x hb hx) ?_
    cases h2 : symB b x with
    | false => simp only [Bool.not_false]; exact off (by rw [h1, h2]; rfl)
    | true =>
      simp only [Bool.not_true]
      refine Ev.succ ?_
      simp only [spec_CompareSums.j0, Bool.false_eq_true, if_false]
      refine Ev.bind (spec_sySymmetric_ev h1) ?_
      refine Ev.bind (spec_sySymmetric_ev h2) ?_
      unfold cmpV cmpI
      rw [h1, h2]
      simp only [Bool.and_self, if_true]
      by_cases c : symS a x < symS b x
      · simp only [c, if_true]; exact Ev.now _
      · simp only [c, if_false]
        by_cases c2 : symS a x > symS b x
        · simp only [c2, if_true]; exact Ev.now _
        · simp only [c2, if_false]; exact Ev.now _

theorem impl_within_e (a b c : Int) : impl_within.f a b c = some (wth a b c) := wth_opt a b c

theorem impl_allWithin_l (l : List Int) (lo hi : Int) (hl : l.length ≤ 4611686018427387904) : ∀ i, i ≤ l.length → Ev (fun k => impl_allWithin.l0 k lo hi l (l.length : Int) (i : Int)) (allW (l.drop i) lo hi) := by
  refine down ?_ ?_
  · refine Ev.succ ?_
    simp only [impl_allWithin.l0, nlt (Nat.le_refl l.length), if_false, List.drop_length]
    exact Ev.now _
  · intro i hi ih
    refine Ev.succ ?_
    simp only [impl_allWithin.l0, ilt hi, inn, if_true, impl_within_e, Option.bind_some, rd_lt hi, wnext hi hl]
    rw [drop_cons hi]
    exact Ev.andS fun _ => ih
theorem impl_allWithin_ev (l : List Int) (lo hi : Int) (hl : l.length ≤ 4611686018427387904) : Ev (fun k => impl_allWithin.f k l lo hi) (allW l lo hi) := by
  have := impl_allWithin_l l lo hi hl 0 (Nat.zero_le _)
  simpa only [impl_allWithin.f, List.drop_zero, Int.natCast_zero] using this

theorem impl_arePowers_ev (p : List Int) (hp : p.length ≤ 1048576) : Ev (fun k => impl_arePowers.f k p) (wth p.length 1 4 && allW p 0 4) := by
  simp only [impl_arePowers.f, impl_within_e, Option.bind_some]
  exact Ev.andS fun _ => Ev.ret (f := fun t => t) (impl_allWithin_ev p 0 4 (by omega))

theorem impl_areArguments_ev (l : List Int) (hl : l.length ≤ 1048576) : Ev (fun k => impl_areArguments.f k l) (argsB l) := by
  simp only [impl_areArguments.f, impl_within_e, Option.bind_some, argsB]
  exact Ev.andS fun _ => Ev.ret (f := fun t => t) (impl_allWithin_ev l 1 9 (by omega))

theorem impl_power_l (x : Int) (n : Nat) (hn : n ≤ 4611686018427387904) : ∀ i, i ≤ n → ∀ acc, InR acc → Ev (fun k => impl_power.l0 k x acc (n : Int) (i : Int)) (wrap64 (acc * x ^ (n - i))) := by
  refine down ?_ ?_
  · intro acc ha
    refine Ev.succ ?_
    simp only [impl_power.l0, nlt (Nat.le_refl n), if_false, Nat.sub_self, Int.pow_zero, Int.mul_one, wR ha]
    exact Ev.now _
  · intro i hi ih acc ha
    refine Ev.succ ?_
    simp only [impl_power.l0, ilt hi, if_true, wnext hi hn]
    rw [show n - i = n - (i + 1) + 1 by omega, show acc * x ^ (n - (i + 1) + 1) = (acc * x) * x ^ (n - (i + 1)) by rw [Int.pow_succ, Int.mul_assoc, Int.mul_comm x]]
    exact (ih _ (inR_wrap _)).eqv (wrap_mul _ _)
theorem impl_power_ev (x n : Int) (hn : n ≤ 4611686018427387904) : Ev (fun k => impl_power.f k x n) (wrap64 (x ^ n.toNat)) := by
  simp only [impl_power.f]
  by_cases h : 0 ≤ n
  · have := impl_power_l x n.toNat (by omega) 0 (Nat.zero_le _) 1 ⟨by decide, by decide⟩
    simpa only [Int.toNat_of_nonneg h, Int.one_mul, Nat.sub_zero, Int.natCast_zero] using this
  · rw [Int.toNat_of_nonpos (by omega), Int.pow_zero]
    have c : ¬ 0 < n := by omega
    refine Ev.succ ?_
    simp only [impl_power.l0, c, if_false]
    exact (Ev.now _).eqv (w64 (by omega) (by omega)).symm

theorem impl_has_bits : ∀ u : Fin 16, ∀ j : Fin 4, impl_has.f (u.val : Int) (j.val : Int) = some (u.val.testBit j.val) := by decide +kernel
theorem has_or : ∀ u : Fin 16, ∀ i : Fin 4, Go.bits .or .i64 (u.val : Int) (IntKind.i64.wrap (2 ^ i.val)) = ((u.val ||| 2 ^ i.val : Nat) : Int) := by decide +kernel
/-- The numbers of a list, as bits. -/
def Bits (u : Int) (l : List Int) : Prop := ∃ v : Nat, v < 16 ∧ u = (v : Int) ∧ ∀ j : Nat, j < 4 → v.testBit j = decide ((j : Int) ∈ l)
theorem Bits.nil : Bits 0 [] := ⟨0, by omega, rfl, fun j _ => by simp⟩
theorem Bits.has {u : Int} {l : List Int} (h : Bits u l) {j : Nat} (hj : j < 4) : impl_has.f u (j : Int) = some (decide ((j : Int) ∈ l)) := by
  obtain ⟨v, hv, rfl, hb⟩ := h
  rw [← hb j hj]
  exact impl_has_bits ⟨v, hv⟩ ⟨j, hj⟩
theorem Bits.or {u : Int} {l : List Int} (h : Bits u l) {i : Nat} (hi : i < 4) : Bits (Go.bits .or .i64 u (IntKind.i64.wrap (2 ^ i))) (l ++ [(i : Int)]) := by
  obtain ⟨v, hv, rfl, hb⟩ := h
  refine ⟨v ||| 2 ^ i, ?_, has_or ⟨v, hv⟩ ⟨i, hi⟩, fun j hj => ?_⟩
  · have h2 : 2 ^ i < 2 ^ 4 := Nat.pow_lt_pow_right (by omega) hi
    exact Nat.or_lt_two_pow (n := 4) hv h2
  · rw [Nat.testBit_or, hb j hj, Nat.testBit_two_pow]
    have e : decide (((j : Int)) ∈ l ++ [(i : Int)]) = (decide ((j : Int) ∈ l) || decide (i = j)) := by
      rw [Bool.eq_iff_iff]
      simp only [decide_eq_true_eq, Bool.or_eq_true, List.mem_append, List.mem_singleton]
      constructor
      · rintro (h | h)
        · exact .inl h
        · exact .inr (by omega)
      · rintro (h | h)
        · exact .inl h
        · exact .inr (by omega)
    rw [e]

theorem slices_Clone_int_int_e (l : List Int) (hl : l.length < 17592186044416) : slices_Clone_int_int.f l = some l := by
  simp only [slices_Clone_int_int.f, Option.bind_some, List.nil_append, List.length_nil, Nat.zero_add, hl, if_true]

def atX (x l : List Int) : List Int := l.map fun j => x.getD j.toNat 0
theorem impl_symmetricSum_v (pw x : List Int) (hb : ∀ y ∈ pw, 0 ≤ y ∧ y ≤ 4) : ∀ (t : List Int) (i : Nat) (p : Int), i + t.length = pw.length → Ev (fun k => impl_symmetricSum.v k pw (atX x t) i p) (prodW pw x t i p)
  | [], _, _, _ => Ev.now _
  | j :: t, i, p, h => by
    have hi : i < pw.length := by rw [List.length_cons] at h; omega
    have b := hb _ (List.getElem_mem hi)
    have eg : pw.getD i 0 = pw[i] := by simp [List.getD_eq_getElem?_getD, hi]
    show Ev (fun k => impl_symmetricSum.v k pw (x.getD j.toNat 0 :: atX x t) i p) _
    simp only [impl_symmetricSum.v, hi, if_true, prodW]
    refine Ev.bind (impl_power_ev (x.getD j.toNat 0) (pw.getD i 0) (by omega)) ?_
    exact impl_symmetricSum_v pw x hb t (i + 1) _ (by rw [List.length_cons] at h; omega)
theorem impl_symmetricSum_go (pw x : List Int) (h4 : x.length ≤ 4) (d : Nat) (l : List Int) (hl : l.length + (d + 1) = x.length) (u : Int) (hu : Bits u l)
    (ih : ∀ (m : List Int) (u s : Int), m.length + d = x.length → Bits u m → Ev (fun k => impl_symmetricSum.e k pw x d u (atX x m) s) (sumW pw x (goOn x.length d m) s)) : ∀ (c i : Nat), i + c = x.length → ∀ s, Ev (fun k => impl_symmetricSum.go (impl_symmetricSum.e k pw x d) u (atX x l) (x.drop i) i s) (sumW pw x (tries (goOn x.length d) l x.length c) s)
  | 0, i, hi, s => by
    have e : i = x.length := by omega
    subst e
    rw [List.drop_length]
    exact Ev.now _
  | c + 1, i, hi, s => by
    have e : x.length - (c + 1) = i := by omega
    have hix : i < x.length := by omega
    rw [drop_cons hix]
    have eg : x[i] = x.getD i 0 := by simp [List.getD_eq_getElem?_getD, hix]
    simp only [impl_symmetricSum.go, hu.has (by omega : i < 4), Option.bind_some, tries, e]
    by_cases h : (i : Int) ∈ l
    · simp only [decide_eq_true h, if_true, if_pos h, List.nil_append]
      exact impl_symmetricSum_go pw x h4 d l hl u hu ih c (i + 1) (by omega) s
    · have hal : (atX x l).length = l.length := by simp [atX]
      have c1 : (atX x l).length < 17592186044416 := by omega
      simp only [decide_eq_false h, Bool.false_eq_true, if_false, if_neg h, slices_Clone_int_int_e (atX x l) (by omega), Option.bind_some, c1, if_true]
      have ea : atX x l ++ [x[i]] = atX x (l ++ [(i : Int)]) := by rw [eg]; simp [atX]
      rw [ea, sumW_app]
      refine Ev.bind (ih (l ++ [(i : Int)]) _ s (by rw [List.length_append, List.length_singleton]; omega) (hu.or (by omega))) ?_
      exact impl_symmetricSum_go pw x h4 d l hl u hu ih c (i + 1) (by omega) _
theorem impl_symmetricSum_e (pw x : List Int) (hp : pw.length = x.length) (h4 : x.length ≤ 4) (hb : ∀ y ∈ pw, 0 ≤ y ∧ y ≤ 4) : ∀ (d : Nat) (l : List Int) (u s : Int), l.length + d = x.length → Bits u l → Ev (fun k => impl_symmetricSum.e k pw x d u (atX x l) s) (sumW pw x (goOn x.length d l) s)
  | 0, l, u, s, hl, hu => by
    have hal : (atX x l).length = x.length := by simp [atX]; omega
    simp only [impl_symmetricSum.e, hal, if_true, goOn, sumW]
    exact Ev.ret (f := fun p => wrap64 (s + p)) (impl_symmetricSum_v pw x hb l 0 1 (by omega))
  | d + 1, l, u, s, hl, hu => by
    have hal : ¬ (atX x l).length = x.length := by simp [atX]; omega
    simp only [impl_symmetricSum.e, hal, if_false, goOn]
    have := impl_symmetricSum_go pw x h4 d l hl u hu (fun m u s hm hu => impl_symmetricSum_e pw x hp h4 hb d m u s hm hu) x.length 0 (by omega) s
    rw [List.drop_zero] at this
    exact this
theorem impl_symmetricSum_ev {pw x : List Int} (h : symB pw x = true) : Ev (fun k => impl_symmetricSum.f k pw x) (symS pw x) := by
  obtain ⟨h1, h2, h3, h4⟩ := symB_parts h
  have hx : x.length ≤ 4 := by omega
  simp only [impl_symmetricSum.f, hx, if_true]
  exact impl_symmetricSum_e pw x (by omega) hx h2 x.length [] 0 0 (by simp) Bits.nil

theorem impl_SymmetricSum_ev (p x : List Int) (hp : p.length ≤ 1048576) (hx : x.length ≤ 1048576) : Ev (fun k => impl_SymmetricSum.f k p x) (symV p x) := by
  simp only [impl_SymmetricSum.f]
  have off : symB p x = false → Ev (fun _ => some ((0, false) : Int × Bool)) (symV p x) := fun h => by
    unfold symV; rw [h]; exact Ev.now _
  refine Ev.bind (impl_arePowers_ev p hp) ?_
  cases h1 : wth p.length 1 4 && allW p 0 4 with
  | false =>
    simp only [Bool.false_eq_true, if_false]
    exact off (by unfold symB; rw [← Bool.and_assoc, h1]; rfl)
  | true =>
    simp only [if_true]
    refine Ev.bind (impl_areArguments_ev x hx) ?_
    rw [Bool.and_eq_true] at h1
    have e0 : symB p x = (decide ((x.length : Int) = (p.length : Int)) && allW x 1 9) := by unfold symB; rw [h1.1, h1.2]; rfl
    have w1 := wth_iff.1 h1.1
    by_cases c : (x.length : Int) = (p.length : Int)
    · have wx : wth x.length 1 4 = true := wth_iff.2 (by omega)
      have ea : argsB x = symB p x := by rw [e0]; unfold argsB; rw [wx, decide_eq_true c]
      rw [ea]
      cases h : symB p x with
      | false => simp only [Bool.false_eq_true, if_false]; exact off h
      | true =>
        simp only [if_true, c.symm]
        unfold symV
        rw [h]
        exact Ev.ret (f := fun t => (t, true)) (impl_symmetricSum_ev h)
    · have hf : symB p x = false := by rw [e0, decide_eq_false c]; rfl
      have c2 : ¬ ((p.length : Int) = (x.length : Int)) := by omega
      cases ha : argsB x with
      | false => simp only [Bool.false_eq_true, if_false]; exact off hf
      | true => simp only [if_true, c2, if_false]; exact off hf

theorem impl_CompareSums_ev (a b x : List Int) (ha : a.length ≤ 1048576) (hb : b.length ≤ 1048576) (hx : x.length ≤ 1048576) : Ev (fun k => impl_CompareSums.f k a b x) (cmpV a b x) := by
  simp only [impl_CompareSums.f]
  have off : (symB a x && symB b x) = false → ∀ u v : Int, Ev (fun k => impl_CompareSums.j0 k u v true) (cmpV a b x) := fun h u v => by
    unfold cmpV; rw [h]
    refine Ev.succ ?_
    simp only [impl_CompareSums.j0, if_true]
    exact Ev.now _
  refine Ev.bind (impl_SymmetricSum_ev a x ha hx) ?_
  refine Ev.bind (impl_SymmetricSum_ev b x hb hx) ?_
  cases h1 : symB a x with
  | false =>
    have e : symV a x = (0, false) := by unfold symV; rw [h1]; rfl
    simp only [e, Bool.false_eq_true, if_false]
    exact off (by rw [h1]; rfl) _ _
  | true =>
    have e : symV a x = (symS a x, true) := by unfold symV; rw [h1]; rfl
    simp only [e, if_true]
    cases h2 : symB b x with
    | false =>
      have e2 : symV b x = (0, false) := by unfold symV; rw [h2]; rfl
      simp only [e2, Bool.not_false]
      exact off (by rw [h1, h2]; rfl) _ _
    | true =>
      have e2 : symV b x = (symS b x, true) := by unfold symV; rw [h2]; rfl
      simp only [e2, Bool.not_true]
      refine Ev.succ ?_
      simp only [impl_CompareSums.j0, Bool.false_eq_true, if_false]
      unfold cmpV cmpI
      rw [h1, h2]
      simp only [Bool.and_self, if_true]
      by_cases c : symS a x < symS b x
      · simp only [c, if_true]; exact Ev.now _
      · simp only [c, if_false]
        by_cases c2 : symS a x > symS b x
        · simp only [c2, if_true]; exact Ev.now _
        · simp only [c2, if_false]; exact Ev.now _

theorem FnExactCompareSums : laws_FnExactCompareSums.Pure := by
  intro a b c hma hsa hwa hmb hsb hwb hmc hsc hwc
  refine Ev.rounds ?_
  simp only [laws_FnExactCompareSums.f]
  by_cases hba : (a.length : Int) > 1048576
  · simp only [hba, if_true]; exact Ev.now _
  · simp only [hba, if_false]
    by_cases hbb : (b.length : Int) > 1048576
    · simp only [hbb, if_true]; exact Ev.now _
    · simp only [hbb, if_false]
      by_cases hbc : (c.length : Int) > 1048576
      · simp only [hbc, if_true]; exact Ev.now _
      · simp only [hbc, if_false]
        refine Ev.bind (laws_toIntS_ev a (by omega)) ?_
        refine Ev.bind (laws_toIntS_ev b (by omega)) ?_
        refine Ev.bind (laws_toIntS_ev c (by omega)) ?_
        refine Ev.bind (spec_CompareSums_ev a b c (by omega) (by omega) (by omega)) ?_
        refine Ev.bind (laws_toIntS_ev a (by omega)) ?_
        refine Ev.bind (laws_toIntS_ev b (by omega)) ?_
        refine Ev.bind (laws_toIntS_ev c (by omega)) ?_
        refine Ev.bind (impl_CompareSums_ev a b c (by omega) (by omega) (by omega)) ?_
        simp only [bne_self_eq_false, Bool.false_eq_true, if_false, if_true]
        refine Ev.succ ?_
        simp only [laws_FnExactCompareSums.j0, Bool.false_eq_true, if_false]
        refine Ev.bind (laws_toIntS_ev a (by omega)) ?_
        refine Ev.bind (laws_eqIntS_self a (by omega)) ?_
        simp only [if_true]
        refine Ev.bind (laws_toIntS_ev b (by omega)) ?_
        refine Ev.bind (laws_eqIntS_self b (by omega)) ?_
        simp only [if_true]
        refine Ev.bind (laws_toIntS_ev c (by omega)) ?_
        refine Ev.bind (laws_eqIntS_self c (by omega)) ?_
        simp only [if_true]
        exact Ev.now _

end Go.Proofs.Ytnbhmanmdgjceaa.Pure
