/- Uncrossing keeps the sums and never costs more, and when all is uncrossed the plan is the monotone one; the printed functions' own bounds on lengths are the only conditions. -/
import Derived.Test.YtojklddddedoeaaPFnUncrossingx11
import Derived.Test.YtojklddddedoeaaTFnUncrossingMath
import Derived.Test.YtojklddddedoeaaTFnUncrossingMathP
import Derived.Test.YtojklddddedoeaaTFnUncrossingMathQ
import Derived.Test.YtojklddddedoeaaTFnUncrossingMathU
import Derived.Test.YtojklddddedoeaaTFnUncrossingMathD
namespace Go.Proofs.Ytojklddddedoeaa.Pure
open Go.RowKit Go.Proofs.Ytojklddddedoeaa.PFnUncrossing Go.Proofs.YtojklddddedoeaaW.PrintWords Go.Proofs.YtojklddddedoeaaW.PrintLast Go.Proofs.YtojklddddedoeaaW.PrintMore Go.Proofs.Ytojklddddedoeaa.Math
set_option linter.unusedVariables false
set_option linter.unusedSimpArgs false
set_option linter.unusedSectionVars false

theorem laws_big_x (a b : List Int) : ∃ t, laws_big.f a b = some t := by
  unfold laws_big.f
  by_cases c : (a.length : Int) > 1048576
  · rw [if_pos c]; exact ⟨_, rfl⟩
  · rw [if_neg c]; exact ⟨_, rfl⟩

theorem impl_within_e (a b c : Int) : impl_within.f a b c = some (wth a b c) := wth_opt a b c

theorem impl_allWithin_l (l : List Int) (lo hi : Int) (hl : l.length ≤ 4611686018427387904) : ∀ i, i ≤ l.length → Ev (fun k => impl_allWithin.l0 k lo hi l (l.length : Int) (i : Int)) (allW (l.drop i) lo hi) := by
  refine down ?_ ?_
  · refine Ev.succ ?_
    simp only [impl_allWithin.l0, nlt (Nat.le_refl l.length), if_false, List.drop_length]
    exact Ev.now _
  · intro i hi ih
    refine Ev.succ ?_
    simp only [impl_allWithin.l0, ilt hi, inn, if_true, impl_within_e, Option.bind_some, rd_lt hi, wnext hi hl]
    rw [drop_cons hi]
    exact Ev.andS fun _ => ih
theorem impl_allWithin_ev (l : List Int) (lo hi : Int) (hl : l.length ≤ 4611686018427387904) : Ev (fun k => impl_allWithin.f k l lo hi) (allW l lo hi) := by
  have := impl_allWithin_l l lo hi hl 0 (Nat.zero_le _)
  simpa only [impl_allWithin.f, List.drop_zero, Int.natCast_zero] using this

theorem impl_IsList_ev (l : List Int) (hl : l.length ≤ 4611686018427387904) : Ev (fun k => impl_IsList.f k l) (goodB l) := by
  simp only [impl_IsList.f, impl_within_e, Option.bind_some, goodB]
  exact Ev.andS fun _ => Ev.ret (f := fun t => t) (impl_allWithin_ev l 0 60 hl)

theorem impl_areLists_ev (a b : List Int) (ha : a.length ≤ 1048576) (hb : b.length ≤ 1048576) : Ev (fun k => impl_areLists.f k a b) (goodB a && goodB b) := by
  simp only [impl_areLists.f]
  exact Ev.and (impl_IsList_ev a (by omega)) fun h => Ev.ret (f := fun t => t) (impl_IsList_ev b (by omega))

theorem impl_total_l (l : List Int) (hl : l.length ≤ 4611686018427387904) : ∀ i, i ≤ l.length → ∀ acc, InR acc → Ev (fun k => impl_total.l0 k acc l (l.length : Int) (i : Int)) (wrap64 (acc + (l.drop i).sum)) := by
  refine down ?_ ?_
  · intro acc ha
    refine Ev.succ ?_
    simp only [impl_total.l0, nlt (Nat.le_refl l.length), if_false, List.drop_length, List.sum_nil, Int.add_zero, wR ha]
    exact Ev.now _
  · intro i hi ih acc ha
    refine Ev.succ ?_
    simp only [impl_total.l0, ilt hi, inn, if_true, rd_lt hi, wnext hi hl]
    rw [drop_cons hi, List.sum_cons, ← Int.add_assoc]
    exact (ih _ (inR_wrap _)).eqv (wr_add _ _)
theorem impl_total_ev (l : List Int) (hl : l.length ≤ 4611686018427387904) : Ev (fun k => impl_total.f k l) (wrap64 l.sum) := by
  have := impl_total_l l hl 0 (Nat.zero_le _) 0 inR_0
  simpa only [impl_total.f, List.drop_zero, Int.zero_add, Int.natCast_zero] using this
theorem impl_total_good {l : List Int} (h : Lst l) : Ev (fun k => impl_total.f k l) l.sum :=
  (impl_total_ev l (by have := h.2.1; omega)).eqv (w64 (by have := h.sum; omega) (by have := h.sum; omega))

theorem impl_doFit_ev {a b : List Int} (ha : Lst a) (hb : Lst b) : Ev (fun k => impl_doFit.f k a b) (decide (a.length = b.length) && decide (a.sum = b.sum)) := by
  simp only [impl_doFit.f]
  by_cases h : a.length = b.length
  · have h2 : (a.length : Int) = (b.length : Int) := by omega
    simp only [h2, if_true, h, decide_true, Bool.true_and]
    refine Ev.bind (impl_total_good ha) ?_
    exact Ev.ret (f := fun t => a.sum == t) (impl_total_good hb)
  · have h2 : ¬ (a.length : Int) = (b.length : Int) := by omega
    simp only [h2, if_false, h, decide_false, Bool.false_and]
    exact Ev.now _

theorem impl_areFitting_ev (a b : List Int) (ha : a.length ≤ 1048576) (hb : b.length ≤ 1048576) : Ev (fun k => impl_areFitting.f k a b) (fits a b) := by
  simp only [impl_areFitting.f]
  refine (Ev.and (b := decide (a.length = b.length) && decide (a.sum = b.sum)) (impl_areLists_ev a b ha hb) fun h => ?_).eqv (Bool.and_assoc _ _ _)
  rw [Bool.and_eq_true, goodB_iff, goodB_iff] at h
  exact Ev.ret (f := fun t => t) (impl_doFit_ev h.1 h.2)

theorem impl_monotone_1_e (a b : Int) : impl_monotone_1.f a b = some 0 := rfl
theorem impl_square_l1 (n : Nat) (hn : n ≤ 1048576) (o : Nat) (ho : o < n) (R : List (List Int)) (hk : Ev (fun k => impl_square.l0 k (n : Int) (List.replicate (o + 1) (List.replicate n 0)) (n : Int) ((o + 1 : Nat) : Int)) R) :
    ∀ j, j ≤ n → Ev (fun k => impl_square.l1 k (n : Int) (List.replicate o (List.replicate n 0)) (o : Int) (List.replicate j 0) (n : Int) (o : Int) (n : Int) (j : Int)) R := by
  refine down ?_ ?_
  · have c2 : (List.replicate o (List.replicate n (0 : Int))).length < 5864062014805 := by rw [List.length_replicate]; omega
    refine Ev.succ ?_
    simp only [impl_square.l1, nlt (Nat.le_refl n), if_false, c2, if_true, ← List.replicate_succ', wnext ho (by omega : n ≤ 4611686018427387904)]
    exact hk
  · intro j hj ih
    have c2 : (List.replicate j (0 : Int)).length < 17592186044416 := by rw [List.length_replicate]; omega
    refine Ev.succ ?_
    simp only [impl_square.l1, ilt hj, if_true, impl_monotone_1_e, Option.bind_some, c2, ← List.replicate_succ', wnext hj (by omega : n ≤ 4611686018427387904)]
    exact ih
theorem impl_square_l0 (n : Nat) (hn : n ≤ 1048576) : ∀ i, i ≤ n → Ev (fun k => impl_square.l0 k (n : Int) (List.replicate i (List.replicate n 0)) (n : Int) (i : Int)) (zerosP n n) := by
  refine down ?_ ?_
  · refine Ev.succ ?_
    simp only [impl_square.l0, nlt (Nat.le_refl n), if_false]
    exact Ev.now _
  · intro i hi ih
    refine Ev.succ ?_
    simp only [impl_square.l0, ilt hi, if_true]
    exact impl_square_l1 n hn i hi _ ih 0 (Nat.zero_le _)
theorem impl_square_ev (n : Nat) (hn : n ≤ 1048576) (z : Int) : Ev (fun k => impl_square.f k (n : Int) z) (zerosP n n) := by
  have := impl_square_l0 n hn 0 (Nat.zero_le _)
  simpa only [impl_square.f, List.replicate_zero, Int.natCast_zero] using this

theorem slices_Clone_int_int_e (l : List Int) (hl : l.length < 17592186044416) : slices_Clone_int_int.f l = some l := by
  simp only [slices_Clone_int_int.f, Option.bind_some, List.nil_append, List.length_nil, Nat.zero_add, hl, if_true]

theorem impl_monotone_l0 : ∀ (d : Nat) (m : List (List Int)) (a b : List Int) (i j : Nat), (a.length - i) + (b.length - j) < d → i ≤ a.length → j ≤ b.length → a.length ≤ 1048576 → b.length ≤ 1048576 → Shp m a.length b.length → Ev (fun k => impl_monotone.l0  k m a b (i : Int) (j : Int)) (carryN d m a b i j)
  | 0, _, _, _, _, _, h, _, _, _, _, _ => by omega
  | d + 1, m, a, b, i, j, h, hi, hj, ha, hb, hs => by
    unfold carryN
    refine Ev.succ ?_
    by_cases c1 : i < a.length
    · by_cases c2 : j < b.length
      · have r1 : i < m.length := by rw [hs.1]; exact c1
        have hrow : rd_L2 m (i : Int) = m.getD i [] := by simp [rd_L2]
        have hl := hs.row c1
        have r2 : j < (m.getD i []).length := by rw [hl]; exact c2
        have hs2 : Shp (m.set i ((m.getD i []).set j (wrap64 ((m.getD i []).getD j 0 + min (a.getD i 0) (b.getD j 0))))) a.length b.length := hs.set (by rw [List.length_set]; exact hl)
        rw [if_pos ⟨c1, c2⟩]
        simp only [impl_monotone.l0, ilt c1, ilt c2, inn, if_true, hrow, ilt r1, ilt r2, rd_get, Int.toNat_natCast, mn_eq, wnext c1 (by omega : a.length ≤ 4611686018427387904), wnext c2 (by omega : b.length ≤ 4611686018427387904)]
        by_cases c3 : (a.set i (wrap64 (a.getD i 0 - min (a.getD i 0) (b.getD j 0)))).getD i 0 = 0
        · simp only [c3, if_true]
          have := impl_monotone_l0 d (m.set i ((m.getD i []).set j (wrap64 ((m.getD i []).getD j 0 + min (a.getD i 0) (b.getD j 0))))) (a.set i (wrap64 (a.getD i 0 - min (a.getD i 0) (b.getD j 0)))) (b.set j (wrap64 (b.getD j 0 - min (a.getD i 0) (b.getD j 0)))) (i + 1) j (by simp only [List.length_set]; omega) (by simp only [List.length_set]; omega) (by simp only [List.length_set]; omega) (by simp only [List.length_set]; omega) (by simp only [List.length_set]; omega) (by simp only [List.length_set]; exact hs2)
          simpa only [List.length_set] using this
        · simp only [c3, if_false]
          have := impl_monotone_l0 d (m.set i ((m.getD i []).set j (wrap64 ((m.getD i []).getD j 0 + min (a.getD i 0) (b.getD j 0))))) (a.set i (wrap64 (a.getD i 0 - min (a.getD i 0) (b.getD j 0)))) (b.set j (wrap64 (b.getD j 0 - min (a.getD i 0) (b.getD j 0)))) i (j + 1) (by simp only [List.length_set]; omega) (by simp only [List.length_set]; omega) (by simp only [List.length_set]; omega) (by simp only [List.length_set]; omega) (by simp only [List.length_set]; omega) (by simp only [List.length_set]; exact hs2)
          simpa only [List.length_set] using this
      · rw [if_neg (by omega)]
        simp only [impl_monotone.l0, ilt c1, nlt (Nat.le_of_not_lt c2), if_true, if_false]
        exact Ev.now _
    · rw [if_neg (by omega)]
      simp only [impl_monotone.l0, nlt (Nat.le_of_not_lt c1), if_false]
      exact Ev.now _

theorem impl_monotone_ev (a b : List Int) (h : a.length = b.length) (h0 : 0 < a.length) (ha : a.length ≤ 1048576) : Ev (fun k => impl_monotone.f k a b) (monoP a b) := by
  simp only [impl_monotone.f, impl_monotone.c, slices_Clone_int_int_e a (by omega), slices_Clone_int_int_e b (by omega), Option.bind_some]
  refine Ev.bind (impl_square_ev a.length ha 0) ?_
  have hz : 0 < (zerosP a.length a.length).length := by simp [zerosP]; exact h0
  simp only [hz, if_true]
  exact impl_monotone_l0 _ (zerosP a.length a.length) a b 0 0 (by omega) (by omega) (by omega) ha (by omega) (h ▸ shp_zeros a.length a.length)

theorem impl_MonotonePlan_ev (a b : List Int) (ha : a.length ≤ 1048576) (hb : b.length ≤ 1048576) : Ev (fun k => impl_MonotonePlan.f k a b) (if fits a b then (monoP a b, true) else (([] : List (List Int)), false)) := by
  simp only [impl_MonotonePlan.f]
  refine Ev.bind (impl_areFitting_ev a b ha hb) ?_
  cases c : fits a b with
  | false => simp only [Bool.false_eq_true, if_false]; exact Ev.now _
  | true =>
    simp only [if_true]
    have h := fits_iff.1 c
    have h1 := h.1.1
    exact Ev.ret (f := fun t => (t, true)) (impl_monotone_ev a b h.2.2.1 (by omega) ha)

theorem laws_pSame_l (l m : List Int) (he : m.length = l.length) (hl : l.length ≤ 4611686018427387904) : ∀ i, i ≤ l.length → Ev (fun k => laws_pSame.l0 k l m (l.length : Int) (i : Int)) (decide (l.drop i = m.drop i)) := by
  refine down ?_ ?_
  · refine Ev.succ ?_
    simp only [laws_pSame.l0, nlt (Nat.le_refl l.length), if_false, List.drop_length]
    rw [← he, List.drop_length]
    exact Ev.now _
  · intro i hi ih
    refine Ev.succ ?_
    simp only [laws_pSame.l0, ilt hi, inn, if_true, he, rd_lt hi, rd_lt (he ▸ hi : i < m.length), wnext hi hl]
    rw [drop_cons hi, drop_cons (he ▸ hi : i < m.length)]
    by_cases hx : l[i] = m[i]
    · simp only [hx, if_true, List.cons.injEq, true_and]
      exact ih
    · simp only [hx, if_false, List.cons.injEq, false_and, decide_false]
      exact Ev.now _
theorem laws_pSame_ev (l m : List Int) (hl : l.length ≤ 4611686018427387904) : Ev (fun k => laws_pSame.f k l m) (decide (l = m)) := by
  simp only [laws_pSame.f]
  by_cases he : (l.length : Int) = (m.length : Int)
  · simp only [he, if_true]
    have := laws_pSame_l l m (by omega) hl 0 (Nat.zero_le _)
    rw [he] at this
    exact this
  · simp only [he, if_false]
    rw [decide_eq_false (fun h => he (by rw [h]))]
    exact Ev.now _

theorem laws_pSameRows_l (m q : List (List Int)) (he : q.length = m.length) (h : Siz m) : ∀ i, i ≤ m.length → Ev (fun k => laws_pSameRows.l0 k m q (m.length : Int) (i : Int)) (decide (m.drop i = q.drop i)) := by
  have hm := h.1
  refine down ?_ ?_
  · refine Ev.succ ?_
    simp only [laws_pSameRows.l0, nlt (Nat.le_refl m.length), if_false, List.drop_length]
    rw [← he, List.drop_length]
    exact Ev.now _
  · intro i hi ih
    have h2 : i < q.length := by omega
    have hrow : rd_L2 m (i : Int) = m[i] := by simp [rd_L2, List.getD_eq_getElem?_getD, hi]
    have hrow2 : rd_L2 q (i : Int) = q[i] := by simp [rd_L2, List.getD_eq_getElem?_getD, h2]
    refine Ev.succ ?_
    simp only [laws_pSameRows.l0, ilt hi, inn, if_true, he, hrow, hrow2, wnext hi (by omega : m.length ≤ 4611686018427387904)]
    refine Ev.bind (laws_pSame_ev m[i] q[i] (by have := h.2 _ (List.getElem_mem hi); omega)) ?_
    rw [drop_cons hi, drop_cons h2]
    by_cases hx : m[i] = q[i]
    · simp only [hx, decide_true, if_true, List.cons.injEq, true_and]
      exact ih
    · simp only [hx, decide_false, Bool.false_eq_true, if_false, List.cons.injEq, false_and]
      exact Ev.now _
theorem laws_pSameRows_ev (m q : List (List Int)) (h : Siz m) : Ev (fun k => laws_pSameRows.f k m q) (decide (m = q)) := by
  simp only [laws_pSameRows.f]
  by_cases he : (m.length : Int) = (q.length : Int)
  · simp only [he, if_true]
    have := laws_pSameRows_l m q (by omega) h 0 (Nat.zero_le _)
    rw [he] at this
    exact this
  · simp only [he, if_false]
    rw [decide_eq_false (fun h => he (by rw [h]))]
    exact Ev.now _
theorem laws_pSameRows_self (m : List (List Int)) (h : Siz m) : Ev (fun k => laws_pSameRows.f k m m) true := by
  simpa using laws_pSameRows_ev m m h

theorem impl_isPlan_row_ev (n : Nat) (l : List Int) (hl : l.length ≤ 1048576) : Ev (fun k => impl_isPlan.row k n l) (!rowOk n l) := by
  simp only [impl_isPlan.row, rowOk]
  by_cases c : l.length = n
  · simp only [c, if_true, decide_true, Bool.true_and]
    exact Ev.ret (f := fun t => !t) (impl_allWithin_ev l 0 60 (by omega))
  · simp only [c, if_false, decide_false, Bool.false_and, Bool.not_false]
    exact Ev.now _
theorem impl_isPlan_l (m : List (List Int)) (h : Siz m) : ∀ i, i ≤ m.length → ∃ j : Int, Ev (fun k => impl_isPlan.l0 k m (i : Int)) j ∧ decide (j ≥ 0) = !((m.drop i).all (rowOk m.length)) := by
  have hm := h.1
  refine down ?_ ?_
  · refine ⟨-1, ?_, by simp⟩
    refine Ev.succ ?_
    simp only [impl_isPlan.l0, nlt (Nat.le_refl m.length), if_false]
    exact Ev.now _
  · intro i hi ⟨j, ih, hj⟩
    have hg : rd_L2 m (i : Int) = m[i] := by simp [rd_L2, List.getD_eq_getElem?_getD, hi]
    have hb := impl_isPlan_row_ev m.length m[i] (h.2 _ (List.getElem_mem hi))
    cases c : rowOk m.length m[i] with
    | true =>
      refine ⟨j, ?_, by rw [hj, drop_cons hi, List.all_cons, c, Bool.true_and]⟩
      rw [c] at hb
      refine Ev.succ ?_
      simp only [impl_isPlan.l0, ilt hi, inn, if_true, hg, wnext hi (by omega : m.length ≤ 4611686018427387904)]
      refine Ev.bind hb ?_
      simp only [Bool.not_true, Bool.false_eq_true, if_false]
      exact ih
    | false =>
      refine ⟨(i : Int), ?_, by rw [drop_cons hi, List.all_cons, c, Bool.false_and]; simp⟩
      rw [c] at hb
      refine Ev.succ ?_
      simp only [impl_isPlan.l0, ilt hi, inn, if_true, hg]
      refine Ev.bind hb ?_
      simp only [Bool.not_false, if_true]
      exact Ev.now _
theorem impl_isPlan_ev (m : List (List Int)) (h : Siz m) : Ev (fun k => impl_isPlan.f k m) (planB m) := by
  simp only [impl_isPlan.f, impl_within_e, Option.bind_some, planB]
  refine Ev.andS fun _ => ?_
  obtain ⟨j, hE, hj⟩ := impl_isPlan_l m h 0 (Nat.zero_le _)
  refine (Ev.ret (f := fun j : Int => !decide (j ≥ 0)) hE).eqv ?_
  rw [hj, Bool.not_not, List.drop_zero]

theorem impl_cost_l1 (m : List (List Int)) (hm : m.length ≤ 1048576) (o : Nat) (ho : o ≤ 1048576) (R : Int) (l : List Int) (hl : l.length ≤ 1048576)
    (hk : ∀ acc, InR acc → Ev (fun k => impl_cost.l0 k acc m (m.length : Int) (wrap64 ((o : Int) + 1))) (wrap64 (acc + R))) :
    ∀ i, i ≤ l.length → ∀ acc, InR acc → Ev (fun k => impl_cost.l1 k acc (o : Int) m (m.length : Int) (o : Int) l (l.length : Int) (i : Int)) (wrap64 (acc + rowCost o i (l.drop i) + R)) := by
  refine down ?_ ?_
  · intro acc ha
    refine Ev.succ ?_
    simp only [impl_cost.l1, nlt (Nat.le_refl l.length), if_false, List.drop_length, rowCost, Int.add_zero]
    exact hk acc ha
  · intro i hi ih acc ha
    refine Ev.succ ?_
    simp only [impl_cost.l1, ilt hi, inn, if_true, rd_lt hi, wnext hi (by omega : l.length ≤ 4611686018427387904), mx_eq, w64 (x := (o : Int) - (i : Int)) (by omega) (by omega), w64 (x := (i : Int) - (o : Int)) (by omega) (by omega)]
    rw [drop_cons hi, rowCost, ← Int.add_assoc]
    refine (ih _ (inR_wrap _)).eqv ?_
    rw [Int.add_assoc, wr_add, ← Int.add_assoc, Int.add_right_comm acc (wrap64 _), Int.add_right_comm _ (wrap64 _), wr_add', Int.add_right_comm _ R, Int.add_right_comm acc]
theorem impl_cost_l0 (m : List (List Int)) (h : Siz m) : ∀ i, i ≤ m.length → ∀ acc, InR acc → Ev (fun k => impl_cost.l0 k acc m (m.length : Int) (i : Int)) (wrap64 (acc + costGo i (m.drop i))) := by
  have hm := h.1
  refine down ?_ ?_
  · intro acc ha
    refine Ev.succ ?_
    simp only [impl_cost.l0, nlt (Nat.le_refl m.length), if_false, List.drop_length, costGo, Int.add_zero, wR ha]
    exact Ev.now _
  · intro i hi ih acc ha
    have hrow : rd_L2 m (i : Int) = m[i] := by simp [rd_L2, List.getD_eq_getElem?_getD, hi]
    refine Ev.succ ?_
    simp only [impl_cost.l0, ilt hi, inn, if_true, hrow]
    refine (impl_cost_l1 m hm i (by omega) (costGo (i + 1) (m.drop (i + 1))) m[i] (h.2 _ (List.getElem_mem hi)) (fun acc ha => ?_) 0 (Nat.zero_le _) acc ha).eqv ?_
    · rw [wnext hi (by omega)]
      exact ih acc ha
    · rw [List.drop_zero, drop_cons hi, costGo, Int.add_assoc]
theorem impl_cost_ev (m : List (List Int)) (h : Siz m) : Ev (fun k => impl_cost.f k m) (wrap64 (costGo 0 m)) := by
  have := impl_cost_l0 m h 0 (Nat.zero_le _) 0 inR_0
  simpa only [impl_cost.f, List.drop_zero, Int.zero_add, Int.natCast_zero] using this

theorem impl_PlanCost_ev (m : List (List Int)) (h : Siz m) : Ev (fun k => impl_PlanCost.f k m) (if planB m then (wrap64 (costGo 0 m), true) else (0, false)) := by
  simp only [impl_PlanCost.f]
  refine Ev.bind (impl_isPlan_ev m h) ?_
  cases c : planB m with
  | false => simp only [Bool.false_eq_true, if_false]; exact Ev.now _
  | true =>
    simp only [if_true]
    exact Ev.ret (f := fun t => (t, true)) (impl_cost_ev m h)

theorem laws_pSum_l (l : List Int) (hl : l.length ≤ 4611686018427387904) : ∀ i, i ≤ l.length → ∀ acc, InR acc → Ev (fun k => laws_pSum.l0 k acc l (l.length : Int) (i : Int)) (wrap64 (acc + (l.drop i).sum)) := by
  refine down ?_ ?_
  · intro acc ha
    refine Ev.succ ?_
    simp only [laws_pSum.l0, nlt (Nat.le_refl l.length), if_false, List.drop_length, List.sum_nil, Int.add_zero, wR ha]
    exact Ev.now _
  · intro i hi ih acc ha
    refine Ev.succ ?_
    simp only [laws_pSum.l0, ilt hi, inn, if_true, rd_lt hi, wnext hi hl]
    rw [drop_cons hi, List.sum_cons, ← Int.add_assoc]
    exact (ih _ (inR_wrap _)).eqv (wr_add _ _)
theorem laws_pSum_ev (l : List Int) (hl : l.length ≤ 4611686018427387904) : Ev (fun k => laws_pSum.f k l) (wrap64 l.sum) := by
  have := laws_pSum_l l hl 0 (Nat.zero_le _) 0 inR_0
  simpa only [laws_pSum.f, List.drop_zero, Int.zero_add, Int.natCast_zero] using this
theorem laws_pSum_good {l : List Int} (h : Lst l) : Ev (fun k => laws_pSum.f k l) l.sum :=
  (laws_pSum_ev l (by have := h.2.1; omega)).eqv (w64 (by have := h.sum; omega) (by have := h.sum; omega))

theorem colS_bound {m : List (List Int)} (h : Plan m) (c : Nat) : ∀ i, 0 ≤ sm i (fun p => cell m p c) ∧ sm i (fun p => cell m p c) ≤ 60 * i
  | 0 => by simp [sm]
  | i + 1 => by
    have ih := colS_bound h c i
    have b := h.cell i c
    rw [sm]; omega
theorem laws_pMargins_l1 {m : List (List Int)} (h : Plan m) (x4 : List Int) (i : Nat) (hi : i < m.length) (R : List Int × List Int) (hK : ∀ y : List Int, y.length = m.length → (∀ c, c < m.length → y.getD c 0 = sm (i + 1) fun p => cell m p c) → Ev (fun k => laws_pMargins.l0 k x4 y m (m.length : Int) (wrap64 ((i : Int) + 1))) R) :
    ∀ j, j ≤ m.length → ∀ y : List Int, y.length = m.length → (∀ c, c < m.length → y.getD c 0 = if c < j then sm (i + 1) (fun p => cell m p c) else sm i fun p => cell m p c) → Ev (fun k => laws_pMargins.l1 k x4 y m (m.length : Int) (i : Int) m[i] (m[i].length : Int) (j : Int)) R := by
  have hr := (h.2.2 m[i] (List.getElem_mem hi)).1
  have h8 := h.2.1
  refine down ?_ ?_
  · intro y hy hc
    refine Ev.succ ?_
    simp only [laws_pMargins.l1, hr, nlt (Nat.le_refl m.length), if_false]
    exact hK y hy fun c hcm => by rw [hc c hcm, if_pos hcm]
  · intro j hj ih y hy hc
    refine Ev.succ ?_
    have jr : j < m[i].length := by omega
    have jy : j < y.length := by omega
    have e1 : rd y (j : Int) = sm i fun p => cell m p j := by
      have : rd y (j : Int) = y.getD j 0 := rfl
      rw [this, hc j hj, if_neg (by omega)]
    have e2 : rd m[i] (j : Int) = cell m i j := by
      have : rd m[i] (j : Int) = m[i].getD j 0 := rfl
      unfold cell
      rw [this]
      simp [List.getD_eq_getElem?_getD, hi]
    have b := colS_bound h j i
    have b2 := h.cell i j
    have e3 : wrap64 (sm i (fun p => cell m p j) + cell m i j) = sm (i + 1) fun p => cell m p j := by rw [w64 (by omega) (by omega)]; rfl
    simp only [laws_pMargins.l1, ilt jr, ilt jy, inn, if_true, e1, e2, e3, Int.toNat_natCast, wnext jr (by omega : m[i].length ≤ 4611686018427387904)]
    refine ih (y.set j _) (by rw [List.length_set]; exact hy) fun c hcm => ?_
    by_cases cj : c = j
    · subst cj
      rw [Math.getD_set_self _ _ _ _ (by omega), if_pos (by omega)]
    · rw [Math.getD_set_ne _ _ _ (fun e => cj e.symm), hc c hcm]
      by_cases q : c < j
      · rw [if_pos q, if_pos (by omega)]
      · rw [if_neg q, if_neg (by omega)]
theorem laws_pMargins_l0 {m : List (List Int)} (h : Plan m) : ∀ i, i ≤ m.length → ∀ y : List Int, y.length = m.length → (∀ c, c < m.length → y.getD c 0 = sm i fun p => cell m p c) → Ev (fun k => laws_pMargins.l0 k ((m.take i).map List.sum) y m (m.length : Int) (i : Int)) (rowsP m, colsP m) := by
  have h8 := h.2.1
  refine down ?_ ?_
  · intro y hy hc
    refine Ev.succ ?_
    simp only [laws_pMargins.l0, nlt (Nat.le_refl m.length), if_false, List.take_length]
    have e : y = colsP m := list_ext_getD (by rw [hy, colsP_len]) fun c hcl => by rw [hc c (by omega), colsP_getD h.shp (by omega)]
    rw [e]
    exact Ev.now _
  · intro i hi ih y hy hc
    refine Ev.succ ?_
    have hrow : rd_L2 m (i : Int) = m[i] := by simp [rd_L2, List.getD_eq_getElem?_getD, hi]
    have sh := h.short m[i] (List.getElem_mem hi)
    have sb := sh.sum
    have sl := sh.1
    have tl : ((m.take i).map List.sum).length < 17592186044416 := by rw [List.length_map, List.length_take]; omega
    simp only [laws_pMargins.l0, ilt hi, inn, if_true, hrow]
    refine Ev.bind (laws_pSum_ev m[i] (by omega)) ?_
    simp only [tl, if_true, w64 (x := m[i].sum) (by omega) (by omega)]
    have et : (m.take i).map List.sum ++ [m[i].sum] = (m.take (i + 1)).map List.sum := by
      rw [List.take_succ_eq_append_getElem hi, List.map_append]; rfl
    rw [et]
    refine laws_pMargins_l1 h _ i hi _ (fun y' hy' hc' => ?_) 0 (Nat.zero_le _) y hy fun c hcm => ?_
    · rw [wnext hi (by omega : m.length ≤ 4611686018427387904)]
      exact ih y' hy' hc'
    · rw [hc c hcm, if_neg (by omega)]
theorem laws_pMargins_ev {m : List (List Int)} (h : Plan m) : Ev (fun k => laws_pMargins.f k m) (rowsP m, colsP m) := by
  have h8 := h.2.1
  have c1 : m.length ≤ 35184372088832 := by omega
  simp only [laws_pMargins.f, inn, if_true, Int.toNat_natCast, c1]
  have := laws_pMargins_l0 h 0 (Nat.zero_le _) (List.replicate m.length 0) (by simp) fun c hcm => by
    rw [List.getD_eq_getElem?_getD, List.getElem?_replicate, if_pos hcm]; rfl
  rw [List.take_zero, List.map_nil] at this
  exact this

theorem spec_l1Cur_next_x {c : List Int} (hc : Bts c) (a s b : Int) (ha : At a b) (hb : b ≤ 4611686018427387904) : ∃ r : Int × Int × Int, spec_l1Cur_next.f c a s = some r ∧ 0 ≤ r.1 ∧ r.1 ≤ 255 ∧ At r.2.1 (b + 1) := by
  have h0 := ha.1
  have h1 := ha.2
  have e : wrap64 (a + 1) = a + 1 := w64 (by omega) (by omega)
  have a1 : At (a + 1) (b + 1) := ⟨by omega, by omega⟩
  have u : ∀ z : Int, 0 ≤ wrap64 (Go.bits .and .u64 (IntKind.u64.wrap z / 1099511627776) 255) ∧ wrap64 (Go.bits .and .u64 (IntKind.u64.wrap z / 1099511627776) 255) ≤ 255 := fun z => and255 _ (by rw [wrapU64]; omega) (by rw [wrapU64]; omega)
  unfold spec_l1Cur_next.f
  by_cases c1 : a < (c.length : Int)
  · have r := rd_code hc h0 c1
    simp only [c1, h0, if_true, e]
    by_cases c2 : a + 1 ≤ (c.length : Int)
    · simp only [c2, if_true]
      refine ⟨_, rfl, ?_, ?_, a1⟩
      · show 0 ≤ wrap64 _
        rw [w64 (by omega) (by omega)]; exact r.1
      · show wrap64 _ ≤ 255
        rw [w64 (by omega) (by omega)]; exact r.2
    · simp only [c2, if_false]
      exact ⟨_, rfl, (u _).1, (u _).2, a1⟩
  · simp only [c1, if_false, e]
    by_cases c2 : a + 1 ≤ (c.length : Int)
    · simp only [c2, if_true]
      exact ⟨_, rfl, by show (0 : Int) ≤ 0; omega, by show (0 : Int) ≤ 255; omega, a1⟩
    · simp only [c2, if_false]
      exact ⟨_, rfl, (u _).1, (u _).2, a1⟩

theorem spec_l1Cur_pick_x {c : List Int} (hc : Bts c) (a s b n : Int) (ha : At a b) (hb : b ≤ 1073741824) : Ex (fun _ => spec_l1Cur_pick.f c a s n) (fun r => 0 ≤ r.1 ∧ (1 ≤ n → r.1 < n) ∧ At r.2.1 (b + 2)) := by
  have h0 := ha.1
  have h1 := ha.2
  unfold spec_l1Cur_pick.f
  by_cases c1 : n ≤ 1
  · simp only [c1, if_true]
    exact Ex.now ⟨by show (0 : Int) ≤ 0; omega, fun h => by show (0 : Int) < n; omega, by omega, by show a ≤ b + 2; omega⟩
  · simp only [c1, if_false]
    obtain ⟨r, hr, r0, r1, r2⟩ := spec_l1Cur_next_x hc a s b ha (by omega)
    rw [hr]
    simp only [Option.bind_some]
    have n0 : ¬ n = 0 := by omega
    by_cases c2 : n > 200
    · simp only [c2, if_true]
      obtain ⟨q, hq, q0, q1, q2⟩ := spec_l1Cur_next_x hc r.2.1 r.2.2 (b + 1) r2 (by omega)
      rw [hq]
      simp only [Option.bind_some, n0, if_false]
      have e : wrap64 (wrap64 (r.1 * 256) + q.1) = r.1 * 256 + q.1 := by rw [w64 (x := r.1 * 256) (by omega) (by omega), w64 (by omega) (by omega)]
      rw [e]
      refine Ex.now ⟨Int.tmod_nonneg _ (by omega), fun _ => Int.tmod_lt_of_pos _ (by omega), q2.1, ?_⟩
      have := q2.2
      show q.2.1 ≤ b + 2
      omega
    · simp only [c2, if_false, n0]
      refine Ex.now ⟨Int.tmod_nonneg _ (by omega), fun _ => Int.tmod_lt_of_pos _ (by omega), r2.1, ?_⟩
      have := r2.2
      show r.2.1 ≤ b + 2
      omega

theorem spec_plEmpty_l0 (n : Nat) (hn : n ≤ 1048576) : ∀ i, i ≤ n → Ev (fun k => spec_plEmpty.l0 k (n : Int) (List.replicate i (List.replicate n 0)) (i : Int)) (zerosP n n) := by
  refine down ?_ ?_
  · refine Ev.succ ?_
    simp only [spec_plEmpty.l0, nlt (Nat.le_refl n), if_false]
    exact Ev.now _
  · intro i hi ih
    have c1 : n ≤ 35184372088832 := by omega
    have c2 : (List.replicate i (List.replicate n (0 : Int))).length < 5864062014805 := by rw [List.length_replicate]; omega
    refine Ev.succ ?_
    simp only [spec_plEmpty.l0, ilt hi, inn, if_true, Int.toNat_natCast, c1, c2, wnext hi (by omega : n ≤ 4611686018427387904), ← List.replicate_succ']
    exact ih
theorem spec_plEmpty_ev (n : Nat) (hn : n ≤ 1048576) : Ev (fun k => spec_plEmpty.f k (n : Int)) (zerosP n n) := by
  have := spec_plEmpty_l0 n hn 0 (Nat.zero_le _)
  simpa only [spec_plEmpty.f, List.replicate_zero, Int.natCast_zero] using this

theorem spec_l1Cur_among_x {c : List Int} (hc : Bts c) (a s b : Int) (l : List Int) (hl : 1 ≤ l.length) (ha : At a b) (hb : b ≤ 1073741824) : Ex (fun _ => spec_l1Cur_among.f c a s l) (fun r => r.1 ∈ l ∧ At r.2.1 (b + 2)) := by
  unfold spec_l1Cur_among.f
  refine Ex.bind (spec_l1Cur_pick_x hc a s b _ ha hb) fun r hr => ?_
  have h0 := hr.1
  have h1 := hr.2.1 (by omega)
  simp only [h0, h1, if_true]
  refine Ex.now ⟨?_, hr.2.2⟩
  have hi : r.1.toNat < l.length := by omega
  show rd l r.1 ∈ l
  unfold rd
  rw [List.getD_eq_getElem?_getD, List.getElem?_eq_getElem hi, Option.getD_some]
  exact List.getElem_mem hi

theorem spec_l1Cur_list_l {c : List Int} (hc : Bts c) (m : Int) : ∀ (n : Nat) (x : List Int) (a s b : Int), At a b → b + 2 * n ≤ 1073741824 → x.length + n ≤ 1048576 → Ex (fun k => spec_l1Cur_list.l0 k m x (n : Int) c a s) (fun r => r.1.length = x.length + n ∧ At r.2.1 (b + 2 * n))
  | 0, x, a, s, b, ha, hb, hx => by
    refine Ex.succ ?_
    simp only [spec_l1Cur_list.l0, show ¬ (((0 : Nat) : Int) > 0) by omega, if_false]
    exact Ex.now ⟨rfl, by simpa using ha⟩
  | n + 1, x, a, s, b, ha, hb, hx => by
    refine Ex.succ ?_
    simp only [spec_l1Cur_list.l0, show (((n + 1 : Nat) : Int) > 0) by omega, if_true]
    refine Ex.bind (spec_l1Cur_pick_x hc a s b _ ha (by omega)) fun r hr => ?_
    have hl : x.length < 17592186044416 := by omega
    simp only [hl, if_true, w64 (x := ((n + 1 : Nat) : Int) - 1) (by omega) (by omega)]
    rw [show ((n + 1 : Nat) : Int) - 1 = (n : Int) by omega]
    refine (spec_l1Cur_list_l hc m n (x ++ [r.1]) r.2.1 r.2.2 (b + 2) hr.2.2 (by omega) (by rw [List.length_append, List.length_singleton]; omega)).mono fun q hq => ?_
    rw [List.length_append, List.length_singleton] at hq
    exact ⟨by omega, hq.2.1, by have := hq.2.2; omega⟩
theorem spec_l1Cur_list_x {c : List Int} (hc : Bts c) (a s b m : Int) (ha : At a b) (hb : b ≤ 536870912) : Ex (fun k => spec_l1Cur_list.f k c a s m) (fun r => 1 ≤ r.1.length ∧ r.1.length ≤ 6 ∧ At r.2.1 (b + 14)) := by
  simp only [spec_l1Cur_list.f]
  refine Ex.bind (spec_l1Cur_pick_x hc a s b 6 ha (by omega)) fun r hr => ?_
  have h0 := hr.1
  have h1 := hr.2.1 (by omega)
  obtain ⟨n, hn⟩ := Int.eq_ofNat_of_zero_le h0
  rw [w64 (by omega) (by omega), show 1 + r.1 = ((n + 1 : Nat) : Int) by omega]
  refine (spec_l1Cur_list_l hc m (n + 1) [] r.2.1 r.2.2 (b + 2) hr.2.2 (by omega) (by simp; omega)).mono fun q hq => ?_
  rw [List.length_nil] at hq
  exact ⟨by omega, by omega, hq.2.1, by have := hq.2.2; omega⟩

theorem siz_set {m : List (List Int)} (h : Siz m) (i : Nat) {r : List Int} (hr : r.length ≤ 1048576) : Siz (m.set i r) := ⟨by rw [List.length_set]; exact h.1, fun q hq => by
  rcases List.mem_or_eq_of_mem_set hq with hq | hq
  · exact h.2 q hq
  · rw [hq]; exact hr⟩
theorem spec_l1Cur_planOf_l {c : List Int} (hc : Bts c) (n : Nat) (h1 : 1 ≤ n) (hn : n ≤ 9) : ∀ (d : Nat) (m : List (List Int)) (a s b : Int), Shp m n n → d ≤ 1048576 → At a b → b + 6 * d + 30 ≤ 134217728 → Ex (fun k => spec_l1Cur_planOf.l0 k (n : Int) m (d : Int) c a s) (fun r => Siz r.1 ∧ At r.2.1 (b + 6 * d + 20))
  | 0, m, a, s, b, hm, hd, ha, hb => by
    have c0 : ¬ (((0 : Nat) : Int) > 0) := by omega
    have hl := hm.1
    have hsz : Siz m := hm.siz (by omega) (by omega)
    refine Ex.succ ?_
    simp only [spec_l1Cur_planOf.l0, c0, if_false]
    refine Ex.bind (spec_l1Cur_pick_x hc a s b 14 ha (by omega)) fun r hr => ?_
    by_cases c1 : r.1 = 0
    · simp only [c1, if_true]
      refine Ex.bind (spec_l1Cur_pick_x hc _ _ (b + 2) (n : Int) hr.2.2 (by omega)) fun q hq => ?_
      have q0 := hq.1
      have q1 : q.1 < (m.length : Int) := by have := hq.2.1 (by omega); omega
      simp only [q0, q1, if_true]
      refine Ex.bind (spec_l1Cur_pick_x hc _ _ (b + 2 + 2) (n : Int) hq.2.2 (by omega)) fun z hz => ?_
      refine Ex.bind (spec_l1Cur_among_x hc _ _ (b + 2 + 2 + 2) _ (by simp) hz.2.2 (by omega)) fun y hy => ?_
      have z0 := hz.1
      have e : (rd_L2 m q.1).length = n := hm.row (i := q.1.toNat) (by omega)
      have z1 : z.1 < ((rd_L2 m q.1).length : Int) := by have := hz.2.1 (by omega); rw [e]; omega
      simp only [z0, z1, if_true]
      exact Ex.now ⟨siz_set hsz _ (by rw [List.length_set, e]; omega), hy.2.1, Int.le_trans hy.2.2 (by omega)⟩
    · simp only [c1, if_false]
      by_cases c2 : r.1 = 1
      · simp only [c2, if_true]
        refine Ex.bind (spec_l1Cur_pick_x hc _ _ (b + 2) (n : Int) hr.2.2 (by omega)) fun q hq => ?_
        refine Ex.bind (spec_l1Cur_list_x hc _ _ (b + 2 + 2) 3 hq.2.2 (by omega)) fun y hy => ?_
        have q0 := hq.1
        have q1 : q.1 < (m.length : Int) := by have := hq.2.1 (by omega); omega
        simp only [q0, q1, if_true]
        exact Ex.now ⟨siz_set hsz _ (by have := hy.2.1; omega), hy.2.2.1, Int.le_trans hy.2.2.2 (by omega)⟩
      · simp only [c2, if_false]
        exact Ex.now ⟨hsz, hr.2.2.1, Int.le_trans hr.2.2.2 (by omega)⟩
  | d + 1, m, a, s, b, hm, hd, ha, hb => by
    have c0 : ((d + 1 : Nat) : Int) > 0 := by omega
    have e0 : wrap64 (((d + 1 : Nat) : Int) - 1) = (d : Int) := wprev (by omega)
    have hl := hm.1
    refine Ex.succ ?_
    simp only [spec_l1Cur_planOf.l0, c0, if_true, e0]
    refine Ex.bind (spec_l1Cur_pick_x hc a s b (n : Int) ha (by omega)) fun q hq => ?_
    have q0 := hq.1
    have q1 : q.1 < (m.length : Int) := by have := hq.2.1 (by omega); omega
    simp only [q0, q1, if_true]
    refine Ex.bind (spec_l1Cur_pick_x hc _ _ (b + 2) (n : Int) hq.2.2 (by omega)) fun z hz => ?_
    have z0 := hz.1
    have e : (rd_L2 m q.1).length = n := hm.row (i := q.1.toNat) (by omega)
    have z1 : z.1 < ((rd_L2 m q.1).length : Int) := by have := hz.2.1 (by omega); rw [e]; omega
    simp only [z0, z1, if_true]
    refine Ex.bind (spec_l1Cur_pick_x hc _ _ (b + 2 + 2) 4 hz.2.2 (by omega)) fun y hy => ?_
    refine Ex.mono (spec_l1Cur_planOf_l hc n h1 hn d _ _ _ (b + 2 + 2 + 2) (hm.set (by rw [List.length_set]; exact e)) (by omega) hy.2.2 (by omega)) fun w hw => ?_
    exact ⟨hw.1, hw.2.1, Int.le_trans hw.2.2 (by omega)⟩
theorem spec_l1Cur_planOf_x {c : List Int} (hc : Bts c) (a s b n : Int) (h1 : 1 ≤ n) (hn : n ≤ 9) (ha : At a b) (hb : b ≤ 1048576) : Ex (fun k => spec_l1Cur_planOf.f k c a s n) (fun r => Siz r.1 ∧ At r.2.1 (b + 100)) := by
  simp only [spec_l1Cur_planOf.f]
  have en : n = ((n.toNat : Nat) : Int) := by omega
  rw [en]
  refine Ex.bind (P := fun m => m = zerosP n.toNat n.toNat) ⟨_, spec_plEmpty_ev n.toNat (by omega), rfl⟩ fun m hm => ?_
  refine Ex.bind (spec_l1Cur_pick_x hc a s b 7 ha (by omega)) fun r hr => ?_
  have r0 := hr.1
  have r1 := hr.2.1 (by omega)
  have er : r.1 = ((r.1.toNat : Nat) : Int) := by omega
  rw [er]
  refine Ex.mono (spec_l1Cur_planOf_l hc n.toNat (by omega) (by omega) r.1.toNat m _ _ (b + 2) (by rw [hm]; exact shp_zeros _ _) (by omega) hr.2.2 (by omega)) fun w hw => ?_
  exact ⟨hw.1, hw.2.1, Int.le_trans hw.2.2 (by omega)⟩

theorem spec_l1Cur_one_x {c : List Int} (hc : Bts c) (a s b n : Int) (ha : At a b) (hb : b ≤ 1073741824) : Ex (fun _ => spec_l1Cur_one.f c a s n) (fun r => At r.2.1 (b + 2)) := by
  unfold spec_l1Cur_one.f
  refine Ex.bind (spec_l1Cur_pick_x hc a s b n ha hb) fun r hr => ?_
  exact Ex.now hr.2.2

theorem spec_l1Cur_places_x {c : List Int} (hc : Bts c) (a s b : Int) (ha : At a b) (hb : b ≤ 1048576) : Ex (fun _ => spec_l1Cur_places.f c a s) (fun r => 1 ≤ r.1 ∧ r.1 ≤ 9 ∧ At r.2.1 (b + 4)) := by
  simp only [spec_l1Cur_places.f]
  refine Ex.bind (spec_l1Cur_one_x hc a s b 10 ha (by omega)) fun r hr => ?_
  by_cases c1 : r.1 = true
  · simp only [c1, if_true]
    refine Ex.bind (spec_l1Cur_pick_x hc _ _ (b + 2) 2 hr (by omega)) fun q hq => ?_
    have q0 := hq.1
    have q1 := hq.2.1 (by omega)
    have e : wrap64 (8 + q.1) = 8 + q.1 := w64 (by omega) (by omega)
    refine Ex.now ⟨?_, ?_, hq.2.2.1, Int.le_trans hq.2.2.2 (by omega)⟩ <;> simp only [e] <;> omega
  · simp only [c1, if_false]
    refine Ex.bind (spec_l1Cur_pick_x hc _ _ (b + 2) 5 hr (by omega)) fun q hq => ?_
    have q0 := hq.1
    have q1 := hq.2.1 (by omega)
    have e : wrap64 (1 + q.1) = 1 + q.1 := w64 (by omega) (by omega)
    refine Ex.now ⟨?_, ?_, hq.2.2.1, Int.le_trans hq.2.2.2 (by omega)⟩ <;> simp only [e] <;> omega

theorem spec_DrawUncross_x {c : List Int} (hc : Bts c) : Ex (fun k => spec_DrawUncross.f k c) (fun r => Siz r) := by
  simp only [spec_DrawUncross.f]
  refine Ex.bind (spec_l1Cur_places_x hc 0 0 0 ⟨by omega, by omega⟩ (by omega)) fun r hr => ?_
  refine Ex.bind (spec_l1Cur_planOf_x hc _ _ (0 + 4) r.1 hr.1 hr.2.1 hr.2.2 (by omega)) fun q hq => ?_
  exact Ex.now hq.1

/-- The rounds over the columns of a later row. -/
theorem impl_crossing_l3 (m : List (List Int)) (h : Plan m) (x5 x7 : Nat) (h7 : x7 ≤ 8) (x12 x13 : Int) (x18 : List Int) (x19 x20 : Int) (r : Nat) (hr : r < m.length) (res : Int × Int × Int × Int × Bool)
    (hk : findRow r 0 (m[r].take x7) = none → Ev (fun k => impl_crossing.l2 k m (x5 : Int) (x7 : Int) (wrap64 ((r : Int) + 1)) m x12 x13 x18 x19 x20) res)
    (hs : ∀ q, findRow r 0 (m[r].take x7) = some q → res = ((x5 : Int), (x7 : Int), (q.1 : Int), (q.2 : Int), true)) (h7r : x7 ≤ m[r].length) :
    ∀ c, c ≤ x7 → findRow r 0 (m[r].take x7) = findRow r c ((m[r].take x7).drop c) → Ev (fun k => impl_crossing.l3 k m (x5 : Int) (x7 : Int) (r : Int) m x12 x13 x18 x19 x20 (x7 : Int) (c : Int)) res := by
  have hrow : rd_L2 m (r : Int) = m[r] := by simp [rd_L2, List.getD_eq_getElem?_getD, hr]
  refine down ?_ ?_
  · intro e
    refine Ev.succ ?_
    simp only [impl_crossing.l3, nlt (Nat.le_refl x7), if_false]
    exact hk (by rw [e, List.drop_of_length_le (by rw [List.length_take]; omega)]; rfl)
  · intro c hc ih e
    have hc2 : c < (m[r].take x7).length := by rw [List.length_take]; omega
    have hc3 : c < m[r].length := by omega
    have hg : (m[r].take x7)[c] = m[r][c] := by simp
    rw [drop_cons hc2, hg, findRow] at e
    refine Ev.succ ?_
    simp only [impl_crossing.l3, ilt hc, ilt hr, ilt hc3, inn, if_true, hrow, rd_lt hc3, wnext hc (by omega : x7 ≤ 4611686018427387904)]
    by_cases g : m[r][c] > 0
    · simp only [g, if_true] at e ⊢
      rw [hs _ e]
      exact Ev.now _
    · simp only [g, if_false] at e ⊢
      exact ih e
theorem impl_crossing_l2 (m : List (List Int)) (h : Plan m) (x5 x7 : Nat) (h7 : x7 < m.length) (x12 x13 : Int) (x18 : List Int) (x19 x20 : Int) (res : Int × Int × Int × Int × Bool) :
    ∀ r, r ≤ m.length → (findRows x7 r (m.drop r) = none → Ev (fun k => impl_crossing.l1 k m (x5 : Int) m x12 x13 x18 x19 (wrap64 (x20 + 1))) res) →
      (∀ q, findRows x7 r (m.drop r) = some q → res = ((x5 : Int), (x7 : Int), (q.1 : Int), (q.2 : Int), true)) →
      Ev (fun k => impl_crossing.l2 k m (x5 : Int) (x7 : Int) (r : Int) m x12 x13 x18 x19 x20) res := by
  have hm := h.2.1
  refine down ?_ ?_
  · intro hk hs
    refine Ev.succ ?_
    simp only [impl_crossing.l2, nlt (Nat.le_refl m.length), if_false]
    exact hk (by rw [List.drop_length]; rfl)
  · intro r hr ih hk hs
    have hl := (h.2.2 _ (List.getElem_mem hr)).1
    refine Ev.succ ?_
    simp only [impl_crossing.l2, ilt hr, if_true]
    rw [drop_cons hr, findRows] at hk hs
    refine impl_crossing_l3 m h x5 x7 (by omega) x12 x13 x18 x19 x20 r hr res ?_ ?_ (by omega) 0 (Nat.zero_le _) (by rw [List.drop_zero])
    · intro e
      rw [wnext hr (by omega : m.length ≤ 4611686018427387904)]
      exact ih (fun e2 => hk (by rw [e, e2])) (fun q e2 => hs q (by rw [e, e2]))
    · intro q e
      exact hs q (by rw [e])
def crossRes (o : Option ((Nat × Nat) × (Nat × Nat))) : Int × Int × Int × Int × Bool := match o with
  | some (x, y) => ((x.1 : Int), (x.2 : Int), (y.1 : Int), (y.2 : Int), true)
  | none => (0, 0, 0, 0, false)
theorem impl_crossing_l1 (m : List (List Int)) (h : Plan m) (i : Nat) (hi : i < m.length) (res : Int × Int × Int × Int × Bool)
    (hk : crossCols m i 0 m[i] = none → Ev (fun k => impl_crossing.l0 k m m (m.length : Int) (wrap64 ((i : Int) + 1))) res)
    (hs : ∀ q, crossCols m i 0 m[i] = some q → res = crossRes (some q)) :
    ∀ j, j ≤ m[i].length → crossCols m i 0 m[i] = crossCols m i j (m[i].drop j) → Ev (fun k => impl_crossing.l1 k m (i : Int) m (m.length : Int) (i : Int) m[i] (m[i].length : Int) (j : Int)) res := by
  have hm := h.2.1
  have hl := (h.2.2 _ (List.getElem_mem hi)).1
  refine down ?_ ?_
  · intro e
    refine Ev.succ ?_
    simp only [impl_crossing.l1, nlt (Nat.le_refl m[i].length), if_false]
    exact hk (by rw [e, List.drop_length]; rfl)
  · intro j hj ih e
    have hx := (h.2.2 _ (List.getElem_mem hi)).2 _ (List.getElem_mem hj)
    rw [drop_cons hj, crossCols] at e
    refine Ev.succ ?_
    simp only [impl_crossing.l1, ilt hj, inn, if_true, rd_lt hj, wnext hj (by omega : m[i].length ≤ 4611686018427387904), wnext hi (by omega : m.length ≤ 4611686018427387904)]
    by_cases g : m[i][j] = 0
    · simp only [g, if_true] at e ⊢
      exact ih (by simpa [g] using e)
    · have g2 : m[i][j] > 0 := by omega
      simp only [g, if_false, g2, if_true] at e ⊢
      refine impl_crossing_l2 m h i j (by omega) _ _ _ _ _ res (i + 1) (by omega) ?_ ?_
      · intro e2
        rw [wnext hj (by omega : m[i].length ≤ 4611686018427387904)]
        refine ih ?_
        rw [e2] at e
        exact e
      · intro q e2
        rw [e2] at e
        exact hs _ e
theorem impl_crossing_l0 (m : List (List Int)) (h : Plan m) : ∀ i, i ≤ m.length → Ev (fun k => impl_crossing.l0 k m m (m.length : Int) (i : Int)) (crossRes (crossRows m i (m.drop i))) := by
  have hm := h.2.1
  refine down ?_ ?_
  · refine Ev.succ ?_
    simp only [impl_crossing.l0, nlt (Nat.le_refl m.length), if_false, List.drop_length, crossRows, crossRes]
    exact Ev.now _
  · intro i hi ih
    have hrow : rd_L2 m (i : Int) = m[i] := by simp [rd_L2, List.getD_eq_getElem?_getD, hi]
    refine Ev.succ ?_
    simp only [impl_crossing.l0, ilt hi, inn, if_true, hrow]
    rw [drop_cons hi, crossRows]
    refine impl_crossing_l1 m h i hi _ ?_ ?_ 0 (Nat.zero_le _) (by rw [List.drop_zero])
    · intro e
      rw [wnext hi (by omega : m.length ≤ 4611686018427387904), e]
      exact ih
    · intro q e
      rw [e]
theorem impl_crossing_ev (m : List (List Int)) (h : Plan m) : Ev (fun k => impl_crossing.f k m) (crossRes (crossGo (cellsGo 0 m) (cellsGo 0 m))) := by
  have := impl_crossing_l0 m h 0 (Nat.zero_le _)
  rw [List.drop_zero, crossRows_eq m 0 m (by rw [List.drop_zero])] at this
  simpa only [impl_crossing.f, Int.natCast_zero] using this

theorem impl_Uncross_1_e (a b c : Int) : impl_Uncross_1.f a b c = some c := rfl
theorem impl_mapped_l1 (m : List (List Int)) (h : Siz m) (o : Nat) (ho : o < m.length) (R : List (List Int)) (hk : Ev (fun k => impl_mapped.l0 k (m.take (o + 1)) m (m.length : Int) ((o + 1 : Nat) : Int)) R) :
    ∀ j, j ≤ m[o].length → Ev (fun k => impl_mapped.l1 k (m.take o) (o : Int) (m[o].take j) m (m.length : Int) (o : Int) m[o] (m[o].length : Int) (j : Int)) R := by
  have hm := h.1
  have hr := h.2 _ (List.getElem_mem ho)
  refine down ?_ ?_
  · have lim : (m.take o).length < 5864062014805 := by rw [List.length_take]; omega
    refine Ev.succ ?_
    simp only [impl_mapped.l1, nlt (Nat.le_refl m[o].length), if_false, lim, if_true, List.take_length, wnext ho (by omega : m.length ≤ 4611686018427387904)]
    rw [← List.take_succ_eq_append_getElem ho]
    exact hk
  · intro j hj ih
    have lim : (m[o].take j).length < 17592186044416 := by rw [List.length_take]; omega
    refine Ev.succ ?_
    simp only [impl_mapped.l1, ilt hj, inn, if_true, impl_Uncross_1_e, Option.bind_some, lim, rd_lt hj, wnext hj (by omega : m[o].length ≤ 4611686018427387904)]
    rw [← List.take_succ_eq_append_getElem hj]
    exact ih
theorem impl_mapped_l0 (m : List (List Int)) (h : Siz m) : ∀ i, i ≤ m.length → Ev (fun k => impl_mapped.l0 k (m.take i) m (m.length : Int) (i : Int)) m := by
  refine down ?_ ?_
  · refine Ev.succ ?_
    simp only [impl_mapped.l0, nlt (Nat.le_refl m.length), if_false, List.take_length]
    exact Ev.now _
  · intro i hi ih
    have hrow : rd_L2 m (i : Int) = m[i] := by simp [rd_L2, List.getD_eq_getElem?_getD, hi]
    refine Ev.succ ?_
    simp only [impl_mapped.l0, ilt hi, inn, if_true, hrow]
    exact impl_mapped_l1 m h i hi _ ih 0 (Nat.zero_le _)
theorem impl_mapped_ev (m : List (List Int)) (h : Siz m) (z : Int) : Ev (fun k => impl_mapped.f k m z) m := by
  have := impl_mapped_l0 m h 0 (Nat.zero_le _)
  simpa only [impl_mapped.f, List.take_zero, Int.natCast_zero] using this

theorem impl_Uncross_inn {m : List (List Int)} {n : Nat} (h : Shp m n n) {i j : Nat} (hi : i < n) (hj : j < n) : impl_Uncross.inn m (i : Int) (j : Int) := by
  have e : rd_L2 m (i : Int) = m.getD i [] := by simp [rd_L2]
  unfold impl_Uncross.inn
  rw [e, h.1, h.row hi]
  omega
theorem impl_Uncross_o1 (m : List (List Int)) (i j : Nat) (u : Int) : impl_Uncross.o1 m (i : Int) (j : Int) u = unc1 m i j u := by
  have e : rd_L2 m (i : Int) = m.getD i [] := by simp [rd_L2]
  unfold impl_Uncross.o1 impl_Uncross.pt unc1 ptN cell
  rw [e, rd_get]; rfl
theorem impl_Uncross_o2 (m : List (List Int)) (i j : Nat) (u : Int) : impl_Uncross.o2 m (i : Int) (j : Int) u = unc2 m i j u := by
  have e : rd_L2 m (i : Int) = m.getD i [] := by simp [rd_L2]
  unfold impl_Uncross.o2 impl_Uncross.pt unc2 ptN cell
  rw [e, rd_get]; rfl

theorem impl_Uncross_ev (m : List (List Int)) (h : Siz m) : Ev (fun k => impl_Uncross.f k m) (uncV m) := by
  simp only [impl_Uncross.f]
  refine Ev.bind (impl_isPlan_ev m h) ?_
  unfold uncV
  cases c : planB m with
  | false => simp only [Bool.false_eq_true, if_false]; exact Ev.now _
  | true =>
    have hm := planB_iff.1 c
    have h8 := hm.2.1
    have hs := hm.shp
    simp only [if_true]
    refine Ev.bind (impl_crossing_ev m hm) ?_
    cases e : crossGo (cellsGo 0 m) (cellsGo 0 m) with
    | none => simp only [crossRes, Bool.false_eq_true, if_false]; exact Ev.now _
    | some q =>
      obtain ⟨x, y⟩ := q
      obtain ⟨i1, i2, i3, i4⟩ := cross_in hm e
      have er : ∀ i : Nat, rd_L2 m (i : Int) = m.getD i [] := fun i => by simp [rd_L2]
      simp only [crossRes, if_true, if_pos (impl_Uncross_inn hs i1 i2), if_pos (impl_Uncross_inn hs i3 i4), mn_eq]
      refine Ev.bind (impl_mapped_ev m h 0) ?_
      simp only [impl_Uncross.e, er, rd_get]
      have s1 : Shp (unc1 m x.1 x.2 (min (cell m x.1 x.2) (cell m y.1 y.2))) m.length m.length := ptN_shp hs i1 _ _
      have s2 : Shp (unc1 (unc1 m x.1 x.2 (min (cell m x.1 x.2) (cell m y.1 y.2))) y.1 y.2 (min (cell m x.1 x.2) (cell m y.1 y.2))) m.length m.length := ptN_shp s1 i3 _ _
      have s3 : Shp (unc2 (unc1 (unc1 m x.1 x.2 (min (cell m x.1 x.2) (cell m y.1 y.2))) y.1 y.2 (min (cell m x.1 x.2) (cell m y.1 y.2))) x.1 y.2 (min (cell m x.1 x.2) (cell m y.1 y.2))) m.length m.length := ptN_shp s2 i1 _ _
      have eu : min ((m.getD x.1 []).getD x.2 0) ((m.getD y.1 []).getD y.2 0) = min (cell m x.1 x.2) (cell m y.1 y.2) := rfl
      simp only [eu, impl_Uncross_o1, impl_Uncross_o2, if_pos (impl_Uncross_inn hs i1 i2), if_pos (impl_Uncross_inn s1 i3 i4), if_pos (impl_Uncross_inn s2 i1 i4), if_pos (impl_Uncross_inn s3 i3 i2)]
      have sz := (uncN_shp hs (x := x) (y := y) i1 i3).siz (by omega) (by omega)
      refine Ev.bind (impl_isPlan_ev _ sz) ?_
      show Ev _ (if planB (uncN m x y) = true then _ else _)
      unfold uncN
      split
      · rename_i g
        (try simp only [g, if_true])
        refine Ev.bind (impl_cost_ev m h) ?_
        refine Ev.bind (impl_cost_ev _ sz) ?_
        exact Ev.now _
      · rename_i g
        (try simp only [g, Bool.false_eq_true, if_false])
        exact Ev.now _

theorem spec_l1In_e (a b c : Int) : spec_l1In.f a b c = some (wth a b c) := wth_opt a b c

theorem spec_l1All_l (l : List Int) (lo hi : Int) (hl : l.length ≤ 4611686018427387904) : ∀ i, i ≤ l.length → Ev (fun k => spec_l1All.l0 k lo hi l (l.length : Int) (i : Int)) (allW (l.drop i) lo hi) := by
  refine down ?_ ?_
  · refine Ev.succ ?_
    simp only [spec_l1All.l0, nlt (Nat.le_refl l.length), if_false, List.drop_length]
    exact Ev.now _
  · intro i hi ih
    refine Ev.succ ?_
    simp only [spec_l1All.l0, ilt hi, inn, if_true, spec_l1In_e, Option.bind_some, rd_lt hi, wnext hi hl]
    rw [drop_cons hi]
    exact Ev.andS fun _ => ih
theorem spec_l1All_ev (l : List Int) (lo hi : Int) (hl : l.length ≤ 4611686018427387904) : Ev (fun k => spec_l1All.f k l lo hi) (allW l lo hi) := by
  have := spec_l1All_l l lo hi hl 0 (Nat.zero_le _)
  simpa only [spec_l1All.f, List.drop_zero, Int.natCast_zero] using this

theorem spec_plGood_l (m : List (List Int)) (h : Siz m) : ∀ i, i ≤ m.length → Ev (fun k => spec_plGood.l0 k m m (m.length : Int) (i : Int)) ((m.drop i).all (rowOk m.length)) := by
  have hm := h.1
  refine down ?_ ?_
  · refine Ev.succ ?_
    simp only [spec_plGood.l0, nlt (Nat.le_refl m.length), if_false, List.drop_length, List.all_nil]
    exact Ev.now _
  · intro i hi ih
    have hrow : rd_L2 m (i : Int) = m[i] := by simp [rd_L2, List.getD_eq_getElem?_getD, hi]
    refine Ev.succ ?_
    simp only [spec_plGood.l0, ilt hi, inn, if_true, hrow, wnext hi (by omega : m.length ≤ 4611686018427387904)]
    rw [drop_cons hi, List.all_cons]
    by_cases c : m[i].length = m.length
    · have c2 : (m[i].length : Int) = (m.length : Int) := by omega
      simp only [c2, if_true, rowOk, c, decide_true, Bool.true_and]
      exact Ev.and (spec_l1All_ev m[i] 0 60 (by have := h.2 _ (List.getElem_mem hi); omega)) fun _ => ih
    · have c2 : ¬ (m[i].length : Int) = (m.length : Int) := by omega
      simp only [c2, if_false, rowOk, c, decide_false, Bool.false_and]
      exact Ev.now _
theorem spec_plGood_ev (m : List (List Int)) (h : Siz m) : Ev (fun k => spec_plGood.f k m) (planB m) := by
  simp only [spec_plGood.f, spec_l1In_e, Option.bind_some, planB]
  exact Ev.andS fun _ => spec_plGood_l m h 0 (Nat.zero_le _)

theorem spec_plCells_l1 (m : List (List Int)) (hm : m.length ≤ 8) (o : Nat) (ho : o < 8) (R : List S45) (l : List Int) (hl : l.length ≤ 8)
    (hk : ∀ out, out.length ≤ 8 * (o + 1) → Ev (fun k => spec_plCells.l0 k out m (m.length : Int) (wrap64 ((o : Int) + 1))) (out ++ R)) :
    ∀ i, i ≤ l.length → ∀ out, out.length ≤ 8 * o + i → Ev (fun k => spec_plCells.l1 k out (o : Int) m (m.length : Int) (o : Int) l (l.length : Int) (i : Int)) (out ++ ((cellsRow o i (l.drop i)).map fun p => (⟨(p.1 : Int), (p.2 : Int)⟩ : S45)) ++ R) := by
  refine down ?_ ?_
  · intro out hout
    refine Ev.succ ?_
    simp only [spec_plCells.l1, nlt (Nat.le_refl l.length), if_false, List.drop_length, cellsRow, List.map_nil, List.append_nil]
    exact hk out (by omega)
  · intro i hi ih out hout
    have lim : out.length < 8796093022208 := by omega
    refine Ev.succ ?_
    simp only [spec_plCells.l1, ilt hi, inn, if_true, rd_lt hi, wnext hi (by omega : l.length ≤ 4611686018427387904), lim]
    rw [drop_cons hi, cellsRow]
    by_cases c : l[i] > 0
    · simp only [c, if_true]
      exact (ih _ (by rw [List.length_append]; simp only [List.length_cons, List.length_nil]; omega)).eqv (by simp)
    · simp only [c, if_false]
      exact ih _ (by omega)
theorem spec_plCells_l0 (m : List (List Int)) (h : Plan m) : ∀ i, i ≤ m.length → ∀ out, out.length ≤ 8 * i → Ev (fun k => spec_plCells.l0 k out m (m.length : Int) (i : Int)) (out ++ ((cellsGo i (m.drop i)).map fun p => (⟨(p.1 : Int), (p.2 : Int)⟩ : S45))) := by
  have hm := h.2.1
  refine down ?_ ?_
  · intro out hout
    refine Ev.succ ?_
    simp only [spec_plCells.l0, nlt (Nat.le_refl m.length), if_false, List.drop_length, cellsGo, List.map_nil, List.append_nil]
    exact Ev.now _
  · intro i hi ih out hout
    have hrow : rd_L2 m (i : Int) = m[i] := by simp [rd_L2, List.getD_eq_getElem?_getD, hi]
    have hl := (h.2.2 _ (List.getElem_mem hi)).1
    refine Ev.succ ?_
    simp only [spec_plCells.l0, ilt hi, inn, if_true, hrow]
    refine (spec_plCells_l1 m hm i (by omega) ((cellsGo (i + 1) (m.drop (i + 1))).map fun p => (⟨(p.1 : Int), (p.2 : Int)⟩ : S45)) m[i] (by omega) (fun out hout => ?_) 0 (Nat.zero_le _) out (by omega)).eqv ?_
    · rw [wnext hi (by omega)]
      exact ih out hout
    · rw [List.drop_zero, drop_cons hi, cellsGo, List.map_append, List.append_assoc]
theorem spec_plCells_ev (m : List (List Int)) (h : Plan m) : Ev (fun k => spec_plCells.f k m) ((cellsGo 0 m).map fun p => (⟨(p.1 : Int), (p.2 : Int)⟩ : S45)) := by
  have := spec_plCells_l0 m h 0 (Nat.zero_le _) [] (by simp)
  simpa only [spec_plCells.f, List.drop_zero, List.nil_append, Int.natCast_zero] using this

theorem spec_plCrossing_l1 (L : List (Nat × Nat)) (hL : L.length ≤ 1048576) (p : Nat × Nat) (o : Int) (r : List S45 × Bool)
    (hk : (L.find? fun y => decide (p.1 < y.1) && decide (p.2 > y.2)) = none → Ev (fun k => spec_plCrossing.l0 k (L.map fun p => (⟨(p.1 : Int), (p.2 : Int)⟩ : S45)) (L.map fun p => (⟨(p.1 : Int), (p.2 : Int)⟩ : S45)) (L.length : Int) (wrap64 (o + 1))) r)
    (hs : ∀ y, (L.find? fun y => decide (p.1 < y.1) && decide (p.2 > y.2)) = some y → r = ([⟨(p.1 : Int), (p.2 : Int)⟩, ⟨(y.1 : Int), (y.2 : Int)⟩], true)) :
    ∀ i, i ≤ L.length → (L.find? fun y => decide (p.1 < y.1) && decide (p.2 > y.2)) = ((L.drop i).find? fun y => decide (p.1 < y.1) && decide (p.2 > y.2)) →
    Ev (fun k => spec_plCrossing.l1 k (L.map fun p => (⟨(p.1 : Int), (p.2 : Int)⟩ : S45)) (L.map fun p => (⟨(p.1 : Int), (p.2 : Int)⟩ : S45)) (L.length : Int) o (L.map fun p => (⟨(p.1 : Int), (p.2 : Int)⟩ : S45)) (L.length : Int) (i : Int) (p.1 : Int) (p.2 : Int)) r := by
  refine down ?_ ?_
  · intro e
    refine Ev.succ ?_
    simp only [spec_plCrossing.l1, nlt (Nat.le_refl L.length), if_false]
    exact hk (by rw [e, List.drop_length]; rfl)
  · intro i hi ih e
    have hrow : rd_T45 (L.map fun p => (⟨(p.1 : Int), (p.2 : Int)⟩ : S45)) (i : Int) = ⟨(L[i].1 : Int), (L[i].2 : Int)⟩ := by simp [rd_T45, List.getD_eq_getElem?_getD, hi]
    rw [drop_cons hi, List.find?_cons] at e
    refine Ev.succ ?_
    simp only [spec_plCrossing.l1, List.length_map, ilt hi, inn, if_true, hrow, wnext hi (by omega : L.length ≤ 4611686018427387904)]
    by_cases c1 : p.1 < L[i].1
    · have d1 : (p.1 : Int) < (L[i].1 : Int) := by omega
      by_cases c2 : p.2 > L[i].2
      · have d2 : (p.2 : Int) > (L[i].2 : Int) := by omega
        simp only [d1, d2, if_true]
        rw [hs L[i] (by rw [e]; simp [c1, c2])]
        exact Ev.now _
      · have d2 : ¬ (p.2 : Int) > (L[i].2 : Int) := by omega
        simp only [d1, d2, if_true, if_false]
        exact ih (by rw [e]; simp [c2])
    · have d1 : ¬ (p.1 : Int) < (L[i].1 : Int) := by omega
      simp only [d1, if_false]
      exact ih (by rw [e]; simp [c1])
theorem spec_plCrossing_l0 (L : List (Nat × Nat)) (hL : L.length ≤ 1048576) : ∀ i, i ≤ L.length →
    Ev (fun k => spec_plCrossing.l0 k (L.map fun p => (⟨(p.1 : Int), (p.2 : Int)⟩ : S45)) (L.map fun p => (⟨(p.1 : Int), (p.2 : Int)⟩ : S45)) (L.length : Int) (i : Int))
      (match crossGo L (L.drop i) with | some (x, y) => ([⟨(x.1 : Int), (x.2 : Int)⟩, ⟨(y.1 : Int), (y.2 : Int)⟩], true) | none => ([], false)) := by
  refine down ?_ ?_
  · refine Ev.succ ?_
    simp only [spec_plCrossing.l0, nlt (Nat.le_refl L.length), if_false, List.drop_length, crossGo]
    exact Ev.now _
  · intro i hi ih
    have hrow : rd_T45 (L.map fun p => (⟨(p.1 : Int), (p.2 : Int)⟩ : S45)) (i : Int) = ⟨(L[i].1 : Int), (L[i].2 : Int)⟩ := by simp [rd_T45, List.getD_eq_getElem?_getD, hi]
    refine Ev.succ ?_
    simp only [spec_plCrossing.l0, List.length_map, ilt hi, inn, if_true, hrow]
    refine spec_plCrossing_l1 L hL L[i] (i : Int) _ ?_ ?_ 0 (Nat.zero_le _) (by rw [List.drop_zero])
    · intro e
      rw [wnext hi (by omega : L.length ≤ 4611686018427387904), drop_cons hi, crossGo, e]
      exact ih
    · intro y e
      rw [drop_cons hi, crossGo, e]
theorem spec_plCrossing_ev (m : List (List Int)) (h : Plan m) : Ev (fun k => spec_plCrossing.f k m) (match crossGo (cellsGo 0 m) (cellsGo 0 m) with | some (x, y) => ([⟨(x.1 : Int), (x.2 : Int)⟩, ⟨(y.1 : Int), (y.2 : Int)⟩], true) | none => ([], false)) := by
  simp only [spec_plCrossing.f]
  refine Ev.bind (spec_plCells_ev m h) ?_
  have := spec_plCrossing_l0 (cellsGo 0 m) (by have := cellsGo_len h; omega) 0 (Nat.zero_le _)
  rw [List.drop_zero] at this
  simpa only [List.length_map, Int.natCast_zero] using this

theorem spec_l1Least_e (a b : Int) : spec_l1Least.f a b = some (min a b) := by
  unfold spec_l1Least.f
  by_cases h : a < b
  · rw [if_pos h, show min a b = a by omega]
  · rw [if_neg h, show min a b = b by omega]

theorem spec_l1Own_e (l : List Int) (hl : l.length < 17592186044416) : spec_l1Own.f l = some l := by
  simp only [spec_l1Own.f, Option.bind_some, List.nil_append, List.length_nil, Nat.zero_add, hl, if_true]

theorem spec_plOwn_l0 (m : List (List Int)) (h : Siz m) : ∀ i, i ≤ m.length → Ev (fun k => spec_plOwn.l0 k (m.take i) m (m.length : Int) (i : Int)) m := by
  have hm := h.1
  refine down ?_ ?_
  · refine Ev.succ ?_
    simp only [spec_plOwn.l0, nlt (Nat.le_refl m.length), if_false, List.take_length]
    exact Ev.now _
  · intro i hi ih
    have hrow : rd_L2 m (i : Int) = m[i] := by simp [rd_L2, List.getD_eq_getElem?_getD, hi]
    have hr := h.2 _ (List.getElem_mem hi)
    have lim : (m.take i).length < 5864062014805 := by rw [List.length_take]; omega
    refine Ev.succ ?_
    simp only [spec_plOwn.l0, ilt hi, inn, if_true, hrow, spec_l1Own_e m[i] (by omega), Option.bind_some, lim, wnext hi (by omega : m.length ≤ 4611686018427387904)]
    rw [← List.take_succ_eq_append_getElem hi]
    exact ih
theorem spec_plOwn_ev (m : List (List Int)) (h : Siz m) : Ev (fun k => spec_plOwn.f k m) m := by
  have := spec_plOwn_l0 m h 0 (Nat.zero_le _)
  simpa only [spec_plOwn.f, List.take_zero, Int.natCast_zero] using this

theorem spec_l1Most_e (a b : Int) : spec_l1Most.f a b = some (max a b) := by
  unfold spec_l1Most.f
  by_cases h : a > b
  · rw [if_pos h]; congr 1; omega
  · rw [if_neg h]; congr 1; omega

theorem spec_plCost_l1 (m : List (List Int)) (hm : m.length ≤ 1048576) (o : Nat) (ho : o ≤ 1048576) (R : Int) (l : List Int) (hl : l.length ≤ 1048576)
    (hk : ∀ acc, InR acc → Ev (fun k => spec_plCost.l0 k acc m (m.length : Int) (wrap64 ((o : Int) + 1))) (wrap64 (acc + R))) :
    ∀ i, i ≤ l.length → ∀ acc, InR acc → Ev (fun k => spec_plCost.l1 k acc (o : Int) m (m.length : Int) (o : Int) l (l.length : Int) (i : Int)) (wrap64 (acc + rowCost o i (l.drop i) + R)) := by
  refine down ?_ ?_
  · intro acc ha
    refine Ev.succ ?_
    simp only [spec_plCost.l1, nlt (Nat.le_refl l.length), if_false, List.drop_length, rowCost, Int.add_zero]
    exact hk acc ha
  · intro i hi ih acc ha
    refine Ev.succ ?_
    simp only [spec_plCost.l1, ilt hi, inn, if_true, rd_lt hi, wnext hi (by omega : l.length ≤ 4611686018427387904), spec_l1Most_e, Option.bind_some, w64 (x := (o : Int) - (i : Int)) (by omega) (by omega), w64 (x := (i : Int) - (o : Int)) (by omega) (by omega)]
    rw [drop_cons hi, rowCost, ← Int.add_assoc]
    refine (ih _ (inR_wrap _)).eqv ?_
    rw [Int.add_assoc, wr_add, ← Int.add_assoc, Int.add_right_comm acc (wrap64 _), Int.add_right_comm _ (wrap64 _), wr_add', Int.add_right_comm _ R, Int.add_right_comm acc]
theorem spec_plCost_l0 (m : List (List Int)) (h : Siz m) : ∀ i, i ≤ m.length → ∀ acc, InR acc → Ev (fun k => spec_plCost.l0 k acc m (m.length : Int) (i : Int)) (wrap64 (acc + costGo i (m.drop i))) := by
  have hm := h.1
  refine down ?_ ?_
  · intro acc ha
    refine Ev.succ ?_
    simp only [spec_plCost.l0, nlt (Nat.le_refl m.length), if_false, List.drop_length, costGo, Int.add_zero, wR ha]
    exact Ev.now _
  · intro i hi ih acc ha
    have hrow : rd_L2 m (i : Int) = m[i] := by simp [rd_L2, List.getD_eq_getElem?_getD, hi]
    refine Ev.succ ?_
    simp only [spec_plCost.l0, ilt hi, inn, if_true, hrow]
    refine (spec_plCost_l1 m hm i (by omega) (costGo (i + 1) (m.drop (i + 1))) m[i] (h.2 _ (List.getElem_mem hi)) (fun acc ha => ?_) 0 (Nat.zero_le _) acc ha).eqv ?_
    · rw [wnext hi (by omega)]
      exact ih acc ha
    · rw [List.drop_zero, drop_cons hi, costGo, Int.add_assoc]
theorem spec_plCost_ev (m : List (List Int)) (h : Siz m) : Ev (fun k => spec_plCost.f k m) (wrap64 (costGo 0 m)) := by
  have := spec_plCost_l0 m h 0 (Nat.zero_le _) 0 inR_0
  simpa only [spec_plCost.f, List.drop_zero, Int.zero_add, Int.natCast_zero] using this

theorem spec_Uncross_inn {m : List (List Int)} {n : Nat} (h : Shp m n n) {i j : Nat} (hi : i < n) (hj : j < n) : spec_Uncross.inn m (i : Int) (j : Int) := by
  have e : rd_L2 m (i : Int) = m.getD i [] := by simp [rd_L2]
  unfold spec_Uncross.inn
  rw [e, h.1, h.row hi]
  omega
theorem spec_Uncross_o1 (m : List (List Int)) (i j : Nat) (u : Int) : spec_Uncross.o1 m (i : Int) (j : Int) u = unc1 m i j u := by
  have e : rd_L2 m (i : Int) = m.getD i [] := by simp [rd_L2]
  unfold spec_Uncross.o1 spec_Uncross.pt unc1 ptN cell
  rw [e, rd_get]; rfl
theorem spec_Uncross_o2 (m : List (List Int)) (i j : Nat) (u : Int) : spec_Uncross.o2 m (i : Int) (j : Int) u = unc2 m i j u := by
  have e : rd_L2 m (i : Int) = m.getD i [] := by simp [rd_L2]
  unfold spec_Uncross.o2 spec_Uncross.pt unc2 ptN cell
  rw [e, rd_get]; rfl

theorem spec_Uncross_ev (m : List (List Int)) (h : Siz m) : Ev (fun k => spec_Uncross.f k m) (uncV m) := by
  simp only [spec_Uncross.f]
  refine Ev.bind (spec_plGood_ev m h) ?_
  unfold uncV
  cases c : planB m with
  | false => simp only [Bool.false_eq_true, if_false]; exact Ev.now _
  | true =>
    have hm := planB_iff.1 c
    have h8 := hm.2.1
    have hs := hm.shp
    simp only [if_true]
    refine Ev.bind (spec_plCrossing_ev m hm) ?_
    cases e : crossGo (cellsGo 0 m) (cellsGo 0 m) with
    | none => simp only [Bool.false_eq_true, if_false]; exact Ev.now _
    | some q =>
      obtain ⟨x, y⟩ := q
      obtain ⟨i1, i2, i3, i4⟩ := cross_in hm e
      have er : ∀ i : Nat, rd_L2 m (i : Int) = m.getD i [] := fun i => by simp [rd_L2]
      have r0 : rd_T45 [(⟨(x.1 : Int), (x.2 : Int)⟩ : S45), ⟨(y.1 : Int), (y.2 : Int)⟩] 0 = ⟨(x.1 : Int), (x.2 : Int)⟩ := rfl
      have r1 : rd_T45 [(⟨(x.1 : Int), (x.2 : Int)⟩ : S45), ⟨(y.1 : Int), (y.2 : Int)⟩] 1 = ⟨(y.1 : Int), (y.2 : Int)⟩ := rfl
      simp only [if_true, List.length_cons, List.length_nil, Nat.zero_add, Nat.reduceAdd, r0, r1]
      simp only [spec_Uncross.e, if_pos (spec_Uncross_inn hs i1 i2), if_pos (spec_Uncross_inn hs i3 i4), spec_l1Least_e, Option.bind_some]
      refine Ev.bind (spec_plOwn_ev m h) ?_
      simp only [er, rd_get]
      have s1 : Shp (unc1 m x.1 x.2 (min (cell m x.1 x.2) (cell m y.1 y.2))) m.length m.length := ptN_shp hs i1 _ _
      have s2 : Shp (unc1 (unc1 m x.1 x.2 (min (cell m x.1 x.2) (cell m y.1 y.2))) y.1 y.2 (min (cell m x.1 x.2) (cell m y.1 y.2))) m.length m.length := ptN_shp s1 i3 _ _
      have s3 : Shp (unc2 (unc1 (unc1 m x.1 x.2 (min (cell m x.1 x.2) (cell m y.1 y.2))) y.1 y.2 (min (cell m x.1 x.2) (cell m y.1 y.2))) x.1 y.2 (min (cell m x.1 x.2) (cell m y.1 y.2))) m.length m.length := ptN_shp s2 i1 _ _
      have eu : min ((m.getD x.1 []).getD x.2 0) ((m.getD y.1 []).getD y.2 0) = min (cell m x.1 x.2) (cell m y.1 y.2) := rfl
      simp only [eu, spec_Uncross_o1, spec_Uncross_o2, if_pos (spec_Uncross_inn hs i1 i2), if_pos (spec_Uncross_inn s1 i3 i4), if_pos (spec_Uncross_inn s2 i1 i4), if_pos (spec_Uncross_inn s3 i3 i2)]
      have sz := (uncN_shp hs (x := x) (y := y) i1 i3).siz (by omega) (by omega)
      refine Ev.bind (spec_plGood_ev _ sz) ?_
      show Ev _ (if planB (uncN m x y) = true then _ else _)
      unfold uncN
      split
      · rename_i g
        (try simp only [g, if_true])
        refine Ev.bind (spec_plCost_ev m h) ?_
        refine Ev.bind (spec_plCost_ev _ sz) ?_
        exact Ev.now _
      · rename_i g
        (try simp only [g, Bool.false_eq_true, if_false])
        exact Ev.now _

def crossAns (m : List (List Int)) : List S45 × Bool := if planB m then (match crossGo (cellsGo 0 m) (cellsGo 0 m) with | some (x, y) => ([⟨(x.1 : Int), (x.2 : Int)⟩, ⟨(y.1 : Int), (y.2 : Int)⟩], true) | none => ([], false)) else ([], false)
theorem crossAns_len (m : List (List Int)) : (crossAns m).1.length ≤ 2 := by
  unfold crossAns
  cases planB m with
  | false => simp
  | true => cases crossGo (cellsGo 0 m) (cellsGo 0 m) <;> simp

theorem impl_CrossingOf_ev (m : List (List Int)) (h : Siz m) : Ev (fun k => impl_CrossingOf.f k m) (crossAns m) := by
  simp only [impl_CrossingOf.f]
  refine Ev.bind (impl_isPlan_ev m h) ?_
  unfold crossAns
  cases c : planB m with
  | false => simp only [Bool.false_eq_true, if_false]; exact Ev.now _
  | true =>
    simp only [if_true]
    refine Ev.bind (impl_crossing_ev m (planB_iff.1 c)) ?_
    cases e : crossGo (cellsGo 0 m) (cellsGo 0 m) with
    | none => simp only [crossRes, Bool.false_eq_true, if_false]; exact Ev.now _
    | some q => obtain ⟨x, y⟩ := q; simp only [crossRes, if_true]; exact Ev.now _

theorem spec_CrossingOf_ev (m : List (List Int)) (h : Siz m) : Ev (fun k => spec_CrossingOf.f k m) (crossAns m) := by
  simp only [spec_CrossingOf.f]
  refine Ev.bind (spec_plGood_ev m h) ?_
  unfold crossAns
  cases c : planB m with
  | false => simp only [Bool.false_eq_true, if_false]; exact Ev.now _
  | true =>
    simp only [if_true]
    exact Ev.ret (f := fun t => (t.1, t.2)) (spec_plCrossing_ev m (planB_iff.1 c))

theorem siz_nil : Siz [] := ⟨by simp, fun r hr => by cases hr⟩
theorem FnUncrossing_l1 {A B : List Int} (hf : fits A B = true) : ∀ (d : Nat) (m : List (List Int)) (i : Nat), Plan m → rowsP m = A → colsP m = B → 26880 - mu m m.length < (d : Int) → (i : Int) ≤ mu m m.length → Ev (fun k => laws_FnUncrossing.l1 k (monoP A B) m (i : Int)) true
  | 0, m, i, h, hA, hB, hd, hi => by
    have b := mu_bound h (by rw [hA, hB]; exact hf)
    omega
  | d + 1, m, i, h, hA, hB, hd, hi => by
    have hf2 : fits (rowsP m) (colsP m) = true := by rw [hA, hB]; exact hf
    have b := mu_bound h hf2
    have hp := planB_iff.2 h
    have c : (i : Int) < 30000 := by omega
    have e1 : wrap64 ((i : Int) + 1) = ((i + 1 : Nat) : Int) := by rw [w64 (by omega) (by omega)]; omega
    refine Ev.succ ?_
    simp only [laws_FnUncrossing.l1, c, if_true]
    refine Ev.bind (impl_Uncross_ev m h.siz) ?_
    cases e : crossGo (cellsGo 0 m) (cellsGo 0 m) with
    | none =>
      have eu : uncV m = ([], 0, false) := by unfold uncV; rw [if_pos hp, e]
      rw [eu]
      simp only [Bool.false_eq_true, if_false]
      have em : monoP A B = m := by rw [← hA, ← hB]; exact uncrossed_mono h hf2 e
      rw [em]
      exact Ev.ret (f := fun t => t) (laws_pSameRows_self m h.siz)
    | some xy =>
      obtain ⟨x, y⟩ := xy
      have hc := crs_of h e
      have hq := unc_plan h hc hf2
      have eu : (uncV m).1 = uncN m x y ∧ (uncV m).2.2 = true := by unfold uncV; rw [if_pos hp, e]; simp [planB_iff.2 hq]
      rw [eu.1, eu.2, e1]
      simp only [if_true]
      have sg := unc_shp h hc
      have st := mu_step h hc
      refine FnUncrossing_l1 hf d (uncN m x y) (i + 1) hq (by rw [unc_rows h hc]; exact hA) (by rw [unc_cols h hc]; exact hB) ?_ ?_
      · rw [sg.1]; omega
      · rw [sg.1]; omega
theorem FnUncrossing_j3 {m : List (List Int)} (h : Plan m) : Ev (fun k => laws_FnUncrossing.j3 k m (rowsP m) (colsP m) false) true := by
  have h8 := h.2.1
  refine Ev.succ ?_
  simp only [laws_FnUncrossing.j3, Bool.false_eq_true, if_false]
  refine Ev.bind (impl_MonotonePlan_ev _ _ (by rw [rowsP_len]; omega) (by rw [colsP_len]; omega)) ?_
  cases hf : fits (rowsP m) (colsP m) with
  | false => simp only [Bool.false_eq_true, if_false]; exact Ev.now _
  | true =>
    have b := mu_bound h hf
    simp only [if_true]
    exact FnUncrossing_l1 hf 26881 m 0 h rfl rfl (by omega) (by omega)
theorem FnUncrossing_j2 (m : List (List Int)) : Ev (fun k => laws_FnUncrossing.j2 k m (uncV m).1 (uncV m).2.1 (uncV m).2.2) true := by
  refine Ev.succ ?_
  simp only [laws_FnUncrossing.j2]
  have off : uncV m = ([], 0, false) → Ev (fun k => if (uncV m).2.2 = true then ((impl_PlanCost.f k m).bind fun bt351 => none) else some true) true := fun e => by rw [e]; exact Ev.now _
  by_cases hok : (uncV m).2.2 = true
  · cases hp : planB m with
    | false => unfold uncV at hok; rw [hp] at hok; exact absurd hok (by simp)
    | true =>
      have h := planB_iff.1 hp
      cases e : crossGo (cellsGo 0 m) (cellsGo 0 m) with
      | none => unfold uncV at hok; rw [hp, e] at hok; exact absurd hok (by simp)
      | some xy =>
        obtain ⟨x, y⟩ := xy
        have hc := crs_of h e
        cases hq : planB (uncN m x y) with
        | false => unfold uncV at hok; rw [hp, e] at hok; simp only [if_true, hq] at hok; exact absurd hok (by simp)
        | true =>
          have hQ := planB_iff.1 hq
          have eu : uncV m = (uncN m x y, wrap64 (wrap64 (costGo 0 m) - wrap64 (costGo 0 (uncN m x y))), true) := by unfold uncV; rw [if_pos hp, e]; simp only [hq, if_true]
          have b1 := cost_bound h
          have b2 := cost_bound hQ
          have uc := unc_cost h hc
          have k1 : ¬ wrap64 (wrap64 (costGo 0 m) - wrap64 (costGo 0 (uncN m x y))) < 0 := by
            rw [w64 (x := costGo 0 m) (by omega) (by omega), w64 (x := costGo 0 (uncN m x y)) (by omega) (by omega), w64 (by omega) (by omega)]; omega
          have h8 := h.2.1
          have l1 := rowsP_len m
          have l2 := colsP_len m
          rw [eu]
          simp only [if_true]
          refine Ev.bind (impl_PlanCost_ev m h.siz) ?_
          refine Ev.bind (impl_PlanCost_ev _ hQ.siz) ?_
          refine Ev.bind (laws_pMargins_ev h) ?_
          refine Ev.bind (laws_pMargins_ev hQ) ?_
          simp only [hp, hq, if_true, k1, if_false]
          rw [unc_rows h hc, unc_cols h hc]
          refine Ev.bind (laws_pSame_ev (rowsP m) (rowsP m) (by omega)) ?_
          simp only [decide_true, if_true]
          refine Ev.bind (laws_pSame_ev (colsP m) (colsP m) (by omega)) ?_
          simp only [decide_true, Bool.not_true]
          exact FnUncrossing_j3 h
  · simp only [hok, if_false]
    exact Ev.now _
theorem FnUncrossing_round (m out : List (List Int)) (less : Int) (ok cr : Bool) (L : List S45) (hL : L.length ≤ 2) (hend : Ev (fun k => laws_FnUncrossing.l0 k m out less ok L cr L (L.length : Int) (L.length : Int)) true) : ∀ i, i ≤ L.length → Ev (fun k => laws_FnUncrossing.l0 k m out less ok L cr L (L.length : Int) (i : Int)) true := by
  refine down hend ?_
  intro i hi ih
  refine Ev.succ ?_
  simp only [laws_FnUncrossing.l0, ilt hi, inn, if_true, beq_self_eq_true, Bool.not_true, Bool.or_self, Bool.false_eq_true, if_false, wnext hi (by omega : L.length ≤ 4611686018427387904)]
  exact ih
theorem FnUncrossing_l0 {m : List (List Int)} (hs : Siz m) : Ev (fun k => laws_FnUncrossing.l0 k m (uncV m).1 (uncV m).2.1 (uncV m).2.2 (crossAns m).1 (crossAns m).2 (crossAns m).1 ((crossAns m).1.length : Int) 0) true := by
  have j2 := FnUncrossing_j2 m
  have none_ : crossAns m = ([], false) → Ev (fun k => laws_FnUncrossing.l0 k m (uncV m).1 (uncV m).2.1 (uncV m).2.2 (crossAns m).1 (crossAns m).2 (crossAns m).1 ((crossAns m).1.length : Int) 0) true := fun e => by
    rw [e]
    refine Ev.succ ?_
    have c0 : ¬ ((0 : Int) < (([] : List S45).length : Int)) := by simp
    simp only [laws_FnUncrossing.l0, c0, if_false, Bool.false_eq_true]
    exact j2
  cases hp : planB m with
  | false => exact none_ (by unfold crossAns; rw [hp]; rfl)
  | true =>
    have h := planB_iff.1 hp
    cases e : crossGo (cellsGo 0 m) (cellsGo 0 m) with
    | none => exact none_ (by unfold crossAns; rw [if_pos hp, e])
    | some xy =>
      obtain ⟨x, y⟩ := xy
      have hc := crs_of h e
      have ea : crossAns m = ([⟨(x.1 : Int), (x.2 : Int)⟩, ⟨(y.1 : Int), (y.2 : Int)⟩], true) := by unfold crossAns; rw [if_pos hp, e]
      rw [ea]
      refine FnUncrossing_round m _ _ _ true [⟨(x.1 : Int), (x.2 : Int)⟩, ⟨(y.1 : Int), (y.2 : Int)⟩] (by simp) ?_ 0 (Nat.zero_le _)
      have hx1 := hc.x1
      have hx2 := hc.x2
      have hy1 := hc.y1
      have hy2 := hc.y2
      have px := hc.px
      have py := hc.py
      have lt1 := hc.lt1
      have lt2 := hc.lt2
      have r0 : rd_T45 [⟨(x.1 : Int), (x.2 : Int)⟩, ⟨(y.1 : Int), (y.2 : Int)⟩] 0 = ⟨(x.1 : Int), (x.2 : Int)⟩ := rfl
      have r1 : rd_T45 [⟨(x.1 : Int), (x.2 : Int)⟩, ⟨(y.1 : Int), (y.2 : Int)⟩] 1 = ⟨(y.1 : Int), (y.2 : Int)⟩ := rfl
      have n2 : ((([⟨(x.1 : Int), (x.2 : Int)⟩, ⟨(y.1 : Int), (y.2 : Int)⟩] : List S45).length : Nat) : Int) = 2 := rfl
      have c0 : ¬ ((2 : Int) < 2) := by omega
      have c1 : (0 : Int) < 2 := by omega
      have c2 : (1 : Int) < 2 := by omega
      have c3 : ¬ ((x.1 : Int) ≥ (y.1 : Int)) := by omega
      have c4 : ¬ ((x.2 : Int) ≤ (y.2 : Int)) := by omega
      have w1 : (rd_L2 m (x.1 : Int)).length = m.length := h.shp.row hx1
      have w2 : (rd_L2 m (y.1 : Int)).length = m.length := h.shp.row hy1
      have v1 : rd (rd_L2 m (x.1 : Int)) (x.2 : Int) = cell m x.1 x.2 := rfl
      have v2 : rd (rd_L2 m (y.1 : Int)) (y.2 : Int) = cell m y.1 y.2 := rfl
      have c5 : ¬ (cell m x.1 x.2 < 1) := by omega
      have c6 : ¬ (cell m y.1 y.2 < 1) := by omega
      refine Ev.succ ?_
      rw [n2]
      simp only [laws_FnUncrossing.l0, n2, c0, c1, c2, r0, r1, c3, c4, if_false, if_true, inn, ilt hx1, ilt hx2, ilt hy1, ilt hy2, w1, w2, v1, v2, c5, c6]
      exact j2
theorem FnUncrossing : laws_FnUncrossing.Pure := by
  intro a b hma hsa hwa hmb hsb hwb
  refine Ev.rounds ?_
  have hc := Bts.of hsa hwa
  simp only [laws_FnUncrossing.f]
  obtain ⟨t, ht⟩ := laws_big_x a b
  rw [ht]
  simp only [Option.bind_some]
  by_cases h0 : t = true
  · simp only [h0, if_true]; exact Ev.now _
  · simp only [h0, if_false]
    refine Ex.ev (spec_DrawUncross_x hc) fun m hm => ?_
    refine Ev.bind (impl_Uncross_ev m hm) ?_
    refine Ev.bind (spec_Uncross_ev m hm) ?_
    refine Ev.bind (impl_CrossingOf_ev m hm) ?_
    refine Ev.bind (spec_CrossingOf_ev m hm) ?_
    simp only [bne_self_eq_false, Bool.false_eq_true, if_false]
    refine Ev.bind (laws_pSameRows_self _ (uncV_siz m)) ?_
    simp only [if_true]
    have j0 : Ev (fun k => laws_FnUncrossing.j0 k m (uncV m).1 (uncV m).2.1 (uncV m).2.2 (crossAns m).1 (crossAns m).2 (crossAns m).1 false) true := by
      refine Ev.succ ?_
      simp only [laws_FnUncrossing.j0, Bool.false_eq_true, if_false]
      exact FnUncrossing_l0 hm
    by_cases hok : (uncV m).2.2 = true
    · have hcr : (crossAns m).2 = true := by
        cases hp : planB m with
        | false => unfold uncV at hok; rw [hp] at hok; exact absurd hok (by simp)
        | true =>
          cases e : crossGo (cellsGo 0 m) (cellsGo 0 m) with
          | none => unfold uncV at hok; rw [hp, e] at hok; exact absurd hok (by simp)
          | some xy => unfold crossAns; rw [if_pos hp, e]
      simp only [hok, if_true]
      rw [hcr, Bool.not_true]
      rw [hok, hcr] at j0
      exact j0
    · have e : (uncV m).2.2 = false := Bool.eq_false_iff.2 hok
      rw [e] at j0 ⊢
      simp only [Bool.false_eq_true, if_false]
      exact j0

end Go.Proofs.Ytojklddddedoeaa.Pure
