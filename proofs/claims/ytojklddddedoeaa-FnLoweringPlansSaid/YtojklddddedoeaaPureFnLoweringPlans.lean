/- A lowering plan is told exactly if no sum refuses it, and a plan that only lowers has sums that are not refused; the printed functions' own bounds on lengths are the only conditions. -/
import Derived.Test.YtojklddddedoeaaPFnLoweringPlansx12
import Derived.Test.YtojklddddedoeaaTFnLoweringPlansMath
import Derived.Test.YtojklddddedoeaaTFnLoweringPlansMathP
import Derived.Test.YtojklddddedoeaaTFnLoweringPlansMathQ
import Derived.Test.YtojklddddedoeaaTFnLoweringPlansMathL
import Derived.Test.YtojklddddedoeaaTFnLoweringPlansMathD
namespace Go.Proofs.Ytojklddddedoeaa.Pure
open Go.RowKit Go.Proofs.Ytojklddddedoeaa.PFnLoweringPlans Go.Proofs.YtojklddddedoeaaW.PrintWords Go.Proofs.YtojklddddedoeaaW.PrintLast Go.Proofs.YtojklddddedoeaaW.PrintMore Go.Proofs.Ytojklddddedoeaa.Math
set_option linter.unusedVariables false
set_option linter.unusedSimpArgs false
set_option linter.unusedSectionVars false

theorem laws_big_x (a b : List Int) : ∃ t, laws_big.f a b = some t := by
  unfold laws_big.f
  by_cases c : (a.length : Int) > 1048576
  · rw [if_pos c]; exact ⟨_, rfl⟩
  · rw [if_neg c]; exact ⟨_, rfl⟩

theorem laws_pSame_l (l m : List Int) (he : m.length = l.length) (hl : l.length ≤ 4611686018427387904) : ∀ i, i ≤ l.length → Ev (fun k => laws_pSame.l0 k l m (l.length : Int) (i : Int)) (decide (l.drop i = m.drop i)) := by
  refine down ?_ ?_
  · refine Ev.succ ?_
    simp only [laws_pSame.l0, nlt (Nat.le_refl l.length), if_false, List.drop_length]
    rw [← he, List.drop_length]
    exact Ev.now _
  · intro i hi ih
    refine Ev.succ ?_
    simp only [laws_pSame.l0, ilt hi, inn, if_true, he, rd_lt hi, rd_lt (he ▸ hi : i < m.length), wnext hi hl]
    rw [drop_cons hi, drop_cons (he ▸ hi : i < m.length)]
    by_cases hx : l[i] = m[i]
    · simp only [hx, if_true, List.cons.injEq, true_and]
      exact ih
    · simp only [hx, if_false, List.cons.injEq, false_and, decide_false]
      exact Ev.now _
theorem laws_pSame_ev (l m : List Int) (hl : l.length ≤ 4611686018427387904) : Ev (fun k => laws_pSame.f k l m) (decide (l = m)) := by
  simp only [laws_pSame.f]
  by_cases he : (l.length : Int) = (m.length : Int)
  · simp only [he, if_true]
    have := laws_pSame_l l m (by omega) hl 0 (Nat.zero_le _)
    rw [he] at this
    exact this
  · simp only [he, if_false]
    rw [decide_eq_false (fun h => he (by rw [h]))]
    exact Ev.now _

theorem laws_pSameRows_l (m q : List (List Int)) (he : q.length = m.length) (h : Siz m) : ∀ i, i ≤ m.length → Ev (fun k => laws_pSameRows.l0 k m q (m.length : Int) (i : Int)) (decide (m.drop i = q.drop i)) := by
  have hm := h.1
  refine down ?_ ?_
  · refine Ev.succ ?_
    simp only [laws_pSameRows.l0, nlt (Nat.le_refl m.length), if_false, List.drop_length]
    rw [← he, List.drop_length]
    exact Ev.now _
  · intro i hi ih
    have h2 : i < q.length := by omega
    have hrow : rd_L2 m (i : Int) = m[i] := by simp [rd_L2, List.getD_eq_getElem?_getD, hi]
    have hrow2 : rd_L2 q (i : Int) = q[i] := by simp [rd_L2, List.getD_eq_getElem?_getD, h2]
    refine Ev.succ ?_
    simp only [laws_pSameRows.l0, ilt hi, inn, if_true, he, hrow, hrow2, wnext hi (by omega : m.length ≤ 4611686018427387904)]
    refine Ev.bind (laws_pSame_ev m[i] q[i] (by have := h.2 _ (List.getElem_mem hi); omega)) ?_
    rw [drop_cons hi, drop_cons h2]
    by_cases hx : m[i] = q[i]
    · simp only [hx, decide_true, if_true, List.cons.injEq, true_and]
      exact ih
    · simp only [hx, decide_false, Bool.false_eq_true, if_false, List.cons.injEq, false_and]
      exact Ev.now _
theorem laws_pSameRows_ev (m q : List (List Int)) (h : Siz m) : Ev (fun k => laws_pSameRows.f k m q) (decide (m = q)) := by
  simp only [laws_pSameRows.f]
  by_cases he : (m.length : Int) = (q.length : Int)
  · simp only [he, if_true]
    have := laws_pSameRows_l m q (by omega) h 0 (Nat.zero_le _)
    rw [he] at this
    exact this
  · simp only [he, if_false]
    rw [decide_eq_false (fun h => he (by rw [h]))]
    exact Ev.now _
theorem laws_pSameRows_self (m : List (List Int)) (h : Siz m) : Ev (fun k => laws_pSameRows.f k m m) true := by
  simpa using laws_pSameRows_ev m m h

theorem impl_within_e (a b c : Int) : impl_within.f a b c = some (wth a b c) := wth_opt a b c

theorem impl_allWithin_l (l : List Int) (lo hi : Int) (hl : l.length ≤ 4611686018427387904) : ∀ i, i ≤ l.length → Ev (fun k => impl_allWithin.l0 k lo hi l (l.length : Int) (i : Int)) (allW (l.drop i) lo hi) := by
  refine down ?_ ?_
  · refine Ev.succ ?_
    simp only [impl_allWithin.l0, nlt (Nat.le_refl l.length), if_false, List.drop_length]
    exact Ev.now _
  · intro i hi ih
    refine Ev.succ ?_
    simp only [impl_allWithin.l0, ilt hi, inn, if_true, impl_within_e, Option.bind_some, rd_lt hi, wnext hi hl]
    rw [drop_cons hi]
    exact Ev.andS fun _ => ih
theorem impl_allWithin_ev (l : List Int) (lo hi : Int) (hl : l.length ≤ 4611686018427387904) : Ev (fun k => impl_allWithin.f k l lo hi) (allW l lo hi) := by
  have := impl_allWithin_l l lo hi hl 0 (Nat.zero_le _)
  simpa only [impl_allWithin.f, List.drop_zero, Int.natCast_zero] using this

theorem impl_IsList_ev (l : List Int) (hl : l.length ≤ 4611686018427387904) : Ev (fun k => impl_IsList.f k l) (goodB l) := by
  simp only [impl_IsList.f, impl_within_e, Option.bind_some, goodB]
  exact Ev.andS fun _ => Ev.ret (f := fun t => t) (impl_allWithin_ev l 0 60 hl)

theorem impl_areLists_ev (a b : List Int) (ha : a.length ≤ 1048576) (hb : b.length ≤ 1048576) : Ev (fun k => impl_areLists.f k a b) (goodB a && goodB b) := by
  simp only [impl_areLists.f]
  exact Ev.and (impl_IsList_ev a (by omega)) fun h => Ev.ret (f := fun t => t) (impl_IsList_ev b (by omega))

theorem impl_total_l (l : List Int) (hl : l.length ≤ 4611686018427387904) : ∀ i, i ≤ l.length → ∀ acc, InR acc → Ev (fun k => impl_total.l0 k acc l (l.length : Int) (i : Int)) (wrap64 (acc + (l.drop i).sum)) := by
  refine down ?_ ?_
  · intro acc ha
    refine Ev.succ ?_
    simp only [impl_total.l0, nlt (Nat.le_refl l.length), if_false, List.drop_length, List.sum_nil, Int.add_zero, wR ha]
    exact Ev.now _
  · intro i hi ih acc ha
    refine Ev.succ ?_
    simp only [impl_total.l0, ilt hi, inn, if_true, rd_lt hi, wnext hi hl]
    rw [drop_cons hi, List.sum_cons, ← Int.add_assoc]
    exact (ih _ (inR_wrap _)).eqv (wr_add _ _)
theorem impl_total_ev (l : List Int) (hl : l.length ≤ 4611686018427387904) : Ev (fun k => impl_total.f k l) (wrap64 l.sum) := by
  have := impl_total_l l hl 0 (Nat.zero_le _) 0 inR_0
  simpa only [impl_total.f, List.drop_zero, Int.zero_add, Int.natCast_zero] using this
theorem impl_total_good {l : List Int} (h : Lst l) : Ev (fun k => impl_total.f k l) l.sum :=
  (impl_total_ev l (by have := h.2.1; omega)).eqv (w64 (by have := h.sum; omega) (by have := h.sum; omega))

theorem impl_doFit_ev {a b : List Int} (ha : Lst a) (hb : Lst b) : Ev (fun k => impl_doFit.f k a b) (decide (a.length = b.length) && decide (a.sum = b.sum)) := by
  simp only [impl_doFit.f]
  by_cases h : a.length = b.length
  · have h2 : (a.length : Int) = (b.length : Int) := by omega
    simp only [h2, if_true, h, decide_true, Bool.true_and]
    refine Ev.bind (impl_total_good ha) ?_
    exact Ev.ret (f := fun t => a.sum == t) (impl_total_good hb)
  · have h2 : ¬ (a.length : Int) = (b.length : Int) := by omega
    simp only [h2, if_false, h, decide_false, Bool.false_and]
    exact Ev.now _

theorem impl_areFitting_ev (a b : List Int) (ha : a.length ≤ 1048576) (hb : b.length ≤ 1048576) : Ev (fun k => impl_areFitting.f k a b) (fits a b) := by
  simp only [impl_areFitting.f]
  refine (Ev.and (b := decide (a.length = b.length) && decide (a.sum = b.sum)) (impl_areLists_ev a b ha hb) fun h => ?_).eqv (Bool.and_assoc _ _ _)
  rw [Bool.and_eq_true, goodB_iff, goodB_iff] at h
  exact Ev.ret (f := fun t => t) (impl_doFit_ev h.1 h.2)

theorem impl_isPlan_row_ev (n : Nat) (l : List Int) (hl : l.length ≤ 1048576) : Ev (fun k => impl_isPlan.row k n l) (!rowOk n l) := by
  simp only [impl_isPlan.row, rowOk]
  by_cases c : l.length = n
  · simp only [c, if_true, decide_true, Bool.true_and]
    exact Ev.ret (f := fun t => !t) (impl_allWithin_ev l 0 60 (by omega))
  · simp only [c, if_false, decide_false, Bool.false_and, Bool.not_false]
    exact Ev.now _
theorem impl_isPlan_l (m : List (List Int)) (h : Siz m) : ∀ i, i ≤ m.length → ∃ j : Int, Ev (fun k => impl_isPlan.l0 k m (i : Int)) j ∧ decide (j ≥ 0) = !((m.drop i).all (rowOk m.length)) := by
  have hm := h.1
  refine down ?_ ?_
  · refine ⟨-1, ?_, by simp⟩
    refine Ev.succ ?_
    simp only [impl_isPlan.l0, nlt (Nat.le_refl m.length), if_false]
    exact Ev.now _
  · intro i hi ⟨j, ih, hj⟩
    have hg : rd_L2 m (i : Int) = m[i] := by simp [rd_L2, List.getD_eq_getElem?_getD, hi]
    have hb := impl_isPlan_row_ev m.length m[i] (h.2 _ (List.getElem_mem hi))
    cases c : rowOk m.length m[i] with
    | true =>
      refine ⟨j, ?_, by rw [hj, drop_cons hi, List.all_cons, c, Bool.true_and]⟩
      rw [c] at hb
      refine Ev.succ ?_
      simp only [impl_isPlan.l0, ilt hi, inn, if_true, hg, wnext hi (by omega : m.length ≤ 4611686018427387904)]
      refine Ev.bind hb ?_
      simp only [Bool.not_true, Bool.false_eq_true, if_false]
      exact ih
    | false =>
      refine ⟨(i : Int), ?_, by rw [drop_cons hi, List.all_cons, c, Bool.false_and]; simp⟩
      rw [c] at hb
      refine Ev.succ ?_
      simp only [impl_isPlan.l0, ilt hi, inn, if_true, hg]
      refine Ev.bind hb ?_
      simp only [Bool.not_false, if_true]
      exact Ev.now _
theorem impl_isPlan_ev (m : List (List Int)) (h : Siz m) : Ev (fun k => impl_isPlan.f k m) (planB m) := by
  simp only [impl_isPlan.f, impl_within_e, Option.bind_some, planB]
  refine Ev.andS fun _ => ?_
  obtain ⟨j, hE, hj⟩ := impl_isPlan_l m h 0 (Nat.zero_le _)
  refine (Ev.ret (f := fun j : Int => !decide (j ≥ 0)) hE).eqv ?_
  rw [hj, Bool.not_not, List.drop_zero]

theorem slices_Equal_int_int_l (l m : List Int) (he : m.length = l.length) (hl : l.length ≤ 4611686018427387904) : ∀ i, i ≤ l.length → Ev (fun k => slices_Equal_int_int.l0 k l m (l.length : Int) (i : Int)) (decide (l.drop i = m.drop i)) := by
  refine down ?_ ?_
  · refine Ev.succ ?_
    simp only [slices_Equal_int_int.l0, nlt (Nat.le_refl l.length), if_false, List.drop_length]
    rw [← he, List.drop_length]
    exact Ev.now _
  · intro i hi ih
    refine Ev.succ ?_
    simp only [slices_Equal_int_int.l0, ilt hi, inn, if_true, he, rd_lt hi, rd_lt (he ▸ hi : i < m.length), wnext hi hl]
    rw [drop_cons hi, drop_cons (he ▸ hi : i < m.length)]
    by_cases hx : l[i] = m[i]
    · simp only [hx, if_true, List.cons.injEq, true_and]
      exact ih
    · simp only [hx, if_false, List.cons.injEq, false_and, decide_false]
      exact Ev.now _
theorem slices_Equal_int_int_ev (l m : List Int) (hl : l.length ≤ 4611686018427387904) : Ev (fun k => slices_Equal_int_int.f k l m) (decide (l = m)) := by
  simp only [slices_Equal_int_int.f]
  by_cases he : (l.length : Int) = (m.length : Int)
  · simp only [he, if_true]
    have := slices_Equal_int_int_l l m (by omega) hl 0 (Nat.zero_le _)
    rw [he] at this
    exact this
  · simp only [he, if_false]
    rw [decide_eq_false (fun h => he (by rw [h]))]
    exact Ev.now _

theorem impl_rowSums_l (m : List (List Int)) (hm : m.length ≤ 8) (h : ∀ r ∈ m, Short r) : ∀ i, i ≤ m.length → ∀ out : List Int, out.length = i → Ev (fun k => impl_rowSums.l0 k out m (m.length : Int) (i : Int)) (out ++ (m.drop i).map List.sum) := by
  refine down ?_ ?_
  · intro out ho
    refine Ev.succ ?_
    simp only [impl_rowSums.l0, nlt (Nat.le_refl m.length), if_false, List.drop_length, List.map_nil, List.append_nil]
    exact Ev.now _
  · intro i hi ih out ho
    have hrow : rd_L2 m (i : Int) = m[i] := by simp [rd_L2, List.getD_eq_getElem?_getD, hi]
    have c : out.length < 17592186044416 := by omega
    have hs := h _ (List.getElem_mem hi)
    refine Ev.succ ?_
    simp only [impl_rowSums.l0, ilt hi, inn, if_true, hrow, wnext hi (by omega : m.length ≤ 4611686018427387904)]
    refine Ev.bind ((impl_total_ev m[i] (by have := hs.1; omega)).eqv (w64 (by have := hs.sum; omega) (by have := hs.sum; omega))) ?_
    simp only [c, if_true]
    rw [drop_cons hi, List.map_cons]
    exact (ih _ (by simp [ho])).eqv (by simp)
theorem impl_rowSums_ev (m : List (List Int)) (hm : m.length ≤ 8) (h : ∀ r ∈ m, Short r) : Ev (fun k => impl_rowSums.f k m) (m.map List.sum) := by
  have := impl_rowSums_l m hm h 0 (Nat.zero_le _) [] rfl
  simpa only [impl_rowSums.f, List.drop_zero, List.nil_append, Int.natCast_zero] using this

theorem impl_turn_l1 (m : List (List Int)) (h : Plan m) (o : Nat) (ho : o < m.length) (R : List (List Int))
    (hk : Ev (fun k => impl_turn.l0 k (colsUpto m (o + 1)) m (m.length : Int) (wrap64 ((o : Int) + 1))) R) :
    ∀ j, j ≤ m[o].length → ∀ out : List (List Int), out.length = m.length → out.take j = (colsUpto m (o + 1)).take j → out.drop j = (colsUpto m o).drop j → Ev (fun k => impl_turn.l1 k out m (m.length : Int) (o : Int) m[o] (m[o].length : Int) (j : Int)) R := by
  have hm := h.2.1
  have hl := (h.2.2 _ (List.getElem_mem ho)).1
  refine down ?_ ?_
  · intro out hout e1 e2
    refine Ev.succ ?_
    simp only [impl_turn.l1, nlt (Nat.le_refl m[o].length), if_false]
    rw [hl, ← hout, List.take_length, hout, List.take_of_length_le (by rw [colsUpto_len]; exact Nat.le_refl _)] at e1
    rw [e1]
    exact hk
  · intro j hj ih out hout e1 e2
    have hj2 : j < out.length := by omega
    have hj3 : j < m.length := by omega
    have hrow : rd_L2 out (j : Int) = out[j] := by simp [rd_L2, List.getD_eq_getElem?_getD, hj2]
    have hx : out[j] = (m.take o).map fun r => r.getD j 0 := by
      rw [drop_cons hj2, drop_cons (l := colsUpto m o) (by rw [colsUpto_len]; exact hj3)] at e2
      rw [(List.cons.inj e2).1, colsUpto_get hj3]
    have lim : out[j].length < 17592186044416 := by rw [hx, List.length_map, List.length_take]; omega
    have hn : (colsUpto m (o + 1))[j]'(by rw [colsUpto_len]; exact hj3) = out[j] ++ [m[o][j]] := by
      rw [colsUpto_get hj3, hx, List.take_succ_eq_append_getElem ho, List.map_append]
      simp [List.getD_eq_getElem?_getD, hj]
    refine Ev.succ ?_
    simp only [impl_turn.l1, ilt hj, ilt hj2, inn, if_true, rd_lt hj, hrow, lim, wnext hj (by omega : m[o].length ≤ 4611686018427387904), Int.toNat_natCast]
    have st := set_takeG (colsUpto m (o + 1)) out j (by rw [colsUpto_len]; exact hj3) (by rw [colsUpto_len]; exact hout) e1
    rw [hn] at st
    refine ih _ (by simpa using hout) st ?_
    rw [List.drop_set_of_lt (by omega)]
    rw [drop_cons hj2, drop_cons (l := colsUpto m o) (by rw [colsUpto_len]; exact hj3)] at e2
    exact (List.cons.inj e2).2
theorem impl_turn_l0 (m : List (List Int)) (h : Plan m) : ∀ i, i ≤ m.length → Ev (fun k => impl_turn.l0 k (colsUpto m i) m (m.length : Int) (i : Int)) (colsUpto m m.length) := by
  have hm := h.2.1
  refine down ?_ ?_
  · refine Ev.succ ?_
    simp only [impl_turn.l0, nlt (Nat.le_refl m.length), if_false]
    exact Ev.now _
  · intro i hi ih
    have hrow : rd_L2 m (i : Int) = m[i] := by simp [rd_L2, List.getD_eq_getElem?_getD, hi]
    refine Ev.succ ?_
    simp only [impl_turn.l0, ilt hi, inn, if_true, hrow]
    refine impl_turn_l1 m h i hi _ ?_ 0 (Nat.zero_le _) _ (colsUpto_len _ _) rfl rfl
    rw [wnext hi (by omega : m.length ≤ 4611686018427387904)]
    exact ih
theorem impl_turn_ev (m : List (List Int)) (h : Plan m) : Ev (fun k => impl_turn.f k m) (colsUpto m m.length) := by
  have h0 : 0 < m.length := h.1
  have hrow : rd_L2 m 0 = m[0] := by simp [rd_L2, List.getD_eq_getElem?_getD, h0]
  have hl := (h.2.2 _ (List.getElem_mem h0)).1
  have hm := h.2.1
  have c0 : 0 < (m.length : Int) := by omega
  have c1 : m.length ≤ 11728124029610 := by omega
  simp only [impl_turn.f, hrow, hl, c0, inn, Int.toNat_natCast, c1, if_true]
  have := impl_turn_l0 m h 0 (Nat.zero_le _)
  rw [colsUpto_zero] at this
  exact this

def isPlanR (m : List (List Int)) (a b : List Int) : Bool × Bool := if fits a b then (planB m && (decide (m.map List.sum = a) && decide ((colsUpto m m.length).map List.sum = b)), true) else (false, false)

theorem impl_IsPlan_ev (m : List (List Int)) (h : Siz m) (a b : List Int) (ha : a.length ≤ 1048576) (hb : b.length ≤ 1048576) : Ev (fun k => impl_IsPlan.f k m a b) (isPlanR m a b) := by
  simp only [impl_IsPlan.f, isPlanR]
  refine Ev.bind (impl_areFitting_ev a b ha hb) ?_
  cases g3 : fits a b with
  | false => simp only [Bool.false_eq_true, if_false]; exact Ev.now _
  | true =>
    simp only [if_true]
    refine Ev.bind (impl_isPlan_ev m h) ?_
    cases g4 : planB m with
    | false => simp only [Bool.false_eq_true, if_false, Bool.false_and]; exact Ev.now _
    | true =>
      have hp := planB_iff.1 g4
      have hm := hp.2.1
      simp only [if_true, Bool.true_and]
      refine Ev.bind (impl_rowSums_ev m hm hp.short) ?_
      refine Ev.bind (slices_Equal_int_int_ev _ a (by rw [List.length_map]; omega)) ?_
      cases g5 : decide (m.map List.sum = a) with
      | false => simp only [Bool.false_eq_true, if_false, Bool.false_and]; exact Ev.now _
      | true =>
        simp only [if_true, Bool.true_and]
        refine Ev.bind (impl_turn_ev m hp) ?_
        refine Ev.bind (impl_rowSums_ev _ (by rw [colsUpto_len]; omega) hp.colsShort) ?_
        exact Ev.ret (f := fun t => (t, true)) (slices_Equal_int_int_ev _ b (by rw [List.length_map, colsUpto_len]; omega))

theorem laws_pSum_l (l : List Int) (hl : l.length ≤ 4611686018427387904) : ∀ i, i ≤ l.length → ∀ acc, InR acc → Ev (fun k => laws_pSum.l0 k acc l (l.length : Int) (i : Int)) (wrap64 (acc + (l.drop i).sum)) := by
  refine down ?_ ?_
  · intro acc ha
    refine Ev.succ ?_
    simp only [laws_pSum.l0, nlt (Nat.le_refl l.length), if_false, List.drop_length, List.sum_nil, Int.add_zero, wR ha]
    exact Ev.now _
  · intro i hi ih acc ha
    refine Ev.succ ?_
    simp only [laws_pSum.l0, ilt hi, inn, if_true, rd_lt hi, wnext hi hl]
    rw [drop_cons hi, List.sum_cons, ← Int.add_assoc]
    exact (ih _ (inR_wrap _)).eqv (wr_add _ _)
theorem laws_pSum_ev (l : List Int) (hl : l.length ≤ 4611686018427387904) : Ev (fun k => laws_pSum.f k l) (wrap64 l.sum) := by
  have := laws_pSum_l l hl 0 (Nat.zero_le _) 0 inR_0
  simpa only [laws_pSum.f, List.drop_zero, Int.zero_add, Int.natCast_zero] using this
theorem laws_pSum_good {l : List Int} (h : Lst l) : Ev (fun k => laws_pSum.f k l) l.sum :=
  (laws_pSum_ev l (by have := h.2.1; omega)).eqv (w64 (by have := h.sum; omega) (by have := h.sum; omega))

theorem colS_bound {m : List (List Int)} (h : Plan m) (c : Nat) : ∀ i, 0 ≤ sm i (fun p => cell m p c) ∧ sm i (fun p => cell m p c) ≤ 60 * i
  | 0 => by simp [sm]
  | i + 1 => by
    have ih := colS_bound h c i
    have b := h.cell i c
    rw [sm]; omega
theorem laws_pMargins_l1 {m : List (List Int)} (h : Plan m) (x4 : List Int) (i : Nat) (hi : i < m.length) (R : List Int × List Int) (hK : ∀ y : List Int, y.length = m.length → (∀ c, c < m.length → y.getD c 0 = sm (i + 1) fun p => cell m p c) → Ev (fun k => laws_pMargins.l0 k x4 y m (m.length : Int) (wrap64 ((i : Int) + 1))) R) :
    ∀ j, j ≤ m.length → ∀ y : List Int, y.length = m.length → (∀ c, c < m.length → y.getD c 0 = if c < j then sm (i + 1) (fun p => cell m p c) else sm i fun p => cell m p c) → Ev (fun k => laws_pMargins.l1 k x4 y m (m.length : Int) (i : Int) m[i] (m[i].length : Int) (j : Int)) R := by
  have hr := (h.2.2 m[i] (List.getElem_mem hi)).1
  have h8 := h.2.1
  refine down ?_ ?_
  · intro y hy hc
    refine Ev.succ ?_
    simp only [laws_pMargins.l1, hr, nlt (Nat.le_refl m.length), if_false]
    exact hK y hy fun c hcm => by rw [hc c hcm, if_pos hcm]
  · intro j hj ih y hy hc
    refine Ev.succ ?_
    have jr : j < m[i].length := by omega
    have jy : j < y.length := by omega
    have e1 : rd y (j : Int) = sm i fun p => cell m p j := by
      have : rd y (j : Int) = y.getD j 0 := rfl
      rw [this, hc j hj, if_neg (by omega)]
    have e2 : rd m[i] (j : Int) = cell m i j := by
      have : rd m[i] (j : Int) = m[i].getD j 0 := rfl
      unfold cell
      rw [this]
      simp [List.getD_eq_getElem?_getD, hi]
    have b := colS_bound h j i
    have b2 := h.cell i j
    have e3 : wrap64 (sm i (fun p => cell m p j) + cell m i j) = sm (i + 1) fun p => cell m p j := by rw [w64 (by omega) (by omega)]; rfl
    simp only [laws_pMargins.l1, ilt jr, ilt jy, inn, if_true, e1, e2, e3, Int.toNat_natCast, wnext jr (by omega : m[i].length ≤ 4611686018427387904)]
    refine ih (y.set j _) (by rw [List.length_set]; exact hy) fun c hcm => ?_
    by_cases cj : c = j
    · subst cj
      rw [Math.getD_set_self _ _ _ _ (by omega), if_pos (by omega)]
    · rw [Math.getD_set_ne _ _ _ (fun e => cj e.symm), hc c hcm]
      by_cases q : c < j
      · rw [if_pos q, if_pos (by omega)]
      · rw [if_neg q, if_neg (by omega)]
theorem laws_pMargins_l0 {m : List (List Int)} (h : Plan m) : ∀ i, i ≤ m.length → ∀ y : List Int, y.length = m.length → (∀ c, c < m.length → y.getD c 0 = sm i fun p => cell m p c) → Ev (fun k => laws_pMargins.l0 k ((m.take i).map List.sum) y m (m.length : Int) (i : Int)) (rowsP m, colsP m) := by
  have h8 := h.2.1
  refine down ?_ ?_
  · intro y hy hc
    refine Ev.succ ?_
    simp only [laws_pMargins.l0, nlt (Nat.le_refl m.length), if_false, List.take_length]
    have e : y = colsP m := list_ext_getD (by rw [hy, colsP_len]) fun c hcl => by rw [hc c (by omega), colsP_getD h.shp (by omega)]
    rw [e]
    exact Ev.now _
  · intro i hi ih y hy hc
    refine Ev.succ ?_
    have hrow : rd_L2 m (i : Int) = m[i] := by simp [rd_L2, List.getD_eq_getElem?_getD, hi]
    have sh := h.short m[i] (List.getElem_mem hi)
    have sb := sh.sum
    have sl := sh.1
    have tl : ((m.take i).map List.sum).length < 17592186044416 := by rw [List.length_map, List.length_take]; omega
    simp only [laws_pMargins.l0, ilt hi, inn, if_true, hrow]
    refine Ev.bind (laws_pSum_ev m[i] (by omega)) ?_
    simp only [tl, if_true, w64 (x := m[i].sum) (by omega) (by omega)]
    have et : (m.take i).map List.sum ++ [m[i].sum] = (m.take (i + 1)).map List.sum := by
      rw [List.take_succ_eq_append_getElem hi, List.map_append]; rfl
    rw [et]
    refine laws_pMargins_l1 h _ i hi _ (fun y' hy' hc' => ?_) 0 (Nat.zero_le _) y hy fun c hcm => ?_
    · rw [wnext hi (by omega : m.length ≤ 4611686018427387904)]
      exact ih y' hy' hc'
    · rw [hc c hcm, if_neg (by omega)]
theorem laws_pMargins_ev {m : List (List Int)} (h : Plan m) : Ev (fun k => laws_pMargins.f k m) (rowsP m, colsP m) := by
  have h8 := h.2.1
  have c1 : m.length ≤ 35184372088832 := by omega
  simp only [laws_pMargins.f, inn, if_true, Int.toNat_natCast, c1]
  have := laws_pMargins_l0 h 0 (Nat.zero_le _) (List.replicate m.length 0) (by simp) fun c hcm => by
    rw [List.getD_eq_getElem?_getD, List.getElem?_replicate, if_pos hcm]; rfl
  rw [List.take_zero, List.map_nil] at this
  exact this

theorem spec_l1Cur_next_x {c : List Int} (hc : Bts c) (a s b : Int) (ha : At a b) (hb : b ≤ 4611686018427387904) : ∃ r : Int × Int × Int, spec_l1Cur_next.f c a s = some r ∧ 0 ≤ r.1 ∧ r.1 ≤ 255 ∧ At r.2.1 (b + 1) := by
  have h0 := ha.1
  have h1 := ha.2
  have e : wrap64 (a + 1) = a + 1 := w64 (by omega) (by omega)
  have a1 : At (a + 1) (b + 1) := ⟨by omega, by omega⟩
  have u : ∀ z : Int, 0 ≤ wrap64 (Go.bits .and .u64 (IntKind.u64.wrap z / 1099511627776) 255) ∧ wrap64 (Go.bits .and .u64 (IntKind.u64.wrap z / 1099511627776) 255) ≤ 255 := fun z => and255 _ (by rw [wrapU64]; omega) (by rw [wrapU64]; omega)
  unfold spec_l1Cur_next.f
  by_cases c1 : a < (c.length : Int)
  · have r := rd_code hc h0 c1
    simp only [c1, h0, if_true, e]
    by_cases c2 : a + 1 ≤ (c.length : Int)
    · simp only [c2, if_true]
      refine ⟨_, rfl, ?_, ?_, a1⟩
      · show 0 ≤ wrap64 _
        rw [w64 (by omega) (by omega)]; exact r.1
      · show wrap64 _ ≤ 255
        rw [w64 (by omega) (by omega)]; exact r.2
    · simp only [c2, if_false]
      exact ⟨_, rfl, (u _).1, (u _).2, a1⟩
  · simp only [c1, if_false, e]
    by_cases c2 : a + 1 ≤ (c.length : Int)
    · simp only [c2, if_true]
      exact ⟨_, rfl, by show (0 : Int) ≤ 0; omega, by show (0 : Int) ≤ 255; omega, a1⟩
    · simp only [c2, if_false]
      exact ⟨_, rfl, (u _).1, (u _).2, a1⟩

theorem spec_l1Cur_pick_x {c : List Int} (hc : Bts c) (a s b n : Int) (ha : At a b) (hb : b ≤ 1073741824) : Ex (fun _ => spec_l1Cur_pick.f c a s n) (fun r => 0 ≤ r.1 ∧ (1 ≤ n → r.1 < n) ∧ At r.2.1 (b + 2)) := by
  have h0 := ha.1
  have h1 := ha.2
  unfold spec_l1Cur_pick.f
  by_cases c1 : n ≤ 1
  · simp only [c1, if_true]
    exact Ex.now ⟨by show (0 : Int) ≤ 0; omega, fun h => by show (0 : Int) < n; omega, by omega, by show a ≤ b + 2; omega⟩
  · simp only [c1, if_false]
    obtain ⟨r, hr, r0, r1, r2⟩ := spec_l1Cur_next_x hc a s b ha (by omega)
    rw [hr]
    simp only [Option.bind_some]
    have n0 : ¬ n = 0 := by omega
    by_cases c2 : n > 200
    · simp only [c2, if_true]
      obtain ⟨q, hq, q0, q1, q2⟩ := spec_l1Cur_next_x hc r.2.1 r.2.2 (b + 1) r2 (by omega)
      rw [hq]
      simp only [Option.bind_some, n0, if_false]
      have e : wrap64 (wrap64 (r.1 * 256) + q.1) = r.1 * 256 + q.1 := by rw [w64 (x := r.1 * 256) (by omega) (by omega), w64 (by omega) (by omega)]
      rw [e]
      refine Ex.now ⟨Int.tmod_nonneg _ (by omega), fun _ => Int.tmod_lt_of_pos _ (by omega), q2.1, ?_⟩
      have := q2.2
      show q.2.1 ≤ b + 2
      omega
    · simp only [c2, if_false, n0]
      refine Ex.now ⟨Int.tmod_nonneg _ (by omega), fun _ => Int.tmod_lt_of_pos _ (by omega), r2.1, ?_⟩
      have := r2.2
      show r.2.1 ≤ b + 2
      omega

theorem spec_l1Cur_one_x {c : List Int} (hc : Bts c) (a s b n : Int) (ha : At a b) (hb : b ≤ 1073741824) : Ex (fun _ => spec_l1Cur_one.f c a s n) (fun r => At r.2.1 (b + 2)) := by
  unfold spec_l1Cur_one.f
  refine Ex.bind (spec_l1Cur_pick_x hc a s b n ha hb) fun r hr => ?_
  exact Ex.now hr.2.2

theorem spec_l1Own_e (l : List Int) (hl : l.length < 17592186044416) : spec_l1Own.f l = some l := by
  simp only [spec_l1Own.f, Option.bind_some, List.nil_append, List.length_nil, Nat.zero_add, hl, if_true]

theorem spec_l1Cur_among_x {c : List Int} (hc : Bts c) (a s b : Int) (l : List Int) (hl : 1 ≤ l.length) (ha : At a b) (hb : b ≤ 1073741824) : Ex (fun _ => spec_l1Cur_among.f c a s l) (fun r => r.1 ∈ l ∧ At r.2.1 (b + 2)) := by
  unfold spec_l1Cur_among.f
  refine Ex.bind (spec_l1Cur_pick_x hc a s b _ ha hb) fun r hr => ?_
  have h0 := hr.1
  have h1 := hr.2.1 (by omega)
  simp only [h0, h1, if_true]
  refine Ex.now ⟨?_, hr.2.2⟩
  have hi : r.1.toNat < l.length := by omega
  show rd l r.1 ∈ l
  unfold rd
  rw [List.getD_eq_getElem?_getD, List.getElem?_eq_getElem hi, Option.getD_some]
  exact List.getElem_mem hi

theorem spec_l1Cur_list_l {c : List Int} (hc : Bts c) (m : Int) : ∀ (n : Nat) (x : List Int) (a s b : Int), At a b → b + 2 * n ≤ 1073741824 → x.length + n ≤ 1048576 → Ex (fun k => spec_l1Cur_list.l0 k m x (n : Int) c a s) (fun r => r.1.length = x.length + n ∧ At r.2.1 (b + 2 * n))
  | 0, x, a, s, b, ha, hb, hx => by
    refine Ex.succ ?_
    simp only [spec_l1Cur_list.l0, show ¬ (((0 : Nat) : Int) > 0) by omega, if_false]
    exact Ex.now ⟨rfl, by simpa using ha⟩
  | n + 1, x, a, s, b, ha, hb, hx => by
    refine Ex.succ ?_
    simp only [spec_l1Cur_list.l0, show (((n + 1 : Nat) : Int) > 0) by omega, if_true]
    refine Ex.bind (spec_l1Cur_pick_x hc a s b _ ha (by omega)) fun r hr => ?_
    have hl : x.length < 17592186044416 := by omega
    simp only [hl, if_true, w64 (x := ((n + 1 : Nat) : Int) - 1) (by omega) (by omega)]
    rw [show ((n + 1 : Nat) : Int) - 1 = (n : Int) by omega]
    refine (spec_l1Cur_list_l hc m n (x ++ [r.1]) r.2.1 r.2.2 (b + 2) hr.2.2 (by omega) (by rw [List.length_append, List.length_singleton]; omega)).mono fun q hq => ?_
    rw [List.length_append, List.length_singleton] at hq
    exact ⟨by omega, hq.2.1, by have := hq.2.2; omega⟩
theorem spec_l1Cur_list_x {c : List Int} (hc : Bts c) (a s b m : Int) (ha : At a b) (hb : b ≤ 536870912) : Ex (fun k => spec_l1Cur_list.f k c a s m) (fun r => 1 ≤ r.1.length ∧ r.1.length ≤ 6 ∧ At r.2.1 (b + 14)) := by
  simp only [spec_l1Cur_list.f]
  refine Ex.bind (spec_l1Cur_pick_x hc a s b 6 ha (by omega)) fun r hr => ?_
  have h0 := hr.1
  have h1 := hr.2.1 (by omega)
  obtain ⟨n, hn⟩ := Int.eq_ofNat_of_zero_le h0
  rw [w64 (by omega) (by omega), show 1 + r.1 = ((n + 1 : Nat) : Int) by omega]
  refine (spec_l1Cur_list_l hc m (n + 1) [] r.2.1 r.2.2 (b + 2) hr.2.2 (by omega) (by simp; omega)).mono fun q hq => ?_
  rw [List.length_nil] at hq
  exact ⟨by omega, by omega, hq.2.1, by have := hq.2.2; omega⟩

theorem spec_l1Cur_anyList_l {c : List Int} (hc : Bts c) : ∀ (d : Nat) (x : List Int) (a s b : Int), x.length + d = 10 → At a b → b + 4 * d + 4 ≤ 1073741824 → Ex (fun k => spec_l1Cur_anyList.l0 k x c a s) (fun r => r.1.length ≤ 10 ∧ At r.2.1 (b + 4 * d + 4))
  | 0, x, a, s, b, hx, ha, hb => by
    refine Ex.succ ?_
    simp only [spec_l1Cur_anyList.l0]
    refine Ex.bind (spec_l1Cur_pick_x hc a s b 2 ha (by omega)) fun r hr => ?_
    have h0 := hr.1
    have h1 := hr.2.1 (by omega)
    have c1 : ¬ ((x.length : Int) < wrap64 (8 + r.1)) := by rw [w64 (by omega) (by omega)]; omega
    simp only [c1, if_false]
    exact Ex.now ⟨by show x.length ≤ 10; omega, hr.2.2.1, by have := hr.2.2.2; show r.2.1 ≤ _; omega⟩
  | d + 1, x, a, s, b, hx, ha, hb => by
    refine Ex.succ ?_
    simp only [spec_l1Cur_anyList.l0]
    refine Ex.bind (spec_l1Cur_pick_x hc a s b 2 ha (by omega)) fun r hr => ?_
    by_cases c1 : (x.length : Int) < wrap64 (8 + r.1)
    · simp only [c1, if_true]
      refine Ex.bind (spec_l1Cur_pick_x hc _ _ (b + 2) 9 hr.2.2 (by omega)) fun q hq => ?_
      have hl : x.length < 17592186044416 := by omega
      simp only [hl, if_true]
      refine (spec_l1Cur_anyList_l hc d (x ++ [q.1]) _ _ (b + 2 + 2) (by rw [List.length_append, List.length_singleton]; omega) hq.2.2 (by omega)).mono fun z hz => ?_
      exact ⟨hz.1, hz.2.1, by have := hz.2.2; omega⟩
    · simp only [c1, if_false]
      exact Ex.now ⟨by show x.length ≤ 10; omega, hr.2.2.1, by have := hr.2.2.2; show r.2.1 ≤ _; omega⟩
theorem spec_l1Cur_anyList_x {c : List Int} (hc : Bts c) (a s b m : Int) (ha : At a b) (hb : b ≤ 268435456) : Ex (fun k => spec_l1Cur_anyList.f k c a s m) (fun r => r.1.length ≤ 10 ∧ At r.2.1 (b + 64)) := by
  simp only [spec_l1Cur_anyList.f]
  refine Ex.bind (spec_l1Cur_list_x hc a s b m ha (by omega)) fun r hr => ?_
  refine Ex.bind (spec_l1Cur_pick_x hc _ _ (b + 14) 14 hr.2.2 (by omega)) fun q hq => ?_
  have q2 := hq.2.2.2
  by_cases c1 : q.1 = 0
  · simp only [c1, if_true]
    refine Ex.bind (spec_l1Cur_among_x hc _ _ (b + 14 + 2) _ (by simp) hq.2.2 (by omega)) fun z hz => ?_
    have hl : r.1.length < 17592186044416 := by omega
    simp only [hl, if_true]
    exact Ex.now ⟨by show (r.1 ++ [z.1]).length ≤ 10; rw [List.length_append, List.length_singleton]; omega, hz.2.1, by have := hz.2.2; show z.2.1 ≤ _; omega⟩
  · simp only [c1, if_false]
    by_cases c2 : q.1 = 1
    · simp only [c2, if_true]
      refine (spec_l1Cur_anyList_l hc (10 - r.1.length) r.1 _ _ (b + 14 + 2) (by omega) hq.2.2 (by omega)).mono fun z hz => ?_
      exact ⟨hz.1, hz.2.1, by have := hz.2.2; omega⟩
    · simp only [c2, if_false]
      by_cases c3 : q.1 = 2
      · simp only [c3, if_true]
        exact Ex.now ⟨by show ([] : List Int).length ≤ 10; simp, hq.2.2.1, by show q.2.1 ≤ _; omega⟩
      · simp only [c3, if_false]
        exact Ex.now ⟨by show r.1.length ≤ 10; omega, hq.2.2.1, by show q.2.1 ≤ _; omega⟩

theorem spec_l1Cur_fitting_l {c : List Int} (hc : Bts c) (x : List Int) (hx : x.length ≤ 10) : ∀ (n : Nat) (y : List Int) (a s b : Int), y.length ≤ 10 → At a b → b + 8 * n + 8 ≤ 1073741824 → Ex (fun k => spec_l1Cur_fitting.l0 k x y (n : Int) c a s) (fun r => r.1.length ≤ 10 ∧ r.2.1.length ≤ 10 ∧ At r.2.2.1 (b + 8 * n + 8))
  | n, y, a, s, b, hy, ha, hb => by
    have hb0 := ha.1
    have hb1 := ha.2
    have off : Ex (fun k => spec_l1Cur_fitting.j1 k x y (n : Int) false c a s) (fun r => r.1.length ≤ 10 ∧ r.2.1.length ≤ 10 ∧ At r.2.2.1 (b + 8 * n + 8)) := by
      refine Ex.succ ?_
      simp only [spec_l1Cur_fitting.j1, Bool.false_eq_true, if_false]
      refine Ex.bind (spec_l1Cur_one_x hc a s b 5 ha (by omega)) fun r hr => ?_
      have h2 := hr.2
      by_cases c1 : r.1 = true
      · simp only [c1, if_true]
        exact Ex.now ⟨hx, hy, hr.1, by show r.2.1 ≤ _; omega⟩
      · simp only [c1, if_false]
        exact Ex.now ⟨hy, hx, hr.1, by show r.2.1 ≤ _; omega⟩
    refine Ex.succ ?_
    simp only [spec_l1Cur_fitting.l0]
    by_cases c0 : (n : Int) > 0
    · simp only [c0, if_true]
      by_cases c1 : (y.length : Int) > 1
      · simp only [c1, decide_true]
        obtain ⟨m, rfl⟩ : ∃ m, n = m + 1 := ⟨n - 1, by omega⟩
        have ew : wrap64 (((m + 1 : Nat) : Int) - 1) = (m : Int) := by rw [w64 (by omega) (by omega)]; omega
        refine Ex.succ ?_
        simp only [spec_l1Cur_fitting.j1, if_true, ew]
        refine Ex.bind (spec_l1Cur_pick_x hc a s b _ ha (by omega)) fun r hr => ?_
        refine Ex.bind (spec_l1Cur_pick_x hc _ _ (b + 2) _ hr.2.2 (by omega)) fun q hq => ?_
        have r0 := hr.1
        have r1 := hr.2.1 (by omega)
        have q0 := hq.1
        have q1 := hq.2.1 (by omega)
        simp only [r0, r1, q0, q1, if_true]
        have go : ∀ (z : List Int) (a' s' b' : Int), z.length = y.length → At a' b' → b' ≤ b + 8 → Ex (fun k => spec_l1Cur_fitting.l0 k x z (m : Int) c a' s') (fun r => r.1.length ≤ 10 ∧ r.2.1.length ≤ 10 ∧ At r.2.2.1 (b + 8 * ((m + 1 : Nat) : Int) + 8)) := by
          intro z a' s' b' hz ha' hb'
          refine (spec_l1Cur_fitting_l hc x hx m z a' s' b' (by omega) ha' (by omega)).mono fun t ht => ⟨ht.1, ht.2.1, ht.2.2.1, by have := ht.2.2.2; omega⟩
        by_cases c2 : rd y r.1 > 0
        · simp only [c2, if_true]
          by_cases c3 : rd y r.1 > rd y q.1
          · simp only [c3, if_true, Option.bind_some]
            exact go _ _ _ _ (by simp) hq.2.2 (by omega)
          · simp only [c3, if_false]
            refine Ex.bind (spec_l1Cur_one_x hc _ _ (b + 2 + 2) 4 hq.2.2 (by omega)) fun t ht => ?_
            by_cases c4 : t.1 = true
            · simp only [c4, if_true, Option.bind_some]
              exact go _ _ _ _ (by simp) ht (by omega)
            · simp only [c4, if_false]
              exact go _ _ _ _ rfl ht (by omega)
        · simp only [c2, if_false]
          exact go _ _ _ _ rfl hq.2.2 (by omega)
      · simp only [c1, decide_false]
        exact off
    · simp only [c0, if_false]
      exact off
theorem spec_l1Cur_fitting_x {c : List Int} (hc : Bts c) (a s b m : Int) (ha : At a b) (hb : b ≤ 134217728) : Ex (fun k => spec_l1Cur_fitting.f k c a s m) (fun r => r.1.length ≤ 10 ∧ r.2.1.length ≤ 10 ∧ At r.2.2.1 (b + 256)) := by
  simp only [spec_l1Cur_fitting.f]
  refine Ex.bind (spec_l1Cur_anyList_x hc a s b m ha (by omega)) fun r hr => ?_
  refine Ex.bind (spec_l1Cur_one_x hc _ _ (b + 64) 5 hr.2 (by omega)) fun q hq => ?_
  by_cases c1 : q.1 = true
  · simp only [c1, if_true]
    refine Ex.bind (spec_l1Cur_anyList_x hc _ _ (b + 64 + 2) m hq (by omega)) fun z hz => ?_
    exact Ex.now ⟨hz.1, hr.1, hz.2.1, by have := hz.2.2; show z.2.1 ≤ _; omega⟩
  · simp only [c1, if_false, spec_l1Own_e r.1 (by omega), Option.bind_some]
    refine Ex.bind (spec_l1Cur_pick_x hc _ _ (b + 64 + 2) 12 hq (by omega)) fun z hz => ?_
    have z0 := hz.1
    have z1 := hz.2.1 (by omega)
    obtain ⟨n, hn⟩ := Int.eq_ofNat_of_zero_le z0
    rw [hn] at z1 ⊢
    refine (spec_l1Cur_fitting_l hc r.1 hr.1 n r.1 _ _ (b + 64 + 2 + 2) hr.1 hz.2.2 (by omega)).mono fun t ht => ⟨ht.1, ht.2.1, ht.2.2.1, by have := ht.2.2.2; omega⟩

theorem spec_l1Cur_lowered_l {c : List Int} (hc : Bts c) (x : List Int) (hx : x.length ≤ 10) : ∀ (d : Nat) (y : List Int) (a s b : Int), y.length = x.length → At a b → b + 4 * d + 8 ≤ 1073741824 → d ≤ 1048576 → Ex (fun k => spec_l1Cur_lowered.l0 k x y (d : Int) c a s) (fun r => r.1.length ≤ 10 ∧ r.2.1.length ≤ 10)
  | 0, y, a, s, b, hy, ha, hb, hd => by
    have c0 : ¬ (((0 : Nat) : Int) > 0) := by omega
    refine Ex.succ ?_
    simp only [spec_l1Cur_lowered.l0, c0, if_false]
    refine Ex.succ ?_
    simp only [spec_l1Cur_lowered.j1, Bool.false_eq_true, if_false]
    exact Ex.now ⟨hx, by show y.length ≤ 10; omega⟩
  | d + 1, y, a, s, b, hy, ha, hb, hd => by
    have c0 : ((d + 1 : Nat) : Int) > 0 := by omega
    have e0 : wrap64 (((d + 1 : Nat) : Int) - 1) = (d : Int) := wprev (by omega)
    refine Ex.succ ?_
    simp only [spec_l1Cur_lowered.l0, c0, if_true]
    refine Ex.succ ?_
    by_cases c1 : (x.length : Int) > 1
    · have e1 : wrap64 ((x.length : Int) - 1) = (x.length : Int) - 1 := w64 (by omega) (by omega)
      simp only [spec_l1Cur_lowered.j1, decide_eq_true c1, if_true, e1, e0]
      refine Ex.bind (spec_l1Cur_pick_x hc a s b _ ha (by omega)) fun q hq => ?_
      have q0 := hq.1
      have q1 := hq.2.1 (by omega)
      have e2 : wrap64 (1 + q.1) = 1 + q.1 := w64 (by omega) (by omega)
      have c2 : 0 ≤ 1 + q.1 := by omega
      have c3 : 1 + q.1 < (y.length : Int) := by omega
      simp only [e2, c2, c3, if_true]
      by_cases c4 : rd y (1 + q.1) > 0
      · simp only [c4, if_true, Option.bind_some]
        refine Ex.bind (spec_l1Cur_pick_x hc _ _ (b + 2) _ hq.2.2 (by omega)) fun z hz => ?_
        have z0 := hz.1
        have z1 := hz.2.1 (by omega)
        have z2 : z.1 < (y.length : Int) := by omega
        simp only [z0, z2, if_true]
        exact spec_l1Cur_lowered_l hc x hx d _ _ _ (b + 2 + 2) (by rw [List.length_set, List.length_set]; exact hy) hz.2.2 (by omega) (by omega)
      · simp only [c4, if_false]
        exact spec_l1Cur_lowered_l hc x hx d y _ _ (b + 2) hy hq.2.2 (by omega) (by omega)
    · simp only [spec_l1Cur_lowered.j1, decide_eq_false c1, Bool.false_eq_true, if_false]
      exact Ex.now ⟨hx, by show y.length ≤ 10; omega⟩
theorem spec_l1Cur_lowered_x {c : List Int} (hc : Bts c) (a s b : Int) (ha : At a b) (hb : b ≤ 1048576) : Ex (fun k => spec_l1Cur_lowered.f k c a s) (fun r => r.1.length ≤ 10 ∧ r.2.1.length ≤ 10) := by
  simp only [spec_l1Cur_lowered.f]
  refine Ex.bind (spec_l1Cur_one_x hc a s b 3 ha (by omega)) fun r hr => ?_
  by_cases c1 : r.1 = true
  · simp only [c1, if_true]
    refine Ex.bind (spec_l1Cur_fitting_x hc _ _ (b + 2) 9 hr (by omega)) fun q hq => ?_
    exact Ex.now ⟨hq.1, hq.2.1⟩
  · simp only [c1, if_false]
    refine Ex.bind (spec_l1Cur_list_x hc _ _ (b + 2) 9 hr (by omega)) fun q hq => ?_
    have l1 := hq.2.1
    rw [spec_l1Own_e q.1 (by omega)]
    simp only [Option.bind_some]
    refine Ex.bind (spec_l1Cur_pick_x hc _ _ (b + 2 + 14) 8 hq.2.2 (by omega)) fun z hz => ?_
    have z0 := hz.1
    have z1 := hz.2.1 (by omega)
    have ez : z.1 = ((z.1.toNat : Nat) : Int) := by omega
    rw [ez]
    exact spec_l1Cur_lowered_l hc q.1 (by omega) z.1.toNat q.1 _ _ (b + 2 + 14 + 2) rfl hz.2.2 (by omega) (by omega)

theorem spec_DrawLoweringPlan_x {c : List Int} (hc : Bts c) : Ex (fun k => spec_DrawLoweringPlan.f k c) (fun r => r.1.length ≤ 10 ∧ r.2.length ≤ 10) := by
  simp only [spec_DrawLoweringPlan.f]
  refine Ex.bind (spec_l1Cur_lowered_x hc 0 0 0 ⟨by omega, by omega⟩ (by omega)) fun r hr => ?_
  exact Ex.now ⟨hr.1, hr.2⟩

theorem impl_monotone_1_e (a b : Int) : impl_monotone_1.f a b = some 0 := rfl
theorem impl_square_l1 (n : Nat) (hn : n ≤ 1048576) (o : Nat) (ho : o < n) (R : List (List Int)) (hk : Ev (fun k => impl_square.l0 k (n : Int) (List.replicate (o + 1) (List.replicate n 0)) (n : Int) ((o + 1 : Nat) : Int)) R) :
    ∀ j, j ≤ n → Ev (fun k => impl_square.l1 k (n : Int) (List.replicate o (List.replicate n 0)) (o : Int) (List.replicate j 0) (n : Int) (o : Int) (n : Int) (j : Int)) R := by
  refine down ?_ ?_
  · have c2 : (List.replicate o (List.replicate n (0 : Int))).length < 5864062014805 := by rw [List.length_replicate]; omega
    refine Ev.succ ?_
    simp only [impl_square.l1, nlt (Nat.le_refl n), if_false, c2, if_true, ← List.replicate_succ', wnext ho (by omega : n ≤ 4611686018427387904)]
    exact hk
  · intro j hj ih
    have c2 : (List.replicate j (0 : Int)).length < 17592186044416 := by rw [List.length_replicate]; omega
    refine Ev.succ ?_
    simp only [impl_square.l1, ilt hj, if_true, impl_monotone_1_e, Option.bind_some, c2, ← List.replicate_succ', wnext hj (by omega : n ≤ 4611686018427387904)]
    exact ih
theorem impl_square_l0 (n : Nat) (hn : n ≤ 1048576) : ∀ i, i ≤ n → Ev (fun k => impl_square.l0 k (n : Int) (List.replicate i (List.replicate n 0)) (n : Int) (i : Int)) (zerosP n n) := by
  refine down ?_ ?_
  · refine Ev.succ ?_
    simp only [impl_square.l0, nlt (Nat.le_refl n), if_false]
    exact Ev.now _
  · intro i hi ih
    refine Ev.succ ?_
    simp only [impl_square.l0, ilt hi, if_true]
    exact impl_square_l1 n hn i hi _ ih 0 (Nat.zero_le _)
theorem impl_square_ev (n : Nat) (hn : n ≤ 1048576) (z : Int) : Ev (fun k => impl_square.f k (n : Int) z) (zerosP n n) := by
  have := impl_square_l0 n hn 0 (Nat.zero_le _)
  simpa only [impl_square.f, List.replicate_zero, Int.natCast_zero] using this

theorem slices_Clone_int_int_e (l : List Int) (hl : l.length < 17592186044416) : slices_Clone_int_int.f l = some l := by
  simp only [slices_Clone_int_int.f, Option.bind_some, List.nil_append, List.length_nil, Nat.zero_add, hl, if_true]

theorem impl_monotone_l0 : ∀ (d : Nat) (m : List (List Int)) (a b : List Int) (i j : Nat), (a.length - i) + (b.length - j) < d → i ≤ a.length → j ≤ b.length → a.length ≤ 1048576 → b.length ≤ 1048576 → Shp m a.length b.length → Ev (fun k => impl_monotone.l0  k m a b (i : Int) (j : Int)) (carryN d m a b i j)
  | 0, _, _, _, _, _, h, _, _, _, _, _ => by omega
  | d + 1, m, a, b, i, j, h, hi, hj, ha, hb, hs => by
    unfold carryN
    refine Ev.succ ?_
    by_cases c1 : i < a.length
    · by_cases c2 : j < b.length
      · have r1 : i < m.length := by rw [hs.1]; exact c1
        have hrow : rd_L2 m (i : Int) = m.getD i [] := by simp [rd_L2]
        have hl := hs.row c1
        have r2 : j < (m.getD i []).length := by rw [hl]; exact c2
        have hs2 : Shp (m.set i ((m.getD i []).set j (wrap64 ((m.getD i []).getD j 0 + min (a.getD i 0) (b.getD j 0))))) a.length b.length := hs.set (by rw [List.length_set]; exact hl)
        rw [if_pos ⟨c1, c2⟩]
        simp only [impl_monotone.l0, ilt c1, ilt c2, inn, if_true, hrow, ilt r1, ilt r2, rd_get, Int.toNat_natCast, mn_eq, wnext c1 (by omega : a.length ≤ 4611686018427387904), wnext c2 (by omega : b.length ≤ 4611686018427387904)]
        by_cases c3 : (a.set i (wrap64 (a.getD i 0 - min (a.getD i 0) (b.getD j 0)))).getD i 0 = 0
        · simp only [c3, if_true]
          have := impl_monotone_l0 d (m.set i ((m.getD i []).set j (wrap64 ((m.getD i []).getD j 0 + min (a.getD i 0) (b.getD j 0))))) (a.set i (wrap64 (a.getD i 0 - min (a.getD i 0) (b.getD j 0)))) (b.set j (wrap64 (b.getD j 0 - min (a.getD i 0) (b.getD j 0)))) (i + 1) j (by simp only [List.length_set]; omega) (by simp only [List.length_set]; omega) (by simp only [List.length_set]; omega) (by simp only [List.length_set]; omega) (by simp only [List.length_set]; omega) (by simp only [List.length_set]; exact hs2)
          simpa only [List.length_set] using this
        · simp only [c3, if_false]
          have := impl_monotone_l0 d (m.set i ((m.getD i []).set j (wrap64 ((m.getD i []).getD j 0 + min (a.getD i 0) (b.getD j 0))))) (a.set i (wrap64 (a.getD i 0 - min (a.getD i 0) (b.getD j 0)))) (b.set j (wrap64 (b.getD j 0 - min (a.getD i 0) (b.getD j 0)))) i (j + 1) (by simp only [List.length_set]; omega) (by simp only [List.length_set]; omega) (by simp only [List.length_set]; omega) (by simp only [List.length_set]; omega) (by simp only [List.length_set]; omega) (by simp only [List.length_set]; exact hs2)
          simpa only [List.length_set] using this
      · rw [if_neg (by omega)]
        simp only [impl_monotone.l0, ilt c1, nlt (Nat.le_of_not_lt c2), if_true, if_false]
        exact Ev.now _
    · rw [if_neg (by omega)]
      simp only [impl_monotone.l0, nlt (Nat.le_of_not_lt c1), if_false]
      exact Ev.now _

theorem impl_monotone_ev (a b : List Int) (h : a.length = b.length) (h0 : 0 < a.length) (ha : a.length ≤ 1048576) : Ev (fun k => impl_monotone.f k a b) (monoP a b) := by
  simp only [impl_monotone.f, impl_monotone.c, slices_Clone_int_int_e a (by omega), slices_Clone_int_int_e b (by omega), Option.bind_some]
  refine Ev.bind (impl_square_ev a.length ha 0) ?_
  have hz : 0 < (zerosP a.length a.length).length := by simp [zerosP]; exact h0
  simp only [hz, if_true]
  exact impl_monotone_l0 _ (zerosP a.length a.length) a b 0 0 (by omega) (by omega) (by omega) ha (by omega) (h ▸ shp_zeros a.length a.length)

theorem impl_isLowering_l (m : List (List Int)) (h : Plan m) : ∀ i, i ≤ m.length → Ev (fun k => impl_isLowering.l0 k m (m.length : Int) (i : Int)) (lowGo i (m.drop i)) := by
  have hm := h.2.1
  refine down ?_ ?_
  · refine Ev.succ ?_
    simp only [impl_isLowering.l0, nlt (Nat.le_refl m.length), if_false, List.drop_length, lowGo]
    exact Ev.now _
  · intro i hi ih
    have hrow : rd_L2 m (i : Int) = m[i] := by simp [rd_L2, List.getD_eq_getElem?_getD, hi]
    have hl := (h.2.2 _ (List.getElem_mem hi)).1
    refine Ev.succ ?_
    simp only [impl_isLowering.l0, ilt hi, inn, if_true, hrow, wnext hi (by omega : m.length ≤ 4611686018427387904), ile (by omega : i + 1 ≤ m[i].length), Int.toNat_natCast]
    rw [drop_cons hi, lowGo]
    exact Ev.and (impl_allWithin_ev _ 0 0 (by rw [List.length_drop]; omega)) fun _ => ih
theorem impl_isLowering_ev (m : List (List Int)) (h : Plan m) : Ev (fun k => impl_isLowering.f k m) (lowGo 0 m) := by
  have := impl_isLowering_l m h 0 (Nat.zero_le _)
  simpa only [impl_isLowering.f, List.drop_zero, Int.natCast_zero] using this

theorem impl_LoweringPlan_ev (a b : List Int) (ha : a.length ≤ 1048576) (hb : b.length ≤ 1048576) : Ev (fun k => impl_LoweringPlan.f k a b) (if fits a b then (if lowGo 0 (monoP a b) then (monoP a b, true) else ([], false)) else (([] : List (List Int)), false)) := by
  simp only [impl_LoweringPlan.f]
  refine Ev.bind (impl_areFitting_ev a b ha hb) ?_
  cases c : fits a b with
  | false => simp only [Bool.false_eq_true, if_false]; exact Ev.now _
  | true =>
    simp only [if_true]
    have h := fits_iff.1 c
    have h1 := h.1.1
    refine Ev.bind (impl_monotone_ev a b h.2.2.1 (by omega) ha) ?_
    refine Ev.bind (impl_isLowering_ev _ (monoP_plan c)) ?_
    cases e : lowGo 0 (monoP a b) with
    | false => simp only [Bool.false_eq_true, if_false]; exact Ev.now _
    | true => simp only [if_true]; exact Ev.now _

theorem spec_l1In_e (a b c : Int) : spec_l1In.f a b c = some (wth a b c) := wth_opt a b c

theorem spec_l1All_l (l : List Int) (lo hi : Int) (hl : l.length ≤ 4611686018427387904) : ∀ i, i ≤ l.length → Ev (fun k => spec_l1All.l0 k lo hi l (l.length : Int) (i : Int)) (allW (l.drop i) lo hi) := by
  refine down ?_ ?_
  · refine Ev.succ ?_
    simp only [spec_l1All.l0, nlt (Nat.le_refl l.length), if_false, List.drop_length]
    exact Ev.now _
  · intro i hi ih
    refine Ev.succ ?_
    simp only [spec_l1All.l0, ilt hi, inn, if_true, spec_l1In_e, Option.bind_some, rd_lt hi, wnext hi hl]
    rw [drop_cons hi]
    exact Ev.andS fun _ => ih
theorem spec_l1All_ev (l : List Int) (lo hi : Int) (hl : l.length ≤ 4611686018427387904) : Ev (fun k => spec_l1All.f k l lo hi) (allW l lo hi) := by
  have := spec_l1All_l l lo hi hl 0 (Nat.zero_le _)
  simpa only [spec_l1All.f, List.drop_zero, Int.natCast_zero] using this

theorem spec_liGood_ev (l : List Int) (hl : l.length ≤ 4611686018427387904) : Ev (fun k => spec_liGood.f k l) (goodB l) := by
  simp only [spec_liGood.f, spec_l1In_e, Option.bind_some, goodB]
  exact Ev.andS fun _ => Ev.ret (f := fun t => t) (spec_l1All_ev l 0 60 hl)

theorem spec_liSum_l (l : List Int) (hl : l.length ≤ 4611686018427387904) : ∀ i, i ≤ l.length → ∀ acc, InR acc → Ev (fun k => spec_liSum.l0 k acc l (l.length : Int) (i : Int)) (wrap64 (acc + (l.drop i).sum)) := by
  refine down ?_ ?_
  · intro acc ha
    refine Ev.succ ?_
    simp only [spec_liSum.l0, nlt (Nat.le_refl l.length), if_false, List.drop_length, List.sum_nil, Int.add_zero, wR ha]
    exact Ev.now _
  · intro i hi ih acc ha
    refine Ev.succ ?_
    simp only [spec_liSum.l0, ilt hi, inn, if_true, rd_lt hi, wnext hi hl]
    rw [drop_cons hi, List.sum_cons, ← Int.add_assoc]
    exact (ih _ (inR_wrap _)).eqv (wr_add _ _)
theorem spec_liSum_ev (l : List Int) (hl : l.length ≤ 4611686018427387904) : Ev (fun k => spec_liSum.f k l) (wrap64 l.sum) := by
  have := spec_liSum_l l hl 0 (Nat.zero_le _) 0 inR_0
  simpa only [spec_liSum.f, List.drop_zero, Int.zero_add, Int.natCast_zero] using this
theorem spec_liSum_good {l : List Int} (h : Lst l) : Ev (fun k => spec_liSum.f k l) l.sum :=
  (spec_liSum_ev l (by have := h.2.1; omega)).eqv (w64 (by have := h.sum; omega) (by have := h.sum; omega))

theorem spec_liFit_ev {a b : List Int} (ha : Lst a) (hb : Lst b) : Ev (fun k => spec_liFit.f k a b) (decide (a.length = b.length) && decide (a.sum = b.sum)) := by
  simp only [spec_liFit.f]
  by_cases h : a.length = b.length
  · have h2 : (a.length : Int) = (b.length : Int) := by omega
    simp only [h2, if_true, h, decide_true, Bool.true_and]
    refine Ev.bind (spec_liSum_good ha) ?_
    exact Ev.ret (f := fun t => a.sum == t) (spec_liSum_good hb)
  · have h2 : ¬ (a.length : Int) = (b.length : Int) := by omega
    simp only [h2, if_false, h, decide_false, Bool.false_and]
    exact Ev.now _

theorem spec_plBoth_ev (a b : List Int) (ha : a.length ≤ 1048576) (hb : b.length ≤ 1048576) : Ev (fun k => spec_plBoth.f k a b) (fits a b) := by
  simp only [spec_plBoth.f]
  refine Ev.and (spec_liGood_ev a (by omega)) fun h => ?_
  refine Ev.and (spec_liGood_ev b (by omega)) fun h2 => ?_
  exact Ev.ret (f := fun t => t) (spec_liFit_ev (goodB_iff.1 h) (goodB_iff.1 h2))

theorem spec_plEmpty_l0 (n : Nat) (hn : n ≤ 1048576) : ∀ i, i ≤ n → Ev (fun k => spec_plEmpty.l0 k (n : Int) (List.replicate i (List.replicate n 0)) (i : Int)) (zerosP n n) := by
  refine down ?_ ?_
  · refine Ev.succ ?_
    simp only [spec_plEmpty.l0, nlt (Nat.le_refl n), if_false]
    exact Ev.now _
  · intro i hi ih
    have c1 : n ≤ 35184372088832 := by omega
    have c2 : (List.replicate i (List.replicate n (0 : Int))).length < 5864062014805 := by rw [List.length_replicate]; omega
    refine Ev.succ ?_
    simp only [spec_plEmpty.l0, ilt hi, inn, if_true, Int.toNat_natCast, c1, c2, wnext hi (by omega : n ≤ 4611686018427387904), ← List.replicate_succ']
    exact ih
theorem spec_plEmpty_ev (n : Nat) (hn : n ≤ 1048576) : Ev (fun k => spec_plEmpty.f k (n : Int)) (zerosP n n) := by
  have := spec_plEmpty_l0 n hn 0 (Nat.zero_le _)
  simpa only [spec_plEmpty.f, List.replicate_zero, Int.natCast_zero] using this

theorem spec_l1Least_e (a b : Int) : spec_l1Least.f a b = some (min a b) := by
  unfold spec_l1Least.f
  by_cases h : a < b
  · rw [if_pos h, show min a b = a by omega]
  · rw [if_neg h, show min a b = b by omega]

theorem spec_plMonotone_l0 : ∀ (d : Nat) (m : List (List Int)) (a b : List Int) (i j : Nat), (a.length - i) + (b.length - j) < d → i ≤ a.length → j ≤ b.length → a.length ≤ 1048576 → b.length ≤ 1048576 → Shp m a.length b.length → Ev (fun k => spec_plMonotone.l0 (a.length : Int) (b.length : Int) k m a b (i : Int) (j : Int)) (carryN d m a b i j)
  | 0, _, _, _, _, _, h, _, _, _, _, _ => by omega
  | d + 1, m, a, b, i, j, h, hi, hj, ha, hb, hs => by
    unfold carryN
    refine Ev.succ ?_
    by_cases c1 : i < a.length
    · by_cases c2 : j < b.length
      · have r1 : i < m.length := by rw [hs.1]; exact c1
        have hrow : rd_L2 m (i : Int) = m.getD i [] := by simp [rd_L2]
        have hl := hs.row c1
        have r2 : j < (m.getD i []).length := by rw [hl]; exact c2
        have hs2 : Shp (m.set i ((m.getD i []).set j (wrap64 ((m.getD i []).getD j 0 + min (a.getD i 0) (b.getD j 0))))) a.length b.length := hs.set (by rw [List.length_set]; exact hl)
        rw [if_pos ⟨c1, c2⟩]
        simp only [spec_plMonotone.l0, ilt c1, ilt c2, inn, if_true, hrow, ilt r1, ilt r2, rd_get, Int.toNat_natCast, spec_l1Least_e, Option.bind_some, wnext c1 (by omega : a.length ≤ 4611686018427387904), wnext c2 (by omega : b.length ≤ 4611686018427387904)]
        by_cases c3 : (a.set i (wrap64 (a.getD i 0 - min (a.getD i 0) (b.getD j 0)))).getD i 0 = 0
        · simp only [c3, if_true]
          have := spec_plMonotone_l0 d (m.set i ((m.getD i []).set j (wrap64 ((m.getD i []).getD j 0 + min (a.getD i 0) (b.getD j 0))))) (a.set i (wrap64 (a.getD i 0 - min (a.getD i 0) (b.getD j 0)))) (b.set j (wrap64 (b.getD j 0 - min (a.getD i 0) (b.getD j 0)))) (i + 1) j (by simp only [List.length_set]; omega) (by simp only [List.length_set]; omega) (by simp only [List.length_set]; omega) (by simp only [List.length_set]; omega) (by simp only [List.length_set]; omega) (by simp only [List.length_set]; exact hs2)
          simpa only [List.length_set] using this
        · simp only [c3, if_false]
          have := spec_plMonotone_l0 d (m.set i ((m.getD i []).set j (wrap64 ((m.getD i []).getD j 0 + min (a.getD i 0) (b.getD j 0))))) (a.set i (wrap64 (a.getD i 0 - min (a.getD i 0) (b.getD j 0)))) (b.set j (wrap64 (b.getD j 0 - min (a.getD i 0) (b.getD j 0)))) i (j + 1) (by simp only [List.length_set]; omega) (by simp only [List.length_set]; omega) (by simp only [List.length_set]; omega) (by simp only [List.length_set]; omega) (by simp only [List.length_set]; omega) (by simp only [List.length_set]; exact hs2)
          simpa only [List.length_set] using this
      · rw [if_neg (by omega)]
        simp only [spec_plMonotone.l0, ilt c1, nlt (Nat.le_of_not_lt c2), if_true, if_false]
        exact Ev.now _
    · rw [if_neg (by omega)]
      simp only [spec_plMonotone.l0, nlt (Nat.le_of_not_lt c1), if_false]
      exact Ev.now _

theorem spec_plMonotone_ev (a b : List Int) (h : a.length = b.length) (h0 : 0 < a.length) (ha : a.length ≤ 1048576) : Ev (fun k => spec_plMonotone.f k a b) (monoP a b) := by
  simp only [spec_plMonotone.f, spec_l1Own_e a (by omega), spec_l1Own_e b (by omega), Option.bind_some]
  refine Ev.bind (spec_plEmpty_ev a.length ha) ?_
  have hz : 0 < (zerosP a.length a.length).length := by simp [zerosP]; exact h0
  simp only [hz, if_true]
  exact spec_plMonotone_l0 _ (zerosP a.length a.length) a b 0 0 (by omega) (by omega) (by omega) ha (by omega) (h ▸ shp_zeros a.length a.length)

theorem spec_plCells_l1 (m : List (List Int)) (hm : m.length ≤ 8) (o : Nat) (ho : o < 8) (R : List S45) (l : List Int) (hl : l.length ≤ 8)
    (hk : ∀ out, out.length ≤ 8 * (o + 1) → Ev (fun k => spec_plCells.l0 k out m (m.length : Int) (wrap64 ((o : Int) + 1))) (out ++ R)) :
    ∀ i, i ≤ l.length → ∀ out, out.length ≤ 8 * o + i → Ev (fun k => spec_plCells.l1 k out (o : Int) m (m.length : Int) (o : Int) l (l.length : Int) (i : Int)) (out ++ ((cellsRow o i (l.drop i)).map fun p => (⟨(p.1 : Int), (p.2 : Int)⟩ : S45)) ++ R) := by
  refine down ?_ ?_
  · intro out hout
    refine Ev.succ ?_
    simp only [spec_plCells.l1, nlt (Nat.le_refl l.length), if_false, List.drop_length, cellsRow, List.map_nil, List.append_nil]
    exact hk out (by omega)
  · intro i hi ih out hout
    have lim : out.length < 8796093022208 := by omega
    refine Ev.succ ?_
    simp only [spec_plCells.l1, ilt hi, inn, if_true, rd_lt hi, wnext hi (by omega : l.length ≤ 4611686018427387904), lim]
    rw [drop_cons hi, cellsRow]
    by_cases c : l[i] > 0
    · simp only [c, if_true]
      exact (ih _ (by rw [List.length_append]; simp only [List.length_cons, List.length_nil]; omega)).eqv (by simp)
    · simp only [c, if_false]
      exact ih _ (by omega)
theorem spec_plCells_l0 (m : List (List Int)) (h : Plan m) : ∀ i, i ≤ m.length → ∀ out, out.length ≤ 8 * i → Ev (fun k => spec_plCells.l0 k out m (m.length : Int) (i : Int)) (out ++ ((cellsGo i (m.drop i)).map fun p => (⟨(p.1 : Int), (p.2 : Int)⟩ : S45))) := by
  have hm := h.2.1
  refine down ?_ ?_
  · intro out hout
    refine Ev.succ ?_
    simp only [spec_plCells.l0, nlt (Nat.le_refl m.length), if_false, List.drop_length, cellsGo, List.map_nil, List.append_nil]
    exact Ev.now _
  · intro i hi ih out hout
    have hrow : rd_L2 m (i : Int) = m[i] := by simp [rd_L2, List.getD_eq_getElem?_getD, hi]
    have hl := (h.2.2 _ (List.getElem_mem hi)).1
    refine Ev.succ ?_
    simp only [spec_plCells.l0, ilt hi, inn, if_true, hrow]
    refine (spec_plCells_l1 m hm i (by omega) ((cellsGo (i + 1) (m.drop (i + 1))).map fun p => (⟨(p.1 : Int), (p.2 : Int)⟩ : S45)) m[i] (by omega) (fun out hout => ?_) 0 (Nat.zero_le _) out (by omega)).eqv ?_
    · rw [wnext hi (by omega)]
      exact ih out hout
    · rw [List.drop_zero, drop_cons hi, cellsGo, List.map_append, List.append_assoc]
theorem spec_plCells_ev (m : List (List Int)) (h : Plan m) : Ev (fun k => spec_plCells.f k m) ((cellsGo 0 m).map fun p => (⟨(p.1 : Int), (p.2 : Int)⟩ : S45)) := by
  have := spec_plCells_l0 m h 0 (Nat.zero_le _) [] (by simp)
  simpa only [spec_plCells.f, List.drop_zero, List.nil_append, Int.natCast_zero] using this

theorem spec_plLowering_l (L : List (Nat × Nat)) (hL : L.length ≤ 1048576) : ∀ i, i ≤ L.length → Ev (fun k => spec_plLowering.l0 k (L.map fun p => (⟨(p.1 : Int), (p.2 : Int)⟩ : S45)) (L.length : Int) (i : Int)) ((L.drop i).all fun p => decide (p.2 ≤ p.1)) := by
  refine down ?_ ?_
  · refine Ev.succ ?_
    simp only [spec_plLowering.l0, nlt (Nat.le_refl L.length), if_false, List.drop_length, List.all_nil]
    exact Ev.now _
  · intro i hi ih
    have hrow : rd_T45 (L.map fun p => (⟨(p.1 : Int), (p.2 : Int)⟩ : S45)) (i : Int) = ⟨(L[i].1 : Int), (L[i].2 : Int)⟩ := by simp [rd_T45, List.getD_eq_getElem?_getD, hi]
    refine Ev.succ ?_
    simp only [spec_plLowering.l0, List.length_map, ilt hi, inn, if_true, hrow, wnext hi (by omega : L.length ≤ 4611686018427387904)]
    rw [drop_cons hi, List.all_cons]
    by_cases c : L[i].2 ≤ L[i].1
    · have c2 : ¬ (L[i].2 : Int) > (L[i].1 : Int) := by omega
      simp only [c2, if_false, c, decide_true, Bool.true_and]
      exact ih
    · have c2 : (L[i].2 : Int) > (L[i].1 : Int) := by omega
      simp only [c2, if_true, c, decide_false, Bool.false_and]
      exact Ev.now _
theorem spec_plLowering_ev (m : List (List Int)) (h : Plan m) : Ev (fun k => spec_plLowering.f k m) (lowGo 0 m) := by
  simp only [spec_plLowering.f]
  refine Ev.bind (spec_plCells_ev m h) ?_
  have := spec_plLowering_l (cellsGo 0 m) (by have := cellsGo_len h; omega) 0 (Nat.zero_le _)
  rw [List.drop_zero, low_cells m 0 (fun r hr x hx => ((h.2.2 r hr).2 x hx).1)] at this
  simpa only [List.length_map, Int.natCast_zero] using this

theorem spec_LoweringPlan_ev (a b : List Int) (ha : a.length ≤ 1048576) (hb : b.length ≤ 1048576) : Ev (fun k => spec_LoweringPlan.f k a b) (if fits a b then (if lowGo 0 (monoP a b) then (monoP a b, true) else ([], false)) else (([] : List (List Int)), false)) := by
  simp only [spec_LoweringPlan.f]
  refine Ev.bind (spec_plBoth_ev a b ha hb) ?_
  cases c : fits a b with
  | false => simp only [Bool.false_eq_true, if_false]; exact Ev.now _
  | true =>
    simp only [if_true]
    have h := fits_iff.1 c
    have h1 := h.1.1
    refine Ev.bind (spec_plMonotone_ev a b h.2.2.1 (by omega) ha) ?_
    refine Ev.bind (spec_plLowering_ev _ (monoP_plan c)) ?_
    cases e : lowGo 0 (monoP a b) with
    | false => simp only [Bool.false_eq_true, if_false]; exact Ev.now _
    | true =>
      simp only [if_true]
      exact Ev.ret (f := fun t => (t, true)) (spec_plMonotone_ev a b h.2.2.1 (by omega) ha)

theorem impl_ahead_l {a b : List Int} (he : a.length = b.length) (hl : a.length ≤ 1048576) (ha : ∀ x ∈ a, 0 ≤ x ∧ x ≤ 60) (hb : ∀ x ∈ b, 0 ≤ x ∧ x ≤ 60) : ∀ i, i ≤ a.length → ∀ (out : List Int) (s : Int), out.length = i → -60 * (i : Int) ≤ s → s ≤ 60 * i → Ev (fun k => impl_ahead.l0 k b out s a (a.length : Int) (i : Int)) (out ++ dsums s (a.drop i) (b.drop i)) := by
  refine down ?_ ?_
  · intro out s ho h0 h1
    refine Ev.succ ?_
    simp only [impl_ahead.l0, nlt (Nat.le_refl a.length), if_false, List.drop_length, dsums, List.append_nil]
    exact Ev.now _
  · intro i hi ih out s ho h0 h1
    have h2 : i < b.length := by omega
    have b0 := ha _ (List.getElem_mem hi)
    have b1 := hb _ (List.getElem_mem h2)
    have c : out.length < 17592186044416 := by omega
    refine Ev.succ ?_
    simp only [impl_ahead.l0, ilt hi, ilt h2, inn, if_true, rd_lt hi, rd_lt h2, wnext hi (by omega : a.length ≤ 4611686018427387904), c, w64 (x := a[i] - b[i]) (by omega) (by omega), w64 (x := s + (a[i] - b[i])) (by omega) (by omega)]
    rw [drop_cons hi, drop_cons h2, dsums]
    exact (ih _ _ (by simp [ho]) (by omega) (by omega)).eqv (by simp)
theorem impl_ahead_ev {a b : List Int} (ha : Lst a) (hb : Lst b) (he : a.length = b.length) : Ev (fun k => impl_ahead.f k a b) (dsums 0 a b) := by
  have := impl_ahead_l he (by have := ha.2.1; omega) ha.2.2 hb.2.2 0 (Nat.zero_le _) [] 0 rfl (by omega) (by omega)
  simpa only [impl_ahead.f, List.drop_zero, List.nil_append, Int.natCast_zero] using this

theorem impl_LowerRefusal_l {X : List Int} (hl : X.length ≤ 1048576) : ∀ i, i ≤ X.length → Ev (fun k => impl_LowerRefusal.l0 k X (X.length : Int) (i : Int)) (fpos i (X.drop i)) := by
  refine down ?_ ?_
  · refine Ev.succ ?_
    simp only [impl_LowerRefusal.l0, nlt (Nat.le_refl X.length), if_false, List.drop_length, fpos]
    exact Ev.now _
  · intro i hi ih
    refine Ev.succ ?_
    simp only [impl_LowerRefusal.l0, ilt hi, inn, if_true, rd_lt hi, wnext hi (by omega : X.length ≤ 4611686018427387904)]
    rw [drop_cons hi, fpos]
    by_cases c : X[i] > 0
    · simp only [c, if_true]; exact Ev.now _
    · simp only [c, if_false]; exact ih
theorem impl_LowerRefusal_ev (a b : List Int) (ha : a.length ≤ 1048576) (hb : b.length ≤ 1048576) : Ev (fun k => impl_LowerRefusal.f k a b) (if fits a b then fpos 0 (dsums 0 a b) else (0, false)) := by
  simp only [impl_LowerRefusal.f]
  refine Ev.bind (impl_areFitting_ev a b ha hb) ?_
  cases h : fits a b with
  | false => simp only [Bool.false_eq_true, if_false]; exact Ev.now _
  | true =>
    simp only [if_true]
    obtain ⟨h1, h2, h3, h4⟩ := fits_iff.1 h
    refine Ev.bind (impl_ahead_ev h1 h2 h3) ?_
    have := impl_LowerRefusal_l (X := dsums 0 a b) (by rw [dsums_length _ _ _ h3]; exact ha) 0 (Nat.zero_le _)
    rw [List.drop_zero] at this
    exact this

theorem spec_liSums_l (l : List Int) (hl : l.length ≤ 1048576) (hb : ∀ x ∈ l, 0 ≤ x ∧ x ≤ 60) : ∀ i, i ≤ l.length → ∀ (out : List Int) (s : Int), out.length = i → 0 ≤ s → s ≤ 60 * i → Ev (fun k => spec_liSums.l0 k out s l (l.length : Int) (i : Int)) (out ++ psums s (l.drop i)) := by
  refine down ?_ ?_
  · intro out s ho h0 h1
    refine Ev.succ ?_
    simp only [spec_liSums.l0, nlt (Nat.le_refl l.length), if_false, List.drop_length, psums, List.append_nil]
    exact Ev.now _
  · intro i hi ih out s ho h0 h1
    have b := hb _ (List.getElem_mem hi)
    have c : out.length < 17592186044416 := by omega
    refine Ev.succ ?_
    simp only [spec_liSums.l0, ilt hi, inn, if_true, rd_lt hi, wnext hi (by omega : l.length ≤ 4611686018427387904), c, w64 (x := s + l[i]) (by omega) (by omega)]
    rw [drop_cons hi, psums]
    exact (ih _ _ (by simp [ho]) (by omega) (by omega)).eqv (by simp)
theorem spec_liSums_ev (l : List Int) (hl : l.length ≤ 1048576) (hb : ∀ x ∈ l, 0 ≤ x ∧ x ≤ 60) : Ev (fun k => spec_liSums.f k l) (psums 0 l) := by
  have := spec_liSums_l l hl hb 0 (Nat.zero_le _) [] 0 rfl (by omega) (by omega)
  simpa only [spec_liSums.f, List.drop_zero, List.nil_append, Int.natCast_zero] using this

theorem spec_LowerRefusal_l {X Y : List Int} (he : X.length = Y.length) (hl : X.length ≤ 1048576) : ∀ i, i ≤ X.length → Ev (fun k => spec_LowerRefusal.l0 k X Y (X.length : Int) (i : Int)) (fgt i (X.drop i) (Y.drop i)) := by
  refine down ?_ ?_
  · refine Ev.succ ?_
    simp only [spec_LowerRefusal.l0, nlt (Nat.le_refl X.length), if_false, List.drop_length, fgt]
    exact Ev.now _
  · intro i hi ih
    have h2 : i < Y.length := by omega
    refine Ev.succ ?_
    simp only [spec_LowerRefusal.l0, ilt hi, ilt h2, inn, if_true, rd_lt hi, rd_lt h2, wnext hi (by omega : X.length ≤ 4611686018427387904)]
    rw [drop_cons hi, drop_cons h2, fgt]
    by_cases c : X[i] > Y[i]
    · simp only [c, if_true]; exact Ev.now _
    · simp only [c, if_false]; exact ih
theorem spec_LowerRefusal_ev (a b : List Int) (ha : a.length ≤ 1048576) (hb : b.length ≤ 1048576) : Ev (fun k => spec_LowerRefusal.f k a b) (if fits a b then fpos 0 (dsums 0 a b) else (0, false)) := by
  simp only [spec_LowerRefusal.f]
  refine Ev.bind (spec_plBoth_ev a b ha hb) ?_
  cases h : fits a b with
  | false => simp only [Bool.false_eq_true, if_false]; exact Ev.now _
  | true =>
    simp only [if_true]
    obtain ⟨h1, h2, h3, h4⟩ := fits_iff.1 h
    refine Ev.bind (spec_liSums_ev a ha h1.2.2) ?_
    refine Ev.bind (spec_liSums_ev b hb h2.2.2) ?_
    have := spec_LowerRefusal_l (X := psums 0 a) (Y := psums 0 b) (by rw [psums_length, psums_length, h3]) (by rw [psums_length]; exact ha) 0 (Nat.zero_le _)
    rw [List.drop_zero, List.drop_zero, fgt_psums _ _ _ _ _ h3] at this
    exact this

theorem impl_IsLowering_ev (m : List (List Int)) (h : Siz m) : Ev (fun k => impl_IsLowering.f k m) (if planB m then (lowGo 0 m, true) else (false, false)) := by
  simp only [impl_IsLowering.f]
  refine Ev.bind (impl_isPlan_ev m h) ?_
  cases c : planB m with
  | false => simp only [Bool.false_eq_true, if_false]; exact Ev.now _
  | true =>
    simp only [if_true]
    exact Ev.ret (f := fun t => (t, true)) (impl_isLowering_ev m (planB_iff.1 c))

theorem siz_set {m : List (List Int)} (h : Siz m) (i : Nat) {r : List Int} (hr : r.length ≤ 1048576) : Siz (m.set i r) := ⟨by rw [List.length_set]; exact h.1, fun q hq => by
  rcases List.mem_or_eq_of_mem_set hq with hq | hq
  · exact h.2 q hq
  · rw [hq]; exact hr⟩
theorem spec_l1Cur_planOf_l {c : List Int} (hc : Bts c) (n : Nat) (h1 : 1 ≤ n) (hn : n ≤ 9) : ∀ (d : Nat) (m : List (List Int)) (a s b : Int), Shp m n n → d ≤ 1048576 → At a b → b + 6 * d + 30 ≤ 134217728 → Ex (fun k => spec_l1Cur_planOf.l0 k (n : Int) m (d : Int) c a s) (fun r => Siz r.1 ∧ At r.2.1 (b + 6 * d + 20))
  | 0, m, a, s, b, hm, hd, ha, hb => by
    have c0 : ¬ (((0 : Nat) : Int) > 0) := by omega
    have hl := hm.1
    have hsz : Siz m := hm.siz (by omega) (by omega)
    refine Ex.succ ?_
    simp only [spec_l1Cur_planOf.l0, c0, if_false]
    refine Ex.bind (spec_l1Cur_pick_x hc a s b 14 ha (by omega)) fun r hr => ?_
    by_cases c1 : r.1 = 0
    · simp only [c1, if_true]
      refine Ex.bind (spec_l1Cur_pick_x hc _ _ (b + 2) (n : Int) hr.2.2 (by omega)) fun q hq => ?_
      have q0 := hq.1
      have q1 : q.1 < (m.length : Int) := by have := hq.2.1 (by omega); omega
      simp only [q0, q1, if_true]
      refine Ex.bind (spec_l1Cur_pick_x hc _ _ (b + 2 + 2) (n : Int) hq.2.2 (by omega)) fun z hz => ?_
      refine Ex.bind (spec_l1Cur_among_x hc _ _ (b + 2 + 2 + 2) _ (by simp) hz.2.2 (by omega)) fun y hy => ?_
      have z0 := hz.1
      have e : (rd_L2 m q.1).length = n := hm.row (i := q.1.toNat) (by omega)
      have z1 : z.1 < ((rd_L2 m q.1).length : Int) := by have := hz.2.1 (by omega); rw [e]; omega
      simp only [z0, z1, if_true]
      exact Ex.now ⟨siz_set hsz _ (by rw [List.length_set, e]; omega), hy.2.1, Int.le_trans hy.2.2 (by omega)⟩
    · simp only [c1, if_false]
      by_cases c2 : r.1 = 1
      · simp only [c2, if_true]
        refine Ex.bind (spec_l1Cur_pick_x hc _ _ (b + 2) (n : Int) hr.2.2 (by omega)) fun q hq => ?_
        refine Ex.bind (spec_l1Cur_list_x hc _ _ (b + 2 + 2) 3 hq.2.2 (by omega)) fun y hy => ?_
        have q0 := hq.1
        have q1 : q.1 < (m.length : Int) := by have := hq.2.1 (by omega); omega
        simp only [q0, q1, if_true]
        exact Ex.now ⟨siz_set hsz _ (by have := hy.2.1; omega), hy.2.2.1, Int.le_trans hy.2.2.2 (by omega)⟩
      · simp only [c2, if_false]
        exact Ex.now ⟨hsz, hr.2.2.1, Int.le_trans hr.2.2.2 (by omega)⟩
  | d + 1, m, a, s, b, hm, hd, ha, hb => by
    have c0 : ((d + 1 : Nat) : Int) > 0 := by omega
    have e0 : wrap64 (((d + 1 : Nat) : Int) - 1) = (d : Int) := wprev (by omega)
    have hl := hm.1
    refine Ex.succ ?_
    simp only [spec_l1Cur_planOf.l0, c0, if_true, e0]
    refine Ex.bind (spec_l1Cur_pick_x hc a s b (n : Int) ha (by omega)) fun q hq => ?_
    have q0 := hq.1
    have q1 : q.1 < (m.length : Int) := by have := hq.2.1 (by omega); omega
    simp only [q0, q1, if_true]
    refine Ex.bind (spec_l1Cur_pick_x hc _ _ (b + 2) (n : Int) hq.2.2 (by omega)) fun z hz => ?_
    have z0 := hz.1
    have e : (rd_L2 m q.1).length = n := hm.row (i := q.1.toNat) (by omega)
    have z1 : z.1 < ((rd_L2 m q.1).length : Int) := by have := hz.2.1 (by omega); rw [e]; omega
    simp only [z0, z1, if_true]
    refine Ex.bind (spec_l1Cur_pick_x hc _ _ (b + 2 + 2) 4 hz.2.2 (by omega)) fun y hy => ?_
    refine Ex.mono (spec_l1Cur_planOf_l hc n h1 hn d _ _ _ (b + 2 + 2 + 2) (hm.set (by rw [List.length_set]; exact e)) (by omega) hy.2.2 (by omega)) fun w hw => ?_
    exact ⟨hw.1, hw.2.1, Int.le_trans hw.2.2 (by omega)⟩
theorem spec_l1Cur_planOf_x {c : List Int} (hc : Bts c) (a s b n : Int) (h1 : 1 ≤ n) (hn : n ≤ 9) (ha : At a b) (hb : b ≤ 1048576) : Ex (fun k => spec_l1Cur_planOf.f k c a s n) (fun r => Siz r.1 ∧ At r.2.1 (b + 100)) := by
  simp only [spec_l1Cur_planOf.f]
  have en : n = ((n.toNat : Nat) : Int) := by omega
  rw [en]
  refine Ex.bind (P := fun m => m = zerosP n.toNat n.toNat) ⟨_, spec_plEmpty_ev n.toNat (by omega), rfl⟩ fun m hm => ?_
  refine Ex.bind (spec_l1Cur_pick_x hc a s b 7 ha (by omega)) fun r hr => ?_
  have r0 := hr.1
  have r1 := hr.2.1 (by omega)
  have er : r.1 = ((r.1.toNat : Nat) : Int) := by omega
  rw [er]
  refine Ex.mono (spec_l1Cur_planOf_l hc n.toNat (by omega) (by omega) r.1.toNat m _ _ (b + 2) (by rw [hm]; exact shp_zeros _ _) (by omega) hr.2.2 (by omega)) fun w hw => ?_
  exact ⟨hw.1, hw.2.1, Int.le_trans hw.2.2 (by omega)⟩

theorem spec_l1Cur_places_x {c : List Int} (hc : Bts c) (a s b : Int) (ha : At a b) (hb : b ≤ 1048576) : Ex (fun _ => spec_l1Cur_places.f c a s) (fun r => 1 ≤ r.1 ∧ r.1 ≤ 9 ∧ At r.2.1 (b + 4)) := by
  simp only [spec_l1Cur_places.f]
  refine Ex.bind (spec_l1Cur_one_x hc a s b 10 ha (by omega)) fun r hr => ?_
  by_cases c1 : r.1 = true
  · simp only [c1, if_true]
    refine Ex.bind (spec_l1Cur_pick_x hc _ _ (b + 2) 2 hr (by omega)) fun q hq => ?_
    have q0 := hq.1
    have q1 := hq.2.1 (by omega)
    have e : wrap64 (8 + q.1) = 8 + q.1 := w64 (by omega) (by omega)
    refine Ex.now ⟨?_, ?_, hq.2.2.1, Int.le_trans hq.2.2.2 (by omega)⟩ <;> simp only [e] <;> omega
  · simp only [c1, if_false]
    refine Ex.bind (spec_l1Cur_pick_x hc _ _ (b + 2) 5 hr (by omega)) fun q hq => ?_
    have q0 := hq.1
    have q1 := hq.2.1 (by omega)
    have e : wrap64 (1 + q.1) = 1 + q.1 := w64 (by omega) (by omega)
    refine Ex.now ⟨?_, ?_, hq.2.2.1, Int.le_trans hq.2.2.2 (by omega)⟩ <;> simp only [e] <;> omega

theorem spec_plGood_l (m : List (List Int)) (h : Siz m) : ∀ i, i ≤ m.length → Ev (fun k => spec_plGood.l0 k m m (m.length : Int) (i : Int)) ((m.drop i).all (rowOk m.length)) := by
  have hm := h.1
  refine down ?_ ?_
  · refine Ev.succ ?_
    simp only [spec_plGood.l0, nlt (Nat.le_refl m.length), if_false, List.drop_length, List.all_nil]
    exact Ev.now _
  · intro i hi ih
    have hrow : rd_L2 m (i : Int) = m[i] := by simp [rd_L2, List.getD_eq_getElem?_getD, hi]
    refine Ev.succ ?_
    simp only [spec_plGood.l0, ilt hi, inn, if_true, hrow, wnext hi (by omega : m.length ≤ 4611686018427387904)]
    rw [drop_cons hi, List.all_cons]
    by_cases c : m[i].length = m.length
    · have c2 : (m[i].length : Int) = (m.length : Int) := by omega
      simp only [c2, if_true, rowOk, c, decide_true, Bool.true_and]
      exact Ev.and (spec_l1All_ev m[i] 0 60 (by have := h.2 _ (List.getElem_mem hi); omega)) fun _ => ih
    · have c2 : ¬ (m[i].length : Int) = (m.length : Int) := by omega
      simp only [c2, if_false, rowOk, c, decide_false, Bool.false_and]
      exact Ev.now _
theorem spec_plGood_ev (m : List (List Int)) (h : Siz m) : Ev (fun k => spec_plGood.f k m) (planB m) := by
  simp only [spec_plGood.f, spec_l1In_e, Option.bind_some, planB]
  exact Ev.andS fun _ => spec_plGood_l m h 0 (Nat.zero_le _)

theorem spec_DrawIsLowering_l1 (n : Nat) (hn : n ≤ 8) (i : Nat) (hi : i < n) (hK : ∀ m : List (List Int), Shp m n n → Ex (fun k => spec_DrawIsLowering.l0 k m (n : Int) (wrap64 ((i : Int) + 1))) (fun r => Siz r)) : ∀ (d j : Nat) (m : List (List Int)), j + d = n → Shp m n n → Ex (fun k => spec_DrawIsLowering.l1 k m (i : Int) (n : Int) (i : Int) (n : Int) (j : Int)) (fun r => Siz r)
  | 0, j, m, hj, hm => by
    refine Ex.succ ?_
    simp only [spec_DrawIsLowering.l1, nlt (show n ≤ j by omega), if_false]
    exact hK m hm
  | d + 1, j, m, hj, hm => by
    have hjn : j < n := by omega
    have hl := hm.1
    have e : (rd_L2 m (i : Int)).length = n := hm.row (i := i) (by omega)
    have c1 : (i : Int) < (m.length : Int) := by omega
    have c2 : (j : Int) < ((rd_L2 m (i : Int)).length : Int) := by rw [e]; omega
    refine Ex.succ ?_
    by_cases c : (j : Int) > (i : Int)
    · simp only [spec_DrawIsLowering.l1, ilt hjn, inn, if_true, c, c1, c2, wnext hjn (by omega)]
      exact spec_DrawIsLowering_l1 n hn i hi hK d (j + 1) _ (by omega) (hm.set (by rw [List.length_set]; exact e))
    · simp only [spec_DrawIsLowering.l1, ilt hjn, inn, if_true, c, if_false, wnext hjn (by omega)]
      exact spec_DrawIsLowering_l1 n hn i hi hK d (j + 1) m (by omega) hm
theorem spec_DrawIsLowering_l0 (n : Nat) (hn : n ≤ 8) : ∀ (d i : Nat) (m : List (List Int)), i + d = n → Shp m n n → Ex (fun k => spec_DrawIsLowering.l0 k m (n : Int) (i : Int)) (fun r => Siz r)
  | 0, i, m, hi, hm => by
    refine Ex.succ ?_
    simp only [spec_DrawIsLowering.l0, nlt (show n ≤ i by omega), if_false]
    exact Ex.now (hm.siz (by omega) (by omega))
  | d + 1, i, m, hi, hm => by
    have hin : i < n := by omega
    have hl := hm.1
    have e : (rd_L2 m (i : Int)).length = n := hm.row (i := i) (by omega)
    have c1 : (i : Int) < (m.length : Int) := by omega
    refine Ex.succ ?_
    simp only [spec_DrawIsLowering.l0, ilt hin, inn, if_true, c1, e]
    refine spec_DrawIsLowering_l1 n hn i hin (fun m' hm' => ?_) n 0 m (by omega) hm
    rw [wnext hin (by omega)]
    exact spec_DrawIsLowering_l0 n hn d (i + 1) m' (by omega) hm'
theorem spec_DrawIsLowering_x {c : List Int} (hc : Bts c) : Ex (fun k => spec_DrawIsLowering.f k c) (fun r => Siz r) := by
  simp only [spec_DrawIsLowering.f]
  refine Ex.bind (spec_l1Cur_places_x hc 0 0 0 ⟨by omega, by omega⟩ (by omega)) fun r hr => ?_
  refine Ex.bind (spec_l1Cur_planOf_x hc _ _ (0 + 4) r.1 hr.1 hr.2.1 hr.2.2 (by omega)) fun q hq => ?_
  have other : ∀ (x : List (List Int)), Siz x → Ex (fun k => spec_DrawIsLowering.j0 k x false) (fun r => Siz r) := fun x hx => by
    refine Ex.succ ?_
    simp only [spec_DrawIsLowering.j0, Bool.false_eq_true, if_false]
    exact Ex.now hx
  refine Ex.bind (P := fun t => t = planB q.1) ⟨_, spec_plGood_ev q.1 hq.1, rfl⟩ fun t ht => ?_
  by_cases h : t = true
  · simp only [h, if_true]
    have hp : Plan q.1 := planB_iff.1 (by rw [← ht]; exact h)
    refine Ex.bind (spec_l1Cur_one_x hc _ _ (0 + 4 + 100) 2 hq.2 (by omega)) fun z hz => ?_
    by_cases c1 : z.1 = true
    · rw [c1]
      refine Ex.succ ?_
      simp only [spec_DrawIsLowering.j0, if_true]
      exact spec_DrawIsLowering_l0 q.1.length hp.2.1 q.1.length 0 q.1 (by omega) hp.shp
    · have c2 : z.1 = false := Bool.eq_false_iff.2 c1
      rw [c2]
      exact other _ hq.1
  · simp only [h, if_false]
    exact other _ hq.1

theorem spec_IsLowering_ev (m : List (List Int)) (h : Siz m) : Ev (fun k => spec_IsLowering.f k m) (if planB m then (lowGo 0 m, true) else (false, false)) := by
  simp only [spec_IsLowering.f]
  refine Ev.bind (spec_plGood_ev m h) ?_
  cases c : planB m with
  | false => simp only [Bool.false_eq_true, if_false]; exact Ev.now _
  | true =>
    simp only [if_true]
    exact Ev.ret (f := fun t => (t, true)) (spec_plLowering_ev m (planB_iff.1 c))

theorem laws_pFit_ev {a b : List Int} (ha : Lst a) (hb : Lst b) : Ev (fun k => laws_pFit.f k a b) (decide (a.length = b.length) && decide (a.sum = b.sum)) := by
  simp only [laws_pFit.f]
  by_cases h : a.length = b.length
  · have h2 : (a.length : Int) = (b.length : Int) := by omega
    simp only [h2, if_true, h, decide_true, Bool.true_and]
    refine Ev.bind (laws_pSum_good ha) ?_
    exact Ev.ret (f := fun t => a.sum == t) (laws_pSum_good hb)
  · have h2 : ¬ (a.length : Int) = (b.length : Int) := by omega
    simp only [h2, if_false, h, decide_false, Bool.false_and]
    exact Ev.now _

theorem siz_nil : Siz [] := ⟨by simp, fun r hr => by cases hr⟩
def lowV (a b : List Int) : List (List Int) × Bool := if fits a b then (if lowGo 0 (monoP a b) then (monoP a b, true) else ([], false)) else ([], false)
def refV (a b : List Int) : Int × Bool := if fits a b then fpos 0 (dsums 0 a b) else (0, false)
theorem lowV_siz (a b : List Int) : Siz (lowV a b).1 := by
  unfold lowV
  cases hf : fits a b with
  | false => exact siz_nil
  | true =>
    cases hl : lowGo 0 (monoP a b) with
    | false => exact siz_nil
    | true => exact (monoP_plan hf).siz
theorem fits_is (a b : List Int) : fits a b = (goodB a && (goodB b && (decide (a.length = b.length) && decide (a.sum = b.sum)))) := rfl
theorem FnLoweringPlans_j4 {a b : List Int} (ha : a.length ≤ 1048576) (hb : b.length ≤ 1048576) : Ev (fun k => laws_FnLoweringPlans.j4 k a b (lowV a b).2 (refV a b).2) true := by
  have off : fits a b = false → (lowV a b).2 = false ∧ (refV a b).2 = false := fun e => by unfold lowV refV; rw [e]; exact ⟨rfl, rfl⟩
  refine Ev.succ ?_
  simp only [laws_FnLoweringPlans.j4]
  refine Ev.bind (impl_IsList_ev a (by omega)) ?_
  cases g1 : goodB a with
  | false =>
    have e := off (by rw [fits_is, g1]; rfl)
    simp only [Bool.false_eq_true, if_false, e.1, e.2, Bool.not_false]
    exact Ev.now _
  | true =>
    simp only [if_true]
    refine Ev.bind (impl_IsList_ev b (by omega)) ?_
    cases g2 : goodB b with
    | false =>
      have e := off (by rw [fits_is, g1, g2]; rfl)
      simp only [Bool.false_eq_true, if_false, e.1, e.2, Bool.not_false]
      exact Ev.now _
    | true =>
      simp only [if_true]
      refine Ev.bind (laws_pFit_ev (goodB_iff.1 g1) (goodB_iff.1 g2)) ?_
      cases g3 : decide (a.length = b.length) && decide (a.sum = b.sum) with
      | false =>
        have e := off (by rw [fits_is, g1, g2, g3]; rfl)
        simp only [Bool.false_eq_true, if_false, e.1, e.2, Bool.not_false]
        exact Ev.now _
      | true =>
        have hf : fits a b = true := by rw [fits_is, g1, g2, g3]; rfl
        have e1 : (lowV a b).2 = lowGo 0 (monoP a b) := by
          unfold lowV
          rw [if_pos hf]
          cases lowGo 0 (monoP a b) <;> rfl
        have e2 : (refV a b).2 = (fpos 0 (dsums 0 a b)).2 := by unfold refV; rw [if_pos hf]
        simp only [if_true, e1, e2, low_refuse hf, beq_self_eq_true]
        exact Ev.now _
theorem FnLoweringPlans_j2 {c a b : List Int} (hc : Bts c) (ha : a.length ≤ 1048576) (hb : b.length ≤ 1048576) : Ev (fun k => laws_FnLoweringPlans.j2 k c a b (lowV a b).2 (refV a b).2 false) true := by
  refine Ev.succ ?_
  simp only [laws_FnLoweringPlans.j2, Bool.false_eq_true, if_false]
  refine Ex.ev (spec_DrawIsLowering_x hc) fun m hm => ?_
  refine Ev.bind (impl_IsLowering_ev m hm) ?_
  refine Ev.bind (spec_IsLowering_ev m hm) ?_
  simp only [bne_self_eq_false, Bool.false_eq_true, if_false]
  refine Ev.succ ?_
  simp only [laws_FnLoweringPlans.j3, Bool.false_eq_true, if_false]
  cases hp : planB m with
  | false => simp only [Bool.false_eq_true, if_false]; exact FnLoweringPlans_j4 ha hb
  | true =>
    have h := planB_iff.1 hp
    have h8 := h.2.1
    simp only [if_true]
    cases hl : lowGo 0 m with
    | false => simp only [Bool.false_eq_true, if_false]; exact FnLoweringPlans_j4 ha hb
    | true =>
      simp only [if_true]
      refine Ev.bind (laws_pMargins_ev h) ?_
      refine Ev.bind (impl_LowerRefusal_ev _ _ (by rw [rowsP_len]; omega) (by rw [colsP_len]; omega)) ?_
      have e : (if fits (rowsP m) (colsP m) then fpos 0 (dsums 0 (rowsP m) (colsP m)) else (0, false)).2 = false := by
        cases hf : fits (rowsP m) (colsP m) with
        | false => rfl
        | true =>
          simp only [if_true]
          refine (refuse_cum (by rw [rowsP_len, colsP_len])).2 fun k hk => ?_
          rw [rowsP_len] at hk
          exact low_cum h hl k hk
      simp only [e, Bool.false_eq_true, if_false]
      exact FnLoweringPlans_j4 ha hb
theorem FnLoweringPlans_j1 {c a b : List Int} (hc : Bts c) (ha : a.length ≤ 1048576) (hb : b.length ≤ 1048576) : Ev (fun k => laws_FnLoweringPlans.j1 k c a b (lowV a b).2 (refV a b).1 (refV a b).2) true := by
  have j2 := FnLoweringPlans_j2 hc ha hb
  refine Ev.succ ?_
  simp only [laws_FnLoweringPlans.j1]
  cases hr : (refV a b).2 with
  | false => rw [hr] at j2; simp only [Bool.false_eq_true, if_false]; exact j2
  | true =>
    rw [hr] at j2
    have hf : fits a b = true := by
      cases e : fits a b with
      | true => rfl
      | false => unfold refV at hr; rw [e] at hr; exact absurd hr (by simp)
    obtain ⟨hA, hB, hl, hs⟩ := fits_iff.1 hf
    have h8 := hA.2.1
    have ev : refV a b = fpos 0 (dsums 0 a b) := by unfold refV; rw [if_pos hf]
    have hk : fpos 0 (dsums 0 a b) = ((refV a b).1, true) := by rw [← ev, ← hr]
    obtain ⟨j, j1, j2', j3⟩ := fpos_some _ _ hk
    rw [dsums_length 0 a b hl] at j1
    rw [dsums_getD a b 0 j hl j1] at j3
    have ej : (refV a b).1 = (j : Int) := by rw [j2']; omega
    have e1 : wrap64 ((j : Int) + 1) = ((j + 1 : Nat) : Int) := by rw [w64 (by omega) (by omega)]; omega
    have c1 : ((j + 1 : Nat) : Int) ≤ (a.length : Int) := by omega
    have c2 : ((j + 1 : Nat) : Int) ≤ (b.length : Int) := by omega
    rw [ej]
    simp only [if_true, e1, inn, c1, c2, Int.toNat_natCast]
    refine Ev.bind (laws_pSum_ev _ (by rw [List.length_take]; omega)) ?_
    refine Ev.bind (laws_pSum_ev _ (by rw [List.length_take]; omega)) ?_
    have b1 := cum_bound hA.2.2 (j + 1) (by omega)
    have b2 := cum_bound hB.2.2 (j + 1) (by omega)
    rw [take_cum, take_cum, w64 (by omega) (by omega), w64 (by omega) (by omega), decide_eq_false (by omega)]
    exact j2
theorem FnLoweringPlans : laws_FnLoweringPlans.Pure := by
  intro a b hma hsa hwa hmb hsb hwb
  refine Ev.rounds ?_
  have hc := Bts.of hsa hwa
  have hd := Bts.of hsb hwb
  simp only [laws_FnLoweringPlans.f]
  obtain ⟨t, ht⟩ := laws_big_x a b
  rw [ht]
  simp only [Option.bind_some]
  by_cases h0 : t = true
  · simp only [h0, if_true]; exact Ev.now _
  · simp only [h0, if_false]
    refine Ex.ev (spec_DrawLoweringPlan_x hc) fun r hr => ?_
    obtain ⟨p, q⟩ := r
    have hp : p.length ≤ 1048576 := by have := hr.1; simp only at this; omega
    have hq : q.length ≤ 1048576 := by have := hr.2; simp only at this; omega
    have i1 : Ev (fun k => impl_LoweringPlan.f k p q) (lowV p q) := impl_LoweringPlan_ev p q hp hq
    refine Ev.bind i1 ?_
    have i2 : Ev (fun k => spec_LoweringPlan.f k p q) (lowV p q) := spec_LoweringPlan_ev p q hp hq
    refine Ev.bind i2 ?_
    have i3 : Ev (fun k => impl_LowerRefusal.f k p q) (refV p q) := impl_LowerRefusal_ev p q hp hq
    refine Ev.bind i3 ?_
    have i4 : Ev (fun k => spec_LowerRefusal.f k p q) (refV p q) := spec_LowerRefusal_ev p q hp hq
    refine Ev.bind i4 ?_
    simp only [bne_self_eq_false, Bool.false_eq_true, if_false]
    refine Ev.bind (laws_pSameRows_self _ (lowV_siz p q)) ?_
    simp only [if_true]
    have j1 := FnLoweringPlans_j1 hd hp hq
    cases hok : (lowV p q).2 with
    | false =>
      rw [hok] at j1
      simp only [Bool.false_eq_true, if_false]
      refine Ev.succ ?_
      simp only [laws_FnLoweringPlans.j0, Bool.false_eq_true, if_false]
      exact j1
    | true =>
      rw [hok] at j1
      have hf : fits p q = true := by
        cases e : fits p q with
        | true => rfl
        | false => unfold lowV at hok; rw [e] at hok; exact absurd hok (by simp)
      have hl : lowGo 0 (monoP p q) = true := by
        cases e : lowGo 0 (monoP p q) with
        | true => rfl
        | false => unfold lowV at hok; rw [hf, e] at hok; exact absurd hok (by simp)
      have ev : (lowV p q).1 = monoP p q := by unfold lowV; rw [hf, hl]; rfl
      have er : (refV p q).2 = false := by
        have := low_refuse hf
        rw [hl] at this
        unfold refV
        rw [if_pos hf]
        cases e : (fpos 0 (dsums 0 p q)).2 with
        | false => rfl
        | true => rw [e] at this; exact absurd this (by simp)
      have hP := monoP_plan hf
      have hB := planB_iff.2 hP
      have e1 : isPlanR (monoP p q) p q = (true, true) := by
        have r1 : (monoP p q).map List.sum = p := monoP_rows hf
        have r2 : (colsUpto (monoP p q) (monoP p q).length).map List.sum = q := monoP_cols hf
        unfold isPlanR
        rw [hf, hB, r1, r2]
        simp
      rw [er] at j1 ⊢
      rw [ev]
      simp only [if_true]
      refine Ev.succ ?_
      simp only [laws_FnLoweringPlans.j0, Bool.false_eq_true, if_false, if_true]
      refine Ev.bind (impl_IsPlan_ev _ hP.siz p q hp hq) ?_
      refine Ev.bind (impl_IsLowering_ev _ hP.siz) ?_
      simp only [e1, hB, hl, if_true]
      exact j1

end Go.Proofs.Ytojklddddedoeaa.Pure
