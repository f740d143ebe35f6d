/- Plans that are glued carry all from the first to the last list and cost no more than both, so that distances obey the triangle; the printed functions' own bounds on lengths are the only conditions. -/
import Derived.Test.YtojklddddedoeaaPFnGluedPlansx11
import Derived.Test.YtojklddddedoeaaTFnGluedPlansMath
import Derived.Test.YtojklddddedoeaaTFnGluedPlansMathP
import Derived.Test.YtojklddddedoeaaTFnGluedPlansMathQ
import Derived.Test.YtojklddddedoeaaTFnGluedPlansMathG
import Derived.Test.YtojklddddedoeaaTFnGluedPlansMathD
namespace Go.Proofs.Ytojklddddedoeaa.Pure
open Go.RowKit Go.Proofs.Ytojklddddedoeaa.PFnGluedPlans Go.Proofs.YtojklddddedoeaaW.PrintWords Go.Proofs.YtojklddddedoeaaW.PrintLast Go.Proofs.YtojklddddedoeaaW.PrintMore Go.Proofs.Ytojklddddedoeaa.Math
set_option linter.unusedVariables false
set_option linter.unusedSimpArgs false
set_option linter.unusedSectionVars false

theorem laws_big_x (a b : List Int) : ∃ t, laws_big.f a b = some t := by
  unfold laws_big.f
  by_cases c : (a.length : Int) > 1048576
  · rw [if_pos c]; exact ⟨_, rfl⟩
  · rw [if_neg c]; exact ⟨_, rfl⟩

theorem impl_within_e (a b c : Int) : impl_within.f a b c = some (wth a b c) := wth_opt a b c

theorem impl_allWithin_l (l : List Int) (lo hi : Int) (hl : l.length ≤ 4611686018427387904) : ∀ i, i ≤ l.length → Ev (fun k => impl_allWithin.l0 k lo hi l (l.length : Int) (i : Int)) (allW (l.drop i) lo hi) := by
  refine down ?_ ?_
  · refine Ev.succ ?_
    simp only [impl_allWithin.l0, nlt (Nat.le_refl l.length), if_false, List.drop_length]
    exact Ev.now _
  · intro i hi ih
    refine Ev.succ ?_
    simp only [impl_allWithin.l0, ilt hi, inn, if_true, impl_within_e, Option.bind_some, rd_lt hi, wnext hi hl]
    rw [drop_cons hi]
    exact Ev.andS fun _ => ih
theorem impl_allWithin_ev (l : List Int) (lo hi : Int) (hl : l.length ≤ 4611686018427387904) : Ev (fun k => impl_allWithin.f k l lo hi) (allW l lo hi) := by
  have := impl_allWithin_l l lo hi hl 0 (Nat.zero_le _)
  simpa only [impl_allWithin.f, List.drop_zero, Int.natCast_zero] using this

theorem impl_IsList_ev (l : List Int) (hl : l.length ≤ 4611686018427387904) : Ev (fun k => impl_IsList.f k l) (goodB l) := by
  simp only [impl_IsList.f, impl_within_e, Option.bind_some, goodB]
  exact Ev.andS fun _ => Ev.ret (f := fun t => t) (impl_allWithin_ev l 0 60 hl)

theorem impl_areLists_ev (a b : List Int) (ha : a.length ≤ 1048576) (hb : b.length ≤ 1048576) : Ev (fun k => impl_areLists.f k a b) (goodB a && goodB b) := by
  simp only [impl_areLists.f]
  exact Ev.and (impl_IsList_ev a (by omega)) fun h => Ev.ret (f := fun t => t) (impl_IsList_ev b (by omega))

theorem impl_total_l (l : List Int) (hl : l.length ≤ 4611686018427387904) : ∀ i, i ≤ l.length → ∀ acc, InR acc → Ev (fun k => impl_total.l0 k acc l (l.length : Int) (i : Int)) (wrap64 (acc + (l.drop i).sum)) := by
  refine down ?_ ?_
  · intro acc ha
    refine Ev.succ ?_
    simp only [impl_total.l0, nlt (Nat.le_refl l.length), if_false, List.drop_length, List.sum_nil, Int.add_zero, wR ha]
    exact Ev.now _
  · intro i hi ih acc ha
    refine Ev.succ ?_
    simp only [impl_total.l0, ilt hi, inn, if_true, rd_lt hi, wnext hi hl]
    rw [drop_cons hi, List.sum_cons, ← Int.add_assoc]
    exact (ih _ (inR_wrap _)).eqv (wr_add _ _)
theorem impl_total_ev (l : List Int) (hl : l.length ≤ 4611686018427387904) : Ev (fun k => impl_total.f k l) (wrap64 l.sum) := by
  have := impl_total_l l hl 0 (Nat.zero_le _) 0 inR_0
  simpa only [impl_total.f, List.drop_zero, Int.zero_add, Int.natCast_zero] using this
theorem impl_total_good {l : List Int} (h : Lst l) : Ev (fun k => impl_total.f k l) l.sum :=
  (impl_total_ev l (by have := h.2.1; omega)).eqv (w64 (by have := h.sum; omega) (by have := h.sum; omega))

theorem impl_doFit_ev {a b : List Int} (ha : Lst a) (hb : Lst b) : Ev (fun k => impl_doFit.f k a b) (decide (a.length = b.length) && decide (a.sum = b.sum)) := by
  simp only [impl_doFit.f]
  by_cases h : a.length = b.length
  · have h2 : (a.length : Int) = (b.length : Int) := by omega
    simp only [h2, if_true, h, decide_true, Bool.true_and]
    refine Ev.bind (impl_total_good ha) ?_
    exact Ev.ret (f := fun t => a.sum == t) (impl_total_good hb)
  · have h2 : ¬ (a.length : Int) = (b.length : Int) := by omega
    simp only [h2, if_false, h, decide_false, Bool.false_and]
    exact Ev.now _

theorem impl_areFitting_ev (a b : List Int) (ha : a.length ≤ 1048576) (hb : b.length ≤ 1048576) : Ev (fun k => impl_areFitting.f k a b) (fits a b) := by
  simp only [impl_areFitting.f]
  refine (Ev.and (b := decide (a.length = b.length) && decide (a.sum = b.sum)) (impl_areLists_ev a b ha hb) fun h => ?_).eqv (Bool.and_assoc _ _ _)
  rw [Bool.and_eq_true, goodB_iff, goodB_iff] at h
  exact Ev.ret (f := fun t => t) (impl_doFit_ev h.1 h.2)

theorem impl_ahead_l {a b : List Int} (he : a.length = b.length) (hl : a.length ≤ 1048576) (ha : ∀ x ∈ a, 0 ≤ x ∧ x ≤ 60) (hb : ∀ x ∈ b, 0 ≤ x ∧ x ≤ 60) : ∀ i, i ≤ a.length → ∀ (out : List Int) (s : Int), out.length = i → -60 * (i : Int) ≤ s → s ≤ 60 * i → Ev (fun k => impl_ahead.l0 k b out s a (a.length : Int) (i : Int)) (out ++ dsums s (a.drop i) (b.drop i)) := by
  refine down ?_ ?_
  · intro out s ho h0 h1
    refine Ev.succ ?_
    simp only [impl_ahead.l0, nlt (Nat.le_refl a.length), if_false, List.drop_length, dsums, List.append_nil]
    exact Ev.now _
  · intro i hi ih out s ho h0 h1
    have h2 : i < b.length := by omega
    have b0 := ha _ (List.getElem_mem hi)
    have b1 := hb _ (List.getElem_mem h2)
    have c : out.length < 17592186044416 := by omega
    refine Ev.succ ?_
    simp only [impl_ahead.l0, ilt hi, ilt h2, inn, if_true, rd_lt hi, rd_lt h2, wnext hi (by omega : a.length ≤ 4611686018427387904), c, w64 (x := a[i] - b[i]) (by omega) (by omega), w64 (x := s + (a[i] - b[i])) (by omega) (by omega)]
    rw [drop_cons hi, drop_cons h2, dsums]
    exact (ih _ _ (by simp [ho]) (by omega) (by omega)).eqv (by simp)
theorem impl_ahead_ev {a b : List Int} (ha : Lst a) (hb : Lst b) (he : a.length = b.length) : Ev (fun k => impl_ahead.f k a b) (dsums 0 a b) := by
  have := impl_ahead_l he (by have := ha.2.1; omega) ha.2.2 hb.2.2 0 (Nat.zero_le _) [] 0 rfl (by omega) (by omega)
  simpa only [impl_ahead.f, List.drop_zero, List.nil_append, Int.natCast_zero] using this

theorem impl_LineDistance_l {X : List Int} (hl : X.length ≤ 1048576) (hX : ∀ x ∈ X, -480 ≤ x ∧ x ≤ 480) : ∀ i, i ≤ X.length → ∀ acc : Int, 0 ≤ acc → acc ≤ 480 * i → Ev (fun k => impl_LineDistance.l0 k acc X (X.length : Int) (i : Int)) (acc + sabs1 (X.drop i), true) := by
  refine down ?_ ?_
  · intro acc h0 h1
    refine Ev.succ ?_
    simp only [impl_LineDistance.l0, nlt (Nat.le_refl X.length), if_false, List.drop_length, sabs1, Int.add_zero]
    exact Ev.now _
  · intro i hi ih acc h0 h1
    have b0 := hX _ (List.getElem_mem hi)
    refine Ev.succ ?_
    simp only [impl_LineDistance.l0, ilt hi, inn, if_true, rd_lt hi, wnext hi (by omega : X.length ≤ 4611686018427387904), mx_eq, w64 (x := -X[i]) (by omega) (by omega)]
    rw [drop_cons hi, sabs1, ← Int.add_assoc, w64 (x := acc + _) (by omega) (by omega)]
    exact ih _ (by omega) (by omega)
theorem impl_LineDistance_ev (a b : List Int) (ha : a.length ≤ 1048576) (hb : b.length ≤ 1048576) : Ev (fun k => impl_LineDistance.f k a b) (if fits a b then (lineDist a b, true) else (0, false)) := by
  simp only [impl_LineDistance.f]
  refine Ev.bind (impl_areFitting_ev a b ha hb) ?_
  cases h : fits a b with
  | false => simp only [Bool.false_eq_true, if_false]; exact Ev.now _
  | true =>
    simp only [if_true]
    obtain ⟨h1, h2, h3, h4⟩ := fits_iff.1 h
    have hn := h1.2.1
    have e1 := dsums_length 0 a b h3
    refine Ev.bind (impl_ahead_ev h1 h2 h3) ?_
    have := impl_LineDistance_l (X := dsums 0 a b) (by omega) (dsums_bound h1.2.2 h2.2.2 (by omega) (by omega)) 0 (Nat.zero_le _) 0 (by omega) (by omega)
    rw [List.drop_zero, Int.zero_add] at this
    exact this

theorem laws_pSame_l (l m : List Int) (he : m.length = l.length) (hl : l.length ≤ 4611686018427387904) : ∀ i, i ≤ l.length → Ev (fun k => laws_pSame.l0 k l m (l.length : Int) (i : Int)) (decide (l.drop i = m.drop i)) := by
  refine down ?_ ?_
  · refine Ev.succ ?_
    simp only [laws_pSame.l0, nlt (Nat.le_refl l.length), if_false, List.drop_length]
    rw [← he, List.drop_length]
    exact Ev.now _
  · intro i hi ih
    refine Ev.succ ?_
    simp only [laws_pSame.l0, ilt hi, inn, if_true, he, rd_lt hi, rd_lt (he ▸ hi : i < m.length), wnext hi hl]
    rw [drop_cons hi, drop_cons (he ▸ hi : i < m.length)]
    by_cases hx : l[i] = m[i]
    · simp only [hx, if_true, List.cons.injEq, true_and]
      exact ih
    · simp only [hx, if_false, List.cons.injEq, false_and, decide_false]
      exact Ev.now _
theorem laws_pSame_ev (l m : List Int) (hl : l.length ≤ 4611686018427387904) : Ev (fun k => laws_pSame.f k l m) (decide (l = m)) := by
  simp only [laws_pSame.f]
  by_cases he : (l.length : Int) = (m.length : Int)
  · simp only [he, if_true]
    have := laws_pSame_l l m (by omega) hl 0 (Nat.zero_le _)
    rw [he] at this
    exact this
  · simp only [he, if_false]
    rw [decide_eq_false (fun h => he (by rw [h]))]
    exact Ev.now _

theorem laws_pSameRows_l (m q : List (List Int)) (he : q.length = m.length) (h : Siz m) : ∀ i, i ≤ m.length → Ev (fun k => laws_pSameRows.l0 k m q (m.length : Int) (i : Int)) (decide (m.drop i = q.drop i)) := by
  have hm := h.1
  refine down ?_ ?_
  · refine Ev.succ ?_
    simp only [laws_pSameRows.l0, nlt (Nat.le_refl m.length), if_false, List.drop_length]
    rw [← he, List.drop_length]
    exact Ev.now _
  · intro i hi ih
    have h2 : i < q.length := by omega
    have hrow : rd_L2 m (i : Int) = m[i] := by simp [rd_L2, List.getD_eq_getElem?_getD, hi]
    have hrow2 : rd_L2 q (i : Int) = q[i] := by simp [rd_L2, List.getD_eq_getElem?_getD, h2]
    refine Ev.succ ?_
    simp only [laws_pSameRows.l0, ilt hi, inn, if_true, he, hrow, hrow2, wnext hi (by omega : m.length ≤ 4611686018427387904)]
    refine Ev.bind (laws_pSame_ev m[i] q[i] (by have := h.2 _ (List.getElem_mem hi); omega)) ?_
    rw [drop_cons hi, drop_cons h2]
    by_cases hx : m[i] = q[i]
    · simp only [hx, decide_true, if_true, List.cons.injEq, true_and]
      exact ih
    · simp only [hx, decide_false, Bool.false_eq_true, if_false, List.cons.injEq, false_and]
      exact Ev.now _
theorem laws_pSameRows_ev (m q : List (List Int)) (h : Siz m) : Ev (fun k => laws_pSameRows.f k m q) (decide (m = q)) := by
  simp only [laws_pSameRows.f]
  by_cases he : (m.length : Int) = (q.length : Int)
  · simp only [he, if_true]
    have := laws_pSameRows_l m q (by omega) h 0 (Nat.zero_le _)
    rw [he] at this
    exact this
  · simp only [he, if_false]
    rw [decide_eq_false (fun h => he (by rw [h]))]
    exact Ev.now _
theorem laws_pSameRows_self (m : List (List Int)) (h : Siz m) : Ev (fun k => laws_pSameRows.f k m m) true := by
  simpa using laws_pSameRows_ev m m h

theorem impl_isPlan_row_ev (n : Nat) (l : List Int) (hl : l.length ≤ 1048576) : Ev (fun k => impl_isPlan.row k n l) (!rowOk n l) := by
  simp only [impl_isPlan.row, rowOk]
  by_cases c : l.length = n
  · simp only [c, if_true, decide_true, Bool.true_and]
    exact Ev.ret (f := fun t => !t) (impl_allWithin_ev l 0 60 (by omega))
  · simp only [c, if_false, decide_false, Bool.false_and, Bool.not_false]
    exact Ev.now _
theorem impl_isPlan_l (m : List (List Int)) (h : Siz m) : ∀ i, i ≤ m.length → ∃ j : Int, Ev (fun k => impl_isPlan.l0 k m (i : Int)) j ∧ decide (j ≥ 0) = !((m.drop i).all (rowOk m.length)) := by
  have hm := h.1
  refine down ?_ ?_
  · refine ⟨-1, ?_, by simp⟩
    refine Ev.succ ?_
    simp only [impl_isPlan.l0, nlt (Nat.le_refl m.length), if_false]
    exact Ev.now _
  · intro i hi ⟨j, ih, hj⟩
    have hg : rd_L2 m (i : Int) = m[i] := by simp [rd_L2, List.getD_eq_getElem?_getD, hi]
    have hb := impl_isPlan_row_ev m.length m[i] (h.2 _ (List.getElem_mem hi))
    cases c : rowOk m.length m[i] with
    | true =>
      refine ⟨j, ?_, by rw [hj, drop_cons hi, List.all_cons, c, Bool.true_and]⟩
      rw [c] at hb
      refine Ev.succ ?_
      simp only [impl_isPlan.l0, ilt hi, inn, if_true, hg, wnext hi (by omega : m.length ≤ 4611686018427387904)]
      refine Ev.bind hb ?_
      simp only [Bool.not_true, Bool.false_eq_true, if_false]
      exact ih
    | false =>
      refine ⟨(i : Int), ?_, by rw [drop_cons hi, List.all_cons, c, Bool.false_and]; simp⟩
      rw [c] at hb
      refine Ev.succ ?_
      simp only [impl_isPlan.l0, ilt hi, inn, if_true, hg]
      refine Ev.bind hb ?_
      simp only [Bool.not_false, if_true]
      exact Ev.now _
theorem impl_isPlan_ev (m : List (List Int)) (h : Siz m) : Ev (fun k => impl_isPlan.f k m) (planB m) := by
  simp only [impl_isPlan.f, impl_within_e, Option.bind_some, planB]
  refine Ev.andS fun _ => ?_
  obtain ⟨j, hE, hj⟩ := impl_isPlan_l m h 0 (Nat.zero_le _)
  refine (Ev.ret (f := fun j : Int => !decide (j ≥ 0)) hE).eqv ?_
  rw [hj, Bool.not_not, List.drop_zero]

theorem impl_cost_l1 (m : List (List Int)) (hm : m.length ≤ 1048576) (o : Nat) (ho : o ≤ 1048576) (R : Int) (l : List Int) (hl : l.length ≤ 1048576)
    (hk : ∀ acc, InR acc → Ev (fun k => impl_cost.l0 k acc m (m.length : Int) (wrap64 ((o : Int) + 1))) (wrap64 (acc + R))) :
    ∀ i, i ≤ l.length → ∀ acc, InR acc → Ev (fun k => impl_cost.l1 k acc (o : Int) m (m.length : Int) (o : Int) l (l.length : Int) (i : Int)) (wrap64 (acc + rowCost o i (l.drop i) + R)) := by
  refine down ?_ ?_
  · intro acc ha
    refine Ev.succ ?_
    simp only [impl_cost.l1, nlt (Nat.le_refl l.length), if_false, List.drop_length, rowCost, Int.add_zero]
    exact hk acc ha
  · intro i hi ih acc ha
    refine Ev.succ ?_
    simp only [impl_cost.l1, ilt hi, inn, if_true, rd_lt hi, wnext hi (by omega : l.length ≤ 4611686018427387904), mx_eq, w64 (x := (o : Int) - (i : Int)) (by omega) (by omega), w64 (x := (i : Int) - (o : Int)) (by omega) (by omega)]
    rw [drop_cons hi, rowCost, ← Int.add_assoc]
    refine (ih _ (inR_wrap _)).eqv ?_
    rw [Int.add_assoc, wr_add, ← Int.add_assoc, Int.add_right_comm acc (wrap64 _), Int.add_right_comm _ (wrap64 _), wr_add', Int.add_right_comm _ R, Int.add_right_comm acc]
theorem impl_cost_l0 (m : List (List Int)) (h : Siz m) : ∀ i, i ≤ m.length → ∀ acc, InR acc → Ev (fun k => impl_cost.l0 k acc m (m.length : Int) (i : Int)) (wrap64 (acc + costGo i (m.drop i))) := by
  have hm := h.1
  refine down ?_ ?_
  · intro acc ha
    refine Ev.succ ?_
    simp only [impl_cost.l0, nlt (Nat.le_refl m.length), if_false, List.drop_length, costGo, Int.add_zero, wR ha]
    exact Ev.now _
  · intro i hi ih acc ha
    have hrow : rd_L2 m (i : Int) = m[i] := by simp [rd_L2, List.getD_eq_getElem?_getD, hi]
    refine Ev.succ ?_
    simp only [impl_cost.l0, ilt hi, inn, if_true, hrow]
    refine (impl_cost_l1 m hm i (by omega) (costGo (i + 1) (m.drop (i + 1))) m[i] (h.2 _ (List.getElem_mem hi)) (fun acc ha => ?_) 0 (Nat.zero_le _) acc ha).eqv ?_
    · rw [wnext hi (by omega)]
      exact ih acc ha
    · rw [List.drop_zero, drop_cons hi, costGo, Int.add_assoc]
theorem impl_cost_ev (m : List (List Int)) (h : Siz m) : Ev (fun k => impl_cost.f k m) (wrap64 (costGo 0 m)) := by
  have := impl_cost_l0 m h 0 (Nat.zero_le _) 0 inR_0
  simpa only [impl_cost.f, List.drop_zero, Int.zero_add, Int.natCast_zero] using this

theorem impl_PlanCost_ev (m : List (List Int)) (h : Siz m) : Ev (fun k => impl_PlanCost.f k m) (if planB m then (wrap64 (costGo 0 m), true) else (0, false)) := by
  simp only [impl_PlanCost.f]
  refine Ev.bind (impl_isPlan_ev m h) ?_
  cases c : planB m with
  | false => simp only [Bool.false_eq_true, if_false]; exact Ev.now _
  | true =>
    simp only [if_true]
    exact Ev.ret (f := fun t => (t, true)) (impl_cost_ev m h)

/-- The rounds over the columns of a later row. -/
theorem impl_crossing_l3 (m : List (List Int)) (h : Plan m) (x5 x7 : Nat) (h7 : x7 ≤ 8) (x12 x13 : Int) (x18 : List Int) (x19 x20 : Int) (r : Nat) (hr : r < m.length) (res : Int × Int × Int × Int × Bool)
    (hk : findRow r 0 (m[r].take x7) = none → Ev (fun k => impl_crossing.l2 k m (x5 : Int) (x7 : Int) (wrap64 ((r : Int) + 1)) m x12 x13 x18 x19 x20) res)
    (hs : ∀ q, findRow r 0 (m[r].take x7) = some q → res = ((x5 : Int), (x7 : Int), (q.1 : Int), (q.2 : Int), true)) (h7r : x7 ≤ m[r].length) :
    ∀ c, c ≤ x7 → findRow r 0 (m[r].take x7) = findRow r c ((m[r].take x7).drop c) → Ev (fun k => impl_crossing.l3 k m (x5 : Int) (x7 : Int) (r : Int) m x12 x13 x18 x19 x20 (x7 : Int) (c : Int)) res := by
  have hrow : rd_L2 m (r : Int) = m[r] := by simp [rd_L2, List.getD_eq_getElem?_getD, hr]
  refine down ?_ ?_
  · intro e
    refine Ev.succ ?_
    simp only [impl_crossing.l3, nlt (Nat.le_refl x7), if_false]
    exact hk (by rw [e, List.drop_of_length_le (by rw [List.length_take]; omega)]; rfl)
  · intro c hc ih e
    have hc2 : c < (m[r].take x7).length := by rw [List.length_take]; omega
    have hc3 : c < m[r].length := by omega
    have hg : (m[r].take x7)[c] = m[r][c] := by simp
    rw [drop_cons hc2, hg, findRow] at e
    refine Ev.succ ?_
    simp only [impl_crossing.l3, ilt hc, ilt hr, ilt hc3, inn, if_true, hrow, rd_lt hc3, wnext hc (by omega : x7 ≤ 4611686018427387904)]
    by_cases g : m[r][c] > 0
    · simp only [g, if_true] at e ⊢
      rw [hs _ e]
      exact Ev.now _
    · simp only [g, if_false] at e ⊢
      exact ih e
theorem impl_crossing_l2 (m : List (List Int)) (h : Plan m) (x5 x7 : Nat) (h7 : x7 < m.length) (x12 x13 : Int) (x18 : List Int) (x19 x20 : Int) (res : Int × Int × Int × Int × Bool) :
    ∀ r, r ≤ m.length → (findRows x7 r (m.drop r) = none → Ev (fun k => impl_crossing.l1 k m (x5 : Int) m x12 x13 x18 x19 (wrap64 (x20 + 1))) res) →
      (∀ q, findRows x7 r (m.drop r) = some q → res = ((x5 : Int), (x7 : Int), (q.1 : Int), (q.2 : Int), true)) →
      Ev (fun k => impl_crossing.l2 k m (x5 : Int) (x7 : Int) (r : Int) m x12 x13 x18 x19 x20) res := by
  have hm := h.2.1
  refine down ?_ ?_
  · intro hk hs
    refine Ev.succ ?_
    simp only [impl_crossing.l2, nlt (Nat.le_refl m.length), if_false]
    exact hk (by rw [List.drop_length]; rfl)
  · intro r hr ih hk hs
    have hl := (h.2.2 _ (List.getElem_mem hr)).1
    refine Ev.succ ?_
    simp only [impl_crossing.l2, ilt hr, if_true]
    rw [drop_cons hr, findRows] at hk hs
    refine impl_crossing_l3 m h x5 x7 (by omega) x12 x13 x18 x19 x20 r hr res ?_ ?_ (by omega) 0 (Nat.zero_le _) (by rw [List.drop_zero])
    · intro e
      rw [wnext hr (by omega : m.length ≤ 4611686018427387904)]
      exact ih (fun e2 => hk (by rw [e, e2])) (fun q e2 => hs q (by rw [e, e2]))
    · intro q e
      exact hs q (by rw [e])
def crossRes (o : Option ((Nat × Nat) × (Nat × Nat))) : Int × Int × Int × Int × Bool := match o with
  | some (x, y) => ((x.1 : Int), (x.2 : Int), (y.1 : Int), (y.2 : Int), true)
  | none => (0, 0, 0, 0, false)
theorem impl_crossing_l1 (m : List (List Int)) (h : Plan m) (i : Nat) (hi : i < m.length) (res : Int × Int × Int × Int × Bool)
    (hk : crossCols m i 0 m[i] = none → Ev (fun k => impl_crossing.l0 k m m (m.length : Int) (wrap64 ((i : Int) + 1))) res)
    (hs : ∀ q, crossCols m i 0 m[i] = some q → res = crossRes (some q)) :
    ∀ j, j ≤ m[i].length → crossCols m i 0 m[i] = crossCols m i j (m[i].drop j) → Ev (fun k => impl_crossing.l1 k m (i : Int) m (m.length : Int) (i : Int) m[i] (m[i].length : Int) (j : Int)) res := by
  have hm := h.2.1
  have hl := (h.2.2 _ (List.getElem_mem hi)).1
  refine down ?_ ?_
  · intro e
    refine Ev.succ ?_
    simp only [impl_crossing.l1, nlt (Nat.le_refl m[i].length), if_false]
    exact hk (by rw [e, List.drop_length]; rfl)
  · intro j hj ih e
    have hx := (h.2.2 _ (List.getElem_mem hi)).2 _ (List.getElem_mem hj)
    rw [drop_cons hj, crossCols] at e
    refine Ev.succ ?_
    simp only [impl_crossing.l1, ilt hj, inn, if_true, rd_lt hj, wnext hj (by omega : m[i].length ≤ 4611686018427387904), wnext hi (by omega : m.length ≤ 4611686018427387904)]
    by_cases g : m[i][j] = 0
    · simp only [g, if_true] at e ⊢
      exact ih (by simpa [g] using e)
    · have g2 : m[i][j] > 0 := by omega
      simp only [g, if_false, g2, if_true] at e ⊢
      refine impl_crossing_l2 m h i j (by omega) _ _ _ _ _ res (i + 1) (by omega) ?_ ?_
      · intro e2
        rw [wnext hj (by omega : m[i].length ≤ 4611686018427387904)]
        refine ih ?_
        rw [e2] at e
        exact e
      · intro q e2
        rw [e2] at e
        exact hs _ e
theorem impl_crossing_l0 (m : List (List Int)) (h : Plan m) : ∀ i, i ≤ m.length → Ev (fun k => impl_crossing.l0 k m m (m.length : Int) (i : Int)) (crossRes (crossRows m i (m.drop i))) := by
  have hm := h.2.1
  refine down ?_ ?_
  · refine Ev.succ ?_
    simp only [impl_crossing.l0, nlt (Nat.le_refl m.length), if_false, List.drop_length, crossRows, crossRes]
    exact Ev.now _
  · intro i hi ih
    have hrow : rd_L2 m (i : Int) = m[i] := by simp [rd_L2, List.getD_eq_getElem?_getD, hi]
    refine Ev.succ ?_
    simp only [impl_crossing.l0, ilt hi, inn, if_true, hrow]
    rw [drop_cons hi, crossRows]
    refine impl_crossing_l1 m h i hi _ ?_ ?_ 0 (Nat.zero_le _) (by rw [List.drop_zero])
    · intro e
      rw [wnext hi (by omega : m.length ≤ 4611686018427387904), e]
      exact ih
    · intro q e
      rw [e]
theorem impl_crossing_ev (m : List (List Int)) (h : Plan m) : Ev (fun k => impl_crossing.f k m) (crossRes (crossGo (cellsGo 0 m) (cellsGo 0 m))) := by
  have := impl_crossing_l0 m h 0 (Nat.zero_le _)
  rw [List.drop_zero, crossRows_eq m 0 m (by rw [List.drop_zero])] at this
  simpa only [impl_crossing.f, Int.natCast_zero] using this

theorem impl_IsMonotone_ev (m : List (List Int)) (h : Siz m) : Ev (fun k => impl_IsMonotone.f k m) (if planB m then ((crossGo (cellsGo 0 m) (cellsGo 0 m)).isNone, true) else (false, false)) := by
  simp only [impl_IsMonotone.f]
  refine Ev.bind (impl_isPlan_ev m h) ?_
  cases c : planB m with
  | false => simp only [Bool.false_eq_true, if_false]; exact Ev.now _
  | true =>
    simp only [if_true]
    refine (Ev.ret (f := fun t => (!t.2.2.2.2, true)) (impl_crossing_ev m (planB_iff.1 c))).eqv ?_
    cases crossGo (cellsGo 0 m) (cellsGo 0 m) <;> rfl

theorem laws_pSum_l (l : List Int) (hl : l.length ≤ 4611686018427387904) : ∀ i, i ≤ l.length → ∀ acc, InR acc → Ev (fun k => laws_pSum.l0 k acc l (l.length : Int) (i : Int)) (wrap64 (acc + (l.drop i).sum)) := by
  refine down ?_ ?_
  · intro acc ha
    refine Ev.succ ?_
    simp only [laws_pSum.l0, nlt (Nat.le_refl l.length), if_false, List.drop_length, List.sum_nil, Int.add_zero, wR ha]
    exact Ev.now _
  · intro i hi ih acc ha
    refine Ev.succ ?_
    simp only [laws_pSum.l0, ilt hi, inn, if_true, rd_lt hi, wnext hi hl]
    rw [drop_cons hi, List.sum_cons, ← Int.add_assoc]
    exact (ih _ (inR_wrap _)).eqv (wr_add _ _)
theorem laws_pSum_ev (l : List Int) (hl : l.length ≤ 4611686018427387904) : Ev (fun k => laws_pSum.f k l) (wrap64 l.sum) := by
  have := laws_pSum_l l hl 0 (Nat.zero_le _) 0 inR_0
  simpa only [laws_pSum.f, List.drop_zero, Int.zero_add, Int.natCast_zero] using this
theorem laws_pSum_good {l : List Int} (h : Lst l) : Ev (fun k => laws_pSum.f k l) l.sum :=
  (laws_pSum_ev l (by have := h.2.1; omega)).eqv (w64 (by have := h.sum; omega) (by have := h.sum; omega))

theorem colS_bound {m : List (List Int)} (h : Plan m) (c : Nat) : ∀ i, 0 ≤ sm i (fun p => cell m p c) ∧ sm i (fun p => cell m p c) ≤ 60 * i
  | 0 => by simp [sm]
  | i + 1 => by
    have ih := colS_bound h c i
    have b := h.cell i c
    rw [sm]; omega
theorem laws_pMargins_l1 {m : List (List Int)} (h : Plan m) (x4 : List Int) (i : Nat) (hi : i < m.length) (R : List Int × List Int) (hK : ∀ y : List Int, y.length = m.length → (∀ c, c < m.length → y.getD c 0 = sm (i + 1) fun p => cell m p c) → Ev (fun k => laws_pMargins.l0 k x4 y m (m.length : Int) (wrap64 ((i : Int) + 1))) R) :
    ∀ j, j ≤ m.length → ∀ y : List Int, y.length = m.length → (∀ c, c < m.length → y.getD c 0 = if c < j then sm (i + 1) (fun p => cell m p c) else sm i fun p => cell m p c) → Ev (fun k => laws_pMargins.l1 k x4 y m (m.length : Int) (i : Int) m[i] (m[i].length : Int) (j : Int)) R := by
  have hr := (h.2.2 m[i] (List.getElem_mem hi)).1
  have h8 := h.2.1
  refine down ?_ ?_
  · intro y hy hc
    refine Ev.succ ?_
    simp only [laws_pMargins.l1, hr, nlt (Nat.le_refl m.length), if_false]
    exact hK y hy fun c hcm => by rw [hc c hcm, if_pos hcm]
  · intro j hj ih y hy hc
    refine Ev.succ ?_
    have jr : j < m[i].length := by omega
    have jy : j < y.length := by omega
    have e1 : rd y (j : Int) = sm i fun p => cell m p j := by
      have : rd y (j : Int) = y.getD j 0 := rfl
      rw [this, hc j hj, if_neg (by omega)]
    have e2 : rd m[i] (j : Int) = cell m i j := by
      have : rd m[i] (j : Int) = m[i].getD j 0 := rfl
      unfold cell
      rw [this]
      simp [List.getD_eq_getElem?_getD, hi]
    have b := colS_bound h j i
    have b2 := h.cell i j
    have e3 : wrap64 (sm i (fun p => cell m p j) + cell m i j) = sm (i + 1) fun p => cell m p j := by rw [w64 (by omega) (by omega)]; rfl
    simp only [laws_pMargins.l1, ilt jr, ilt jy, inn, if_true, e1, e2, e3, Int.toNat_natCast, wnext jr (by omega : m[i].length ≤ 4611686018427387904)]
    refine ih (y.set j _) (by rw [List.length_set]; exact hy) fun c hcm => ?_
    by_cases cj : c = j
    · subst cj
      rw [Math.getD_set_self _ _ _ _ (by omega), if_pos (by omega)]
    · rw [Math.getD_set_ne _ _ _ (fun e => cj e.symm), hc c hcm]
      by_cases q : c < j
      · rw [if_pos q, if_pos (by omega)]
      · rw [if_neg q, if_neg (by omega)]
theorem laws_pMargins_l0 {m : List (List Int)} (h : Plan m) : ∀ i, i ≤ m.length → ∀ y : List Int, y.length = m.length → (∀ c, c < m.length → y.getD c 0 = sm i fun p => cell m p c) → Ev (fun k => laws_pMargins.l0 k ((m.take i).map List.sum) y m (m.length : Int) (i : Int)) (rowsP m, colsP m) := by
  have h8 := h.2.1
  refine down ?_ ?_
  · intro y hy hc
    refine Ev.succ ?_
    simp only [laws_pMargins.l0, nlt (Nat.le_refl m.length), if_false, List.take_length]
    have e : y = colsP m := list_ext_getD (by rw [hy, colsP_len]) fun c hcl => by rw [hc c (by omega), colsP_getD h.shp (by omega)]
    rw [e]
    exact Ev.now _
  · intro i hi ih y hy hc
    refine Ev.succ ?_
    have hrow : rd_L2 m (i : Int) = m[i] := by simp [rd_L2, List.getD_eq_getElem?_getD, hi]
    have sh := h.short m[i] (List.getElem_mem hi)
    have sb := sh.sum
    have sl := sh.1
    have tl : ((m.take i).map List.sum).length < 17592186044416 := by rw [List.length_map, List.length_take]; omega
    simp only [laws_pMargins.l0, ilt hi, inn, if_true, hrow]
    refine Ev.bind (laws_pSum_ev m[i] (by omega)) ?_
    simp only [tl, if_true, w64 (x := m[i].sum) (by omega) (by omega)]
    have et : (m.take i).map List.sum ++ [m[i].sum] = (m.take (i + 1)).map List.sum := by
      rw [List.take_succ_eq_append_getElem hi, List.map_append]; rfl
    rw [et]
    refine laws_pMargins_l1 h _ i hi _ (fun y' hy' hc' => ?_) 0 (Nat.zero_le _) y hy fun c hcm => ?_
    · rw [wnext hi (by omega : m.length ≤ 4611686018427387904)]
      exact ih y' hy' hc'
    · rw [hc c hcm, if_neg (by omega)]
theorem laws_pMargins_ev {m : List (List Int)} (h : Plan m) : Ev (fun k => laws_pMargins.f k m) (rowsP m, colsP m) := by
  have h8 := h.2.1
  have c1 : m.length ≤ 35184372088832 := by omega
  simp only [laws_pMargins.f, inn, if_true, Int.toNat_natCast, c1]
  have := laws_pMargins_l0 h 0 (Nat.zero_le _) (List.replicate m.length 0) (by simp) fun c hcm => by
    rw [List.getD_eq_getElem?_getD, List.getElem?_replicate, if_pos hcm]; rfl
  rw [List.take_zero, List.map_nil] at this
  exact this

theorem spec_plEmpty_l0 (n : Nat) (hn : n ≤ 1048576) : ∀ i, i ≤ n → Ev (fun k => spec_plEmpty.l0 k (n : Int) (List.replicate i (List.replicate n 0)) (i : Int)) (zerosP n n) := by
  refine down ?_ ?_
  · refine Ev.succ ?_
    simp only [spec_plEmpty.l0, nlt (Nat.le_refl n), if_false]
    exact Ev.now _
  · intro i hi ih
    have c1 : n ≤ 35184372088832 := by omega
    have c2 : (List.replicate i (List.replicate n (0 : Int))).length < 5864062014805 := by rw [List.length_replicate]; omega
    refine Ev.succ ?_
    simp only [spec_plEmpty.l0, ilt hi, inn, if_true, Int.toNat_natCast, c1, c2, wnext hi (by omega : n ≤ 4611686018427387904), ← List.replicate_succ']
    exact ih
theorem spec_plEmpty_ev (n : Nat) (hn : n ≤ 1048576) : Ev (fun k => spec_plEmpty.f k (n : Int)) (zerosP n n) := by
  have := spec_plEmpty_l0 n hn 0 (Nat.zero_le _)
  simpa only [spec_plEmpty.f, List.replicate_zero, Int.natCast_zero] using this

theorem spec_l1Own_e (l : List Int) (hl : l.length < 17592186044416) : spec_l1Own.f l = some l := by
  simp only [spec_l1Own.f, Option.bind_some, List.nil_append, List.length_nil, Nat.zero_add, hl, if_true]

theorem spec_l1Least_e (a b : Int) : spec_l1Least.f a b = some (min a b) := by
  unfold spec_l1Least.f
  by_cases h : a < b
  · rw [if_pos h, show min a b = a by omega]
  · rw [if_neg h, show min a b = b by omega]

theorem spec_plMonotone_l0 : ∀ (d : Nat) (m : List (List Int)) (a b : List Int) (i j : Nat), (a.length - i) + (b.length - j) < d → i ≤ a.length → j ≤ b.length → a.length ≤ 1048576 → b.length ≤ 1048576 → Shp m a.length b.length → Ev (fun k => spec_plMonotone.l0 (a.length : Int) (b.length : Int) k m a b (i : Int) (j : Int)) (carryN d m a b i j)
  | 0, _, _, _, _, _, h, _, _, _, _, _ => by omega
  | d + 1, m, a, b, i, j, h, hi, hj, ha, hb, hs => by
    unfold carryN
    refine Ev.succ ?_
    by_cases c1 : i < a.length
    · by_cases c2 : j < b.length
      · have r1 : i < m.length := by rw [hs.1]; exact c1
        have hrow : rd_L2 m (i : Int) = m.getD i [] := by simp [rd_L2]
        have hl := hs.row c1
        have r2 : j < (m.getD i []).length := by rw [hl]; exact c2
        have hs2 : Shp (m.set i ((m.getD i []).set j (wrap64 ((m.getD i []).getD j 0 + min (a.getD i 0) (b.getD j 0))))) a.length b.length := hs.set (by rw [List.length_set]; exact hl)
        rw [if_pos ⟨c1, c2⟩]
        simp only [spec_plMonotone.l0, ilt c1, ilt c2, inn, if_true, hrow, ilt r1, ilt r2, rd_get, Int.toNat_natCast, spec_l1Least_e, Option.bind_some, wnext c1 (by omega : a.length ≤ 4611686018427387904), wnext c2 (by omega : b.length ≤ 4611686018427387904)]
        by_cases c3 : (a.set i (wrap64 (a.getD i 0 - min (a.getD i 0) (b.getD j 0)))).getD i 0 = 0
        · simp only [c3, if_true]
          have := spec_plMonotone_l0 d (m.set i ((m.getD i []).set j (wrap64 ((m.getD i []).getD j 0 + min (a.getD i 0) (b.getD j 0))))) (a.set i (wrap64 (a.getD i 0 - min (a.getD i 0) (b.getD j 0)))) (b.set j (wrap64 (b.getD j 0 - min (a.getD i 0) (b.getD j 0)))) (i + 1) j (by simp only [List.length_set]; omega) (by simp only [List.length_set]; omega) (by simp only [List.length_set]; omega) (by simp only [List.length_set]; omega) (by simp only [List.length_set]; omega) (by simp only [List.length_set]; exact hs2)
          simpa only [List.length_set] using this
        · simp only [c3, if_false]
          have := spec_plMonotone_l0 d (m.set i ((m.getD i []).set j (wrap64 ((m.getD i []).getD j 0 + min (a.getD i 0) (b.getD j 0))))) (a.set i (wrap64 (a.getD i 0 - min (a.getD i 0) (b.getD j 0)))) (b.set j (wrap64 (b.getD j 0 - min (a.getD i 0) (b.getD j 0)))) i (j + 1) (by simp only [List.length_set]; omega) (by simp only [List.length_set]; omega) (by simp only [List.length_set]; omega) (by simp only [List.length_set]; omega) (by simp only [List.length_set]; omega) (by simp only [List.length_set]; exact hs2)
          simpa only [List.length_set] using this
      · rw [if_neg (by omega)]
        simp only [spec_plMonotone.l0, ilt c1, nlt (Nat.le_of_not_lt c2), if_true, if_false]
        exact Ev.now _
    · rw [if_neg (by omega)]
      simp only [spec_plMonotone.l0, nlt (Nat.le_of_not_lt c1), if_false]
      exact Ev.now _

theorem spec_plMonotone_ev (a b : List Int) (h : a.length = b.length) (h0 : 0 < a.length) (ha : a.length ≤ 1048576) : Ev (fun k => spec_plMonotone.f k a b) (monoP a b) := by
  simp only [spec_plMonotone.f, spec_l1Own_e a (by omega), spec_l1Own_e b (by omega), Option.bind_some]
  refine Ev.bind (spec_plEmpty_ev a.length ha) ?_
  have hz : 0 < (zerosP a.length a.length).length := by simp [zerosP]; exact h0
  simp only [hz, if_true]
  exact spec_plMonotone_l0 _ (zerosP a.length a.length) a b 0 0 (by omega) (by omega) (by omega) ha (by omega) (h ▸ shp_zeros a.length a.length)

theorem spec_l1Cur_next_x {c : List Int} (hc : Bts c) (a s b : Int) (ha : At a b) (hb : b ≤ 4611686018427387904) : ∃ r : Int × Int × Int, spec_l1Cur_next.f c a s = some r ∧ 0 ≤ r.1 ∧ r.1 ≤ 255 ∧ At r.2.1 (b + 1) := by
  have h0 := ha.1
  have h1 := ha.2
  have e : wrap64 (a + 1) = a + 1 := w64 (by omega) (by omega)
  have a1 : At (a + 1) (b + 1) := ⟨by omega, by omega⟩
  have u : ∀ z : Int, 0 ≤ wrap64 (Go.bits .and .u64 (IntKind.u64.wrap z / 1099511627776) 255) ∧ wrap64 (Go.bits .and .u64 (IntKind.u64.wrap z / 1099511627776) 255) ≤ 255 := fun z => and255 _ (by rw [wrapU64]; omega) (by rw [wrapU64]; omega)
  unfold spec_l1Cur_next.f
  by_cases c1 : a < (c.length : Int)
  · have r := rd_code hc h0 c1
    simp only [c1, h0, if_true, e]
    by_cases c2 : a + 1 ≤ (c.length : Int)
    · simp only [c2, if_true]
      refine ⟨_, rfl, ?_, ?_, a1⟩
      · show 0 ≤ wrap64 _
        rw [w64 (by omega) (by omega)]; exact r.1
      · show wrap64 _ ≤ 255
        rw [w64 (by omega) (by omega)]; exact r.2
    · simp only [c2, if_false]
      exact ⟨_, rfl, (u _).1, (u _).2, a1⟩
  · simp only [c1, if_false, e]
    by_cases c2 : a + 1 ≤ (c.length : Int)
    · simp only [c2, if_true]
      exact ⟨_, rfl, by show (0 : Int) ≤ 0; omega, by show (0 : Int) ≤ 255; omega, a1⟩
    · simp only [c2, if_false]
      exact ⟨_, rfl, (u _).1, (u _).2, a1⟩

theorem spec_l1Cur_pick_x {c : List Int} (hc : Bts c) (a s b n : Int) (ha : At a b) (hb : b ≤ 1073741824) : Ex (fun _ => spec_l1Cur_pick.f c a s n) (fun r => 0 ≤ r.1 ∧ (1 ≤ n → r.1 < n) ∧ At r.2.1 (b + 2)) := by
  have h0 := ha.1
  have h1 := ha.2
  unfold spec_l1Cur_pick.f
  by_cases c1 : n ≤ 1
  · simp only [c1, if_true]
    exact Ex.now ⟨by show (0 : Int) ≤ 0; omega, fun h => by show (0 : Int) < n; omega, by omega, by show a ≤ b + 2; omega⟩
  · simp only [c1, if_false]
    obtain ⟨r, hr, r0, r1, r2⟩ := spec_l1Cur_next_x hc a s b ha (by omega)
    rw [hr]
    simp only [Option.bind_some]
    have n0 : ¬ n = 0 := by omega
    by_cases c2 : n > 200
    · simp only [c2, if_true]
      obtain ⟨q, hq, q0, q1, q2⟩ := spec_l1Cur_next_x hc r.2.1 r.2.2 (b + 1) r2 (by omega)
      rw [hq]
      simp only [Option.bind_some, n0, if_false]
      have e : wrap64 (wrap64 (r.1 * 256) + q.1) = r.1 * 256 + q.1 := by rw [w64 (x := r.1 * 256) (by omega) (by omega), w64 (by omega) (by omega)]
      rw [e]
      refine Ex.now ⟨Int.tmod_nonneg _ (by omega), fun _ => Int.tmod_lt_of_pos _ (by omega), q2.1, ?_⟩
      have := q2.2
      show q.2.1 ≤ b + 2
      omega
    · simp only [c2, if_false, n0]
      refine Ex.now ⟨Int.tmod_nonneg _ (by omega), fun _ => Int.tmod_lt_of_pos _ (by omega), r2.1, ?_⟩
      have := r2.2
      show r.2.1 ≤ b + 2
      omega

theorem spec_l1Cur_among_x {c : List Int} (hc : Bts c) (a s b : Int) (l : List Int) (hl : 1 ≤ l.length) (ha : At a b) (hb : b ≤ 1073741824) : Ex (fun _ => spec_l1Cur_among.f c a s l) (fun r => r.1 ∈ l ∧ At r.2.1 (b + 2)) := by
  unfold spec_l1Cur_among.f
  refine Ex.bind (spec_l1Cur_pick_x hc a s b _ ha hb) fun r hr => ?_
  have h0 := hr.1
  have h1 := hr.2.1 (by omega)
  simp only [h0, h1, if_true]
  refine Ex.now ⟨?_, hr.2.2⟩
  have hi : r.1.toNat < l.length := by omega
  show rd l r.1 ∈ l
  unfold rd
  rw [List.getD_eq_getElem?_getD, List.getElem?_eq_getElem hi, Option.getD_some]
  exact List.getElem_mem hi

theorem spec_l1Cur_list_l {c : List Int} (hc : Bts c) (m : Int) : ∀ (n : Nat) (x : List Int) (a s b : Int), At a b → b + 2 * n ≤ 1073741824 → x.length + n ≤ 1048576 → Ex (fun k => spec_l1Cur_list.l0 k m x (n : Int) c a s) (fun r => r.1.length = x.length + n ∧ At r.2.1 (b + 2 * n))
  | 0, x, a, s, b, ha, hb, hx => by
    refine Ex.succ ?_
    simp only [spec_l1Cur_list.l0, show ¬ (((0 : Nat) : Int) > 0) by omega, if_false]
    exact Ex.now ⟨rfl, by simpa using ha⟩
  | n + 1, x, a, s, b, ha, hb, hx => by
    refine Ex.succ ?_
    simp only [spec_l1Cur_list.l0, show (((n + 1 : Nat) : Int) > 0) by omega, if_true]
    refine Ex.bind (spec_l1Cur_pick_x hc a s b _ ha (by omega)) fun r hr => ?_
    have hl : x.length < 17592186044416 := by omega
    simp only [hl, if_true, w64 (x := ((n + 1 : Nat) : Int) - 1) (by omega) (by omega)]
    rw [show ((n + 1 : Nat) : Int) - 1 = (n : Int) by omega]
    refine (spec_l1Cur_list_l hc m n (x ++ [r.1]) r.2.1 r.2.2 (b + 2) hr.2.2 (by omega) (by rw [List.length_append, List.length_singleton]; omega)).mono fun q hq => ?_
    rw [List.length_append, List.length_singleton] at hq
    exact ⟨by omega, hq.2.1, by have := hq.2.2; omega⟩
theorem spec_l1Cur_list_x {c : List Int} (hc : Bts c) (a s b m : Int) (ha : At a b) (hb : b ≤ 536870912) : Ex (fun k => spec_l1Cur_list.f k c a s m) (fun r => 1 ≤ r.1.length ∧ r.1.length ≤ 6 ∧ At r.2.1 (b + 14)) := by
  simp only [spec_l1Cur_list.f]
  refine Ex.bind (spec_l1Cur_pick_x hc a s b 6 ha (by omega)) fun r hr => ?_
  have h0 := hr.1
  have h1 := hr.2.1 (by omega)
  obtain ⟨n, hn⟩ := Int.eq_ofNat_of_zero_le h0
  rw [w64 (by omega) (by omega), show 1 + r.1 = ((n + 1 : Nat) : Int) by omega]
  refine (spec_l1Cur_list_l hc m (n + 1) [] r.2.1 r.2.2 (b + 2) hr.2.2 (by omega) (by simp; omega)).mono fun q hq => ?_
  rw [List.length_nil] at hq
  exact ⟨by omega, by omega, hq.2.1, by have := hq.2.2; omega⟩

theorem siz_set {m : List (List Int)} (h : Siz m) (i : Nat) {r : List Int} (hr : r.length ≤ 1048576) : Siz (m.set i r) := ⟨by rw [List.length_set]; exact h.1, fun q hq => by
  rcases List.mem_or_eq_of_mem_set hq with hq | hq
  · exact h.2 q hq
  · rw [hq]; exact hr⟩
theorem spec_l1Cur_planOf_l {c : List Int} (hc : Bts c) (n : Nat) (h1 : 1 ≤ n) (hn : n ≤ 9) : ∀ (d : Nat) (m : List (List Int)) (a s b : Int), Shp m n n → d ≤ 1048576 → At a b → b + 6 * d + 30 ≤ 134217728 → Ex (fun k => spec_l1Cur_planOf.l0 k (n : Int) m (d : Int) c a s) (fun r => Siz r.1 ∧ At r.2.1 (b + 6 * d + 20))
  | 0, m, a, s, b, hm, hd, ha, hb => by
    have c0 : ¬ (((0 : Nat) : Int) > 0) := by omega
    have hl := hm.1
    have hsz : Siz m := hm.siz (by omega) (by omega)
    refine Ex.succ ?_
    simp only [spec_l1Cur_planOf.l0, c0, if_false]
    refine Ex.bind (spec_l1Cur_pick_x hc a s b 14 ha (by omega)) fun r hr => ?_
    by_cases c1 : r.1 = 0
    · simp only [c1, if_true]
      refine Ex.bind (spec_l1Cur_pick_x hc _ _ (b + 2) (n : Int) hr.2.2 (by omega)) fun q hq => ?_
      have q0 := hq.1
      have q1 : q.1 < (m.length : Int) := by have := hq.2.1 (by omega); omega
      simp only [q0, q1, if_true]
      refine Ex.bind (spec_l1Cur_pick_x hc _ _ (b + 2 + 2) (n : Int) hq.2.2 (by omega)) fun z hz => ?_
      refine Ex.bind (spec_l1Cur_among_x hc _ _ (b + 2 + 2 + 2) _ (by simp) hz.2.2 (by omega)) fun y hy => ?_
      have z0 := hz.1
      have e : (rd_L2 m q.1).length = n := hm.row (i := q.1.toNat) (by omega)
      have z1 : z.1 < ((rd_L2 m q.1).length : Int) := by have := hz.2.1 (by omega); rw [e]; omega
      simp only [z0, z1, if_true]
      exact Ex.now ⟨siz_set hsz _ (by rw [List.length_set, e]; omega), hy.2.1, Int.le_trans hy.2.2 (by omega)⟩
    · simp only [c1, if_false]
      by_cases c2 : r.1 = 1
      · simp only [c2, if_true]
        refine Ex.bind (spec_l1Cur_pick_x hc _ _ (b + 2) (n : Int) hr.2.2 (by omega)) fun q hq => ?_
        refine Ex.bind (spec_l1Cur_list_x hc _ _ (b + 2 + 2) 3 hq.2.2 (by omega)) fun y hy => ?_
        have q0 := hq.1
        have q1 : q.1 < (m.length : Int) := by have := hq.2.1 (by omega); omega
        simp only [q0, q1, if_true]
        exact Ex.now ⟨siz_set hsz _ (by have := hy.2.1; omega), hy.2.2.1, Int.le_trans hy.2.2.2 (by omega)⟩
      · simp only [c2, if_false]
        exact Ex.now ⟨hsz, hr.2.2.1, Int.le_trans hr.2.2.2 (by omega)⟩
  | d + 1, m, a, s, b, hm, hd, ha, hb => by
    have c0 : ((d + 1 : Nat) : Int) > 0 := by omega
    have e0 : wrap64 (((d + 1 : Nat) : Int) - 1) = (d : Int) := wprev (by omega)
    have hl := hm.1
    refine Ex.succ ?_
    simp only [spec_l1Cur_planOf.l0, c0, if_true, e0]
    refine Ex.bind (spec_l1Cur_pick_x hc a s b (n : Int) ha (by omega)) fun q hq => ?_
    have q0 := hq.1
    have q1 : q.1 < (m.length : Int) := by have := hq.2.1 (by omega); omega
    simp only [q0, q1, if_true]
    refine Ex.bind (spec_l1Cur_pick_x hc _ _ (b + 2) (n : Int) hq.2.2 (by omega)) fun z hz => ?_
    have z0 := hz.1
    have e : (rd_L2 m q.1).length = n := hm.row (i := q.1.toNat) (by omega)
    have z1 : z.1 < ((rd_L2 m q.1).length : Int) := by have := hz.2.1 (by omega); rw [e]; omega
    simp only [z0, z1, if_true]
    refine Ex.bind (spec_l1Cur_pick_x hc _ _ (b + 2 + 2) 4 hz.2.2 (by omega)) fun y hy => ?_
    refine Ex.mono (spec_l1Cur_planOf_l hc n h1 hn d _ _ _ (b + 2 + 2 + 2) (hm.set (by rw [List.length_set]; exact e)) (by omega) hy.2.2 (by omega)) fun w hw => ?_
    exact ⟨hw.1, hw.2.1, Int.le_trans hw.2.2 (by omega)⟩
theorem spec_l1Cur_planOf_x {c : List Int} (hc : Bts c) (a s b n : Int) (h1 : 1 ≤ n) (hn : n ≤ 9) (ha : At a b) (hb : b ≤ 1048576) : Ex (fun k => spec_l1Cur_planOf.f k c a s n) (fun r => Siz r.1 ∧ At r.2.1 (b + 100)) := by
  simp only [spec_l1Cur_planOf.f]
  have en : n = ((n.toNat : Nat) : Int) := by omega
  rw [en]
  refine Ex.bind (P := fun m => m = zerosP n.toNat n.toNat) ⟨_, spec_plEmpty_ev n.toNat (by omega), rfl⟩ fun m hm => ?_
  refine Ex.bind (spec_l1Cur_pick_x hc a s b 7 ha (by omega)) fun r hr => ?_
  have r0 := hr.1
  have r1 := hr.2.1 (by omega)
  have er : r.1 = ((r.1.toNat : Nat) : Int) := by omega
  rw [er]
  refine Ex.mono (spec_l1Cur_planOf_l hc n.toNat (by omega) (by omega) r.1.toNat m _ _ (b + 2) (by rw [hm]; exact shp_zeros _ _) (by omega) hr.2.2 (by omega)) fun w hw => ?_
  exact ⟨hw.1, hw.2.1, Int.le_trans hw.2.2 (by omega)⟩

theorem spec_l1Cur_one_x {c : List Int} (hc : Bts c) (a s b n : Int) (ha : At a b) (hb : b ≤ 1073741824) : Ex (fun _ => spec_l1Cur_one.f c a s n) (fun r => At r.2.1 (b + 2)) := by
  unfold spec_l1Cur_one.f
  refine Ex.bind (spec_l1Cur_pick_x hc a s b n ha hb) fun r hr => ?_
  exact Ex.now hr.2.2

theorem spec_l1Cur_places_x {c : List Int} (hc : Bts c) (a s b : Int) (ha : At a b) (hb : b ≤ 1048576) : Ex (fun _ => spec_l1Cur_places.f c a s) (fun r => 1 ≤ r.1 ∧ r.1 ≤ 9 ∧ At r.2.1 (b + 4)) := by
  simp only [spec_l1Cur_places.f]
  refine Ex.bind (spec_l1Cur_one_x hc a s b 10 ha (by omega)) fun r hr => ?_
  by_cases c1 : r.1 = true
  · simp only [c1, if_true]
    refine Ex.bind (spec_l1Cur_pick_x hc _ _ (b + 2) 2 hr (by omega)) fun q hq => ?_
    have q0 := hq.1
    have q1 := hq.2.1 (by omega)
    have e : wrap64 (8 + q.1) = 8 + q.1 := w64 (by omega) (by omega)
    refine Ex.now ⟨?_, ?_, hq.2.2.1, Int.le_trans hq.2.2.2 (by omega)⟩ <;> simp only [e] <;> omega
  · simp only [c1, if_false]
    refine Ex.bind (spec_l1Cur_pick_x hc _ _ (b + 2) 5 hr (by omega)) fun q hq => ?_
    have q0 := hq.1
    have q1 := hq.2.1 (by omega)
    have e : wrap64 (1 + q.1) = 1 + q.1 := w64 (by omega) (by omega)
    refine Ex.now ⟨?_, ?_, hq.2.2.1, Int.le_trans hq.2.2.2 (by omega)⟩ <;> simp only [e] <;> omega

theorem spec_l1In_e (a b c : Int) : spec_l1In.f a b c = some (wth a b c) := wth_opt a b c

theorem spec_l1All_l (l : List Int) (lo hi : Int) (hl : l.length ≤ 4611686018427387904) : ∀ i, i ≤ l.length → Ev (fun k => spec_l1All.l0 k lo hi l (l.length : Int) (i : Int)) (allW (l.drop i) lo hi) := by
  refine down ?_ ?_
  · refine Ev.succ ?_
    simp only [spec_l1All.l0, nlt (Nat.le_refl l.length), if_false, List.drop_length]
    exact Ev.now _
  · intro i hi ih
    refine Ev.succ ?_
    simp only [spec_l1All.l0, ilt hi, inn, if_true, spec_l1In_e, Option.bind_some, rd_lt hi, wnext hi hl]
    rw [drop_cons hi]
    exact Ev.andS fun _ => ih
theorem spec_l1All_ev (l : List Int) (lo hi : Int) (hl : l.length ≤ 4611686018427387904) : Ev (fun k => spec_l1All.f k l lo hi) (allW l lo hi) := by
  have := spec_l1All_l l lo hi hl 0 (Nat.zero_le _)
  simpa only [spec_l1All.f, List.drop_zero, Int.natCast_zero] using this

theorem spec_plGood_l (m : List (List Int)) (h : Siz m) : ∀ i, i ≤ m.length → Ev (fun k => spec_plGood.l0 k m m (m.length : Int) (i : Int)) ((m.drop i).all (rowOk m.length)) := by
  have hm := h.1
  refine down ?_ ?_
  · refine Ev.succ ?_
    simp only [spec_plGood.l0, nlt (Nat.le_refl m.length), if_false, List.drop_length, List.all_nil]
    exact Ev.now _
  · intro i hi ih
    have hrow : rd_L2 m (i : Int) = m[i] := by simp [rd_L2, List.getD_eq_getElem?_getD, hi]
    refine Ev.succ ?_
    simp only [spec_plGood.l0, ilt hi, inn, if_true, hrow, wnext hi (by omega : m.length ≤ 4611686018427387904)]
    rw [drop_cons hi, List.all_cons]
    by_cases c : m[i].length = m.length
    · have c2 : (m[i].length : Int) = (m.length : Int) := by omega
      simp only [c2, if_true, rowOk, c, decide_true, Bool.true_and]
      exact Ev.and (spec_l1All_ev m[i] 0 60 (by have := h.2 _ (List.getElem_mem hi); omega)) fun _ => ih
    · have c2 : ¬ (m[i].length : Int) = (m.length : Int) := by omega
      simp only [c2, if_false, rowOk, c, decide_false, Bool.false_and]
      exact Ev.now _
theorem spec_plGood_ev (m : List (List Int)) (h : Siz m) : Ev (fun k => spec_plGood.f k m) (planB m) := by
  simp only [spec_plGood.f, spec_l1In_e, Option.bind_some, planB]
  exact Ev.andS fun _ => spec_plGood_l m h 0 (Nat.zero_le _)

theorem spec_liSum_l (l : List Int) (hl : l.length ≤ 4611686018427387904) : ∀ i, i ≤ l.length → ∀ acc, InR acc → Ev (fun k => spec_liSum.l0 k acc l (l.length : Int) (i : Int)) (wrap64 (acc + (l.drop i).sum)) := by
  refine down ?_ ?_
  · intro acc ha
    refine Ev.succ ?_
    simp only [spec_liSum.l0, nlt (Nat.le_refl l.length), if_false, List.drop_length, List.sum_nil, Int.add_zero, wR ha]
    exact Ev.now _
  · intro i hi ih acc ha
    refine Ev.succ ?_
    simp only [spec_liSum.l0, ilt hi, inn, if_true, rd_lt hi, wnext hi hl]
    rw [drop_cons hi, List.sum_cons, ← Int.add_assoc]
    exact (ih _ (inR_wrap _)).eqv (wr_add _ _)
theorem spec_liSum_ev (l : List Int) (hl : l.length ≤ 4611686018427387904) : Ev (fun k => spec_liSum.f k l) (wrap64 l.sum) := by
  have := spec_liSum_l l hl 0 (Nat.zero_le _) 0 inR_0
  simpa only [spec_liSum.f, List.drop_zero, Int.zero_add, Int.natCast_zero] using this
theorem spec_liSum_good {l : List Int} (h : Lst l) : Ev (fun k => spec_liSum.f k l) l.sum :=
  (spec_liSum_ev l (by have := h.2.1; omega)).eqv (w64 (by have := h.sum; omega) (by have := h.sum; omega))

theorem spec_plSums_l1 (m : List (List Int)) (h : Plan m) (o : Nat) (ho : o < m.length) (rows : List Int) (R : List Int × List Int)
    (hk : Ev (fun k => spec_plSums.l0 k rows ((colsUpto m (o + 1)).map List.sum) m (m.length : Int) (wrap64 ((o : Int) + 1))) R) :
    ∀ j, j ≤ m[o].length → ∀ out : List Int, out.length = m.length → out.take j = ((colsUpto m (o + 1)).map List.sum).take j → out.drop j = ((colsUpto m o).map List.sum).drop j → Ev (fun k => spec_plSums.l1 k rows out m (m.length : Int) (o : Int) m[o] (m[o].length : Int) (j : Int)) R := by
  have hm := h.2.1
  have hl := (h.2.2 _ (List.getElem_mem ho)).1
  refine down ?_ ?_
  · intro out hout e1 e2
    refine Ev.succ ?_
    simp only [spec_plSums.l1, nlt (Nat.le_refl m[o].length), if_false]
    rw [hl, ← hout, List.take_length, hout, List.take_of_length_le (by rw [List.length_map, colsUpto_len]; exact Nat.le_refl _)] at e1
    rw [e1]
    exact hk
  · intro j hj ih out hout e1 e2
    have hj2 : j < out.length := by omega
    have hj3 : j < m.length := by omega
    have hc : ∀ q, j < ((colsUpto m q).map List.sum).length := fun q => by rw [List.length_map, colsUpto_len]; exact hj3
    have hx : out[j] = ((m.take o).map fun r => r.getD j 0).sum := by
      rw [drop_cons hj2, drop_cons (hc o)] at e2
      rw [(List.cons.inj e2).1, List.getElem_map, colsUpto_get hj3]
    have hb : 0 ≤ out[j] ∧ out[j] ≤ 480 := by
      rw [hx]
      have := sum_bound (l := (m.take o).map fun r => r.getD j 0) (lo := 0) (hi := 60) (by
        intro z hz
        obtain ⟨r, hr, rfl⟩ := List.mem_map.1 hz
        exact h.getD (List.mem_of_mem_take hr) j)
      rw [List.length_map, List.length_take] at this
      omega
    have hy := (h.2.2 _ (List.getElem_mem ho)).2 _ (List.getElem_mem hj)
    have hn : ((colsUpto m (o + 1)).map List.sum)[j]'(hc (o + 1)) = out[j] + m[o][j] := by
      rw [List.getElem_map, colsUpto_get hj3, hx, List.take_succ_eq_append_getElem ho, List.map_append, List.sum_append]
      simp [List.getD_eq_getElem?_getD, hj]
    refine Ev.succ ?_
    simp only [spec_plSums.l1, ilt hj, ilt hj2, inn, if_true, rd_lt hj, rd_lt hj2, wnext hj (by omega : m[o].length ≤ 4611686018427387904), Int.toNat_natCast]
    rw [w64 (x := out[j] + m[o][j]) (by omega) (by omega)]
    have st := set_takeG ((colsUpto m (o + 1)).map List.sum) out j (hc (o + 1)) (by rw [List.length_map, colsUpto_len]; exact hout) e1
    rw [hn] at st
    refine ih _ (by simpa using hout) st ?_
    rw [List.drop_set_of_lt (by omega)]
    rw [drop_cons hj2, drop_cons (hc o)] at e2
    exact (List.cons.inj e2).2
theorem spec_plSums_l0 (m : List (List Int)) (h : Plan m) : ∀ i, i ≤ m.length → ∀ rows : List Int, rows.length = i → Ev (fun k => spec_plSums.l0 k rows ((colsUpto m i).map List.sum) m (m.length : Int) (i : Int)) (rows ++ (m.drop i).map List.sum, (colsUpto m m.length).map List.sum) := by
  have hm := h.2.1
  refine down ?_ ?_
  · intro rows hr
    refine Ev.succ ?_
    simp only [spec_plSums.l0, nlt (Nat.le_refl m.length), if_false, List.drop_length, List.map_nil, List.append_nil]
    exact Ev.now _
  · intro i hi ih rows hr
    have hrow : rd_L2 m (i : Int) = m[i] := by simp [rd_L2, List.getD_eq_getElem?_getD, hi]
    have hs := h.short _ (List.getElem_mem hi)
    have lim : rows.length < 17592186044416 := by omega
    refine Ev.succ ?_
    simp only [spec_plSums.l0, ilt hi, inn, if_true, hrow]
    refine Ev.bind ((spec_liSum_ev m[i] (by have := hs.1; omega)).eqv (w64 (by have := hs.sum; omega) (by have := hs.sum; omega))) ?_
    simp only [lim, if_true]
    refine spec_plSums_l1 m h i hi _ _ ?_ 0 (Nat.zero_le _) _ (by rw [List.length_map, colsUpto_len]) rfl rfl
    rw [wnext hi (by omega : m.length ≤ 4611686018427387904), drop_cons hi, List.map_cons]
    exact (ih _ (by simp [hr])).eqv (by simp)
theorem spec_plSums_ev (m : List (List Int)) (h : Plan m) : Ev (fun k => spec_plSums.f k m) (m.map List.sum, (colsUpto m m.length).map List.sum) := by
  have hm := h.2.1
  have c1 : m.length ≤ 35184372088832 := by omega
  simp only [spec_plSums.f, inn, Int.toNat_natCast, c1, if_true]
  have := spec_plSums_l0 m h 0 (Nat.zero_le _) [] rfl
  rw [colsUpto_zero, List.map_replicate, List.sum_nil, List.drop_zero, List.nil_append] at this
  exact this

theorem spec_plTurned_l (l : List Int) (hl : l.length ≤ 1048576) : ∀ (d : Nat) (s : List Int), d ≤ l.length → s.length + d ≤ 1048576 → Ex (fun k => spec_plTurned.l0 k l s ((d : Int) - 1)) (fun r => r.length = s.length + d)
  | 0, s, _, _ => by
    have c0 : ¬ (((0 : Nat) : Int) - 1 ≥ 0) := by omega
    refine Ex.succ ?_
    simp only [spec_plTurned.l0, c0, if_false]
    exact Ex.now rfl
  | d + 1, s, hd, hs => by
    have e : ((d + 1 : Nat) : Int) - 1 = (d : Int) := by omega
    have c0 : (d : Int) ≥ 0 := by omega
    have c1 : (d : Int) < (l.length : Int) := by omega
    have c2 : s.length < 17592186044416 := by omega
    have e2 : wrap64 ((d : Int) - 1) = (d : Int) - 1 := w64 (by omega) (by omega)
    rw [e]
    refine Ex.succ ?_
    simp only [spec_plTurned.l0, c0, c1, c2, inn, if_true, e2]
    refine Ex.mono (spec_plTurned_l l hl d (s ++ [rd l (d : Int)]) (by omega) (by rw [List.length_append, List.length_singleton]; omega)) fun r hr => ?_
    rw [List.length_append, List.length_singleton] at hr
    omega
theorem spec_plTurned_x (l : List Int) (hl : l.length ≤ 1048576) : Ex (fun k => spec_plTurned.f k l) (fun r => r.length = l.length) := by
  simp only [spec_plTurned.f]
  rw [w64 (x := (l.length : Int) - 1) (by omega) (by omega)]
  refine Ex.mono (spec_plTurned_l l hl l.length [] (Nat.le_refl _) (by simp; omega)) fun r hr => ?_
  rw [hr]; simp

theorem spec_DrawGluePlans_l1 (m : List (List Int)) (hm : Siz m) (b : List Int) (n : Nat) (h1 : 1 ≤ n) (h8 : n ≤ 8) (hb : b.length = n) (t : List (List Int)) (ht : Shp t n n) : ∀ (d i : Nat) (p : List (List Int)), i + d = n → Shp p n n → Ex (fun k => spec_DrawGluePlans.l1 k m b p t (t.length : Int) (i : Int)) (fun r => Siz r.1 ∧ Siz r.2)
  | 0, i, p, hi, hp => by
    refine Ex.succ ?_
    simp only [spec_DrawGluePlans.l1, nlt (show t.length ≤ i by rw [ht.1]; omega), if_false]
    exact Ex.now ⟨hm, hp.siz (by omega) (by omega)⟩
  | d + 1, i, p, hi, hp => by
    have hit : i < t.length := by rw [ht.1]; omega
    have e1 : wrap64 ((b.length : Int) - 1) = (b.length : Int) - 1 := w64 (by omega) (by omega)
    have e2 : wrap64 ((b.length : Int) - 1 - (i : Int)) = (b.length : Int) - 1 - i := w64 (by omega) (by omega)
    have c1 : 0 ≤ (b.length : Int) - 1 - (i : Int) := by omega
    have c2 : (b.length : Int) - 1 - (i : Int) < (p.length : Int) := by have := hp.1; omega
    refine Ex.succ ?_
    simp only [spec_DrawGluePlans.l1, ilt hit, inn, if_true, e1, e2, c1, c2, wnext hit (by have := ht.1; omega)]
    refine spec_DrawGluePlans_l1 m hm b n h1 h8 hb t ht d (i + 1) _ (by omega) (hp.set ?_)
    exact ht.row (i := i) (by omega)
theorem spec_DrawGluePlans_l0 {c : List Int} (hc : Bts c) (m : List (List Int)) (hm : Plan m) (x7 : List Int) (h7 : x7.length = m.length) : ∀ (d : Nat) (y : List Int) (a s b : Int), y.length = m.length → d ≤ 1048576 → At a b → b + 4 * d + 4 ≤ 134217728 → Ex (fun k => spec_DrawGluePlans.l0 k m x7 y (d : Int) c a s) (fun r => Siz r.1 ∧ Siz r.2)
  | 0, y, a, s, b, hy, hd, ha, hb => by
    have c0 : ¬ (((0 : Nat) : Int) > 0) := by omega
    have h1 := hm.1
    have h8 := hm.2.1
    refine Ex.succ ?_
    simp only [spec_DrawGluePlans.l0, c0, if_false]
    refine Ex.bind (P := fun p => p = monoP x7 y) ⟨_, spec_plMonotone_ev x7 y (by omega) (by omega) (by omega), rfl⟩ fun p hp => ?_
    refine Ex.bind (spec_l1Cur_one_x hc a s b 3 ha (by omega)) fun r hr => ?_
    by_cases c1 : r.1 = true
    · simp only [c1, if_true]
      refine Ex.bind (spec_plTurned_x x7 (by omega)) fun z hz => ?_
      refine Ex.bind (P := fun p => p = monoP z y) ⟨_, spec_plMonotone_ev z y (by omega) (by omega) (by omega), rfl⟩ fun t ht => ?_
      refine Ex.bind (P := fun p => p = zerosP y.length y.length) ⟨_, spec_plEmpty_ev y.length (by omega), rfl⟩ fun e he => ?_
      have st : Shp t m.length m.length := by rw [ht]; have := monoP_shp z y; rwa [show z.length = m.length by omega] at this
      have se : Shp e m.length m.length := by rw [he, hy]; exact shp_zeros _ _
      have := spec_DrawGluePlans_l1 m hm.siz y m.length h1 h8 hy t st m.length 0 e (by omega) se
      exact this
    · simp only [c1, if_false]
      have sp : Shp p x7.length x7.length := by rw [hp]; exact monoP_shp x7 y
      exact Ex.now ⟨hm.siz, sp.siz (by omega) (by omega)⟩
  | d + 1, y, a, s, b, hy, hd, ha, hb => by
    have c0 : ((d + 1 : Nat) : Int) > 0 := by omega
    have e0 : wrap64 (((d + 1 : Nat) : Int) - 1) = (d : Int) := wprev (by omega)
    have h1 := hm.1
    refine Ex.succ ?_
    simp only [spec_DrawGluePlans.l0, c0, if_true, e0]
    refine Ex.bind (spec_l1Cur_pick_x hc a s b (y.length : Int) ha (by omega)) fun q hq => ?_
    refine Ex.bind (spec_l1Cur_pick_x hc _ _ (b + 2) (y.length : Int) hq.2.2 (by omega)) fun z hz => ?_
    have q0 := hq.1
    have q1 := hq.2.1 (by omega)
    have z0 := hz.1
    have z1 := hz.2.1 (by omega)
    simp only [q0, q1, if_true]
    by_cases c1 : rd y q.1 > 0
    · simp only [c1, if_true, Option.bind_some, z0, z1]
      exact spec_DrawGluePlans_l0 hc m hm x7 h7 d _ _ _ (b + 2 + 2) (by rw [List.length_set, List.length_set]; exact hy) (by omega) hz.2.2 (by omega)
    · simp only [c1, if_false]
      exact spec_DrawGluePlans_l0 hc m hm x7 h7 d y _ _ (b + 2 + 2) hy (by omega) hz.2.2 (by omega)
theorem spec_DrawGluePlans_x {c : List Int} (hc : Bts c) : Ex (fun k => spec_DrawGluePlans.f k c) (fun r => Siz r.1 ∧ Siz r.2) := by
  simp only [spec_DrawGluePlans.f]
  refine Ex.bind (spec_l1Cur_places_x hc 0 0 0 ⟨by omega, by omega⟩ (by omega)) fun r hr => ?_
  refine Ex.bind (spec_l1Cur_planOf_x hc _ _ (0 + 4) r.1 hr.1 hr.2.1 hr.2.2 (by omega)) fun q hq => ?_
  have other : ∀ (x : List (List Int)) (a s b : Int), Siz x → At a b → b ≤ 1000000 → Ex (fun k => spec_DrawGluePlans.j0 k x true c a s) (fun r => Siz r.1 ∧ Siz r.2) := fun x a s b hx ha hb => by
    refine Ex.succ ?_
    simp only [spec_DrawGluePlans.j0, if_true]
    refine Ex.bind (spec_l1Cur_places_x hc a s b ha (by omega)) fun r hr => ?_
    refine Ex.bind (spec_l1Cur_planOf_x hc _ _ (b + 4) r.1 hr.1 hr.2.1 hr.2.2 (by omega)) fun q hq => ?_
    exact Ex.now ⟨hx, hq.1⟩
  refine Ex.bind (P := fun t => t = planB q.1) ⟨_, spec_plGood_ev q.1 hq.1, rfl⟩ fun t ht => ?_
  by_cases h : t = true
  · simp only [h, if_true]
    have hp : Plan q.1 := planB_iff.1 (by rw [← ht]; exact h)
    refine Ex.bind (spec_l1Cur_one_x hc _ _ (0 + 4 + 100) 6 hq.2 (by omega)) fun z hz => ?_
    by_cases c1 : z.1 = true
    · rw [c1]; exact other _ _ _ (0 + 4 + 100 + 2) hq.1 hz (by omega)
    · have c2 : z.1 = false := Bool.eq_false_iff.2 c1
      rw [c2]
      refine Ex.succ ?_
      simp only [spec_DrawGluePlans.j0, Bool.false_eq_true, if_false]
      have h8 := hp.2.1
      have lk : (colsP q.1).length = q.1.length := colsP_len q.1
      refine Ex.bind (P := fun t => t = (rowsP q.1, colsP q.1)) ⟨_, spec_plSums_ev q.1 hp, rfl⟩ fun y hy => ?_
      rw [hy]
      simp only [spec_l1Own_e (colsP q.1) (by omega), Option.bind_some]
      refine Ex.bind (spec_l1Cur_pick_x hc _ _ (0 + 4 + 100 + 2) 8 hz (by omega)) fun w hw => ?_
      have w0 := hw.1
      have w1 := hw.2.1 (by omega)
      have ew : w.1 = ((w.1.toNat : Nat) : Int) := by omega
      rw [ew]
      exact spec_DrawGluePlans_l0 hc q.1 hp (colsP q.1) lk w.1.toNat (colsP q.1) _ _ (0 + 4 + 100 + 2 + 2) lk (by omega) hw.2.2 (by omega)
  · simp only [h, if_false]
    exact other _ _ _ (0 + 4 + 100) hq.1 hq.2 (by omega)

theorem impl_turn_l1 (m : List (List Int)) (h : Plan m) (o : Nat) (ho : o < m.length) (R : List (List Int))
    (hk : Ev (fun k => impl_turn.l0 k (colsUpto m (o + 1)) m (m.length : Int) (wrap64 ((o : Int) + 1))) R) :
    ∀ j, j ≤ m[o].length → ∀ out : List (List Int), out.length = m.length → out.take j = (colsUpto m (o + 1)).take j → out.drop j = (colsUpto m o).drop j → Ev (fun k => impl_turn.l1 k out m (m.length : Int) (o : Int) m[o] (m[o].length : Int) (j : Int)) R := by
  have hm := h.2.1
  have hl := (h.2.2 _ (List.getElem_mem ho)).1
  refine down ?_ ?_
  · intro out hout e1 e2
    refine Ev.succ ?_
    simp only [impl_turn.l1, nlt (Nat.le_refl m[o].length), if_false]
    rw [hl, ← hout, List.take_length, hout, List.take_of_length_le (by rw [colsUpto_len]; exact Nat.le_refl _)] at e1
    rw [e1]
    exact hk
  · intro j hj ih out hout e1 e2
    have hj2 : j < out.length := by omega
    have hj3 : j < m.length := by omega
    have hrow : rd_L2 out (j : Int) = out[j] := by simp [rd_L2, List.getD_eq_getElem?_getD, hj2]
    have hx : out[j] = (m.take o).map fun r => r.getD j 0 := by
      rw [drop_cons hj2, drop_cons (l := colsUpto m o) (by rw [colsUpto_len]; exact hj3)] at e2
      rw [(List.cons.inj e2).1, colsUpto_get hj3]
    have lim : out[j].length < 17592186044416 := by rw [hx, List.length_map, List.length_take]; omega
    have hn : (colsUpto m (o + 1))[j]'(by rw [colsUpto_len]; exact hj3) = out[j] ++ [m[o][j]] := by
      rw [colsUpto_get hj3, hx, List.take_succ_eq_append_getElem ho, List.map_append]
      simp [List.getD_eq_getElem?_getD, hj]
    refine Ev.succ ?_
    simp only [impl_turn.l1, ilt hj, ilt hj2, inn, if_true, rd_lt hj, hrow, lim, wnext hj (by omega : m[o].length ≤ 4611686018427387904), Int.toNat_natCast]
    have st := set_takeG (colsUpto m (o + 1)) out j (by rw [colsUpto_len]; exact hj3) (by rw [colsUpto_len]; exact hout) e1
    rw [hn] at st
    refine ih _ (by simpa using hout) st ?_
    rw [List.drop_set_of_lt (by omega)]
    rw [drop_cons hj2, drop_cons (l := colsUpto m o) (by rw [colsUpto_len]; exact hj3)] at e2
    exact (List.cons.inj e2).2
theorem impl_turn_l0 (m : List (List Int)) (h : Plan m) : ∀ i, i ≤ m.length → Ev (fun k => impl_turn.l0 k (colsUpto m i) m (m.length : Int) (i : Int)) (colsUpto m m.length) := by
  have hm := h.2.1
  refine down ?_ ?_
  · refine Ev.succ ?_
    simp only [impl_turn.l0, nlt (Nat.le_refl m.length), if_false]
    exact Ev.now _
  · intro i hi ih
    have hrow : rd_L2 m (i : Int) = m[i] := by simp [rd_L2, List.getD_eq_getElem?_getD, hi]
    refine Ev.succ ?_
    simp only [impl_turn.l0, ilt hi, inn, if_true, hrow]
    refine impl_turn_l1 m h i hi _ ?_ 0 (Nat.zero_le _) _ (colsUpto_len _ _) rfl rfl
    rw [wnext hi (by omega : m.length ≤ 4611686018427387904)]
    exact ih
theorem impl_turn_ev (m : List (List Int)) (h : Plan m) : Ev (fun k => impl_turn.f k m) (colsUpto m m.length) := by
  have h0 : 0 < m.length := h.1
  have hrow : rd_L2 m 0 = m[0] := by simp [rd_L2, List.getD_eq_getElem?_getD, h0]
  have hl := (h.2.2 _ (List.getElem_mem h0)).1
  have hm := h.2.1
  have c0 : 0 < (m.length : Int) := by omega
  have c1 : m.length ≤ 11728124029610 := by omega
  simp only [impl_turn.f, hrow, hl, c0, inn, Int.toNat_natCast, c1, if_true]
  have := impl_turn_l0 m h 0 (Nat.zero_le _)
  rw [colsUpto_zero] at this
  exact this

theorem impl_rowSums_l (m : List (List Int)) (hm : m.length ≤ 8) (h : ∀ r ∈ m, Short r) : ∀ i, i ≤ m.length → ∀ out : List Int, out.length = i → Ev (fun k => impl_rowSums.l0 k out m (m.length : Int) (i : Int)) (out ++ (m.drop i).map List.sum) := by
  refine down ?_ ?_
  · intro out ho
    refine Ev.succ ?_
    simp only [impl_rowSums.l0, nlt (Nat.le_refl m.length), if_false, List.drop_length, List.map_nil, List.append_nil]
    exact Ev.now _
  · intro i hi ih out ho
    have hrow : rd_L2 m (i : Int) = m[i] := by simp [rd_L2, List.getD_eq_getElem?_getD, hi]
    have c : out.length < 17592186044416 := by omega
    have hs := h _ (List.getElem_mem hi)
    refine Ev.succ ?_
    simp only [impl_rowSums.l0, ilt hi, inn, if_true, hrow, wnext hi (by omega : m.length ≤ 4611686018427387904)]
    refine Ev.bind ((impl_total_ev m[i] (by have := hs.1; omega)).eqv (w64 (by have := hs.sum; omega) (by have := hs.sum; omega))) ?_
    simp only [c, if_true]
    rw [drop_cons hi, List.map_cons]
    exact (ih _ (by simp [ho])).eqv (by simp)
theorem impl_rowSums_ev (m : List (List Int)) (hm : m.length ≤ 8) (h : ∀ r ∈ m, Short r) : Ev (fun k => impl_rowSums.f k m) (m.map List.sum) := by
  have := impl_rowSums_l m hm h 0 (Nat.zero_le _) [] rfl
  simpa only [impl_rowSums.f, List.drop_zero, List.nil_append, Int.natCast_zero] using this

theorem slices_Equal_int_int_l (l m : List Int) (he : m.length = l.length) (hl : l.length ≤ 4611686018427387904) : ∀ i, i ≤ l.length → Ev (fun k => slices_Equal_int_int.l0 k l m (l.length : Int) (i : Int)) (decide (l.drop i = m.drop i)) := by
  refine down ?_ ?_
  · refine Ev.succ ?_
    simp only [slices_Equal_int_int.l0, nlt (Nat.le_refl l.length), if_false, List.drop_length]
    rw [← he, List.drop_length]
    exact Ev.now _
  · intro i hi ih
    refine Ev.succ ?_
    simp only [slices_Equal_int_int.l0, ilt hi, inn, if_true, he, rd_lt hi, rd_lt (he ▸ hi : i < m.length), wnext hi hl]
    rw [drop_cons hi, drop_cons (he ▸ hi : i < m.length)]
    by_cases hx : l[i] = m[i]
    · simp only [hx, if_true, List.cons.injEq, true_and]
      exact ih
    · simp only [hx, if_false, List.cons.injEq, false_and, decide_false]
      exact Ev.now _
theorem slices_Equal_int_int_ev (l m : List Int) (hl : l.length ≤ 4611686018427387904) : Ev (fun k => slices_Equal_int_int.f k l m) (decide (l = m)) := by
  simp only [slices_Equal_int_int.f]
  by_cases he : (l.length : Int) = (m.length : Int)
  · simp only [he, if_true]
    have := slices_Equal_int_int_l l m (by omega) hl 0 (Nat.zero_le _)
    rw [he] at this
    exact this
  · simp only [he, if_false]
    rw [decide_eq_false (fun h => he (by rw [h]))]
    exact Ev.now _

theorem impl_GluePlans_1_e (a b : Int) : impl_GluePlans_1.f a b = some 0 := rfl
theorem impl_square_l1 (n : Nat) (hn : n ≤ 1048576) (o : Nat) (ho : o < n) (R : List (List Int)) (hk : Ev (fun k => impl_square.l0 k (n : Int) (List.replicate (o + 1) (List.replicate n 0)) (n : Int) ((o + 1 : Nat) : Int)) R) :
    ∀ j, j ≤ n → Ev (fun k => impl_square.l1 k (n : Int) (List.replicate o (List.replicate n 0)) (o : Int) (List.replicate j 0) (n : Int) (o : Int) (n : Int) (j : Int)) R := by
  refine down ?_ ?_
  · have c2 : (List.replicate o (List.replicate n (0 : Int))).length < 5864062014805 := by rw [List.length_replicate]; omega
    refine Ev.succ ?_
    simp only [impl_square.l1, nlt (Nat.le_refl n), if_false, c2, if_true, ← List.replicate_succ', wnext ho (by omega : n ≤ 4611686018427387904)]
    exact hk
  · intro j hj ih
    have c2 : (List.replicate j (0 : Int)).length < 17592186044416 := by rw [List.length_replicate]; omega
    refine Ev.succ ?_
    simp only [impl_square.l1, ilt hj, if_true, impl_GluePlans_1_e, Option.bind_some, c2, ← List.replicate_succ', wnext hj (by omega : n ≤ 4611686018427387904)]
    exact ih
theorem impl_square_l0 (n : Nat) (hn : n ≤ 1048576) : ∀ i, i ≤ n → Ev (fun k => impl_square.l0 k (n : Int) (List.replicate i (List.replicate n 0)) (n : Int) (i : Int)) (zerosP n n) := by
  refine down ?_ ?_
  · refine Ev.succ ?_
    simp only [impl_square.l0, nlt (Nat.le_refl n), if_false]
    exact Ev.now _
  · intro i hi ih
    refine Ev.succ ?_
    simp only [impl_square.l0, ilt hi, if_true]
    exact impl_square_l1 n hn i hi _ ih 0 (Nat.zero_le _)
theorem impl_square_ev (n : Nat) (hn : n ≤ 1048576) (z : Int) : Ev (fun k => impl_square.f k (n : Int) z) (zerosP n n) := by
  have := impl_square_l0 n hn 0 (Nat.zero_le _)
  simpa only [impl_square.f, List.replicate_zero, Int.natCast_zero] using this

theorem slices_Clone_int_int_e (l : List Int) (hl : l.length < 17592186044416) : slices_Clone_int_int.f l = some l := by
  simp only [slices_Clone_int_int.f, Option.bind_some, List.nil_append, List.length_nil, Nat.zero_add, hl, if_true]

theorem impl_GluePlans_l0 : ∀ (d : Nat) (m : List (List Int)) (a b : List Int) (i j : Nat), (a.length - i) + (b.length - j) < d → i ≤ a.length → j ≤ b.length → a.length ≤ 1048576 → b.length ≤ 1048576 → Shp m a.length b.length → Ev (fun k => impl_GluePlans.l0  k m a b (i : Int) (j : Int)) (carryN d m a b i j)
  | 0, _, _, _, _, _, h, _, _, _, _, _ => by omega
  | d + 1, m, a, b, i, j, h, hi, hj, ha, hb, hs => by
    unfold carryN
    refine Ev.succ ?_
    by_cases c1 : i < a.length
    · by_cases c2 : j < b.length
      · have r1 : i < m.length := by rw [hs.1]; exact c1
        have hrow : rd_L2 m (i : Int) = m.getD i [] := by simp [rd_L2]
        have hl := hs.row c1
        have r2 : j < (m.getD i []).length := by rw [hl]; exact c2
        have hs2 : Shp (m.set i ((m.getD i []).set j (wrap64 ((m.getD i []).getD j 0 + min (a.getD i 0) (b.getD j 0))))) a.length b.length := hs.set (by rw [List.length_set]; exact hl)
        rw [if_pos ⟨c1, c2⟩]
        simp only [impl_GluePlans.l0, ilt c1, ilt c2, inn, if_true, hrow, ilt r1, ilt r2, rd_get, Int.toNat_natCast, mn_eq, wnext c1 (by omega : a.length ≤ 4611686018427387904), wnext c2 (by omega : b.length ≤ 4611686018427387904)]
        by_cases c3 : (a.set i (wrap64 (a.getD i 0 - min (a.getD i 0) (b.getD j 0)))).getD i 0 = 0
        · simp only [c3, if_true]
          have := impl_GluePlans_l0 d (m.set i ((m.getD i []).set j (wrap64 ((m.getD i []).getD j 0 + min (a.getD i 0) (b.getD j 0))))) (a.set i (wrap64 (a.getD i 0 - min (a.getD i 0) (b.getD j 0)))) (b.set j (wrap64 (b.getD j 0 - min (a.getD i 0) (b.getD j 0)))) (i + 1) j (by simp only [List.length_set]; omega) (by simp only [List.length_set]; omega) (by simp only [List.length_set]; omega) (by simp only [List.length_set]; omega) (by simp only [List.length_set]; omega) (by simp only [List.length_set]; exact hs2)
          simpa only [List.length_set] using this
        · simp only [c3, if_false]
          have := impl_GluePlans_l0 d (m.set i ((m.getD i []).set j (wrap64 ((m.getD i []).getD j 0 + min (a.getD i 0) (b.getD j 0))))) (a.set i (wrap64 (a.getD i 0 - min (a.getD i 0) (b.getD j 0)))) (b.set j (wrap64 (b.getD j 0 - min (a.getD i 0) (b.getD j 0)))) i (j + 1) (by simp only [List.length_set]; omega) (by simp only [List.length_set]; omega) (by simp only [List.length_set]; omega) (by simp only [List.length_set]; omega) (by simp only [List.length_set]; omega) (by simp only [List.length_set]; exact hs2)
          simpa only [List.length_set] using this
      · rw [if_neg (by omega)]
        simp only [impl_GluePlans.l0, ilt c1, nlt (Nat.le_of_not_lt c2), if_true, if_false]
        exact Ev.now _
    · rw [if_neg (by omega)]
      simp only [impl_GluePlans.l0, nlt (Nat.le_of_not_lt c1), if_false]
      exact Ev.now _

theorem impl_GluePlans_l1 (m n : List (List Int)) (hm : Plan m) (hn : Plan n) (e : n.length = m.length) : ∀ i, i ≤ m.length → Ev (fun k => impl_GluePlans.l1 k (colsUpto m m.length) n (glueF m n i) (i : Int)) (glueF m n m.length) := by
  have h8 := hm.2.1
  have hl := colsUpto_len m m.length
  refine down ?_ ?_
  · refine Ev.succ ?_
    simp only [impl_GluePlans.l1, hl, nlt (Nat.le_refl m.length), if_false]
    exact Ev.now _
  · intro i hi ih
    have hn2 : i < n.length := by omega
    have r1 : rd_L2 (colsUpto m m.length) (i : Int) = colOf m i := by
      have : (colsUpto m m.length).getD i [] = colOf m i := by
        rw [List.getD_eq_getElem?_getD, List.getElem?_eq_getElem (by rw [hl]; exact hi), Option.getD_some, colsUpto_get hi, List.take_length]; rfl
      simpa [rd_L2] using this
    have r2 : rd_L2 n (i : Int) = n.getD i [] := by simp [rd_L2]
    have lc : (colOf m i).length = m.length := by simp [colOf]
    have ln : (n.getD i []).length = m.length := by rw [← e]; exact hn.shp.row hn2
    refine Ev.succ ?_
    simp only [impl_GluePlans.l1, hl, ilt hi, ilt hn2, inn, if_true, r1, r2, wnext hi (by omega : m.length ≤ 4611686018427387904)]
    simp only [impl_GluePlans.c, slices_Clone_int_int_e (colOf m i) (by omega), slices_Clone_int_int_e (n.getD i []) (by omega), Option.bind_some]
    refine Ev.bind (impl_GluePlans_l0 ((colOf m i).length + (n.getD i []).length + 1) (glueF m n i) (colOf m i) (n.getD i []) 0 0 (by omega) (by omega) (by omega) (by omega) (by omega) (by rw [lc, ln]; exact glueF_shp m n i)) ?_
    rw [carryN_addT lc ln (glueF_shp m n i) (glueF_inR m n i)]
    exact ih
theorem impl_GluePlans_ev (m n : List (List Int)) (h : Siz m) (h2 : Siz n) : Ev (fun k => impl_GluePlans.f k m n) (glueV m n) := by
  simp only [impl_GluePlans.f]
  refine Ev.bind (impl_isPlan_ev m h) ?_
  unfold glueV
  cases c : planB m with
  | false => simp only [Bool.false_eq_true, if_false, Bool.false_and]; exact Ev.now _
  | true =>
    simp only [if_true, Bool.true_and]
    refine Ev.bind (impl_isPlan_ev n h2) ?_
    cases c2 : planB n with
    | false => simp only [Bool.false_eq_true, if_false, Bool.false_and]; exact Ev.now _
    | true =>
      simp only [if_true, Bool.true_and]
      have hm := planB_iff.1 c
      have hn := planB_iff.1 c2
      have h8 := hm.2.1
      have h1 := hm.1
      have hl := colsUpto_len m m.length
      refine Ev.bind (impl_turn_ev m hm) ?_
      refine Ev.bind (impl_rowSums_ev _ (by rw [hl]; exact h8) hm.colsShort) ?_
      refine Ev.bind (impl_rowSums_ev n hn.2.1 hn.short) ?_
      refine Ev.bind (slices_Equal_int_int_ev _ _ (by rw [List.length_map, hl]; omega)) ?_
      cases c3 : decide ((colsUpto m m.length).map List.sum = n.map List.sum) with
      | false => simp only [Bool.false_eq_true, if_false]; exact Ev.now _
      | true =>
        simp only [if_true]
        have e : n.length = m.length := by
          have := congrArg List.length (of_decide_eq_true c3)
          rw [List.length_map, List.length_map, hl] at this
          exact this.symm
        refine Ev.bind (impl_square_ev m.length (by omega) 0) ?_
        have hz : 0 < (zerosP m.length m.length).length := by simp [zerosP]; exact h1
        simp only [hz, if_true]
        refine Ev.bind (impl_GluePlans_l1 m n hm hn e 0 (Nat.zero_le _)) ?_
        refine Ev.bind (impl_isPlan_ev _ ((glueF_shp m n m.length).siz (by omega) (by omega))) ?_
        cases c4 : planB (glueF m n m.length) with
        | false => simp only [Bool.false_eq_true, if_false]; exact Ev.now _
        | true => simp only [if_true]; exact Ev.now _

theorem spec_l1Same_l (l m : List Int) (he : m.length = l.length) (hl : l.length ≤ 4611686018427387904) : ∀ i, i ≤ l.length → Ev (fun k => spec_l1Same.l0 k l m (l.length : Int) (i : Int)) (decide (l.drop i = m.drop i)) := by
  refine down ?_ ?_
  · refine Ev.succ ?_
    simp only [spec_l1Same.l0, nlt (Nat.le_refl l.length), if_false, List.drop_length]
    rw [← he, List.drop_length]
    exact Ev.now _
  · intro i hi ih
    refine Ev.succ ?_
    simp only [spec_l1Same.l0, ilt hi, inn, if_true, he, rd_lt hi, rd_lt (he ▸ hi : i < m.length), wnext hi hl]
    rw [drop_cons hi, drop_cons (he ▸ hi : i < m.length)]
    by_cases hx : l[i] = m[i]
    · simp only [hx, if_true, List.cons.injEq, true_and]
      exact ih
    · simp only [hx, if_false, List.cons.injEq, false_and, decide_false]
      exact Ev.now _
theorem spec_l1Same_ev (l m : List Int) (hl : l.length ≤ 4611686018427387904) : Ev (fun k => spec_l1Same.f k l m) (decide (l = m)) := by
  simp only [spec_l1Same.f]
  by_cases he : (l.length : Int) = (m.length : Int)
  · simp only [he, if_true]
    have := spec_l1Same_l l m (by omega) hl 0 (Nat.zero_le _)
    rw [he] at this
    exact this
  · simp only [he, if_false]
    rw [decide_eq_false (fun h => he (by rw [h]))]
    exact Ev.now _

theorem spec_plColumn_l0 (m : List (List Int)) (h : Plan m) (c : Nat) (hc : c < m.length) : ∀ i, i ≤ m.length → Ev (fun k => spec_plColumn.l0 k (c : Int) ((m.take i).map fun r => r.getD c 0) m (m.length : Int) (i : Int)) (m.map fun r => r.getD c 0) := by
  have hm := h.2.1
  refine down ?_ ?_
  · refine Ev.succ ?_
    simp only [spec_plColumn.l0, nlt (Nat.le_refl m.length), if_false, List.take_length]
    exact Ev.now _
  · intro i hi ih
    have hrow : rd_L2 m (i : Int) = m[i] := by simp [rd_L2, List.getD_eq_getElem?_getD, hi]
    have hl := (h.2.2 _ (List.getElem_mem hi)).1
    have hc2 : c < m[i].length := by omega
    have lim : ((m.take i).map fun r => r.getD c 0).length < 17592186044416 := by rw [List.length_map, List.length_take]; omega
    refine Ev.succ ?_
    simp only [spec_plColumn.l0, ilt hi, ilt hc2, inn, if_true, hrow, lim, rd_get, wnext hi (by omega : m.length ≤ 4611686018427387904)]
    have e : (m.take (i + 1)).map (fun r => r.getD c 0) = (m.take i).map (fun r => r.getD c 0) ++ [m[i].getD c 0] := by
      rw [List.take_succ_eq_append_getElem hi, List.map_append]; rfl
    rw [← e]
    exact ih
theorem spec_plColumn_ev (m : List (List Int)) (h : Plan m) (c : Nat) (hc : c < m.length) : Ev (fun k => spec_plColumn.f k m (c : Int)) (m.map fun r => r.getD c 0) := by
  have := spec_plColumn_l0 m h c hc 0 (Nat.zero_le _)
  simpa only [spec_plColumn.f, List.take_zero, List.map_nil, Int.natCast_zero] using this

theorem getE {l : List Int} {j : Nat} (h : j < l.length) : l[j] = l.getD j 0 := by simp [List.getD_eq_getElem?_getD, h]
theorem spec_GluePlans_l2 (m : List (List Int)) (n i : Nat) (hml : m.length = n) (hn : n ≤ 1048576) (hi : i < n) (r0 s : List Int) (hr : r0.length = n) (hsl : s.length = n) : ∀ j, j ≤ n → ∀ R : List Int, R.length = n → R.take j = (wadd r0 s).take j → R.drop j = r0.drop j → Ev (fun k => spec_GluePlans.l2 k s (m.set i R) (i : Int) (j : Int)) (m.set i (wadd r0 s)) := by
  have hw : (wadd r0 s).length = n := by rw [wadd_len (by rw [hr, hsl]), hr]
  refine down ?_ ?_
  · intro R hR e1 e2
    refine Ev.succ ?_
    simp only [spec_GluePlans.l2, hsl, nlt (Nat.le_refl n), if_false]
    rw [← hR, List.take_length, hR, List.take_of_length_le (by rw [hw]; exact Nat.le_refl _)] at e1
    rw [e1]
    exact Ev.now _
  · intro j hj ih R hR e1 e2
    have q1 : i < (m.set i R).length := by rw [List.length_set, hml]; exact hi
    have q2 : rd_L2 (m.set i R) (i : Int) = R := by
      have := getD_set_self m i R [] (by rw [hml]; exact hi)
      simpa [rd_L2] using this
    have q3 : j < R.length := by omega
    have q4 : j < s.length := by omega
    have q5 : j < r0.length := by omega
    have q6 : j < (wadd r0 s).length := by omega
    rw [drop_cons q3, drop_cons q5] at e2
    have ej : R.getD j 0 = r0.getD j 0 := by
      rw [← getE q3, ← getE q5]; exact (List.cons.inj e2).1
    have ew : (wadd r0 s)[j] = wrap64 (r0.getD j 0 + s.getD j 0) := by
      rw [getE q6]; exact wadd_getD (by rw [hr, hsl]) q5
    refine Ev.succ ?_
    simp only [spec_GluePlans.l2, hsl, ilt hj, ilt q1, inn, if_true, q2, ilt q3, rd_get, Int.toNat_natCast, ej, wnext hj (by omega : n ≤ 4611686018427387904), List.set_set]
    have st := set_takeG (wadd r0 s) R j q6 (by rw [hR, hw]) e1
    rw [ew] at st
    refine ih _ (by rw [List.length_set]; exact hR) st ?_
    rw [List.drop_set_of_lt (by omega)]
    exact (List.cons.inj e2).2
theorem spec_GluePlans_l1 (m p : List (List Int)) (n : Nat) (hs : Shp m n n) (hp : Shp p n n) (hn : n ≤ 1048576) : ∀ i, i ≤ n → ∀ M : List (List Int), Shp M n n → M.take i = (addT m p).take i → M.drop i = m.drop i → Ev (fun k => spec_GluePlans.l1 k p M (i : Int)) (addT m p) := by
  have hw := addT_shp hs hp
  refine down ?_ ?_
  · intro M hM e1 e2
    refine Ev.succ ?_
    simp only [spec_GluePlans.l1, hp.1, nlt (Nat.le_refl n), if_false]
    rw [← hM.1, List.take_length, hM.1, List.take_of_length_le (by rw [hw.1]; exact Nat.le_refl _)] at e1
    rw [e1]
    exact Ev.now _
  · intro i hi ih M hM e1 e2
    have q1 : i < M.length := by rw [hM.1]; exact hi
    have q2 : i < m.length := by rw [hs.1]; exact hi
    have q3 : i < p.length := by rw [hp.1]; exact hi
    have er : M.getD i [] = m.getD i [] := by
      rw [drop_cons q1, drop_cons q2] at e2
      have := (List.cons.inj e2).1
      rw [List.getD_eq_getElem?_getD, List.getElem?_eq_getElem q1, Option.getD_some, this, List.getD_eq_getElem?_getD, List.getElem?_eq_getElem q2, Option.getD_some]
    have q4 : rd_L2 p (i : Int) = p.getD i [] := by simp [rd_L2]
    refine Ev.succ ?_
    simp only [spec_GluePlans.l1, hp.1, ilt hi, inn, if_true, q4, wnext hi (by omega : n ≤ 4611686018427387904)]
    have hrM := hM.row hi
    have := spec_GluePlans_l2 M n i hM.1 hn hi (M.getD i []) (p.getD i []) hrM (hp.row hi) 0 (Nat.zero_le _) (M.getD i []) hrM rfl rfl
    have es : M.set i (M.getD i []) = M := by
      rw [List.getD_eq_getElem?_getD, List.getElem?_eq_getElem q1]; exact List.set_getElem_self q1
    rw [es] at this
    refine Ev.bind this ?_
    have ew : (addT m p)[i]'(by rw [hw.1]; exact hi) = wadd (M.getD i []) (p.getD i []) := by
      rw [er, ← addT_getD hs hp hi, List.getD_eq_getElem?_getD, List.getElem?_eq_getElem (by rw [hw.1]; exact hi)]; rfl
    have st := set_takeG (addT m p) M i (by rw [hw.1]; exact hi) (by rw [hM.1, hw.1]) e1
    rw [ew] at st
    refine ih _ (hM.set (by rw [wadd_len (by rw [hrM, hp.row hi]), hrM])) st ?_
    rw [List.drop_set_of_lt (by omega)]
    rw [drop_cons q1, drop_cons q2] at e2
    exact (List.cons.inj e2).2
theorem spec_GluePlans_l0 (m n : List (List Int)) (hm : Plan m) (hn : Plan n) (e : n.length = m.length) : ∀ i, i ≤ m.length → Ev (fun k => spec_GluePlans.l0 k m n (glueF m n i) (i : Int)) (glueF m n m.length) := by
  have h8 := hm.2.1
  have h1 := hm.1
  refine down ?_ ?_
  · refine Ev.succ ?_
    simp only [spec_GluePlans.l0, nlt (Nat.le_refl m.length), if_false]
    exact Ev.now _
  · intro i hi ih
    have hn2 : i < n.length := by omega
    have r2 : rd_L2 n (i : Int) = n.getD i [] := by simp [rd_L2]
    have lc : (colOf m i).length = m.length := by simp [colOf]
    have ln : (n.getD i []).length = m.length := by rw [← e]; exact hn.shp.row hn2
    refine Ev.succ ?_
    simp only [spec_GluePlans.l0, ilt hi, ilt hn2, inn, if_true, r2, wnext hi (by omega : m.length ≤ 4611686018427387904)]
    refine Ev.bind (spec_plColumn_ev m hm i hi) ?_
    refine Ev.bind (spec_plMonotone_ev (colOf m i) (n.getD i []) (by omega) (by omega) (by omega)) ?_
    have hp : Shp (monoP (colOf m i) (n.getD i [])) m.length m.length := lc ▸ monoP_shp (colOf m i) (n.getD i [])
    refine Ev.bind (spec_GluePlans_l1 (glueF m n i) _ m.length (glueF_shp m n i) hp (by omega) 0 (Nat.zero_le _) _ (glueF_shp m n i) rfl rfl) ?_
    exact ih
theorem spec_GluePlans_ev (m n : List (List Int)) (h : Siz m) (h2 : Siz n) : Ev (fun k => spec_GluePlans.f k m n) (glueV m n) := by
  simp only [spec_GluePlans.f]
  refine Ev.bind (spec_plGood_ev m h) ?_
  unfold glueV
  cases c : planB m with
  | false => simp only [Bool.false_eq_true, if_false, Bool.false_and]; exact Ev.now _
  | true =>
    simp only [if_true, Bool.true_and]
    refine Ev.bind (spec_plGood_ev n h2) ?_
    cases c2 : planB n with
    | false => simp only [Bool.false_eq_true, if_false, Bool.false_and]; exact Ev.now _
    | true =>
      simp only [if_true, Bool.true_and]
      have hm := planB_iff.1 c
      have hn := planB_iff.1 c2
      have h8 := hm.2.1
      have h1 := hm.1
      have hl := colsUpto_len m m.length
      refine Ev.bind (spec_plSums_ev m hm) ?_
      refine Ev.bind (spec_plSums_ev n hn) ?_
      refine Ev.bind (spec_l1Same_ev _ _ (by rw [List.length_map, hl]; omega)) ?_
      cases c3 : decide ((colsUpto m m.length).map List.sum = n.map List.sum) with
      | false => simp only [Bool.false_eq_true, if_false]; exact Ev.now _
      | true =>
        simp only [if_true]
        have e : n.length = m.length := by
          have := congrArg List.length (of_decide_eq_true c3)
          rw [List.length_map, List.length_map, hl] at this
          exact this.symm
        refine Ev.bind (spec_plEmpty_ev m.length (by omega)) ?_
        have hz : 0 < (zerosP m.length m.length).length := by simp [zerosP]; exact h1
        simp only [hz, if_true]
        refine Ev.bind (spec_GluePlans_l0 m n hm hn e 0 (Nat.zero_le _)) ?_
        refine Ev.bind (spec_plGood_ev _ ((glueF_shp m n m.length).siz (by omega) (by omega))) ?_
        cases c4 : planB (glueF m n m.length) with
        | false => simp only [Bool.false_eq_true, if_false]; exact Ev.now _
        | true => simp only [if_true]; exact Ev.now _

theorem spec_DrawTurnPlan_x {c : List Int} (hc : Bts c) : Ex (fun k => spec_DrawTurnPlan.f k c) (fun r => Siz r) := by
  simp only [spec_DrawTurnPlan.f]
  refine Ex.bind (spec_l1Cur_places_x hc 0 0 0 ⟨by omega, by omega⟩ (by omega)) fun r hr => ?_
  refine Ex.bind (spec_l1Cur_planOf_x hc _ _ (0 + 4) r.1 hr.1 hr.2.1 hr.2.2 (by omega)) fun q hq => ?_
  exact Ex.now hq.1

theorem impl_TurnPlan_ev (m : List (List Int)) (h : Siz m) : Ev (fun k => impl_TurnPlan.f k m) (if planB m then (colsUpto m m.length, true) else (([] : List (List Int)), false)) := by
  simp only [impl_TurnPlan.f]
  refine Ev.bind (impl_isPlan_ev m h) ?_
  cases c : planB m with
  | false => simp only [Bool.false_eq_true, if_false]; exact Ev.now _
  | true =>
    simp only [if_true]
    exact Ev.ret (f := fun t => (t, true)) (impl_turn_ev m (planB_iff.1 c))

theorem spec_TurnPlan_l0 (m : List (List Int)) (h : Plan m) : ∀ i, i ≤ m.length → Ev (fun k => spec_TurnPlan.l0 k m ((colsUpto m m.length).take i) (m.length : Int) (i : Int)) (colsUpto m m.length, true) := by
  have hm := h.2.1
  refine down ?_ ?_
  · refine Ev.succ ?_
    simp only [spec_TurnPlan.l0, nlt (Nat.le_refl m.length), if_false]
    rw [List.take_of_length_le (by rw [colsUpto_len]; exact Nat.le_refl _)]
    exact Ev.now _
  · intro i hi ih
    have lim : ((colsUpto m m.length).take i).length < 5864062014805 := by rw [List.length_take, colsUpto_len]; omega
    have hi2 : i < (colsUpto m m.length).length := by rw [colsUpto_len]; exact hi
    refine Ev.succ ?_
    simp only [spec_TurnPlan.l0, ilt hi, if_true, lim, wnext hi (by omega : m.length ≤ 4611686018427387904)]
    refine Ev.bind (spec_plColumn_ev m h i hi) ?_
    have e : (colsUpto m m.length).take (i + 1) = (colsUpto m m.length).take i ++ [m.map fun r => r.getD i 0] := by
      rw [List.take_succ_eq_append_getElem hi2, colsUpto_get hi, List.take_length]
    rw [← e]
    exact ih
theorem spec_TurnPlan_ev (m : List (List Int)) (h : Siz m) : Ev (fun k => spec_TurnPlan.f k m) (if planB m then (colsUpto m m.length, true) else (([] : List (List Int)), false)) := by
  simp only [spec_TurnPlan.f]
  refine Ev.bind (spec_plGood_ev m h) ?_
  cases c : planB m with
  | false => simp only [Bool.false_eq_true, if_false]; exact Ev.now _
  | true =>
    simp only [if_true]
    have := spec_TurnPlan_l0 m (planB_iff.1 c) 0 (Nat.zero_le _)
    simpa only [List.take_zero, Int.natCast_zero] using this

theorem siz_nil : Siz [] := ⟨by simp, fun r hr => by cases hr⟩
theorem glueV_siz {m n : List (List Int)} : Siz (glueV m n).1 := by
  unfold glueV
  by_cases c1 : planB m && (planB n && decide ((colsUpto m m.length).map List.sum = n.map List.sum))
  · rw [if_pos c1]
    by_cases c2 : planB (glueF m n m.length)
    · rw [if_pos c2]; exact (planB_iff.1 c2).siz
    · rw [if_neg c2]; exact siz_nil
  · rw [if_neg c1]; exact siz_nil
theorem FnGluedPlans_j3 {a b c : List Int} (h1 : a.length = b.length) (h2 : b.length = c.length) (hl : a.length ≤ 8) : Ev (fun k => laws_FnGluedPlans.j3 k a b c false) true := by
  refine Ev.succ ?_
  simp only [laws_FnGluedPlans.j3, Bool.false_eq_true, if_false]
  refine Ev.bind (impl_LineDistance_ev a c (by omega) (by omega)) ?_
  refine Ev.bind (impl_LineDistance_ev a b (by omega) (by omega)) ?_
  refine Ev.bind (impl_LineDistance_ev b c (by omega) (by omega)) ?_
  cases f1 : fits a c with
  | false => simp only [Bool.false_eq_true, if_false]; exact Ev.now _
  | true =>
    cases f2 : fits a b with
    | false => simp only [Bool.false_eq_true, if_false, if_true]; exact Ev.now _
    | true =>
      cases f3 : fits b c with
      | false => simp only [Bool.false_eq_true, if_false, if_true]; exact Ev.now _
      | true =>
        have b2 := lineDist_bound f2
        have b3 := lineDist_bound f3
        have t := lineDist_tri h1 h2
        simp only [if_true]
        rw [w64 (by omega) (by omega), decide_eq_true t]
        exact Ev.now _
theorem FnGluedPlans_j2 {m n : List (List Int)} : Ev (fun k => laws_FnGluedPlans.j2 k m n (glueV m n).1 (glueV m n).2) true := by
  refine Ev.succ ?_
  simp only [laws_FnGluedPlans.j2]
  by_cases c1 : planB m && (planB n && decide ((colsUpto m m.length).map List.sum = n.map List.sum))
  · by_cases c2 : planB (glueF m n m.length)
    · have e : glueV m n = (glueF m n m.length, true) := by unfold glueV; rw [if_pos c1, if_pos c2]
      rw [e]
      rw [Bool.and_eq_true, Bool.and_eq_true, decide_eq_true_eq] at c1
      obtain ⟨p1, p2, p3⟩ := c1
      have hm := planB_iff.1 p1
      have hn := planB_iff.1 p2
      have hg := planB_iff.1 c2
      have hs : colsP m = rowsP n := p3
      have he : n.length = m.length := by
        have := congrArg List.length hs
        rw [colsP_len, rowsP_len] at this
        exact this.symm
      have b1 := cost_bound hm
      have b2 := cost_bound hn
      have b3 := cost_bound hg
      have gc := glue_cost hm hn he hs
      simp only [if_true]
      refine Ev.bind (impl_PlanCost_ev m hm.siz) ?_
      refine Ev.bind (impl_PlanCost_ev n hn.siz) ?_
      refine Ev.bind (impl_PlanCost_ev _ hg.siz) ?_
      refine Ev.bind (laws_pMargins_ev hm) ?_
      refine Ev.bind (laws_pMargins_ev hn) ?_
      refine Ev.bind (laws_pMargins_ev hg) ?_
      have k1 : ¬ wrap64 (costGo 0 (glueF m n m.length)) > wrap64 (wrap64 (costGo 0 m) + wrap64 (costGo 0 n)) := by
        rw [w64 (x := costGo 0 m) (by omega) (by omega), w64 (x := costGo 0 n) (by omega) (by omega), w64 (by omega) (by omega), w64 (by omega) (by omega)]; omega
      have h8 := hm.2.1
      have l1 := rowsP_len m
      have l2 := colsP_len m
      have l3 := colsP_len n
      simp only [p1, p2, c2, if_true, k1, if_false]
      rw [glue_rows hm hn he hs, glue_cols hm hn he hs]
      refine Ev.bind (laws_pSame_ev (rowsP m) (rowsP m) (by omega)) ?_
      simp only [decide_true, if_true]
      refine Ev.bind (laws_pSame_ev (colsP n) (colsP n) (by omega)) ?_
      simp only [decide_true, Bool.not_true]
      exact FnGluedPlans_j3 (by omega) (by omega) (by omega)
    · have e : glueV m n = ([], false) := by unfold glueV; rw [if_pos c1, if_neg c2]
      rw [e]; simp only [Bool.false_eq_true, if_false]; exact Ev.now _
  · have e : glueV m n = ([], false) := by unfold glueV; rw [if_neg c1]
    rw [e]; simp only [Bool.false_eq_true, if_false]; exact Ev.now _
theorem FnGluedPlans : laws_FnGluedPlans.Pure := by
  intro a b hma hsa hwa hmb hsb hwb
  refine Ev.rounds ?_
  have hc := Bts.of hsa hwa
  have hd := Bts.of hsb hwb
  simp only [laws_FnGluedPlans.f]
  obtain ⟨t, ht⟩ := laws_big_x a b
  rw [ht]
  simp only [Option.bind_some]
  by_cases h0 : t = true
  · simp only [h0, if_true]; exact Ev.now _
  · simp only [h0, if_false]
    refine Ex.ev (spec_DrawGluePlans_x hc) fun r hr => ?_
    obtain ⟨m, n⟩ := r
    have hm : Siz m := hr.1
    have hn : Siz n := hr.2
    refine Ev.bind (impl_GluePlans_ev m n hm hn) ?_
    refine Ev.bind (spec_GluePlans_ev m n hm hn) ?_
    simp only [bne_self_eq_false, Bool.false_eq_true, if_false]
    refine Ev.bind (laws_pSameRows_self _ glueV_siz) ?_
    simp only [Bool.not_true]
    refine Ev.succ ?_
    simp only [laws_FnGluedPlans.j0, Bool.false_eq_true, if_false]
    refine Ex.ev (spec_DrawTurnPlan_x hd) fun q hq => ?_
    refine Ev.bind (impl_TurnPlan_ev q hq) ?_
    refine Ev.bind (spec_TurnPlan_ev q hq) ?_
    simp only [bne_self_eq_false, Bool.false_eq_true, if_false]
    cases hp : planB q with
    | false =>
      simp only [Bool.false_eq_true, if_false]
      refine Ev.bind (laws_pSameRows_self _ siz_nil) ?_
      simp only [Bool.not_true]
      refine Ev.succ ?_
      simp only [laws_FnGluedPlans.j1, Bool.false_eq_true, if_false]
      exact FnGluedPlans_j2
    | true =>
      have h := planB_iff.1 hp
      have ht := turn_plan h
      have hB := planB_iff.2 ht
      simp only [if_true]
      refine Ev.bind (laws_pSameRows_self _ ht.siz) ?_
      simp only [Bool.not_true]
      refine Ev.succ ?_
      simp only [laws_FnGluedPlans.j1, Bool.false_eq_true, if_false, if_true]
      refine Ev.bind (impl_TurnPlan_ev _ ht.siz) ?_
      refine Ev.bind (impl_PlanCost_ev q hq) ?_
      refine Ev.bind (impl_PlanCost_ev _ ht.siz) ?_
      refine Ev.bind (impl_IsMonotone_ev q hq) ?_
      refine Ev.bind (impl_IsMonotone_ev _ ht.siz) ?_
      simp only [hp, hB, if_true, turn_back h, turn_cost h]
      refine Ev.bind (laws_pSameRows_self _ hq) ?_
      have e := turn_cross h
      rw [← e]
      simp only [if_true, bne_self_eq_false, Bool.false_eq_true, if_false]
      exact FnGluedPlans_j2

end Go.Proofs.Ytojklddddedoeaa.Pure
