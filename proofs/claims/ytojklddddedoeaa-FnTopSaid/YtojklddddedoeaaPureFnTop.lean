/- That a list is more even than another one is told alike by sums, thresholds, gifts, plans that only lower, meet and join; the printed functions' own bounds on lengths are the only conditions. -/
import Derived.Test.YtojklddddedoeaaPFnTopx16
import Derived.Test.YtojklddddedoeaaTFnTopMath
import Derived.Test.YtojklddddedoeaaTFnTopMathP
import Derived.Test.YtojklddddedoeaaTFnTopMathQ
import Derived.Test.YtojklddddedoeaaTFnTopMathL
import Derived.Test.YtojklddddedoeaaTFnTopMathD
import Derived.Test.YtojklddddedoeaaTFnTopMathT
namespace Go.Proofs.Ytojklddddedoeaa.Pure
open Go.RowKit Go.Proofs.Ytojklddddedoeaa.PFnTop Go.Proofs.YtojklddddedoeaaW.PrintWords Go.Proofs.YtojklddddedoeaaW.PrintLast Go.Proofs.YtojklddddedoeaaW.PrintMore Go.Proofs.Ytojklddddedoeaa.Math
set_option linter.unusedVariables false
set_option linter.unusedSimpArgs false
set_option linter.unusedSectionVars false

theorem laws_big_x (a b : List Int) : ∃ t, laws_big.f a b = some t := by
  unfold laws_big.f
  by_cases c : (a.length : Int) > 1048576
  · rw [if_pos c]; exact ⟨_, rfl⟩
  · rw [if_neg c]; exact ⟨_, rfl⟩

theorem impl_within_e (a b c : Int) : impl_within.f a b c = some (wth a b c) := wth_opt a b c

theorem impl_allWithin_l (l : List Int) (lo hi : Int) (hl : l.length ≤ 4611686018427387904) : ∀ i, i ≤ l.length → Ev (fun k => impl_allWithin.l0 k lo hi l (l.length : Int) (i : Int)) (allW (l.drop i) lo hi) := by
  refine down ?_ ?_
  · refine Ev.succ ?_
    simp only [impl_allWithin.l0, nlt (Nat.le_refl l.length), if_false, List.drop_length]
    exact Ev.now _
  · intro i hi ih
    refine Ev.succ ?_
    simp only [impl_allWithin.l0, ilt hi, inn, if_true, impl_within_e, Option.bind_some, rd_lt hi, wnext hi hl]
    rw [drop_cons hi]
    exact Ev.andS fun _ => ih
theorem impl_allWithin_ev (l : List Int) (lo hi : Int) (hl : l.length ≤ 4611686018427387904) : Ev (fun k => impl_allWithin.f k l lo hi) (allW l lo hi) := by
  have := impl_allWithin_l l lo hi hl 0 (Nat.zero_le _)
  simpa only [impl_allWithin.f, List.drop_zero, Int.natCast_zero] using this

theorem impl_IsList_ev (l : List Int) (hl : l.length ≤ 4611686018427387904) : Ev (fun k => impl_IsList.f k l) (goodB l) := by
  simp only [impl_IsList.f, impl_within_e, Option.bind_some, goodB]
  exact Ev.andS fun _ => Ev.ret (f := fun t => t) (impl_allWithin_ev l 0 60 hl)

theorem impl_areLists_ev (a b : List Int) (ha : a.length ≤ 1048576) (hb : b.length ≤ 1048576) : Ev (fun k => impl_areLists.f k a b) (goodB a && goodB b) := by
  simp only [impl_areLists.f]
  exact Ev.and (impl_IsList_ev a (by omega)) fun h => Ev.ret (f := fun t => t) (impl_IsList_ev b (by omega))

theorem impl_total_l (l : List Int) (hl : l.length ≤ 4611686018427387904) : ∀ i, i ≤ l.length → ∀ acc, InR acc → Ev (fun k => impl_total.l0 k acc l (l.length : Int) (i : Int)) (wrap64 (acc + (l.drop i).sum)) := by
  refine down ?_ ?_
  · intro acc ha
    refine Ev.succ ?_
    simp only [impl_total.l0, nlt (Nat.le_refl l.length), if_false, List.drop_length, List.sum_nil, Int.add_zero, wR ha]
    exact Ev.now _
  · intro i hi ih acc ha
    refine Ev.succ ?_
    simp only [impl_total.l0, ilt hi, inn, if_true, rd_lt hi, wnext hi hl]
    rw [drop_cons hi, List.sum_cons, ← Int.add_assoc]
    exact (ih _ (inR_wrap _)).eqv (wr_add _ _)
theorem impl_total_ev (l : List Int) (hl : l.length ≤ 4611686018427387904) : Ev (fun k => impl_total.f k l) (wrap64 l.sum) := by
  have := impl_total_l l hl 0 (Nat.zero_le _) 0 inR_0
  simpa only [impl_total.f, List.drop_zero, Int.zero_add, Int.natCast_zero] using this
theorem impl_total_good {l : List Int} (h : Lst l) : Ev (fun k => impl_total.f k l) l.sum :=
  (impl_total_ev l (by have := h.2.1; omega)).eqv (w64 (by have := h.sum; omega) (by have := h.sum; omega))

theorem impl_doFit_ev {a b : List Int} (ha : Lst a) (hb : Lst b) : Ev (fun k => impl_doFit.f k a b) (decide (a.length = b.length) && decide (a.sum = b.sum)) := by
  simp only [impl_doFit.f]
  by_cases h : a.length = b.length
  · have h2 : (a.length : Int) = (b.length : Int) := by omega
    simp only [h2, if_true, h, decide_true, Bool.true_and]
    refine Ev.bind (impl_total_good ha) ?_
    exact Ev.ret (f := fun t => a.sum == t) (impl_total_good hb)
  · have h2 : ¬ (a.length : Int) = (b.length : Int) := by omega
    simp only [h2, if_false, h, decide_false, Bool.false_and]
    exact Ev.now _

theorem impl_areFitting_ev (a b : List Int) (ha : a.length ≤ 1048576) (hb : b.length ≤ 1048576) : Ev (fun k => impl_areFitting.f k a b) (fits a b) := by
  simp only [impl_areFitting.f]
  refine (Ev.and (b := decide (a.length = b.length) && decide (a.sum = b.sum)) (impl_areLists_ev a b ha hb) fun h => ?_).eqv (Bool.and_assoc _ _ _)
  rw [Bool.and_eq_true, goodB_iff, goodB_iff] at h
  exact Ev.ret (f := fun t => t) (impl_doFit_ev h.1 h.2)

theorem impl_ahead_l {a b : List Int} (he : a.length = b.length) (hl : a.length ≤ 1048576) (ha : ∀ x ∈ a, 0 ≤ x ∧ x ≤ 60) (hb : ∀ x ∈ b, 0 ≤ x ∧ x ≤ 60) : ∀ i, i ≤ a.length → ∀ (out : List Int) (s : Int), out.length = i → -60 * (i : Int) ≤ s → s ≤ 60 * i → Ev (fun k => impl_ahead.l0 k b out s a (a.length : Int) (i : Int)) (out ++ dsums s (a.drop i) (b.drop i)) := by
  refine down ?_ ?_
  · intro out s ho h0 h1
    refine Ev.succ ?_
    simp only [impl_ahead.l0, nlt (Nat.le_refl a.length), if_false, List.drop_length, dsums, List.append_nil]
    exact Ev.now _
  · intro i hi ih out s ho h0 h1
    have h2 : i < b.length := by omega
    have b0 := ha _ (List.getElem_mem hi)
    have b1 := hb _ (List.getElem_mem h2)
    have c : out.length < 17592186044416 := by omega
    refine Ev.succ ?_
    simp only [impl_ahead.l0, ilt hi, ilt h2, inn, if_true, rd_lt hi, rd_lt h2, wnext hi (by omega : a.length ≤ 4611686018427387904), c, w64 (x := a[i] - b[i]) (by omega) (by omega), w64 (x := s + (a[i] - b[i])) (by omega) (by omega)]
    rw [drop_cons hi, drop_cons h2, dsums]
    exact (ih _ _ (by simp [ho]) (by omega) (by omega)).eqv (by simp)
theorem impl_ahead_ev {a b : List Int} (ha : Lst a) (hb : Lst b) (he : a.length = b.length) : Ev (fun k => impl_ahead.f k a b) (dsums 0 a b) := by
  have := impl_ahead_l he (by have := ha.2.1; omega) ha.2.2 hb.2.2 0 (Nat.zero_le _) [] 0 rfl (by omega) (by omega)
  simpa only [impl_ahead.f, List.drop_zero, List.nil_append, Int.natCast_zero] using this

theorem impl_LineDistance_l {X : List Int} (hl : X.length ≤ 1048576) (hX : ∀ x ∈ X, -480 ≤ x ∧ x ≤ 480) : ∀ i, i ≤ X.length → ∀ acc : Int, 0 ≤ acc → acc ≤ 480 * i → Ev (fun k => impl_LineDistance.l0 k acc X (X.length : Int) (i : Int)) (acc + sabs1 (X.drop i), true) := by
  refine down ?_ ?_
  · intro acc h0 h1
    refine Ev.succ ?_
    simp only [impl_LineDistance.l0, nlt (Nat.le_refl X.length), if_false, List.drop_length, sabs1, Int.add_zero]
    exact Ev.now _
  · intro i hi ih acc h0 h1
    have b0 := hX _ (List.getElem_mem hi)
    refine Ev.succ ?_
    simp only [impl_LineDistance.l0, ilt hi, inn, if_true, rd_lt hi, wnext hi (by omega : X.length ≤ 4611686018427387904), mx_eq, w64 (x := -X[i]) (by omega) (by omega)]
    rw [drop_cons hi, sabs1, ← Int.add_assoc, w64 (x := acc + _) (by omega) (by omega)]
    exact ih _ (by omega) (by omega)
theorem impl_LineDistance_ev (a b : List Int) (ha : a.length ≤ 1048576) (hb : b.length ≤ 1048576) : Ev (fun k => impl_LineDistance.f k a b) (if fits a b then (lineDist a b, true) else (0, false)) := by
  simp only [impl_LineDistance.f]
  refine Ev.bind (impl_areFitting_ev a b ha hb) ?_
  cases h : fits a b with
  | false => simp only [Bool.false_eq_true, if_false]; exact Ev.now _
  | true =>
    simp only [if_true]
    obtain ⟨h1, h2, h3, h4⟩ := fits_iff.1 h
    have hn := h1.2.1
    have e1 := dsums_length 0 a b h3
    refine Ev.bind (impl_ahead_ev h1 h2 h3) ?_
    have := impl_LineDistance_l (X := dsums 0 a b) (by omega) (dsums_bound h1.2.2 h2.2.2 (by omega) (by omega)) 0 (Nat.zero_le _) 0 (by omega) (by omega)
    rw [List.drop_zero, Int.zero_add] at this
    exact this

theorem impl_isPlan_row_ev (n : Nat) (l : List Int) (hl : l.length ≤ 1048576) : Ev (fun k => impl_isPlan.row k n l) (!rowOk n l) := by
  simp only [impl_isPlan.row, rowOk]
  by_cases c : l.length = n
  · simp only [c, if_true, decide_true, Bool.true_and]
    exact Ev.ret (f := fun t => !t) (impl_allWithin_ev l 0 60 (by omega))
  · simp only [c, if_false, decide_false, Bool.false_and, Bool.not_false]
    exact Ev.now _
theorem impl_isPlan_l (m : List (List Int)) (h : Siz m) : ∀ i, i ≤ m.length → ∃ j : Int, Ev (fun k => impl_isPlan.l0 k m (i : Int)) j ∧ decide (j ≥ 0) = !((m.drop i).all (rowOk m.length)) := by
  have hm := h.1
  refine down ?_ ?_
  · refine ⟨-1, ?_, by simp⟩
    refine Ev.succ ?_
    simp only [impl_isPlan.l0, nlt (Nat.le_refl m.length), if_false]
    exact Ev.now _
  · intro i hi ⟨j, ih, hj⟩
    have hg : rd_L2 m (i : Int) = m[i] := by simp [rd_L2, List.getD_eq_getElem?_getD, hi]
    have hb := impl_isPlan_row_ev m.length m[i] (h.2 _ (List.getElem_mem hi))
    cases c : rowOk m.length m[i] with
    | true =>
      refine ⟨j, ?_, by rw [hj, drop_cons hi, List.all_cons, c, Bool.true_and]⟩
      rw [c] at hb
      refine Ev.succ ?_
      simp only [impl_isPlan.l0, ilt hi, inn, if_true, hg, wnext hi (by omega : m.length ≤ 4611686018427387904)]
      refine Ev.bind hb ?_
      simp only [Bool.not_true, Bool.false_eq_true, if_false]
      exact ih
    | false =>
      refine ⟨(i : Int), ?_, by rw [drop_cons hi, List.all_cons, c, Bool.false_and]; simp⟩
      rw [c] at hb
      refine Ev.succ ?_
      simp only [impl_isPlan.l0, ilt hi, inn, if_true, hg]
      refine Ev.bind hb ?_
      simp only [Bool.not_false, if_true]
      exact Ev.now _
theorem impl_isPlan_ev (m : List (List Int)) (h : Siz m) : Ev (fun k => impl_isPlan.f k m) (planB m) := by
  simp only [impl_isPlan.f, impl_within_e, Option.bind_some, planB]
  refine Ev.andS fun _ => ?_
  obtain ⟨j, hE, hj⟩ := impl_isPlan_l m h 0 (Nat.zero_le _)
  refine (Ev.ret (f := fun j : Int => !decide (j ≥ 0)) hE).eqv ?_
  rw [hj, Bool.not_not, List.drop_zero]

theorem impl_cost_l1 (m : List (List Int)) (hm : m.length ≤ 1048576) (o : Nat) (ho : o ≤ 1048576) (R : Int) (l : List Int) (hl : l.length ≤ 1048576)
    (hk : ∀ acc, InR acc → Ev (fun k => impl_cost.l0 k acc m (m.length : Int) (wrap64 ((o : Int) + 1))) (wrap64 (acc + R))) :
    ∀ i, i ≤ l.length → ∀ acc, InR acc → Ev (fun k => impl_cost.l1 k acc (o : Int) m (m.length : Int) (o : Int) l (l.length : Int) (i : Int)) (wrap64 (acc + rowCost o i (l.drop i) + R)) := by
  refine down ?_ ?_
  · intro acc ha
    refine Ev.succ ?_
    simp only [impl_cost.l1, nlt (Nat.le_refl l.length), if_false, List.drop_length, rowCost, Int.add_zero]
    exact hk acc ha
  · intro i hi ih acc ha
    refine Ev.succ ?_
    simp only [impl_cost.l1, ilt hi, inn, if_true, rd_lt hi, wnext hi (by omega : l.length ≤ 4611686018427387904), mx_eq, w64 (x := (o : Int) - (i : Int)) (by omega) (by omega), w64 (x := (i : Int) - (o : Int)) (by omega) (by omega)]
    rw [drop_cons hi, rowCost, ← Int.add_assoc]
    refine (ih _ (inR_wrap _)).eqv ?_
    rw [Int.add_assoc, wr_add, ← Int.add_assoc, Int.add_right_comm acc (wrap64 _), Int.add_right_comm _ (wrap64 _), wr_add', Int.add_right_comm _ R, Int.add_right_comm acc]
theorem impl_cost_l0 (m : List (List Int)) (h : Siz m) : ∀ i, i ≤ m.length → ∀ acc, InR acc → Ev (fun k => impl_cost.l0 k acc m (m.length : Int) (i : Int)) (wrap64 (acc + costGo i (m.drop i))) := by
  have hm := h.1
  refine down ?_ ?_
  · intro acc ha
    refine Ev.succ ?_
    simp only [impl_cost.l0, nlt (Nat.le_refl m.length), if_false, List.drop_length, costGo, Int.add_zero, wR ha]
    exact Ev.now _
  · intro i hi ih acc ha
    have hrow : rd_L2 m (i : Int) = m[i] := by simp [rd_L2, List.getD_eq_getElem?_getD, hi]
    refine Ev.succ ?_
    simp only [impl_cost.l0, ilt hi, inn, if_true, hrow]
    refine (impl_cost_l1 m hm i (by omega) (costGo (i + 1) (m.drop (i + 1))) m[i] (h.2 _ (List.getElem_mem hi)) (fun acc ha => ?_) 0 (Nat.zero_le _) acc ha).eqv ?_
    · rw [wnext hi (by omega)]
      exact ih acc ha
    · rw [List.drop_zero, drop_cons hi, costGo, Int.add_assoc]
theorem impl_cost_ev (m : List (List Int)) (h : Siz m) : Ev (fun k => impl_cost.f k m) (wrap64 (costGo 0 m)) := by
  have := impl_cost_l0 m h 0 (Nat.zero_le _) 0 inR_0
  simpa only [impl_cost.f, List.drop_zero, Int.zero_add, Int.natCast_zero] using this

theorem impl_PlanCost_ev (m : List (List Int)) (h : Siz m) : Ev (fun k => impl_PlanCost.f k m) (if planB m then (wrap64 (costGo 0 m), true) else (0, false)) := by
  simp only [impl_PlanCost.f]
  refine Ev.bind (impl_isPlan_ev m h) ?_
  cases c : planB m with
  | false => simp only [Bool.false_eq_true, if_false]; exact Ev.now _
  | true =>
    simp only [if_true]
    exact Ev.ret (f := fun t => (t, true)) (impl_cost_ev m h)

theorem laws_pSame_l (l m : List Int) (he : m.length = l.length) (hl : l.length ≤ 4611686018427387904) : ∀ i, i ≤ l.length → Ev (fun k => laws_pSame.l0 k l m (l.length : Int) (i : Int)) (decide (l.drop i = m.drop i)) := by
  refine down ?_ ?_
  · refine Ev.succ ?_
    simp only [laws_pSame.l0, nlt (Nat.le_refl l.length), if_false, List.drop_length]
    rw [← he, List.drop_length]
    exact Ev.now _
  · intro i hi ih
    refine Ev.succ ?_
    simp only [laws_pSame.l0, ilt hi, inn, if_true, he, rd_lt hi, rd_lt (he ▸ hi : i < m.length), wnext hi hl]
    rw [drop_cons hi, drop_cons (he ▸ hi : i < m.length)]
    by_cases hx : l[i] = m[i]
    · simp only [hx, if_true, List.cons.injEq, true_and]
      exact ih
    · simp only [hx, if_false, List.cons.injEq, false_and, decide_false]
      exact Ev.now _
theorem laws_pSame_ev (l m : List Int) (hl : l.length ≤ 4611686018427387904) : Ev (fun k => laws_pSame.f k l m) (decide (l = m)) := by
  simp only [laws_pSame.f]
  by_cases he : (l.length : Int) = (m.length : Int)
  · simp only [he, if_true]
    have := laws_pSame_l l m (by omega) hl 0 (Nat.zero_le _)
    rw [he] at this
    exact this
  · simp only [he, if_false]
    rw [decide_eq_false (fun h => he (by rw [h]))]
    exact Ev.now _

theorem impl_monotone_1_e (a b : Int) : impl_monotone_1.f a b = some 0 := rfl
theorem impl_square_l1 (n : Nat) (hn : n ≤ 1048576) (o : Nat) (ho : o < n) (R : List (List Int)) (hk : Ev (fun k => impl_square.l0 k (n : Int) (List.replicate (o + 1) (List.replicate n 0)) (n : Int) ((o + 1 : Nat) : Int)) R) :
    ∀ j, j ≤ n → Ev (fun k => impl_square.l1 k (n : Int) (List.replicate o (List.replicate n 0)) (o : Int) (List.replicate j 0) (n : Int) (o : Int) (n : Int) (j : Int)) R := by
  refine down ?_ ?_
  · have c2 : (List.replicate o (List.replicate n (0 : Int))).length < 5864062014805 := by rw [List.length_replicate]; omega
    refine Ev.succ ?_
    simp only [impl_square.l1, nlt (Nat.le_refl n), if_false, c2, if_true, ← List.replicate_succ', wnext ho (by omega : n ≤ 4611686018427387904)]
    exact hk
  · intro j hj ih
    have c2 : (List.replicate j (0 : Int)).length < 17592186044416 := by rw [List.length_replicate]; omega
    refine Ev.succ ?_
    simp only [impl_square.l1, ilt hj, if_true, impl_monotone_1_e, Option.bind_some, c2, ← List.replicate_succ', wnext hj (by omega : n ≤ 4611686018427387904)]
    exact ih
theorem impl_square_l0 (n : Nat) (hn : n ≤ 1048576) : ∀ i, i ≤ n → Ev (fun k => impl_square.l0 k (n : Int) (List.replicate i (List.replicate n 0)) (n : Int) (i : Int)) (zerosP n n) := by
  refine down ?_ ?_
  · refine Ev.succ ?_
    simp only [impl_square.l0, nlt (Nat.le_refl n), if_false]
    exact Ev.now _
  · intro i hi ih
    refine Ev.succ ?_
    simp only [impl_square.l0, ilt hi, if_true]
    exact impl_square_l1 n hn i hi _ ih 0 (Nat.zero_le _)
theorem impl_square_ev (n : Nat) (hn : n ≤ 1048576) (z : Int) : Ev (fun k => impl_square.f k (n : Int) z) (zerosP n n) := by
  have := impl_square_l0 n hn 0 (Nat.zero_le _)
  simpa only [impl_square.f, List.replicate_zero, Int.natCast_zero] using this

theorem slices_Clone_int_int_e (l : List Int) (hl : l.length < 17592186044416) : slices_Clone_int_int.f l = some l := by
  simp only [slices_Clone_int_int.f, Option.bind_some, List.nil_append, List.length_nil, Nat.zero_add, hl, if_true]

theorem impl_monotone_l0 : ∀ (d : Nat) (m : List (List Int)) (a b : List Int) (i j : Nat), (a.length - i) + (b.length - j) < d → i ≤ a.length → j ≤ b.length → a.length ≤ 1048576 → b.length ≤ 1048576 → Shp m a.length b.length → Ev (fun k => impl_monotone.l0  k m a b (i : Int) (j : Int)) (carryN d m a b i j)
  | 0, _, _, _, _, _, h, _, _, _, _, _ => by omega
  | d + 1, m, a, b, i, j, h, hi, hj, ha, hb, hs => by
    unfold carryN
    refine Ev.succ ?_
    by_cases c1 : i < a.length
    · by_cases c2 : j < b.length
      · have r1 : i < m.length := by rw [hs.1]; exact c1
        have hrow : rd_L2 m (i : Int) = m.getD i [] := by simp [rd_L2]
        have hl := hs.row c1
        have r2 : j < (m.getD i []).length := by rw [hl]; exact c2
        have hs2 : Shp (m.set i ((m.getD i []).set j (wrap64 ((m.getD i []).getD j 0 + min (a.getD i 0) (b.getD j 0))))) a.length b.length := hs.set (by rw [List.length_set]; exact hl)
        rw [if_pos ⟨c1, c2⟩]
        simp only [impl_monotone.l0, ilt c1, ilt c2, inn, if_true, hrow, ilt r1, ilt r2, rd_get, Int.toNat_natCast, mn_eq, wnext c1 (by omega : a.length ≤ 4611686018427387904), wnext c2 (by omega : b.length ≤ 4611686018427387904)]
        by_cases c3 : (a.set i (wrap64 (a.getD i 0 - min (a.getD i 0) (b.getD j 0)))).getD i 0 = 0
        · simp only [c3, if_true]
          have := impl_monotone_l0 d (m.set i ((m.getD i []).set j (wrap64 ((m.getD i []).getD j 0 + min (a.getD i 0) (b.getD j 0))))) (a.set i (wrap64 (a.getD i 0 - min (a.getD i 0) (b.getD j 0)))) (b.set j (wrap64 (b.getD j 0 - min (a.getD i 0) (b.getD j 0)))) (i + 1) j (by simp only [List.length_set]; omega) (by simp only [List.length_set]; omega) (by simp only [List.length_set]; omega) (by simp only [List.length_set]; omega) (by simp only [List.length_set]; omega) (by simp only [List.length_set]; exact hs2)
          simpa only [List.length_set] using this
        · simp only [c3, if_false]
          have := impl_monotone_l0 d (m.set i ((m.getD i []).set j (wrap64 ((m.getD i []).getD j 0 + min (a.getD i 0) (b.getD j 0))))) (a.set i (wrap64 (a.getD i 0 - min (a.getD i 0) (b.getD j 0)))) (b.set j (wrap64 (b.getD j 0 - min (a.getD i 0) (b.getD j 0)))) i (j + 1) (by simp only [List.length_set]; omega) (by simp only [List.length_set]; omega) (by simp only [List.length_set]; omega) (by simp only [List.length_set]; omega) (by simp only [List.length_set]; omega) (by simp only [List.length_set]; exact hs2)
          simpa only [List.length_set] using this
      · rw [if_neg (by omega)]
        simp only [impl_monotone.l0, ilt c1, nlt (Nat.le_of_not_lt c2), if_true, if_false]
        exact Ev.now _
    · rw [if_neg (by omega)]
      simp only [impl_monotone.l0, nlt (Nat.le_of_not_lt c1), if_false]
      exact Ev.now _

theorem impl_monotone_ev (a b : List Int) (h : a.length = b.length) (h0 : 0 < a.length) (ha : a.length ≤ 1048576) : Ev (fun k => impl_monotone.f k a b) (monoP a b) := by
  simp only [impl_monotone.f, impl_monotone.c, slices_Clone_int_int_e a (by omega), slices_Clone_int_int_e b (by omega), Option.bind_some]
  refine Ev.bind (impl_square_ev a.length ha 0) ?_
  have hz : 0 < (zerosP a.length a.length).length := by simp [zerosP]; exact h0
  simp only [hz, if_true]
  exact impl_monotone_l0 _ (zerosP a.length a.length) a b 0 0 (by omega) (by omega) (by omega) ha (by omega) (h ▸ shp_zeros a.length a.length)

theorem impl_isLowering_l (m : List (List Int)) (h : Plan m) : ∀ i, i ≤ m.length → Ev (fun k => impl_isLowering.l0 k m (m.length : Int) (i : Int)) (lowGo i (m.drop i)) := by
  have hm := h.2.1
  refine down ?_ ?_
  · refine Ev.succ ?_
    simp only [impl_isLowering.l0, nlt (Nat.le_refl m.length), if_false, List.drop_length, lowGo]
    exact Ev.now _
  · intro i hi ih
    have hrow : rd_L2 m (i : Int) = m[i] := by simp [rd_L2, List.getD_eq_getElem?_getD, hi]
    have hl := (h.2.2 _ (List.getElem_mem hi)).1
    refine Ev.succ ?_
    simp only [impl_isLowering.l0, ilt hi, inn, if_true, hrow, wnext hi (by omega : m.length ≤ 4611686018427387904), ile (by omega : i + 1 ≤ m[i].length), Int.toNat_natCast]
    rw [drop_cons hi, lowGo]
    exact Ev.and (impl_allWithin_ev _ 0 0 (by rw [List.length_drop]; omega)) fun _ => ih
theorem impl_isLowering_ev (m : List (List Int)) (h : Plan m) : Ev (fun k => impl_isLowering.f k m) (lowGo 0 m) := by
  have := impl_isLowering_l m h 0 (Nat.zero_le _)
  simpa only [impl_isLowering.f, List.drop_zero, Int.natCast_zero] using this

theorem impl_LoweringPlan_ev (a b : List Int) (ha : a.length ≤ 1048576) (hb : b.length ≤ 1048576) : Ev (fun k => impl_LoweringPlan.f k a b) (if fits a b then (if lowGo 0 (monoP a b) then (monoP a b, true) else ([], false)) else (([] : List (List Int)), false)) := by
  simp only [impl_LoweringPlan.f]
  refine Ev.bind (impl_areFitting_ev a b ha hb) ?_
  cases c : fits a b with
  | false => simp only [Bool.false_eq_true, if_false]; exact Ev.now _
  | true =>
    simp only [if_true]
    have h := fits_iff.1 c
    have h1 := h.1.1
    refine Ev.bind (impl_monotone_ev a b h.2.2.1 (by omega) ha) ?_
    refine Ev.bind (impl_isLowering_ev _ (monoP_plan c)) ?_
    cases e : lowGo 0 (monoP a b) with
    | false => simp only [Bool.false_eq_true, if_false]; exact Ev.now _
    | true => simp only [if_true]; exact Ev.now _

theorem laws_pSum_l (l : List Int) (hl : l.length ≤ 4611686018427387904) : ∀ i, i ≤ l.length → ∀ acc, InR acc → Ev (fun k => laws_pSum.l0 k acc l (l.length : Int) (i : Int)) (wrap64 (acc + (l.drop i).sum)) := by
  refine down ?_ ?_
  · intro acc ha
    refine Ev.succ ?_
    simp only [laws_pSum.l0, nlt (Nat.le_refl l.length), if_false, List.drop_length, List.sum_nil, Int.add_zero, wR ha]
    exact Ev.now _
  · intro i hi ih acc ha
    refine Ev.succ ?_
    simp only [laws_pSum.l0, ilt hi, inn, if_true, rd_lt hi, wnext hi hl]
    rw [drop_cons hi, List.sum_cons, ← Int.add_assoc]
    exact (ih _ (inR_wrap _)).eqv (wr_add _ _)
theorem laws_pSum_ev (l : List Int) (hl : l.length ≤ 4611686018427387904) : Ev (fun k => laws_pSum.f k l) (wrap64 l.sum) := by
  have := laws_pSum_l l hl 0 (Nat.zero_le _) 0 inR_0
  simpa only [laws_pSum.f, List.drop_zero, Int.zero_add, Int.natCast_zero] using this
theorem laws_pSum_good {l : List Int} (h : Lst l) : Ev (fun k => laws_pSum.f k l) l.sum :=
  (laws_pSum_ev l (by have := h.2.1; omega)).eqv (w64 (by have := h.sum; omega) (by have := h.sum; omega))

theorem laws_pFit_ev {a b : List Int} (ha : Lst a) (hb : Lst b) : Ev (fun k => laws_pFit.f k a b) (decide (a.length = b.length) && decide (a.sum = b.sum)) := by
  simp only [laws_pFit.f]
  by_cases h : a.length = b.length
  · have h2 : (a.length : Int) = (b.length : Int) := by omega
    simp only [h2, if_true, h, decide_true, Bool.true_and]
    refine Ev.bind (laws_pSum_good ha) ?_
    exact Ev.ret (f := fun t => a.sum == t) (laws_pSum_good hb)
  · have h2 : ¬ (a.length : Int) = (b.length : Int) := by omega
    simp only [h2, if_false, h, decide_false, Bool.false_and]
    exact Ev.now _

theorem impl_ranking_1_e (x y : Int) : impl_ranking_1.f x y = some (wrap64 (y - x)) := rfl

theorem slices_SortFunc_int_int_any (l : List Int) (hl : l.length ≤ 1048576) (hb : ∀ x ∈ l, -1000000 ≤ x ∧ x ≤ 1000000) (a : Int) : Ev (fun k => slices_SortFunc_int_int.f k l a) (rankD l) := by
  have hs : Desc (l.mergeSort fun x y => decide (y ≤ x)) := by
    have := List.pairwise_mergeSort (le := fun x y : Int => decide (y ≤ x)) (fun a b c h1 h2 => by simp only [decide_eq_true_eq] at h1 h2 ⊢; omega) (fun a b => by simp only [Bool.or_eq_true, decide_eq_true_eq]; omega) l
    exact this.imp fun h => by simpa using h
  have e : (l.mergeSort fun x y => decide (y ≤ x)) = rankD l := desc_unique ((List.mergeSort_perm _ _).trans (rankD_perm l).symm) hs (rankD_desc l)
  have c : (l.all fun x => decide (-1152921504606846976 ≤ x) && decide (x ≤ 1152921504606846976)) = true := List.all_eq_true.2 fun x hx => by
    have := hb x hx
    rw [Bool.and_eq_true, decide_eq_true_eq, decide_eq_true_eq]
    omega
  simp only [slices_SortFunc_int_int.f, if_pos hl, c, if_true, e]
  exact Ev.now _

theorem impl_ranking_any {l : List Int} (hl : l.length ≤ 1000) (hb : ∀ x ∈ l, -1000000 ≤ x ∧ x ≤ 1000000) : Ev (fun k => impl_ranking.f k l) (rankD l) := by
  simp only [impl_ranking.f, slices_Clone_int_int_e l (by omega), Option.bind_some]
  exact Ev.ret (f := fun t => t) (slices_SortFunc_int_int_any l (by omega) hb 0)
theorem impl_ranking_ev {l : List Int} (h : Lst l) : Ev (fun k => impl_ranking.f k l) (rankD l) := impl_ranking_any (by have := h.2.1; omega) fun x hx => by have := h.2.2 x hx; omega

theorem impl_RankingOf_ev (a : List Int) (ha : a.length ≤ 1048576) : Ev (fun k => impl_RankingOf.f k a) (if goodB a then (rankD a, true) else (([] : List Int), false)) := by
  simp only [impl_RankingOf.f]
  refine Ev.bind (impl_IsList_ev a (by omega)) ?_
  cases h : goodB a with
  | false => simp only [Bool.false_eq_true, if_false]; exact Ev.now _
  | true =>
    simp only [if_true]
    exact Ev.ret (f := fun t => (t, true)) (impl_ranking_ev (goodB_iff.1 h))

theorem impl_partial_l (l : List Int) (hl : l.length ≤ 60) (hb : ∀ x ∈ l, 0 ≤ x ∧ x ≤ 60) : ∀ i, i ≤ l.length → ∀ (out : List Int) (s : Int), out.length = i → 0 ≤ s ∧ s ≤ 60 * i → Ev (fun k => impl_partial.l0 k out s l (l.length : Int) (i : Int)) (out ++ psums s (l.drop i)) := by
  refine down ?_ ?_
  · intro out s ho hs
    refine Ev.succ ?_
    simp only [impl_partial.l0, nlt (Nat.le_refl l.length), if_false, List.drop_length, psums, List.append_nil]
    exact Ev.now _
  · intro i hi ih out s ho hs
    have b := hb _ (List.getElem_mem hi)
    have c : out.length < 17592186044416 := by omega
    refine Ev.succ ?_
    simp only [impl_partial.l0, ilt hi, inn, if_true, rd_lt hi, c, w64 (x := s + l[i]) (by omega) (by omega), wnext hi (by omega : l.length ≤ 4611686018427387904)]
    rw [drop_cons hi, psums]
    exact (ih (out ++ [s + l[i]]) (s + l[i]) (by simp [ho]) (by omega)).eqv (by simp)
theorem impl_partial_any {l : List Int} (hl : l.length ≤ 60) (hb : ∀ x ∈ l, 0 ≤ x ∧ x ≤ 60) : Ev (fun k => impl_partial.f k l) (partOf l) := by
  simp only [impl_partial.f]
  refine Ev.bind (impl_ranking_any (by omega) fun x hx => by have := hb x hx; omega) ?_
  have := impl_partial_l (rankD l) (by rw [rankD_length]; exact hl) (fun x hx => hb x ((rankD_perm l).mem_iff.1 hx)) 0 (Nat.zero_le _) [] 0 rfl (by omega)
  rw [List.drop_zero, List.nil_append] at this
  exact this
theorem impl_partial_ev {l : List Int} (h : Lst l) : Ev (fun k => impl_partial.f k l) (partOf l) := impl_partial_any (by have := h.2.1; omega) h.2.2

theorem impl_refused_l (p q : List Int) (hp : p.length ≤ 1048576) (hq : p.length ≤ q.length) : ∀ i, i ≤ p.length → Ev (fun k => impl_refused.l0 k q p (p.length : Int) (i : Int)) (refGo i (p.drop i) (q.drop i)) := by
  refine down ?_ ?_
  · refine Ev.succ ?_
    simp only [impl_refused.l0, nlt (Nat.le_refl p.length), if_false, List.drop_length, refGo]
    exact Ev.now _
  · intro i hi ih
    have h2 : i < q.length := by omega
    refine Ev.succ ?_
    simp only [impl_refused.l0, ilt hi, ilt h2, inn, if_true, rd_lt hi, rd_lt h2, wnext hi (by omega : p.length ≤ 4611686018427387904)]
    rw [drop_cons hi, drop_cons h2, refGo]
    by_cases c : p[i] > q[i]
    · simp only [c, if_true]; exact Ev.now _
    · simp only [c, if_false]; exact ih
theorem impl_refused_ev {a b : List Int} (ha : Lst a) (hb : Lst b) (hl : a.length = b.length) : Ev (fun k => impl_refused.f k a b) (refGo 0 (partOf a) (partOf b)) := by
  have h2 := ha.2.1
  simp only [impl_refused.f]
  refine Ev.bind (impl_partial_ev hb) ?_
  refine Ev.bind (impl_partial_ev ha) ?_
  exact impl_refused_l (partOf a) (partOf b) (by rw [partOf_length]; omega) (by rw [partOf_length, partOf_length]; omega) 0 (Nat.zero_le _)

theorem impl_isMajorized_ev {a b : List Int} (ha : Lst a) (hb : Lst b) : Ev (fun k => impl_isMajorized.f k a b) ((decide (a.length = b.length) && decide (a.sum = b.sum)) && leAll (partOf a) (partOf b)) := by
  simp only [impl_isMajorized.f]
  refine (Ev.and (impl_doFit_ev ha hb) fun h => ?_)
  simp only [Bool.and_eq_true, decide_eq_true_eq] at h
  exact (Ev.ret (f := fun t => t == 0) (impl_refused_ev ha hb h.1)).eqv (refGo_zero 0 _ _)

theorem impl_IsMajorized_ev (a b : List Int) (ha : a.length ≤ 1048576) (hb : b.length ≤ 1048576) : Ev (fun k => impl_IsMajorized.f k a b) (if goodB a && goodB b then (majB a b, true) else (false, false)) := by
  simp only [impl_IsMajorized.f]
  refine Ev.bind (impl_areLists_ev a b ha hb) ?_
  cases h : goodB a && goodB b with
  | false => simp only [Bool.false_eq_true, if_false]; exact Ev.now _
  | true =>
    simp only [if_true]
    rw [Bool.and_eq_true, goodB_iff, goodB_iff] at h
    exact (Ev.ret (f := fun t => (t, true)) (impl_isMajorized_ev h.1 h.2)).eqv (by rw [Bool.and_assoc]; rfl)

theorem spec_l1Cur_next_x {c : List Int} (hc : Bts c) (a s b : Int) (ha : At a b) (hb : b ≤ 4611686018427387904) : ∃ r : Int × Int × Int, spec_l1Cur_next.f c a s = some r ∧ 0 ≤ r.1 ∧ r.1 ≤ 255 ∧ At r.2.1 (b + 1) := by
  have h0 := ha.1
  have h1 := ha.2
  have e : wrap64 (a + 1) = a + 1 := w64 (by omega) (by omega)
  have a1 : At (a + 1) (b + 1) := ⟨by omega, by omega⟩
  have u : ∀ z : Int, 0 ≤ wrap64 (Go.bits .and .u64 (IntKind.u64.wrap z / 1099511627776) 255) ∧ wrap64 (Go.bits .and .u64 (IntKind.u64.wrap z / 1099511627776) 255) ≤ 255 := fun z => and255 _ (by rw [wrapU64]; omega) (by rw [wrapU64]; omega)
  unfold spec_l1Cur_next.f
  by_cases c1 : a < (c.length : Int)
  · have r := rd_code hc h0 c1
    simp only [c1, h0, if_true, e]
    by_cases c2 : a + 1 ≤ (c.length : Int)
    · simp only [c2, if_true]
      refine ⟨_, rfl, ?_, ?_, a1⟩
      · show 0 ≤ wrap64 _
        rw [w64 (by omega) (by omega)]; exact r.1
      · show wrap64 _ ≤ 255
        rw [w64 (by omega) (by omega)]; exact r.2
    · simp only [c2, if_false]
      exact ⟨_, rfl, (u _).1, (u _).2, a1⟩
  · simp only [c1, if_false, e]
    by_cases c2 : a + 1 ≤ (c.length : Int)
    · simp only [c2, if_true]
      exact ⟨_, rfl, by show (0 : Int) ≤ 0; omega, by show (0 : Int) ≤ 255; omega, a1⟩
    · simp only [c2, if_false]
      exact ⟨_, rfl, (u _).1, (u _).2, a1⟩

theorem spec_l1Cur_pick_x {c : List Int} (hc : Bts c) (a s b n : Int) (ha : At a b) (hb : b ≤ 1073741824) : Ex (fun _ => spec_l1Cur_pick.f c a s n) (fun r => 0 ≤ r.1 ∧ (1 ≤ n → r.1 < n) ∧ At r.2.1 (b + 2)) := by
  have h0 := ha.1
  have h1 := ha.2
  unfold spec_l1Cur_pick.f
  by_cases c1 : n ≤ 1
  · simp only [c1, if_true]
    exact Ex.now ⟨by show (0 : Int) ≤ 0; omega, fun h => by show (0 : Int) < n; omega, by omega, by show a ≤ b + 2; omega⟩
  · simp only [c1, if_false]
    obtain ⟨r, hr, r0, r1, r2⟩ := spec_l1Cur_next_x hc a s b ha (by omega)
    rw [hr]
    simp only [Option.bind_some]
    have n0 : ¬ n = 0 := by omega
    by_cases c2 : n > 200
    · simp only [c2, if_true]
      obtain ⟨q, hq, q0, q1, q2⟩ := spec_l1Cur_next_x hc r.2.1 r.2.2 (b + 1) r2 (by omega)
      rw [hq]
      simp only [Option.bind_some, n0, if_false]
      have e : wrap64 (wrap64 (r.1 * 256) + q.1) = r.1 * 256 + q.1 := by rw [w64 (x := r.1 * 256) (by omega) (by omega), w64 (by omega) (by omega)]
      rw [e]
      refine Ex.now ⟨Int.tmod_nonneg _ (by omega), fun _ => Int.tmod_lt_of_pos _ (by omega), q2.1, ?_⟩
      have := q2.2
      show q.2.1 ≤ b + 2
      omega
    · simp only [c2, if_false, n0]
      refine Ex.now ⟨Int.tmod_nonneg _ (by omega), fun _ => Int.tmod_lt_of_pos _ (by omega), r2.1, ?_⟩
      have := r2.2
      show r.2.1 ≤ b + 2
      omega

theorem spec_l1Cur_one_x {c : List Int} (hc : Bts c) (a s b n : Int) (ha : At a b) (hb : b ≤ 1073741824) : Ex (fun _ => spec_l1Cur_one.f c a s n) (fun r => At r.2.1 (b + 2)) := by
  unfold spec_l1Cur_one.f
  refine Ex.bind (spec_l1Cur_pick_x hc a s b n ha hb) fun r hr => ?_
  exact Ex.now hr.2.2

theorem spec_l1Own_e (l : List Int) (hl : l.length < 17592186044416) : spec_l1Own.f l = some l := by
  simp only [spec_l1Own.f, Option.bind_some, List.nil_append, List.length_nil, Nat.zero_add, hl, if_true]

theorem spec_l1Cur_among_x {c : List Int} (hc : Bts c) (a s b : Int) (l : List Int) (hl : 1 ≤ l.length) (ha : At a b) (hb : b ≤ 1073741824) : Ex (fun _ => spec_l1Cur_among.f c a s l) (fun r => r.1 ∈ l ∧ At r.2.1 (b + 2)) := by
  unfold spec_l1Cur_among.f
  refine Ex.bind (spec_l1Cur_pick_x hc a s b _ ha hb) fun r hr => ?_
  have h0 := hr.1
  have h1 := hr.2.1 (by omega)
  simp only [h0, h1, if_true]
  refine Ex.now ⟨?_, hr.2.2⟩
  have hi : r.1.toNat < l.length := by omega
  show rd l r.1 ∈ l
  unfold rd
  rw [List.getD_eq_getElem?_getD, List.getElem?_eq_getElem hi, Option.getD_some]
  exact List.getElem_mem hi

theorem spec_l1Cur_list_l {c : List Int} (hc : Bts c) (m : Int) : ∀ (n : Nat) (x : List Int) (a s b : Int), At a b → b + 2 * n ≤ 1073741824 → x.length + n ≤ 1048576 → Ex (fun k => spec_l1Cur_list.l0 k m x (n : Int) c a s) (fun r => r.1.length = x.length + n ∧ At r.2.1 (b + 2 * n))
  | 0, x, a, s, b, ha, hb, hx => by
    refine Ex.succ ?_
    simp only [spec_l1Cur_list.l0, show ¬ (((0 : Nat) : Int) > 0) by omega, if_false]
    exact Ex.now ⟨rfl, by simpa using ha⟩
  | n + 1, x, a, s, b, ha, hb, hx => by
    refine Ex.succ ?_
    simp only [spec_l1Cur_list.l0, show (((n + 1 : Nat) : Int) > 0) by omega, if_true]
    refine Ex.bind (spec_l1Cur_pick_x hc a s b _ ha (by omega)) fun r hr => ?_
    have hl : x.length < 17592186044416 := by omega
    simp only [hl, if_true, w64 (x := ((n + 1 : Nat) : Int) - 1) (by omega) (by omega)]
    rw [show ((n + 1 : Nat) : Int) - 1 = (n : Int) by omega]
    refine (spec_l1Cur_list_l hc m n (x ++ [r.1]) r.2.1 r.2.2 (b + 2) hr.2.2 (by omega) (by rw [List.length_append, List.length_singleton]; omega)).mono fun q hq => ?_
    rw [List.length_append, List.length_singleton] at hq
    exact ⟨by omega, hq.2.1, by have := hq.2.2; omega⟩
theorem spec_l1Cur_list_x {c : List Int} (hc : Bts c) (a s b m : Int) (ha : At a b) (hb : b ≤ 536870912) : Ex (fun k => spec_l1Cur_list.f k c a s m) (fun r => 1 ≤ r.1.length ∧ r.1.length ≤ 6 ∧ At r.2.1 (b + 14)) := by
  simp only [spec_l1Cur_list.f]
  refine Ex.bind (spec_l1Cur_pick_x hc a s b 6 ha (by omega)) fun r hr => ?_
  have h0 := hr.1
  have h1 := hr.2.1 (by omega)
  obtain ⟨n, hn⟩ := Int.eq_ofNat_of_zero_le h0
  rw [w64 (by omega) (by omega), show 1 + r.1 = ((n + 1 : Nat) : Int) by omega]
  refine (spec_l1Cur_list_l hc m (n + 1) [] r.2.1 r.2.2 (b + 2) hr.2.2 (by omega) (by simp; omega)).mono fun q hq => ?_
  rw [List.length_nil] at hq
  exact ⟨by omega, by omega, hq.2.1, by have := hq.2.2; omega⟩

theorem spec_l1Cur_anyList_l {c : List Int} (hc : Bts c) : ∀ (d : Nat) (x : List Int) (a s b : Int), x.length + d = 10 → At a b → b + 4 * d + 4 ≤ 1073741824 → Ex (fun k => spec_l1Cur_anyList.l0 k x c a s) (fun r => r.1.length ≤ 10 ∧ At r.2.1 (b + 4 * d + 4))
  | 0, x, a, s, b, hx, ha, hb => by
    refine Ex.succ ?_
    simp only [spec_l1Cur_anyList.l0]
    refine Ex.bind (spec_l1Cur_pick_x hc a s b 2 ha (by omega)) fun r hr => ?_
    have h0 := hr.1
    have h1 := hr.2.1 (by omega)
    have c1 : ¬ ((x.length : Int) < wrap64 (8 + r.1)) := by rw [w64 (by omega) (by omega)]; omega
    simp only [c1, if_false]
    exact Ex.now ⟨by show x.length ≤ 10; omega, hr.2.2.1, by have := hr.2.2.2; show r.2.1 ≤ _; omega⟩
  | d + 1, x, a, s, b, hx, ha, hb => by
    refine Ex.succ ?_
    simp only [spec_l1Cur_anyList.l0]
    refine Ex.bind (spec_l1Cur_pick_x hc a s b 2 ha (by omega)) fun r hr => ?_
    by_cases c1 : (x.length : Int) < wrap64 (8 + r.1)
    · simp only [c1, if_true]
      refine Ex.bind (spec_l1Cur_pick_x hc _ _ (b + 2) 9 hr.2.2 (by omega)) fun q hq => ?_
      have hl : x.length < 17592186044416 := by omega
      simp only [hl, if_true]
      refine (spec_l1Cur_anyList_l hc d (x ++ [q.1]) _ _ (b + 2 + 2) (by rw [List.length_append, List.length_singleton]; omega) hq.2.2 (by omega)).mono fun z hz => ?_
      exact ⟨hz.1, hz.2.1, by have := hz.2.2; omega⟩
    · simp only [c1, if_false]
      exact Ex.now ⟨by show x.length ≤ 10; omega, hr.2.2.1, by have := hr.2.2.2; show r.2.1 ≤ _; omega⟩
theorem spec_l1Cur_anyList_x {c : List Int} (hc : Bts c) (a s b m : Int) (ha : At a b) (hb : b ≤ 268435456) : Ex (fun k => spec_l1Cur_anyList.f k c a s m) (fun r => r.1.length ≤ 10 ∧ At r.2.1 (b + 64)) := by
  simp only [spec_l1Cur_anyList.f]
  refine Ex.bind (spec_l1Cur_list_x hc a s b m ha (by omega)) fun r hr => ?_
  refine Ex.bind (spec_l1Cur_pick_x hc _ _ (b + 14) 14 hr.2.2 (by omega)) fun q hq => ?_
  have q2 := hq.2.2.2
  by_cases c1 : q.1 = 0
  · simp only [c1, if_true]
    refine Ex.bind (spec_l1Cur_among_x hc _ _ (b + 14 + 2) _ (by simp) hq.2.2 (by omega)) fun z hz => ?_
    have hl : r.1.length < 17592186044416 := by omega
    simp only [hl, if_true]
    exact Ex.now ⟨by show (r.1 ++ [z.1]).length ≤ 10; rw [List.length_append, List.length_singleton]; omega, hz.2.1, by have := hz.2.2; show z.2.1 ≤ _; omega⟩
  · simp only [c1, if_false]
    by_cases c2 : q.1 = 1
    · simp only [c2, if_true]
      refine (spec_l1Cur_anyList_l hc (10 - r.1.length) r.1 _ _ (b + 14 + 2) (by omega) hq.2.2 (by omega)).mono fun z hz => ?_
      exact ⟨hz.1, hz.2.1, by have := hz.2.2; omega⟩
    · simp only [c2, if_false]
      by_cases c3 : q.1 = 2
      · simp only [c3, if_true]
        exact Ex.now ⟨by show ([] : List Int).length ≤ 10; simp, hq.2.2.1, by show q.2.1 ≤ _; omega⟩
      · simp only [c3, if_false]
        exact Ex.now ⟨by show r.1.length ≤ 10; omega, hq.2.2.1, by show q.2.1 ≤ _; omega⟩

theorem spec_l1Cur_fitting_l {c : List Int} (hc : Bts c) (x : List Int) (hx : x.length ≤ 10) : ∀ (n : Nat) (y : List Int) (a s b : Int), y.length ≤ 10 → At a b → b + 8 * n + 8 ≤ 1073741824 → Ex (fun k => spec_l1Cur_fitting.l0 k x y (n : Int) c a s) (fun r => r.1.length ≤ 10 ∧ r.2.1.length ≤ 10 ∧ At r.2.2.1 (b + 8 * n + 8))
  | n, y, a, s, b, hy, ha, hb => by
    have hb0 := ha.1
    have hb1 := ha.2
    have off : Ex (fun k => spec_l1Cur_fitting.j1 k x y (n : Int) false c a s) (fun r => r.1.length ≤ 10 ∧ r.2.1.length ≤ 10 ∧ At r.2.2.1 (b + 8 * n + 8)) := by
      refine Ex.succ ?_
      simp only [spec_l1Cur_fitting.j1, Bool.false_eq_true, if_false]
      refine Ex.bind (spec_l1Cur_one_x hc a s b 5 ha (by omega)) fun r hr => ?_
      have h2 := hr.2
      by_cases c1 : r.1 = true
      · simp only [c1, if_true]
        exact Ex.now ⟨hx, hy, hr.1, by show r.2.1 ≤ _; omega⟩
      · simp only [c1, if_false]
        exact Ex.now ⟨hy, hx, hr.1, by show r.2.1 ≤ _; omega⟩
    refine Ex.succ ?_
    simp only [spec_l1Cur_fitting.l0]
    by_cases c0 : (n : Int) > 0
    · simp only [c0, if_true]
      by_cases c1 : (y.length : Int) > 1
      · simp only [c1, decide_true]
        obtain ⟨m, rfl⟩ : ∃ m, n = m + 1 := ⟨n - 1, by omega⟩
        have ew : wrap64 (((m + 1 : Nat) : Int) - 1) = (m : Int) := by rw [w64 (by omega) (by omega)]; omega
        refine Ex.succ ?_
        simp only [spec_l1Cur_fitting.j1, if_true, ew]
        refine Ex.bind (spec_l1Cur_pick_x hc a s b _ ha (by omega)) fun r hr => ?_
        refine Ex.bind (spec_l1Cur_pick_x hc _ _ (b + 2) _ hr.2.2 (by omega)) fun q hq => ?_
        have r0 := hr.1
        have r1 := hr.2.1 (by omega)
        have q0 := hq.1
        have q1 := hq.2.1 (by omega)
        simp only [r0, r1, q0, q1, if_true]
        have go : ∀ (z : List Int) (a' s' b' : Int), z.length = y.length → At a' b' → b' ≤ b + 8 → Ex (fun k => spec_l1Cur_fitting.l0 k x z (m : Int) c a' s') (fun r => r.1.length ≤ 10 ∧ r.2.1.length ≤ 10 ∧ At r.2.2.1 (b + 8 * ((m + 1 : Nat) : Int) + 8)) := by
          intro z a' s' b' hz ha' hb'
          refine (spec_l1Cur_fitting_l hc x hx m z a' s' b' (by omega) ha' (by omega)).mono fun t ht => ⟨ht.1, ht.2.1, ht.2.2.1, by have := ht.2.2.2; omega⟩
        by_cases c2 : rd y r.1 > 0
        · simp only [c2, if_true]
          by_cases c3 : rd y r.1 > rd y q.1
          · simp only [c3, if_true, Option.bind_some]
            exact go _ _ _ _ (by simp) hq.2.2 (by omega)
          · simp only [c3, if_false]
            refine Ex.bind (spec_l1Cur_one_x hc _ _ (b + 2 + 2) 4 hq.2.2 (by omega)) fun t ht => ?_
            by_cases c4 : t.1 = true
            · simp only [c4, if_true, Option.bind_some]
              exact go _ _ _ _ (by simp) ht (by omega)
            · simp only [c4, if_false]
              exact go _ _ _ _ rfl ht (by omega)
        · simp only [c2, if_false]
          exact go _ _ _ _ rfl hq.2.2 (by omega)
      · simp only [c1, decide_false]
        exact off
    · simp only [c0, if_false]
      exact off
theorem spec_l1Cur_fitting_x {c : List Int} (hc : Bts c) (a s b m : Int) (ha : At a b) (hb : b ≤ 134217728) : Ex (fun k => spec_l1Cur_fitting.f k c a s m) (fun r => r.1.length ≤ 10 ∧ r.2.1.length ≤ 10 ∧ At r.2.2.1 (b + 256)) := by
  simp only [spec_l1Cur_fitting.f]
  refine Ex.bind (spec_l1Cur_anyList_x hc a s b m ha (by omega)) fun r hr => ?_
  refine Ex.bind (spec_l1Cur_one_x hc _ _ (b + 64) 5 hr.2 (by omega)) fun q hq => ?_
  by_cases c1 : q.1 = true
  · simp only [c1, if_true]
    refine Ex.bind (spec_l1Cur_anyList_x hc _ _ (b + 64 + 2) m hq (by omega)) fun z hz => ?_
    exact Ex.now ⟨hz.1, hr.1, hz.2.1, by have := hz.2.2; show z.2.1 ≤ _; omega⟩
  · simp only [c1, if_false, spec_l1Own_e r.1 (by omega), Option.bind_some]
    refine Ex.bind (spec_l1Cur_pick_x hc _ _ (b + 64 + 2) 12 hq (by omega)) fun z hz => ?_
    have z0 := hz.1
    have z1 := hz.2.1 (by omega)
    obtain ⟨n, hn⟩ := Int.eq_ofNat_of_zero_le z0
    rw [hn] at z1 ⊢
    refine (spec_l1Cur_fitting_l hc r.1 hr.1 n r.1 _ _ (b + 64 + 2 + 2) hr.1 hz.2.2 (by omega)).mono fun t ht => ⟨ht.1, ht.2.1, ht.2.2.1, by have := ht.2.2.2; omega⟩

theorem spec_DrawIsMajorized_x {c : List Int} (hc : Bts c) : Ex (fun k => spec_DrawIsMajorized.f k c) (fun r => r.1.length ≤ 10 ∧ r.2.length ≤ 10) := by
  simp only [spec_DrawIsMajorized.f]
  refine Ex.bind (spec_l1Cur_fitting_x hc 0 0 0 9 ⟨by omega, by omega⟩ (by omega)) fun r hr => ?_
  exact Ex.now ⟨hr.1, hr.2.1⟩

theorem spec_l1In_e (a b c : Int) : spec_l1In.f a b c = some (wth a b c) := wth_opt a b c

theorem spec_l1All_l (l : List Int) (lo hi : Int) (hl : l.length ≤ 4611686018427387904) : ∀ i, i ≤ l.length → Ev (fun k => spec_l1All.l0 k lo hi l (l.length : Int) (i : Int)) (allW (l.drop i) lo hi) := by
  refine down ?_ ?_
  · refine Ev.succ ?_
    simp only [spec_l1All.l0, nlt (Nat.le_refl l.length), if_false, List.drop_length]
    exact Ev.now _
  · intro i hi ih
    refine Ev.succ ?_
    simp only [spec_l1All.l0, ilt hi, inn, if_true, spec_l1In_e, Option.bind_some, rd_lt hi, wnext hi hl]
    rw [drop_cons hi]
    exact Ev.andS fun _ => ih
theorem spec_l1All_ev (l : List Int) (lo hi : Int) (hl : l.length ≤ 4611686018427387904) : Ev (fun k => spec_l1All.f k l lo hi) (allW l lo hi) := by
  have := spec_l1All_l l lo hi hl 0 (Nat.zero_le _)
  simpa only [spec_l1All.f, List.drop_zero, Int.natCast_zero] using this

theorem spec_liGood_ev (l : List Int) (hl : l.length ≤ 4611686018427387904) : Ev (fun k => spec_liGood.f k l) (goodB l) := by
  simp only [spec_liGood.f, spec_l1In_e, Option.bind_some, goodB]
  exact Ev.andS fun _ => Ev.ret (f := fun t => t) (spec_l1All_ev l 0 60 hl)

theorem spec_liSum_l (l : List Int) (hl : l.length ≤ 4611686018427387904) : ∀ i, i ≤ l.length → ∀ acc, InR acc → Ev (fun k => spec_liSum.l0 k acc l (l.length : Int) (i : Int)) (wrap64 (acc + (l.drop i).sum)) := by
  refine down ?_ ?_
  · intro acc ha
    refine Ev.succ ?_
    simp only [spec_liSum.l0, nlt (Nat.le_refl l.length), if_false, List.drop_length, List.sum_nil, Int.add_zero, wR ha]
    exact Ev.now _
  · intro i hi ih acc ha
    refine Ev.succ ?_
    simp only [spec_liSum.l0, ilt hi, inn, if_true, rd_lt hi, wnext hi hl]
    rw [drop_cons hi, List.sum_cons, ← Int.add_assoc]
    exact (ih _ (inR_wrap _)).eqv (wr_add _ _)
theorem spec_liSum_ev (l : List Int) (hl : l.length ≤ 4611686018427387904) : Ev (fun k => spec_liSum.f k l) (wrap64 l.sum) := by
  have := spec_liSum_l l hl 0 (Nat.zero_le _) 0 inR_0
  simpa only [spec_liSum.f, List.drop_zero, Int.zero_add, Int.natCast_zero] using this
theorem spec_liSum_good {l : List Int} (h : Lst l) : Ev (fun k => spec_liSum.f k l) l.sum :=
  (spec_liSum_ev l (by have := h.2.1; omega)).eqv (w64 (by have := h.sum; omega) (by have := h.sum; omega))

theorem spec_liFit_ev {a b : List Int} (ha : Lst a) (hb : Lst b) : Ev (fun k => spec_liFit.f k a b) (decide (a.length = b.length) && decide (a.sum = b.sum)) := by
  simp only [spec_liFit.f]
  by_cases h : a.length = b.length
  · have h2 : (a.length : Int) = (b.length : Int) := by omega
    simp only [h2, if_true, h, decide_true, Bool.true_and]
    refine Ev.bind (spec_liSum_good ha) ?_
    exact Ev.ret (f := fun t => a.sum == t) (spec_liSum_good hb)
  · have h2 : ¬ (a.length : Int) = (b.length : Int) := by omega
    simp only [h2, if_false, h, decide_false, Bool.false_and]
    exact Ev.now _

theorem spec_liSums_l (l : List Int) (hl : l.length ≤ 1048576) (hb : ∀ x ∈ l, 0 ≤ x ∧ x ≤ 60) : ∀ i, i ≤ l.length → ∀ (out : List Int) (s : Int), out.length = i → 0 ≤ s → s ≤ 60 * i → Ev (fun k => spec_liSums.l0 k out s l (l.length : Int) (i : Int)) (out ++ psums s (l.drop i)) := by
  refine down ?_ ?_
  · intro out s ho h0 h1
    refine Ev.succ ?_
    simp only [spec_liSums.l0, nlt (Nat.le_refl l.length), if_false, List.drop_length, psums, List.append_nil]
    exact Ev.now _
  · intro i hi ih out s ho h0 h1
    have b := hb _ (List.getElem_mem hi)
    have c : out.length < 17592186044416 := by omega
    refine Ev.succ ?_
    simp only [spec_liSums.l0, ilt hi, inn, if_true, rd_lt hi, wnext hi (by omega : l.length ≤ 4611686018427387904), c, w64 (x := s + l[i]) (by omega) (by omega)]
    rw [drop_cons hi, psums]
    exact (ih _ _ (by simp [ho]) (by omega) (by omega)).eqv (by simp)
theorem spec_liSums_ev (l : List Int) (hl : l.length ≤ 1048576) (hb : ∀ x ∈ l, 0 ≤ x ∧ x ≤ 60) : Ev (fun k => spec_liSums.f k l) (psums 0 l) := by
  have := spec_liSums_l l hl hb 0 (Nat.zero_le _) [] 0 rfl (by omega) (by omega)
  simpa only [spec_liSums.f, List.drop_zero, List.nil_append, Int.natCast_zero] using this

theorem spec_liRank_l1 (l : List Int) (x : Int) (i : Nat) (r : List Int) (hr : r.length ≤ 1048576) (hl : l.length ≤ 1048576) (hi : i < l.length) (v : List Int)
    (ih : Ev (fun k => spec_liRank.l0 k (insD x r) l (l.length : Int) ((i + 1 : Nat) : Int)) v) : ∀ p, p ≤ r.length → insD x r = r.take p ++ insD x (r.drop p) → Ev (fun k => spec_liRank.l1 k r x (p : Int) l (l.length : Int) (i : Int)) v := by
  refine down ?_ ?_
  · intro e
    rw [List.take_length, List.drop_length] at e
    refine Ev.succ ?_
    have e2 : (r ++ [x]).length < 17592186044416 := by rw [List.length_append, List.length_singleton]; omega
    have e3 : r.length + 1 < 17592186044416 := by omega
    simp only [spec_liRank.l1, nlt (Nat.le_refl r.length), if_false, inn, ile (Nat.le_refl r.length), if_true, Int.toNat_natCast, List.take_length, List.drop_length, spec_l1Own_e r (by omega), Option.bind_some, List.length_singleton, List.length_append, List.length_nil, Nat.add_zero, e3, List.append_nil, wnext hi (by omega : l.length ≤ 4611686018427387904)]
    have e' : insD x r = r ++ [x] := e
    rw [← e']; exact ih
  · intro p hp ihp e
    refine Ev.succ ?_
    have e1 : r.drop p = r[p] :: r.drop (p + 1) := drop_cons hp
    by_cases c : r[p] ≥ x
    · simp only [spec_liRank.l1, ilt hp, inn, if_true, rd_lt hp, c, wnext hp (by omega : r.length ≤ 4611686018427387904)]
      refine ihp ?_
      rw [e, e1]
      simp only [insD, c, if_true]
      rw [List.take_succ_eq_append_getElem hp, List.append_assoc, List.singleton_append]
    · have h1 : (r.take p).length = p := by rw [List.length_take]; omega
      have h2 : (r.drop p).length = r.length - p := List.length_drop
      have e2 : p + 1 < 17592186044416 := by omega
      have e3 : p + 1 + (r.length - p) < 17592186044416 := by omega
      simp only [spec_liRank.l1, ilt hp, ile (Nat.le_of_lt hp), inn, if_true, rd_lt hp, c, if_false, Int.toNat_natCast, spec_l1Own_e (r.take p) (by omega), Option.bind_some, List.length_singleton, List.length_append, h1, h2, e2, e3, wnext hi (by omega : l.length ≤ 4611686018427387904)]
      have e' : insD x r = r.take p ++ [x] ++ r.drop p := by
        rw [e, e1]
        simp only [insD, c, if_false]
        rw [List.append_assoc, List.singleton_append]
      rw [← e']; exact ih
theorem spec_liRank_l0 (l : List Int) (hl : l.length ≤ 1048576) : ∀ i, i ≤ l.length → ∀ r : List Int, r.length = i → Ev (fun k => spec_liRank.l0 k r l (l.length : Int) (i : Int)) (rankFrom r (l.drop i)) := by
  refine down ?_ ?_
  · intro r hr
    refine Ev.succ ?_
    simp only [spec_liRank.l0, nlt (Nat.le_refl l.length), if_false, List.drop_length]
    exact Ev.now _
  · intro i hi ih r hr
    refine Ev.succ ?_
    simp only [spec_liRank.l0, ilt hi, inn, if_true, rd_lt hi]
    rw [drop_cons hi]
    exact spec_liRank_l1 l l[i] i r (by omega) hl hi _ (ih (insD l[i] r) (by rw [insD_length, hr])) 0 (Nat.zero_le _) (by rw [List.take_zero, List.drop_zero, List.nil_append])
theorem spec_liRank_ev (l : List Int) (hl : l.length ≤ 1048576) : Ev (fun k => spec_liRank.f k l) (rankD l) := by
  have := spec_liRank_l0 l hl 0 (Nat.zero_le _) [] rfl
  rwa [List.drop_zero] at this

theorem spec_liPartial_ev {l : List Int} (h : Lst l) : Ev (fun k => spec_liPartial.f k l) (partOf l) := by
  have hl := h.2.1
  simp only [spec_liPartial.f]
  refine Ev.bind (spec_liRank_ev l (by omega)) ?_
  exact Ev.ret (f := fun t => t) (spec_liSums_ev (rankD l) (by rw [rankD_length]; omega) (rankD_lst h).2.2)

theorem spec_liOver_l (p q : List Int) (hp : p.length ≤ 1048576) (hq : p.length ≤ q.length) : ∀ i, i ≤ p.length → Ev (fun k => spec_liOver.l0 k p q (p.length : Int) (i : Int)) (refGo i (p.drop i) (q.drop i)) := by
  refine down ?_ ?_
  · refine Ev.succ ?_
    simp only [spec_liOver.l0, nlt (Nat.le_refl p.length), if_false, List.drop_length, refGo]
    exact Ev.now _
  · intro i hi ih
    have h2 : i < q.length := by omega
    refine Ev.succ ?_
    simp only [spec_liOver.l0, ilt hi, ilt h2, inn, if_true, rd_lt hi, rd_lt h2, wnext hi (by omega : p.length ≤ 4611686018427387904)]
    rw [drop_cons hi, drop_cons h2, refGo]
    by_cases c : p[i] > q[i]
    · simp only [c, if_true]; exact Ev.now _
    · simp only [c, if_false]; exact ih
theorem spec_liOver_ev {a b : List Int} (ha : Lst a) (hb : Lst b) (hl : a.length = b.length) : Ev (fun k => spec_liOver.f k a b) (refGo 0 (partOf a) (partOf b)) := by
  have h2 := ha.2.1
  simp only [spec_liOver.f]
  refine Ev.bind (spec_liPartial_ev ha) ?_
  refine Ev.bind (spec_liPartial_ev hb) ?_
  exact spec_liOver_l (partOf a) (partOf b) (by rw [partOf_length]; omega) (by rw [partOf_length, partOf_length]; omega) 0 (Nat.zero_le _)

theorem spec_liBelow_ev {a b : List Int} (ha : Lst a) (hb : Lst b) : Ev (fun k => spec_liBelow.f k a b) (majB a b) := by
  simp only [spec_liBelow.f]
  refine Ev.bind (spec_liFit_ev ha hb) ?_
  have em : majB a b = ((decide (a.length = b.length) && decide (a.sum = b.sum)) && leAll (partOf a) (partOf b)) := by unfold majB; rw [Bool.and_assoc]; rfl
  cases h : decide (a.length = b.length) && decide (a.sum = b.sum) with
  | false => simp only [Bool.false_eq_true, if_false]; exact (Ev.now _).eqv (by rw [em, h]; rfl)
  | true =>
    have hl : a.length = b.length := by rw [Bool.and_eq_true, decide_eq_true_eq] at h; exact h.1
    simp only [if_true]
    exact (Ev.ret (f := fun t => t == 0) (spec_liOver_ev ha hb hl)).eqv (by rw [em, h, refGo_zero]; rfl)

theorem spec_IsMajorized_ev (a b : List Int) (ha : a.length ≤ 1048576) (hb : b.length ≤ 1048576) : Ev (fun k => spec_IsMajorized.f k a b) (if goodB a && goodB b then (majB a b, true) else (false, false)) := by
  simp only [spec_IsMajorized.f]
  refine Ev.bind (spec_liGood_ev a (by omega)) ?_
  cases h1 : goodB a with
  | false => simp only [Bool.false_eq_true, if_false, Bool.false_and]; exact Ev.now _
  | true =>
    simp only [if_true]
    refine Ev.bind (spec_liGood_ev b (by omega)) ?_
    cases h2 : goodB b with
    | false => simp only [Bool.false_eq_true, if_false, Bool.and_false]; exact Ev.now _
    | true =>
      simp only [if_true, Bool.and_self]
      exact Ev.ret (f := fun t => (t, true)) (spec_liBelow_ev (goodB_iff.1 h1) (goodB_iff.1 h2))

theorem impl_RefusalOf_ev (a b : List Int) (ha : a.length ≤ 1048576) (hb : b.length ≤ 1048576) : Ev (fun k => impl_RefusalOf.f k a b) (if fits a b then (refK a b, decide (refK a b > 0)) else (0, false)) := by
  simp only [impl_RefusalOf.f]
  refine Ev.bind (impl_areLists_ev a b ha hb) ?_
  cases h : goodB a && goodB b with
  | false =>
    have hf : fits a b = false := by unfold fits; rw [← Bool.and_assoc, h]; rfl
    simp only [hf, Bool.false_eq_true, if_false]; exact Ev.now _
  | true =>
    have h' := h
    rw [Bool.and_eq_true, goodB_iff, goodB_iff] at h'
    simp only [if_true]
    refine Ev.bind (impl_doFit_ev h'.1 h'.2) ?_
    have hf : fits a b = (decide (a.length = b.length) && decide (a.sum = b.sum)) := by unfold fits; rw [← Bool.and_assoc, h]; rfl
    rw [← hf]
    cases h2 : fits a b with
    | false => simp only [Bool.false_eq_true, if_false]; exact Ev.now _
    | true =>
      simp only [if_true]
      exact Ev.ret (f := fun t => (t, decide (t > 0))) (impl_refused_ev h'.1 h'.2 (fits_iff.1 h2).2.2.1)

theorem impl_isBetween_ev (a b : List Int) (ha : a.length ≤ 1048576) (hb : b.length ≤ 1048576) : Ev (fun k => impl_isBetween.f k a b) (goodB a && goodB b && majB a b) := by
  simp only [impl_isBetween.f]
  refine Ev.bind (impl_areLists_ev a b ha hb) ?_
  cases h : goodB a && goodB b with
  | false => simp only [Bool.false_eq_true, if_false, Bool.false_and]; exact Ev.now _
  | true =>
    simp only [if_true, Bool.true_and]
    rw [Bool.and_eq_true, goodB_iff, goodB_iff] at h
    exact (Ev.ret (f := fun t => t) (impl_isMajorized_ev h.1 h.2)).eqv (by rw [Bool.and_assoc]; rfl)

theorem slices_Equal_int_int_l (l m : List Int) (he : m.length = l.length) (hl : l.length ≤ 4611686018427387904) : ∀ i, i ≤ l.length → Ev (fun k => slices_Equal_int_int.l0 k l m (l.length : Int) (i : Int)) (decide (l.drop i = m.drop i)) := by
  refine down ?_ ?_
  · refine Ev.succ ?_
    simp only [slices_Equal_int_int.l0, nlt (Nat.le_refl l.length), if_false, List.drop_length]
    rw [← he, List.drop_length]
    exact Ev.now _
  · intro i hi ih
    refine Ev.succ ?_
    simp only [slices_Equal_int_int.l0, ilt hi, inn, if_true, he, rd_lt hi, rd_lt (he ▸ hi : i < m.length), wnext hi hl]
    rw [drop_cons hi, drop_cons (he ▸ hi : i < m.length)]
    by_cases hx : l[i] = m[i]
    · simp only [hx, if_true, List.cons.injEq, true_and]
      exact ih
    · simp only [hx, if_false, List.cons.injEq, false_and, decide_false]
      exact Ev.now _
theorem slices_Equal_int_int_ev (l m : List Int) (hl : l.length ≤ 4611686018427387904) : Ev (fun k => slices_Equal_int_int.f k l m) (decide (l = m)) := by
  simp only [slices_Equal_int_int.f]
  by_cases he : (l.length : Int) = (m.length : Int)
  · simp only [he, if_true]
    have := slices_Equal_int_int_l l m (by omega) hl 0 (Nat.zero_le _)
    rw [he] at this
    exact this
  · simp only [he, if_false]
    rw [decide_eq_false (fun h => he (by rw [h]))]
    exact Ev.now _

/-- A unit given: the one has less, the other more. -/
def gave (l : List Int) (i j : Nat) : List Int := (l.set i (l.getD i 0 - 1)).set j (l.getD j 0 + 1)
def giftB (l : List Int) (i j : Int) : Bool := goodB l && (wth i 0 ((l.length : Int) - 1) && (wth j 0 ((l.length : Int) - 1) && decide (l.getD i.toNat 0 - l.getD j.toNat 0 ≥ 2)))
def giftV (l : List Int) (i j : Nat) : List Int := [wrap64 (spreadOf (gave l i j) - spreadOf l), wrap64 (pairsSum (gave l i j) - pairsSum l), wrap64 ((mostOf (gave l i j) - lowOf (gave l i j)) - (mostOf l - lowOf l)), wrap64 (excessOf (gave l i j) - excessOf l)]
def giftE (l : List Int) (i j : Int) : List Int × Bool := if giftB l i j then (giftV l i.toNat j.toNat, true) else ([], false)
theorem giftE_len (l : List Int) (i j : Int) : (giftE l i j).1.length ≤ 4 := by
  unfold giftE
  split <;> simp [giftV]
theorem giftB_parts {l : List Int} {i j : Int} (h : giftB l i j = true) : ∃ p q : Nat, i = (p : Int) ∧ j = (q : Int) ∧ Lst l ∧ p < l.length ∧ q < l.length ∧ p ≠ q ∧ l.getD p 0 - l.getD q 0 ≥ 2 := by
  unfold giftB at h
  rw [Bool.and_eq_true, Bool.and_eq_true, Bool.and_eq_true, goodB_iff, wth_iff, wth_iff, decide_eq_true_eq] at h
  obtain ⟨h1, h2, h3, h4⟩ := h
  refine ⟨i.toNat, j.toNat, by omega, by omega, h1, by omega, by omega, fun e => ?_, h4⟩
  rw [e] at h4
  omega
theorem gave_len (l : List Int) (i j : Nat) : (gave l i j).length = l.length := by unfold gave; rw [List.length_set, List.length_set]
theorem gave_lst {l : List Int} (h : Lst l) {p q : Nat} (hp : p < l.length) (hq : q < l.length) (hg : l.getD p 0 - l.getD q 0 ≥ 2) : Lst (gave l p q) := by
  have ep : l.getD p 0 = l[p] := by simp [List.getD_eq_getElem?_getD, hp]
  have eq : l.getD q 0 = l[q] := by simp [List.getD_eq_getElem?_getD, hq]
  have bp := h.get hp
  have bq := h.get hq
  refine ⟨by rw [gave_len]; exact h.1, by rw [gave_len]; exact h.2.1, fun x hx => ?_⟩
  unfold gave at hx
  rcases List.mem_or_eq_of_mem_set hx with hx | e
  · rcases List.mem_or_eq_of_mem_set hx with hx | e
    · exact h.2.2 x hx
    · omega
  · omega
theorem set_getD_ne {l : List Int} {p q : Nat} (h : p ≠ q) (v : Int) : (l.set p v).getD q 0 = l.getD q 0 := by
  rw [List.getD_eq_getElem?_getD, List.getElem?_set_ne h, ← List.getD_eq_getElem?_getD]
theorem gave_made {l : List Int} (h : Lst l) {p q : Nat} (hp : p < l.length) (hq : q < l.length) (hpq : p ≠ q) : (l.set p (wrap64 (l.getD p 0 - 1))).set q (wrap64 ((l.set p (wrap64 (l.getD p 0 - 1))).getD q 0 + 1)) = gave l p q := by
  have ep : l.getD p 0 = l[p] := by simp [List.getD_eq_getElem?_getD, hp]
  have eq : l.getD q 0 = l[q] := by simp [List.getD_eq_getElem?_getD, hq]
  have bp := h.get hp
  have bq := h.get hq
  rw [set_getD_ne hpq, w64 (x := l.getD p 0 - 1) (by omega) (by omega), w64 (x := l.getD q 0 + 1) (by omega) (by omega)]
  rfl

theorem impl_given_e {l : List Int} (h : Lst l) {p q : Nat} (hp : p < l.length) (hq : q < l.length) (hpq : p ≠ q) : impl_given.f l (p : Int) (q : Int) 1 = some (gave l p q) := by
  have h8 := h.2.1
  simp only [impl_given.f, slices_Clone_int_int_e l (by omega), Option.bind_some, inn, ilt hp, ilt hq, if_true, rd_get, Int.toNat_natCast]
  rw [gave_made h hp hq hpq]

def giftS (p : Nat × Nat) : S107 := ⟨(p.1 : Int), (p.2 : Int), 1⟩
theorem impl_path_l1 {x y : List Int} {f t : Nat} (ha : Above x y) (s : Step x y f t) {out V : List S107} (H : Ev (fun k => impl_path.l2 k x y true out (t : Int) (t : Int)) V) : ∀ i, i ≤ t → Ev (fun k => impl_path.l1 k x y true out (i : Int)) V := by
  have h8 := ha.lx.2.1
  have hl := ha.len
  have ht := s.tn
  refine down ?_ ?_
  · have c : ¬ (x.getD t 0 ≥ y.getD t 0) := by have := s.lt; omega
    refine Ev.succ ?_
    simp only [impl_path.l1, inn, ilt ht, ilt (show t < y.length by omega), if_true, rd_get, c, if_false]
    exact H
  · intro i hi ih
    have c : x.getD i 0 ≥ y.getD i 0 := s.before i hi
    refine Ev.succ ?_
    simp only [impl_path.l1, inn, ilt (show i < x.length by omega), ilt (show i < y.length by omega), if_true, rd_get, c, wnext (show i < x.length by omega) (by omega : x.length ≤ 4611686018427387904)]
    exact ih
theorem impl_path_l2 {x y : List Int} {f t : Nat} (ha : Above x y) (s : Step x y f t) {out V : List S107} (H : Ev (fun k => impl_path.l2 k x y true out (t : Int) (f : Int)) V) : ∀ d, f + d ≤ t → Ev (fun k => impl_path.l2 k x y true out (t : Int) ((f + d : Nat) : Int)) V
  | 0, _ => H
  | d + 1, hd => by
    have h8 := ha.lx.2.1
    have hl := ha.len
    have ht := s.tn
    have c : x.getD (f + (d + 1)) 0 ≤ y.getD (f + (d + 1)) 0 := by
      by_cases e : f + (d + 1) = t
      · rw [e]; have := s.lt; omega
      · exact s.between _ (by omega) (by omega)
    refine Ev.succ ?_
    simp only [impl_path.l2, inn, ilt (show f + (d + 1) < x.length by omega), ilt (show f + (d + 1) < y.length by omega), if_true, rd_get, c]
    rw [show wrap64 (((f + (d + 1) : Nat) : Int) - 1) = ((f + d : Nat) : Int) from wprev (i := f + d) (by omega)]
    exact impl_path_l2 ha s H d (by omega)
theorem impl_path_way {y x : List Int} {gs : List (Nat × Nat)} {ls : List (List Int)} (hy : Lst y) (h : GiftWay y x gs ls) : ∀ out : List S107, out.length + gs.length ≤ 1000 → Ev (fun k => impl_path.l0 k x y true out) (out ++ gs.map giftS) := by
  induction h with
  | done =>
    intro out _
    refine Ev.succ ?_
    simp only [impl_path.l0]
    refine Ev.bind (slices_Equal_int_int_ev _ _ (by have := hy.2.1; omega)) ?_
    simp only [decide_true, if_true, List.map_nil, List.append_nil]
    exact Ev.now _
  | @step x f t gs ls ha hn s hw ih =>
    intro out ho
    rw [List.length_cons] at ho
    have h8 := ha.lx.2.1
    have hl := ha.len
    have ht := s.tn
    have hf : f < x.length := by have := s.ft; omega
    have hft : f ≠ t := by have := s.ft; omega
    have hA := step_above ha s
    have H : Ev (fun k => impl_path.l2 k x y true out (t : Int) (f : Int)) (out ++ ((f, t) :: gs).map giftS) := by
      have c : ¬ (x.getD f 0 ≤ y.getD f 0) := by have := s.gt; omega
      have c2 : out.length < 5864062014805 := by omega
      refine Ev.succ ?_
      simp only [impl_path.l2, inn, ilt hf, ilt (show f < y.length by omega), if_true, rd_get, c, if_false, c2, impl_given_e ha.lx hf ht hft, Option.bind_some]
      have r : Ev (fun k => impl_ranking.f k (gave x f t)) (giftU x f t) := by
        have := impl_ranking_ev hA.lx
        rw [rank_of_desc hA.dx] at this
        exact this
      refine Ev.bind r ?_
      have := ih (out ++ [giftS (f, t)]) (by simp; omega)
      rw [List.append_assoc] at this
      exact this
    have H2 := impl_path_l2 ha s H (t - f) (by have := s.ft; omega)
    rw [show f + (t - f) = t by have := s.ft; omega] at H2
    refine Ev.succ ?_
    simp only [impl_path.l0]
    refine Ev.bind (slices_Equal_int_int_ev x y (by omega)) ?_
    rw [decide_eq_false hn]
    simp only [Bool.false_eq_true, if_false]
    exact impl_path_l1 ha s H2 0 (by omega)

theorem impl_GiftPath_no {a b : List Int} (ha : a.length ≤ 1048576) (hb : b.length ≤ 1048576) (h : (goodB a && goodB b && majB a b) = false) : Ev (fun k => impl_GiftPath.f k a b) ([], false) := by
  simp only [impl_GiftPath.f]
  refine Ev.bind (impl_isBetween_ev a b ha hb) ?_
  rw [h]
  simp only [Bool.false_eq_true, if_false]
  exact Ev.now _
theorem impl_GiftPath_yes {a b : List Int} {gs : List (Nat × Nat)} {ls : List (List Int)} (ha : Lst a) (hb : Lst b) (h : majB a b = true) (hw : GiftWay (rankD a) (rankD b) gs ls) (hg : gs.length ≤ 240) : Ev (fun k => impl_GiftPath.f k a b) (gs.map giftS, true) := by
  simp only [impl_GiftPath.f]
  refine Ev.bind (impl_isBetween_ev a b (by have := ha.2.1; omega) (by have := hb.2.1; omega)) ?_
  rw [goodB_iff.2 ha, goodB_iff.2 hb, h]
  simp only [Bool.and_self, if_true]
  refine Ev.bind (impl_ranking_ev hb) ?_
  refine Ev.bind (impl_ranking_ev ha) ?_
  have p := impl_path_way (rankD_lst ha) hw [] (by simp; omega)
  rw [List.nil_append] at p
  exact Ev.ret (f := fun t => (t, true)) p

theorem impl_excess_l {l : List Int} (h : Lst l) (t : Nat) (ht : t ≤ 61) : ∀ i, i ≤ l.length → ∀ acc : Int, 0 ≤ acc → acc ≤ 60 * i → Ev (fun k => impl_excess.l0 k (t : Int) acc l (l.length : Int) (i : Int)) (acc + exc (l.drop i) t) := by
  have hn := h.2.1
  unfold exc
  refine down ?_ ?_
  · intro acc ha hb
    refine Ev.succ ?_
    simp only [impl_excess.l0, nlt (Nat.le_refl l.length), if_false, List.drop_length, List.map_nil, List.sum_nil, Int.add_zero]
    exact Ev.now _
  · intro i hi ih acc ha hb
    have b := h.get hi
    refine Ev.succ ?_
    simp only [impl_excess.l0, ilt hi, inn, if_true, rd_lt hi, wnext hi (by omega : l.length ≤ 4611686018427387904), mx_eq]
    rw [drop_cons hi, List.map_cons, List.sum_cons, ← Int.add_assoc, w64 (x := l[i] - t) (by omega) (by omega), w64 (x := acc + _) (by omega) (by omega)]
    exact ih _ (by omega) (by omega)
theorem impl_excess_ev {l : List Int} (h : Lst l) (t : Nat) (ht : t ≤ 61) : Ev (fun k => impl_excess.f k l (t : Int)) (exc l t) := by
  have := impl_excess_l h t ht 0 (Nat.zero_le _) 0 (by omega) (by omega)
  simpa only [impl_excess.f, List.drop_zero, Int.zero_add, Int.natCast_zero] using this

theorem impl_ThresholdRefusal_l {a b : List Int} (ha : Lst a) (hb : Lst b) : ∀ d t : Nat, t + d = 61 → Ev (fun k => impl_ThresholdRefusal.l0 k a b (t : Int)) (fthr a b t d)
  | 0, t, h => by
    have c : ¬ ((t : Int) < 61) := by omega
    refine Ev.succ ?_
    simp only [impl_ThresholdRefusal.l0, c, if_false, fthr]
    exact Ev.now _
  | d + 1, t, h => by
    have c : (t : Int) < 61 := by omega
    refine Ev.succ ?_
    simp only [impl_ThresholdRefusal.l0, c, if_true, fthr]
    refine Ev.bind (impl_excess_ev ha t (by omega)) ?_
    refine Ev.bind (impl_excess_ev hb t (by omega)) ?_
    by_cases g : exc a t > exc b t
    · simp only [g, if_true]; exact Ev.now _
    · simp only [g, if_false]
      rw [wnext (by omega : t < 62) (by omega)]
      exact impl_ThresholdRefusal_l ha hb d (t + 1) (by omega)

theorem impl_ThresholdRefusal_ev (a b : List Int) (ha : a.length ≤ 1048576) (hb : b.length ≤ 1048576) : Ev (fun k => impl_ThresholdRefusal.f k a b) (if fits a b then fthr a b 0 61 else (0, false)) := by
  simp only [impl_ThresholdRefusal.f]
  refine Ev.bind (impl_areLists_ev a b ha hb) ?_
  have off : Ev (fun k => impl_ThresholdRefusal.j0 k a b true) (0, false) := by
    refine Ev.succ ?_
    simp only [impl_ThresholdRefusal.j0, if_true]
    exact Ev.now _
  cases h : goodB a && goodB b with
  | false =>
    have hf : fits a b = false := by rw [fits, ← Bool.and_assoc, h, Bool.false_and]
    simp only [hf, Bool.false_eq_true, if_false]; exact off
  | true =>
    simp only [if_true]
    have hf : fits a b = (decide (a.length = b.length) && decide (a.sum = b.sum)) := by rw [fits, ← Bool.and_assoc, h, Bool.true_and]
    rw [Bool.and_eq_true, goodB_iff, goodB_iff] at h
    refine Ev.bind (impl_doFit_ev h.1 h.2) ?_
    rw [← hf]
    cases h3 : fits a b with
    | false => simp only [Bool.not_false, Bool.false_eq_true, if_false]; exact off
    | true =>
      simp only [Bool.not_true, if_true]
      refine Ev.succ ?_
      simp only [impl_ThresholdRefusal.j0, Bool.false_eq_true, if_false]
      exact impl_ThresholdRefusal_l h.1 h.2 61 0 rfl

theorem impl_isGift_yes {l : List Int} (h : Lst l) {p q : Nat} (hp : p < l.length) (hq : q < l.length) (hpq : p ≠ q) : impl_isGift.f l (p : Int) (q : Int) 1 = some true := by
  have h8 := h.2.1
  have w1 : wrap64 ((l.length : Int) - 1) = (l.length : Int) - 1 := w64 (by omega) (by omega)
  have e1 : wth (p : Int) 0 ((l.length : Int) - 1) = true := wth_iff.2 (by omega)
  have e2 : wth (q : Int) 0 ((l.length : Int) - 1) = true := wth_iff.2 (by omega)
  have e3 : ¬ ((p : Int) = (q : Int)) := by omega
  simp only [impl_isGift.f, w1, impl_within_e, Option.bind_some, e1, e2, if_true, e3, if_false]
  rfl

theorem impl_canGive_yes {l : List Int} (h : Lst l) {p q : Nat} (hp : p < l.length) (hq : q < l.length) (hg : l.getD p 0 - l.getD q 0 ≥ 2) : impl_canGive.f l (p : Int) (q : Int) 1 = some true := by
  have ep : l.getD p 0 = l[p] := by simp [List.getD_eq_getElem?_getD, hp]
  have eq : l.getD q 0 = l[q] := by simp [List.getD_eq_getElem?_getD, hq]
  have bp := h.get hp
  have bq := h.get hq
  have hpq : p ≠ q := by rintro rfl; omega
  have c : (1 : Int) ≤ l.getD p 0 := by omega
  have d : (1 : Int) ≤ 60 - l.getD q 0 := by omega
  simp only [impl_canGive.f, impl_isGift_yes h hp hq hpq, Option.bind_some, if_true, inn, ilt hp, ilt hq, rd_get, Int.toNat_natCast, c, w64 (x := 60 - l.getD q 0) (by omega) (by omega), d, decide_true]

theorem impl_isKind_yes {l : List Int} (h : Lst l) {p q : Nat} (hp : p < l.length) (hq : q < l.length) (hg : l.getD p 0 - l.getD q 0 ≥ 2) : impl_isKind.f l (p : Int) (q : Int) 1 = some true := by
  have bp := h.getD hp
  have bq := h.getD hq
  simp only [impl_isKind.f, impl_canGive_yes h hp hq hg, Option.bind_some, if_true, inn, ilt hp, ilt hq, rd_get, Int.toNat_natCast, w64 (x := l.getD p 0 - 1) (by omega) (by omega), w64 (x := l.getD q 0 + 1) (by omega) (by omega)]
  rw [decide_eq_true (by omega)]

theorem impl_follow_way {y x : List Int} {gs : List (Nat × Nat)} {ls : List (List Int)} (h : GiftWay y x gs ls) : ∀ (pre : List (Nat × Nat)) (out : List (List Int)), out.length + gs.length ≤ 1000 → pre.length + gs.length ≤ 240 → Ev (fun k => impl_follow.l0 k ((pre ++ gs).map giftS) x out (pre.length : Int)) (out ++ ls, true) := by
  induction h with
  | done =>
    intro pre out _ hp
    rw [List.length_nil] at hp
    rw [List.append_nil, List.append_nil]
    have c : ¬ ((pre.length : Int) < (((pre.map giftS).length : Nat) : Int)) := by simp
    have c2 : (((pre.map giftS).length : Nat) : Int) ≤ 240 := by simp; omega
    refine Ev.succ ?_
    simp only [impl_follow.l0, c, if_false, c2, decide_true]
    exact Ev.now _
  | @step x f t gs ls ha hn s hw ih =>
    intro pre out ho hp
    rw [List.length_cons] at ho hp
    have h8 := ha.lx.2.1
    have ht := s.tn
    have hf : f < x.length := by have := s.ft; omega
    have hft : f ≠ t := by have := s.ft; omega
    have hA := step_above ha s
    have gap := step_gap ha s
    have c : (pre.length : Int) < (((pre ++ (f, t) :: gs).map giftS).length : Int) := by simp; omega
    have e : rd_T107 ((pre ++ (f, t) :: gs).map giftS) (pre.length : Int) = giftS (f, t) := by
      unfold rd_T107
      rw [Int.toNat_natCast, List.getD_eq_getElem?_getD]
      simp
    have c2 : out.length < 5864062014805 := by omega
    have e0 : (giftS (f, t)).f0 = (f : Int) := rfl
    have e1 : (giftS (f, t)).f1 = (t : Int) := rfl
    have e2 : (giftS (f, t)).f2 = 1 := rfl
    refine Ev.succ ?_
    simp only [impl_follow.l0, c, if_true, inn, e, e0, e1, e2, impl_isKind_yes ha.lx hf ht gap, impl_given_e ha.lx hf ht hft, Option.bind_some, c2]
    have r : Ev (fun k => impl_ranking.f k (gave x f t)) (giftU x f t) := by
      have := impl_ranking_ev hA.lx
      rw [rank_of_desc hA.dx] at this
      exact this
    refine Ev.bind r ?_
    have := ih (pre ++ [(f, t)]) (out ++ [giftU x f t]) (by simp; omega) (by simp; omega)
    rw [List.append_assoc, List.append_assoc] at this
    have w : wrap64 ((pre.length : Int) + 1) = (((pre ++ [(f, t)]).length : Nat) : Int) := by
      rw [w64 (by omega) (by omega)]
      simp
    rw [w]
    exact this
theorem impl_follow_ev {a b : List Int} {gs : List (Nat × Nat)} {ls : List (List Int)} (hb : Lst b) (hw : GiftWay a (rankD b) gs ls) (hg : gs.length ≤ 240) : Ev (fun k => impl_follow.f k b (gs.map giftS)) (rankD b :: ls, true) := by
  simp only [impl_follow.f]
  refine Ev.bind (impl_ranking_ev hb) ?_
  exact impl_follow_way hw [] [rankD b] (by simp; omega) (by simpa using hg)

theorem impl_FollowGifts_ev {a b : List Int} {gs : List (Nat × Nat)} {ls : List (List Int)} (hb : Lst b) (hw : GiftWay a (rankD b) gs ls) (hg : gs.length ≤ 240) : Ev (fun k => impl_FollowGifts.f k b (gs.map giftS)) (rankD b :: ls, true) := by
  simp only [impl_FollowGifts.f]
  refine Ev.bind (impl_IsList_ev b (by have := hb.2.1; omega)) ?_
  rw [goodB_iff.2 hb]
  simp only [if_true]
  refine Ev.bind (impl_follow_ev hb hw hg) ?_
  simp only [if_true]
  exact Ev.now _

theorem impl_meet_l (p q : List Int) (hl : p.length = q.length) (h60 : p.length ≤ 60) (hp : ∀ x ∈ p, 0 ≤ x ∧ x ≤ 3600) (hq : ∀ x ∈ q, 0 ≤ x ∧ x ≤ 3600) : ∀ i, i ≤ p.length → ∀ (out : List Int) (s : Int), out.length = i → 0 ≤ s ∧ s ≤ 3600 → Ev (fun k => impl_meet.l0 k out s q p (p.length : Int) (i : Int)) (out ++ meetGo s (p.drop i) (q.drop i)) := by
  refine down ?_ ?_
  · intro out s ho hs
    refine Ev.succ ?_
    simp only [impl_meet.l0, nlt (Nat.le_refl p.length), if_false, List.drop_length]
    rw [show meetGo s [] (q.drop p.length) = [] from rfl, List.append_nil]
    exact Ev.now _
  · intro i hi ih out s ho hs
    have hi2 : i < q.length := by omega
    have b1 := hp _ (List.getElem_mem hi)
    have b2 := hq _ (List.getElem_mem hi2)
    have c : out.length < 17592186044416 := by omega
    refine Ev.succ ?_
    simp only [impl_meet.l0, ilt hi, ilt hi2, inn, if_true, rd_lt hi, rd_lt hi2, c, mn_eq, w64 (x := min p[i] q[i] - s) (by omega) (by omega), wnext hi (by omega : p.length ≤ 4611686018427387904)]
    rw [drop_cons hi, drop_cons hi2, meetGo]
    exact (ih (out ++ [min p[i] q[i] - s]) (min p[i] q[i]) (by simp [ho]) (by omega)).eqv (by simp)
theorem partOf_bound {l : List Int} (hl : l.length ≤ 60) (hb : ∀ x ∈ l, 0 ≤ x ∧ x ≤ 60) : ∀ x ∈ partOf l, 0 ≤ x ∧ x ≤ 3600 := psums_bound (fun x hx => hb x ((rankD_perm l).mem_iff.1 hx)) (by omega) (by rw [rankD_length]; omega)
theorem impl_meet_ev {a b : List Int} (hl : a.length = b.length) (h60 : a.length ≤ 60) (ha : ∀ x ∈ a, 0 ≤ x ∧ x ≤ 60) (hb : ∀ x ∈ b, 0 ≤ x ∧ x ≤ 60) : Ev (fun k => impl_meet.f k a b) (meetGo 0 (partOf a) (partOf b)) := by
  simp only [impl_meet.f]
  refine Ev.bind (impl_partial_any (by omega) hb) ?_
  refine Ev.bind (impl_partial_any h60 ha) ?_
  have := impl_meet_l (partOf a) (partOf b) (by rw [partOf_length, partOf_length, hl]) (by rw [partOf_length]; exact h60) (partOf_bound h60 ha) (partOf_bound (by omega) hb) 0 (Nat.zero_le _) [] 0 rfl (by omega)
  rw [List.drop_zero, List.drop_zero, List.nil_append] at this
  exact this

theorem impl_MeetOf_with {a b r : List Int} (h : (goodB a && goodB b && (decide (a.length = b.length) && decide (a.sum = b.sum))) = true) (hm : Ev (fun k => impl_meet.f k a b) r) : Ev (fun k => impl_MeetOf.f k a b) (r, true) := by
  rw [Bool.and_eq_true, Bool.and_eq_true] at h
  obtain ⟨⟨h1, h2⟩, h3⟩ := h
  have ha := goodB_iff.1 h1
  have hb := goodB_iff.1 h2
  simp only [impl_MeetOf.f]
  refine Ev.bind (impl_areLists_ev a b (by have := ha.2.1; omega) (by have := hb.2.1; omega)) ?_
  rw [h1, h2]
  simp only [Bool.and_self, if_true]
  refine Ev.bind (impl_doFit_ev ha hb) ?_
  rw [h3]
  simp only [if_true]
  exact Ev.ret (f := fun t => (t, true)) hm

theorem slices_Max_int_int_l (l : List Int) (hl : l.length ≤ 1048576) : ∀ i, i ≤ l.length → ∀ a : Int, Ev (fun k => slices_Max_int_int.l0 k l a (i : Int)) ((l.drop i).foldl max a) := by
  refine down ?_ ?_
  · intro a
    refine Ev.succ ?_
    simp only [slices_Max_int_int.l0, nlt (Nat.le_refl l.length), if_false, List.drop_length, List.foldl_nil]
    exact Ev.now _
  · intro i hi ih a
    refine Ev.succ ?_
    simp only [slices_Max_int_int.l0, ilt hi, inn, if_true, rd_lt hi, mx_eq, wnext hi (by omega : l.length ≤ 4611686018427387904)]
    rw [drop_cons hi, List.foldl_cons]
    exact ih _
theorem slices_Max_int_int_ev (l : List Int) (h0 : 0 < l.length) (hl : l.length ≤ 1048576) : Ev (fun k => slices_Max_int_int.f k l) (mostOf l) := by
  simp only [slices_Max_int_int.f, eq_false (by omega : ¬ (l.length : Int) < 1), eq_true (by omega : 0 < (l.length : Int)), if_false, if_true]
  have := slices_Max_int_int_l l hl 1 (by omega) (l.getD 0 0)
  rw [show rd l 0 = l.getD 0 0 from rd_get l 0]
  exact this

/-- The counts behind the numbers of p, and one more each below j. -/
def cnjS (p : List Int) (m j : Nat) : List Int := (List.range m).map fun i : Nat => cnt (i : Int) p + (if i < j then 1 else 0)
theorem cnjS_length (p : List Int) (m j : Nat) : (cnjS p m j).length = m := by simp [cnjS]
theorem cnjS_get (p : List Int) {m j i : Nat} (h : i < m) : (cnjS p m j).getD i 0 = cnt (i : Int) p + (if i < j then 1 else 0) := by
  simp [cnjS, List.getD_eq_getElem?_getD, h]
theorem cnjS_step (p : List Int) {m j : Nat} (h : j < m) : (cnjS p m j).set j ((cnjS p m j).getD j 0 + 1) = cnjS p m (j + 1) := by
  refine list_ext_getD (by rw [List.length_set, cnjS_length, cnjS_length]) fun i hi => ?_
  rw [List.length_set, cnjS_length] at hi
  by_cases e : i = j
  · subst e
    rw [getD_set_self _ _ _ _ (by rw [cnjS_length]; exact h), cnjS_get p hi, cnjS_get p hi, if_neg (Nat.lt_irrefl _), if_pos (Nat.lt_succ_self _)]
    omega
  · rw [set_getD_ne (Ne.symm e), cnjS_get p hi, cnjS_get p hi]
    by_cases c : i < j
    · rw [if_pos c, if_pos (by omega)]
    · rw [if_neg c, if_neg (by omega)]
theorem cnjS_zero (p : List Int) (m : Nat) : cnjS p m 0 = conj p m := by
  unfold cnjS conj
  exact List.map_congr_left fun i _ => by simp
theorem cnt_append (i : Int) : ∀ p q : List Int, cnt i (p ++ q) = cnt i p + cnt i q
  | [], q => by simp [cnt]
  | x :: p, q => by rw [List.cons_append, cnt, cnt_append i p q, cnt]; omega
theorem cnjS_end (p : List Int) (x : Int) {m j : Nat} (h0 : 0 ≤ x) (hj : (j : Int) = min x (m : Int)) : cnjS p m j = cnjS (p ++ [x]) m 0 := by
  have hx : (j : Int) ≤ x := hj ▸ Int.min_le_left x m
  have hmm : (j : Int) ≤ m := hj ▸ Int.min_le_right x m
  have hor : (j : Int) = x ∨ (j : Int) = m := by
    rcases Int.le_total x m with h | h
    · rw [Int.min_eq_left h] at hj; exact .inl hj
    · rw [Int.min_eq_right h] at hj; exact .inr hj
  clear hj
  unfold cnjS
  refine List.map_congr_left fun i hi => ?_
  have hi : i < m := by simpa using hi
  rw [cnt_append]
  simp only [cnt]
  by_cases c : i < j
  · rw [if_pos c, if_pos (by omega), if_neg (by omega)]; omega
  · rw [if_neg c, if_neg (by omega), if_neg (by omega)]; omega
theorem impl_conjugate_l (l : List Int) (m : Nat) (hm : m ≤ 1000) (hl : l.length ≤ 1000) (hb : ∀ x ∈ l, 0 ≤ x) : ∀ i, i ≤ l.length → Ev (fun k => impl_conjugate.l0 k (m : Int) (cnjS (l.take i) m 0) l (l.length : Int) (i : Int)) (cnjS l m 0) := by
  refine down ?_ ?_
  · refine Ev.succ ?_
    simp only [impl_conjugate.l0, nlt (Nat.le_refl l.length), if_false, List.take_length]
    exact Ev.now _
  · intro i hi ih
    have h0 := hb _ (List.getElem_mem hi)
    obtain ⟨j, hj⟩ : ∃ j : Nat, (j : Int) = min l[i] (m : Int) := ⟨(min l[i] (m : Int)).toNat, by omega⟩
    refine Ev.succ ?_
    simp only [impl_conjugate.l0, ilt hi, inn, if_true, rd_lt hi, mn_eq, ← hj]
    have fin : Ev (fun k => impl_conjugate.l1 k (m : Int) (cnjS (l.take i) m j) l (l.length : Int) (i : Int) (j : Int) (j : Int)) (cnjS l m 0) := by
      refine Ev.succ ?_
      simp only [impl_conjugate.l1, nlt (Nat.le_refl j), if_false, wnext hi (by omega : l.length ≤ 4611686018427387904)]
      rw [cnjS_end (l.take i) l[i] h0 hj, ← List.take_succ_eq_append_getElem hi]
      exact ih
    have go : ∀ q, q ≤ j → Ev (fun k => impl_conjugate.l1 k (m : Int) (cnjS (l.take i) m q) l (l.length : Int) (i : Int) (j : Int) (q : Int)) (cnjS l m 0) := by
      refine down fin ?_
      intro q hq ih2
      have hqm : q < m := by omega
      have b := cnt_bound (q : Int) (l.take i)
      have bl : ((l.take i).length : Int) ≤ 1000 := by rw [List.length_take]; omega
      have g := cnjS_get (l.take i) (j := q) hqm
      rw [if_neg (Nat.lt_irrefl _)] at g
      refine Ev.succ ?_
      simp only [impl_conjugate.l1, ilt hq, inn, if_true, cnjS_length, ilt hqm, rd_get, Int.toNat_natCast, wnext hq (by omega : j ≤ 4611686018427387904)]
      rw [w64 (x := (cnjS (l.take i) m q).getD q 0 + 1) (by omega) (by omega), cnjS_step _ hqm]
      exact ih2
    exact go 0 (Nat.zero_le _)
theorem impl_conjugate_ev (l : List Int) (m : Nat) (hm : m ≤ 1000) (hl : l.length ≤ 1000) (hb : ∀ x ∈ l, 0 ≤ x) : Ev (fun k => impl_conjugate.f k l (m : Int)) (conj l m) := by
  have c : m ≤ 35184372088832 := by omega
  have e : List.replicate m (0 : Int) = cnjS (l.take 0) m 0 := by
    rw [List.take_zero]
    unfold cnjS
    refine list_ext_getD (by simp) fun i hi => ?_
    have hi : i < m := by simpa using hi
    simp [List.getD_eq_getElem?_getD, hi, cnt]
  simp only [impl_conjugate.f, inn, if_true, Int.toNat_natCast, c, e]
  rw [← cnjS_zero l m]
  exact impl_conjugate_l l m hm hl hb 0 (Nat.zero_le _)

theorem impl_JoinOf_maj {a b : List Int} (ha : Lst a) (hb : Lst b) (hl : a.length = b.length) (hs : a.sum = b.sum) (h : subB a b = true) : Ev (fun k => impl_JoinOf.f k a b) (rankD b, true) := by
  simp only [impl_JoinOf.f]
  have a8 := ha.2.1
  have b8 := hb.2.1
  refine Ev.bind (impl_areLists_ev a b (by omega) (by omega)) ?_
  rw [goodB_iff.2 ha, goodB_iff.2 hb]
  simp only [Bool.and_self, if_true]
  refine Ev.bind (impl_doFit_ev ha hb) ?_
  rw [decide_eq_true hl, decide_eq_true hs]
  refine Ev.succ ?_
  simp only [impl_JoinOf.j0, Bool.and_self, Bool.not_true, Bool.false_eq_true, if_false]
  have ma := ha.most
  have mb := hb.most
  refine Ev.bind (slices_Max_int_int_ev a (by have := ha.1; omega) (by omega)) ?_
  refine Ev.bind (slices_Max_int_int_ev b (by have := hb.1; omega) (by omega)) ?_
  obtain ⟨m, hm⟩ : ∃ m : Nat, mx (mostOf a) (mostOf b) = (m : Int) := ⟨(max (mostOf a) (mostOf b)).toNat, by rw [mx_eq]; omega⟩
  rw [hm]
  rw [mx_eq] at hm
  have hm60 : m ≤ 60 := by omega
  refine Ev.bind (impl_conjugate_ev a m (by omega) (by omega) fun x hx => (ha.2.2 x hx).1) ?_
  refine Ev.bind (impl_conjugate_ev b m (by omega) (by omega) fun x hx => (hb.2.2 x hx).1) ?_
  have ca := conj_bound (m := m) ha
  have cb := conj_bound (m := m) hb
  refine Ev.bind (impl_meet_ev (by rw [conj_length, conj_length]) (by rw [conj_length]; exact hm60) (fun x hx => by have := ca x hx; omega) fun x hx => by have := cb x hx; omega) ?_
  have e1 : meetGo 0 (partOf (conj a m)) (partOf (conj b m)) = conj b m := by
    unfold partOf
    rw [rank_of_desc (conj_desc a m), rank_of_desc (conj_desc b m)]
    exact meet_right (conj b m) (psums 0 (conj a m)) 0 (by rw [psums_length, conj_length, conj_length]) (conj_below ha hb hl hs h hm60)
  rw [e1]
  have e2 : conj (conj b m) a.length = rankD b := by
    rw [hl]
    exact conj_conj (fun x hx => (hb.2.2 x hx).1) fun x hx => by have := mostOf_le (by have := hb.1; omega) hx; omega
  refine Ev.bind (impl_conjugate_ev (conj b m) a.length (by omega) (by rw [conj_length]; omega) fun x hx => (cb x hx).1) ?_
  rw [e2]
  exact Ev.now _

theorem fthr_cases (a b : List Int) : ∀ d t : Nat, (fthr a b t d = (0, false) ∧ ∀ s : Nat, t ≤ s → s < t + d → exc a s ≤ exc b s) ∨ ∃ u : Nat, t ≤ u ∧ u < t + d ∧ fthr a b t d = ((u : Int), true) ∧ exc a u > exc b u ∧ ∀ s : Nat, t ≤ s → s < u → exc a s ≤ exc b s
  | 0, t => .inl ⟨rfl, fun s h1 h2 => absurd h2 (by omega)⟩
  | d + 1, t => by
    by_cases c : exc a t > exc b t
    · exact .inr ⟨t, Nat.le_refl _, by omega, by rw [fthr, if_pos c], c, fun s h1 h2 => absurd h2 (by omega)⟩
    · rcases fthr_cases a b d (t + 1) with h | ⟨u, h1, h2, h3, h4, h5⟩
      · refine .inl ⟨by rw [fthr, if_neg c]; exact h.1, fun s hs1 hs2 => ?_⟩
        by_cases e : s = t
        · rw [e]; omega
        · exact h.2 s (by omega) (by omega)
      · refine .inr ⟨u, by omega, by omega, by rw [fthr, if_neg c]; exact h3, h4, fun s hs1 hs2 => ?_⟩
        by_cases e : s = t
        · rw [e]; omega
        · exact h5 s (by omega) hs2
theorem fthr_sub {a b : List Int} (hb : Lst b) (hl : a.length = b.length) : (fthr a b 0 61).2 = !subB a b := by
  rcases fthr_cases a b 61 0 with ⟨q1, q2⟩ | ⟨u, q1, q2, q3, q4, q5⟩
  · rw [q1, (subB_exc hb hl).2 fun t ht => q2 t (by omega) (by omega)]
    rfl
  · rw [q3]
    have : subB a b = false := by
      cases hs : subB a b with
      | false => rfl
      | true =>
        have := (subB_exc hb hl).1 hs u (by omega)
        omega
    rw [this]
    rfl
theorem refK_sub (a b : List Int) : decide (refK a b > 0) = !subB a b := by
  have h : (refK a b == 0) = subB a b := refGo_zero 0 (partOf a) (partOf b)
  have bd := refK_bound a b
  rw [← h]
  by_cases c : refK a b = 0
  · rw [c]; rfl
  · rw [decide_eq_true (by omega), beq_eq_false_iff_ne.2 c]; rfl
theorem rank_fits {a b : List Int} (hf : fits a b = true) : fits (rankD a) (rankD b) = true := by
  obtain ⟨ha, hb, hl, hs⟩ := fits_iff.1 hf
  exact fits_iff.2 ⟨rankD_lst ha, rankD_lst hb, by rw [rankD_length, rankD_length, hl], by rw [rankD_sum, rankD_sum, hs]⟩
theorem low_sub {a b : List Int} (hf : fits a b = true) : lowGo 0 (monoP (rankD a) (rankD b)) = subB a b := by
  obtain ⟨ha, hb, hl, hs⟩ := fits_iff.1 hf
  rw [Bool.eq_iff_iff, mono_low (rank_fits hf), subB_iff hl, rankD_length]
  simp only [take_cum]
theorem way_lastD {y x : List Int} {gs : List (Nat × Nat)} {ls : List (List Int)} (h : GiftWay y x gs ls) : (x :: ls).getD ls.length [] = y := by
  induction h with
  | done => rfl
  | step _ _ _ _ ih => rw [List.length_cons, List.getD_cons_succ]; exact ih
theorem FnTop_j2 {a b : List Int} {gs : List (Nat × Nat)} {ls : List (List Int)} (hf : fits a b = true) (h : subB a b = true) (hw : GiftWay (rankD a) (rankD b) gs ls) (hg : gs.length ≤ 240) : Ev (fun k => laws_FnTop.j2 k a b true (gs.map giftS) (rankD a) (rankD b) (monoP (rankD a) (rankD b)) false) true := by
  obtain ⟨ha, hb, hl, hs⟩ := fits_iff.1 hf
  have hr := rank_fits hf
  have hP := monoP_plan hr
  have a8 := ha.2.1
  have b8 := hb.2.1
  have la := rankD_length a
  have lb := rankD_length b
  refine Ev.succ ?_
  simp only [laws_FnTop.j2, Bool.false_eq_true, if_false, if_true]
  refine Ev.bind (impl_FollowGifts_ev hb hw hg) ?_
  have i1 : Ev (fun k => impl_PlanCost.f k (monoP (rankD a) (rankD b))) (lineDist (rankD a) (rankD b), true) := by
    have := impl_PlanCost_ev _ hP.siz
    have cb := cost_bound hP
    rw [if_pos (planB_iff.2 hP), w64 (by omega) (by omega), monoP_cost hr] at this
    exact this
  refine Ev.bind i1 ?_
  have i2 : Ev (fun k => impl_LineDistance.f k (rankD a) (rankD b)) (lineDist (rankD a) (rankD b), true) := by
    have := impl_LineDistance_ev (rankD a) (rankD b) (by omega) (by omega)
    rw [if_pos hr] at this
    exact this
  refine Ev.bind i2 ?_
  have i3 : Ev (fun k => impl_MeetOf.f k a b) (rankD a, true) := by
    refine impl_MeetOf_with (by rw [goodB_iff.2 ha, goodB_iff.2 hb, decide_eq_true hl, decide_eq_true hs]; rfl) ?_
    have := impl_meet_ev hl (by omega) ha.2.2 hb.2.2
    have e : meetGo 0 (partOf a) (partOf b) = rankD a := meet_left (rankD a) (partOf b) 0 (by rw [partOf_length, la, hl]) h
    rw [e] at this
    exact this
  refine Ev.bind i3 ?_
  refine Ev.bind (impl_JoinOf_maj ha hb hl hs h) ?_
  have hls := hw.len
  have e1 : wrap64 (((rankD b :: ls).length : Int) - 1) = (ls.length : Int) := by
    rw [List.length_cons, w64 (by omega) (by omega)]; omega
  have e2 : rd_L2 (rankD b :: ls) (ls.length : Int) = rankD a := by
    unfold rd_L2
    rw [Int.toNat_natCast]
    exact way_lastD hw
  have c1 : (ls.length : Int) < ((rankD b :: ls).length : Int) := by rw [List.length_cons]; omega
  simp only [if_true, e1, inn, c1, e2]
  refine Ev.bind (laws_pSame_ev (rankD a) (rankD a) (by omega)) ?_
  simp only [decide_true, if_true]
  refine Ev.bind (laws_pSame_ev (rankD a) (rankD a) (by omega)) ?_
  simp only [decide_true, if_true]
  refine Ev.bind (laws_pSame_ev (rankD b) (rankD b) (by omega)) ?_
  simp only [decide_true]
  exact Ev.now _
theorem FnTop_j1 {a b : List Int} (hf : fits a b = true) : Ev (fun k => laws_FnTop.j1 k a b (subB a b) false) true := by
  obtain ⟨ha, hb, hl, hs⟩ := fits_iff.1 hf
  have a8 := ha.2.1
  have b8 := hb.2.1
  have la := rankD_length a
  have lb := rankD_length b
  have hr := rank_fits hf
  have hm : majB a b = subB a b := by simp [majB, hl, hs]
  refine Ev.succ ?_
  simp only [laws_FnTop.j1, Bool.false_eq_true, if_false]
  have i1 : Ev (fun k => impl_RefusalOf.f k a b) (refK a b, !subB a b) := by
    have := impl_RefusalOf_ev a b (by omega) (by omega)
    rw [if_pos hf, refK_sub] at this
    exact this
  have i3 : Ev (fun k => impl_ThresholdRefusal.f k a b) ((fthr a b 0 61).1, !subB a b) := by
    have := impl_ThresholdRefusal_ev a b (by omega) (by omega)
    rw [if_pos hf, show fthr a b 0 61 = ((fthr a b 0 61).1, (fthr a b 0 61).2) from rfl, fthr_sub hb hl] at this
    exact this
  have i4 : Ev (fun k => impl_RankingOf.f k a) (rankD a, true) := by
    have := impl_RankingOf_ev a (by omega)
    rw [if_pos (goodB_iff.2 ha)] at this
    exact this
  have i5 : Ev (fun k => impl_RankingOf.f k b) (rankD b, true) := by
    have := impl_RankingOf_ev b (by omega)
    rw [if_pos (goodB_iff.2 hb)] at this
    exact this
  have i6 := impl_LoweringPlan_ev (rankD a) (rankD b) (by omega) (by omega)
  rw [if_pos hr, low_sub hf] at i6
  refine Ev.bind i1 ?_
  cases h : subB a b with
  | false =>
    rw [h] at i3 i6
    simp only [Bool.false_eq_true, if_false] at i6
    refine Ev.bind (impl_GiftPath_no (by omega) (by omega) (by rw [hm, h, Bool.and_false])) ?_
    refine Ev.bind i3 ?_
    refine Ev.bind i4 ?_
    refine Ev.bind i5 ?_
    refine Ev.bind i6 ?_
    simp only [if_true, Bool.not_false, bne_self_eq_false, beq_iff_eq, reduceCtorEq, Bool.false_eq_true, if_false]
    refine Ev.succ ?_
    simp only [laws_FnTop.j2, Bool.false_eq_true, if_false]
    exact Ev.now _
  | true =>
    rw [h] at i3 i6
    simp only [if_true] at i6
    have hA := above_of ha hb hl hs h
    obtain ⟨gs, ls, hw, hg⟩ := way_ex 240 (rankD b) hA (units_bound hA)
    refine Ev.bind (impl_GiftPath_yes ha hb (by rw [hm, h]) hw hg) ?_
    refine Ev.bind i3 ?_
    refine Ev.bind i4 ?_
    refine Ev.bind i5 ?_
    refine Ev.bind i6 ?_
    simp only [if_true, Bool.not_true, bne_self_eq_false, beq_iff_eq, reduceCtorEq, Bool.false_eq_true, if_false]
    exact FnTop_j2 hf h hw hg
theorem FnTop_j0 {a b : List Int} (ha : a.length ≤ 1048576) (hb : b.length ≤ 1048576) (v : Bool × Bool) (hv : v = if goodB a && goodB b then (majB a b, true) else (false, false)) : Ev (fun k => laws_FnTop.j0 k a b v.1 v.2 false) true := by
  refine Ev.succ ?_
  simp only [laws_FnTop.j0, Bool.false_eq_true, if_false]
  cases hg : goodB a && goodB b with
  | false =>
    rw [hg] at hv
    subst hv
    simp only [Bool.false_eq_true, if_false]
    refine Ev.succ ?_
    simp only [laws_FnTop.j1, if_true, Bool.not_false]
    exact Ev.now _
  | true =>
    rw [hg] at hv
    subst hv
    rw [Bool.and_eq_true, goodB_iff, goodB_iff] at hg
    simp only [if_true]
    refine Ev.bind (laws_pFit_ev hg.1 hg.2) ?_
    have em : majB a b = ((decide (a.length = b.length) && decide (a.sum = b.sum)) && subB a b) := by unfold majB; rw [Bool.and_assoc]
    cases h3 : decide (a.length = b.length) && decide (a.sum = b.sum) with
    | false =>
      rw [em, h3, Bool.false_and]
      refine Ev.succ ?_
      simp only [laws_FnTop.j1, if_true, Bool.not_false]
      exact Ev.now _
    | true =>
      rw [em, h3, Bool.true_and, Bool.not_true]
      rw [Bool.and_eq_true, decide_eq_true_eq, decide_eq_true_eq] at h3
      exact FnTop_j1 (fits_iff.2 ⟨hg.1, hg.2, h3.1, h3.2⟩)
theorem FnTop : laws_FnTop.Pure := by
  intro a b hma hsa hwa hmb hsb hwb
  refine Ev.rounds ?_
  have hc := Bts.of hsa hwa
  simp only [laws_FnTop.f]
  obtain ⟨t, ht⟩ := laws_big_x a b
  rw [ht]
  simp only [Option.bind_some]
  by_cases h0 : t = true
  · simp only [h0, if_true]; exact Ev.now _
  · simp only [h0, if_false]
    refine Ex.ev (spec_DrawIsMajorized_x hc) fun r hr => ?_
    obtain ⟨p, q⟩ := r
    have hp : p.length ≤ 1048576 := by have := hr.1; simp only at this; omega
    have hq : q.length ≤ 1048576 := by have := hr.2; simp only at this; omega
    obtain ⟨v, hv⟩ : ∃ v : Bool × Bool, v = if goodB p && goodB q then (majB p q, true) else (false, false) := ⟨_, rfl⟩
    have i1 : Ev (fun k => impl_IsMajorized.f k p q) v := by rw [hv]; exact impl_IsMajorized_ev p q hp hq
    have i2 : Ev (fun k => spec_IsMajorized.f k p q) v := by rw [hv]; exact spec_IsMajorized_ev p q hp hq
    refine Ev.bind i1 ?_
    refine Ev.bind i2 ?_
    simp only [bne_self_eq_false, Bool.false_eq_true, if_false]
    exact FnTop_j0 hp hq v hv

end Go.Proofs.Ytojklddddedoeaa.Pure
