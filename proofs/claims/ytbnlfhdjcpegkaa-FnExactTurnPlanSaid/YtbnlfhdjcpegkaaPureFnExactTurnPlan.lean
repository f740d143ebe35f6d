/- The program's TurnPlan returns what the reference's returns, for all arguments; the printed functions' own bounds on lengths are the only conditions. -/
import Derived.Test.YtbnlfhdjcpegkaaPFnExactTurnPlanx9
import Derived.Test.YtbnlfhdjcpegkaaMath
namespace Go.Proofs.Ytbnlfhdjcpegkaa.Pure
open Go.RowKit Go.Proofs.Ytbnlfhdjcpegkaa.PFnExactTurnPlan Go.Proofs.YtbnlfhdjcpegkaaW.PrintWords Go.Proofs.YtbnlfhdjcpegkaaW.PrintLast Go.Proofs.YtbnlfhdjcpegkaaW.PrintMore Go.Proofs.Ytbnlfhdjcpegkaa.Math
set_option linter.unusedVariables false
set_option linter.unusedSimpArgs false
set_option linter.unusedSectionVars false

theorem laws_szIntS_e (l : List Int) (a : Int) (h0 : -1 ≤ a) (h1 : a ≤ 1048576) (hl : l.length ≤ 9223372036854775807) : laws_szIntS.f l a = some (if a - l.length < 0 then -1 else a - l.length) := by
  unfold laws_szIntS.f
  rw [w64 (x := a - (l.length : Int)) (by omega) (by omega)]
  split <;> rfl

/-- What is left of a room is told; if it is not negative, all rows are short. -/
theorem laws_szIntSS_l (m : List (List Int)) (hm : m.length ≤ 1048576) (hr : ∀ r ∈ m, r.length ≤ 9223372036854775807) : ∀ i, i ≤ m.length → ∀ a : Int, 0 ≤ a → a ≤ 1048576 → ∃ r, Ev (fun k => laws_szIntSS.l0 k m a (i : Int)) r ∧ -1 ≤ r ∧ r ≤ a ∧ (0 ≤ r → ∀ x ∈ m.drop i, x.length ≤ 1048576) := by
  refine down ?_ ?_
  · intro a h0 h1
    refine ⟨a, ?_, by omega, by omega, fun _ x hx => by rw [List.drop_length] at hx; cases hx⟩
    refine Ev.succ ?_
    simp only [laws_szIntSS.l0, nlt (Nat.le_refl m.length), if_false]
    exact Ev.now _
  · intro i hi ih a h0 h1
    have hrow : rd_L1 m (i : Int) = m[i] := by simp [rd_L1, List.getD_eq_getElem?_getD, hi]
    have hq := hr m[i] (List.getElem_mem hi)
    by_cases c : a - (m[i].length : Int) < 0
    · refine ⟨-1, ?_, by omega, by omega, fun h => by omega⟩
      refine Ev.succ ?_
      simp only [laws_szIntSS.l0, ilt hi, inn, if_true, hrow, laws_szIntS_e m[i] a (by omega) h1 hq, c, Option.bind_some, (by decide : (-1 : Int) < 0)]
      exact Ev.now _
    · obtain ⟨r, hE, q1, q2, q3⟩ := ih (a - m[i].length) (by omega) (by omega)
      refine ⟨r, ?_, q1, by omega, fun h x hx => ?_⟩
      · refine Ev.succ ?_
        simp only [laws_szIntSS.l0, ilt hi, inn, if_true, hrow, laws_szIntS_e m[i] a (by omega) h1 hq, c, if_false, Option.bind_some, wnext hi (by omega : m.length ≤ 4611686018427387904)]
        exact hE
      · rw [drop_cons hi] at hx
        rcases List.mem_cons.1 hx with rfl | hx
        · omega
        · exact q3 h x hx
theorem laws_szIntSS_ev (m : List (List Int)) (hm : m.length ≤ 9223372036854775807) (hr : ∀ r ∈ m, r.length ≤ 9223372036854775807) (a : Int) (h0 : 0 ≤ a) (h1 : a ≤ 1048576) : ∃ r, Ev (fun k => laws_szIntSS.f k m a) r ∧ -1 ≤ r ∧ r ≤ a ∧ (0 ≤ r → Siz m) := by
  by_cases c : a - (m.length : Int) < 0
  · refine ⟨-1, ?_, by omega, by omega, fun h => by omega⟩
    simp only [laws_szIntSS.f, w64 (x := a - (m.length : Int)) (by omega) (by omega), c, if_true]
    exact Ev.now _
  · obtain ⟨r, hE, q1, q2, q3⟩ := laws_szIntSS_l m (by omega) hr 0 (Nat.zero_le _) (a - m.length) (by omega) (by omega)
    refine ⟨r, ?_, q1, by omega, fun h => ⟨by omega, fun x hx => q3 h x (by rw [List.drop_zero]; exact hx)⟩⟩
    simp only [laws_szIntSS.f, w64 (x := a - (m.length : Int)) (by omega) (by omega), c, if_false]
    exact hE

theorem spec_l1In_e (a b c : Int) : spec_l1In.f a b c = some (wth a b c) := wth_opt a b c

theorem spec_l1All_l (l : List Int) (lo hi : Int) (hl : l.length ≤ 4611686018427387904) : ∀ i, i ≤ l.length → Ev (fun k => spec_l1All.l0 k lo hi l (l.length : Int) (i : Int)) (allW (l.drop i) lo hi) := by
  refine down ?_ ?_
  · refine Ev.succ ?_
    simp only [spec_l1All.l0, nlt (Nat.le_refl l.length), if_false, List.drop_length]
    exact Ev.now _
  · intro i hi ih
    refine Ev.succ ?_
    simp only [spec_l1All.l0, ilt hi, inn, if_true, spec_l1In_e, Option.bind_some, rd_lt hi, wnext hi hl]
    rw [drop_cons hi]
    exact Ev.andS fun _ => ih
theorem spec_l1All_ev (l : List Int) (lo hi : Int) (hl : l.length ≤ 4611686018427387904) : Ev (fun k => spec_l1All.f k l lo hi) (allW l lo hi) := by
  have := spec_l1All_l l lo hi hl 0 (Nat.zero_le _)
  simpa only [spec_l1All.f, List.drop_zero, Int.natCast_zero] using this

theorem spec_plGood_l (m : List (List Int)) (h : Siz m) : ∀ i, i ≤ m.length → Ev (fun k => spec_plGood.l0 k m m (m.length : Int) (i : Int)) ((m.drop i).all (rowOk m.length)) := by
  have hm := h.1
  refine down ?_ ?_
  · refine Ev.succ ?_
    simp only [spec_plGood.l0, nlt (Nat.le_refl m.length), if_false, List.drop_length, List.all_nil]
    exact Ev.now _
  · intro i hi ih
    have hrow : rd_L1 m (i : Int) = m[i] := by simp [rd_L1, List.getD_eq_getElem?_getD, hi]
    refine Ev.succ ?_
    simp only [spec_plGood.l0, ilt hi, inn, if_true, hrow, wnext hi (by omega : m.length ≤ 4611686018427387904)]
    rw [drop_cons hi, List.all_cons]
    by_cases c : m[i].length = m.length
    · have c2 : (m[i].length : Int) = (m.length : Int) := by omega
      simp only [c2, if_true, rowOk, c, decide_true, Bool.true_and]
      exact Ev.and (spec_l1All_ev m[i] 0 60 (by have := h.2 _ (List.getElem_mem hi); omega)) fun _ => ih
    · have c2 : ¬ (m[i].length : Int) = (m.length : Int) := by omega
      simp only [c2, if_false, rowOk, c, decide_false, Bool.false_and]
      exact Ev.now _
theorem spec_plGood_ev (m : List (List Int)) (h : Siz m) : Ev (fun k => spec_plGood.f k m) (planB m) := by
  simp only [spec_plGood.f, spec_l1In_e, Option.bind_some, planB]
  exact Ev.andS fun _ => spec_plGood_l m h 0 (Nat.zero_le _)

theorem spec_plColumn_l0 (m : List (List Int)) (h : Plan m) (c : Nat) (hc : c < m.length) : ∀ i, i ≤ m.length → Ev (fun k => spec_plColumn.l0 k (c : Int) ((m.take i).map fun r => r.getD c 0) m (m.length : Int) (i : Int)) (m.map fun r => r.getD c 0) := by
  have hm := h.2.1
  refine down ?_ ?_
  · refine Ev.succ ?_
    simp only [spec_plColumn.l0, nlt (Nat.le_refl m.length), if_false, List.take_length]
    exact Ev.now _
  · intro i hi ih
    have hrow : rd_L1 m (i : Int) = m[i] := by simp [rd_L1, List.getD_eq_getElem?_getD, hi]
    have hl := (h.2.2 _ (List.getElem_mem hi)).1
    have hc2 : c < m[i].length := by omega
    have lim : ((m.take i).map fun r => r.getD c 0).length < 17592186044416 := by rw [List.length_map, List.length_take]; omega
    refine Ev.succ ?_
    simp only [spec_plColumn.l0, ilt hi, ilt hc2, inn, if_true, hrow, lim, rd_get, wnext hi (by omega : m.length ≤ 4611686018427387904)]
    have e : (m.take (i + 1)).map (fun r => r.getD c 0) = (m.take i).map (fun r => r.getD c 0) ++ [m[i].getD c 0] := by
      rw [List.take_succ_eq_append_getElem hi, List.map_append]; rfl
    rw [← e]
    exact ih
theorem spec_plColumn_ev (m : List (List Int)) (h : Plan m) (c : Nat) (hc : c < m.length) : Ev (fun k => spec_plColumn.f k m (c : Int)) (m.map fun r => r.getD c 0) := by
  have := spec_plColumn_l0 m h c hc 0 (Nat.zero_le _)
  simpa only [spec_plColumn.f, List.take_zero, List.map_nil, Int.natCast_zero] using this

theorem spec_TurnPlan_l0 (m : List (List Int)) (h : Plan m) : ∀ i, i ≤ m.length → Ev (fun k => spec_TurnPlan.l0 k m ((colsUpto m m.length).take i) (m.length : Int) (i : Int)) (colsUpto m m.length, true) := by
  have hm := h.2.1
  refine down ?_ ?_
  · refine Ev.succ ?_
    simp only [spec_TurnPlan.l0, nlt (Nat.le_refl m.length), if_false]
    rw [List.take_of_length_le (by rw [colsUpto_len]; exact Nat.le_refl _)]
    exact Ev.now _
  · intro i hi ih
    have lim : ((colsUpto m m.length).take i).length < 5864062014805 := by rw [List.length_take, colsUpto_len]; omega
    have hi2 : i < (colsUpto m m.length).length := by rw [colsUpto_len]; exact hi
    refine Ev.succ ?_
    simp only [spec_TurnPlan.l0, ilt hi, if_true, lim, wnext hi (by omega : m.length ≤ 4611686018427387904)]
    refine Ev.bind (spec_plColumn_ev m h i hi) ?_
    have e : (colsUpto m m.length).take (i + 1) = (colsUpto m m.length).take i ++ [m.map fun r => r.getD i 0] := by
      rw [List.take_succ_eq_append_getElem hi2, colsUpto_get hi, List.take_length]
    rw [← e]
    exact ih
theorem spec_TurnPlan_ev (m : List (List Int)) (h : Siz m) : Ev (fun k => spec_TurnPlan.f k m) (if planB m then (colsUpto m m.length, true) else (([] : List (List Int)), false)) := by
  simp only [spec_TurnPlan.f]
  refine Ev.bind (spec_plGood_ev m h) ?_
  cases c : planB m with
  | false => simp only [Bool.false_eq_true, if_false]; exact Ev.now _
  | true =>
    simp only [if_true]
    have := spec_TurnPlan_l0 m (planB_iff.1 c) 0 (Nat.zero_le _)
    simpa only [List.take_zero, Int.natCast_zero] using this

theorem laws_toIntS_l (l : List Int) (hl : l.length ≤ 4611686018427387904) : ∀ i, i ≤ l.length → ∀ m : List Int, m.length = l.length → m.take i = l.take i → Ev (fun k => laws_toIntS.l0 k l m (i : Int)) l := by
  refine down ?_ ?_
  · intro m hm h
    refine Ev.succ ?_
    simp only [laws_toIntS.l0, nlt (Nat.le_refl l.length), if_false]
    rw [← hm, List.take_length, hm, List.take_length] at h
    rw [h]
    exact Ev.now _
  · intro i hi ih m hm h
    refine Ev.succ ?_
    simp only [laws_toIntS.l0, ilt hi, inn, if_true, hm, rd_lt hi, wnext hi hl, Int.toNat_natCast]
    exact ih _ (by simpa using hm) (set_take l m i hi hm h)
theorem laws_toIntS_ev (l : List Int) (hl : l.length ≤ 35184372088832) : Ev (fun k => laws_toIntS.f k l) l := by
  have := laws_toIntS_l l (by omega) 0 (Nat.zero_le _) (List.replicate l.length 0) (by simp) (by simp)
  simp only [laws_toIntS.f, inn, if_true, Int.toNat_natCast, hl]
  exact this

theorem laws_toIntSS_l (m : List (List Int)) (h : Siz m) : ∀ i, i ≤ m.length → ∀ q : List (List Int), q.length = m.length → q.take i = m.take i → Ev (fun k => laws_toIntSS.l0 k m q (i : Int)) m := by
  have hm := h.1
  refine down ?_ ?_
  · intro q hq e
    refine Ev.succ ?_
    simp only [laws_toIntSS.l0, nlt (Nat.le_refl m.length), if_false]
    rw [← hq, List.take_length, hq, List.take_length] at e
    rw [e]
    exact Ev.now _
  · intro i hi ih q hq e
    have hrow : rd_L1 m (i : Int) = m[i] := by simp [rd_L1, List.getD_eq_getElem?_getD, hi]
    refine Ev.succ ?_
    simp only [laws_toIntSS.l0, ilt hi, inn, if_true, hrow, hq, wnext hi (by omega : m.length ≤ 4611686018427387904), Int.toNat_natCast]
    refine Ev.bind (laws_toIntS_ev m[i] (by have := h.2 _ (List.getElem_mem hi); omega)) ?_
    exact ih _ (by simpa using hq) (set_takeG m q i hi hq e)
theorem laws_toIntSS_ev (m : List (List Int)) (h : Siz m) : Ev (fun k => laws_toIntSS.f k m) m := by
  have hm := h.1
  have c : m.length ≤ 11728124029610 := by omega
  have := laws_toIntSS_l m h 0 (Nat.zero_le _) (List.replicate m.length []) (by simp) (by simp)
  simp only [laws_toIntSS.f, inn, if_true, Int.toNat_natCast, c]
  exact this

theorem impl_within_e (a b c : Int) : impl_within.f a b c = some (wth a b c) := wth_opt a b c

theorem impl_allWithin_l (l : List Int) (lo hi : Int) (hl : l.length ≤ 4611686018427387904) : ∀ i, i ≤ l.length → Ev (fun k => impl_allWithin.l0 k lo hi l (l.length : Int) (i : Int)) (allW (l.drop i) lo hi) := by
  refine down ?_ ?_
  · refine Ev.succ ?_
    simp only [impl_allWithin.l0, nlt (Nat.le_refl l.length), if_false, List.drop_length]
    exact Ev.now _
  · intro i hi ih
    refine Ev.succ ?_
    simp only [impl_allWithin.l0, ilt hi, inn, if_true, impl_within_e, Option.bind_some, rd_lt hi, wnext hi hl]
    rw [drop_cons hi]
    exact Ev.andS fun _ => ih
theorem impl_allWithin_ev (l : List Int) (lo hi : Int) (hl : l.length ≤ 4611686018427387904) : Ev (fun k => impl_allWithin.f k l lo hi) (allW l lo hi) := by
  have := impl_allWithin_l l lo hi hl 0 (Nat.zero_le _)
  simpa only [impl_allWithin.f, List.drop_zero, Int.natCast_zero] using this

theorem impl_isPlan_row_ev (n : Nat) (l : List Int) (hl : l.length ≤ 1048576) : Ev (fun k => impl_isPlan.row k n l) (!rowOk n l) := by
  simp only [impl_isPlan.row, rowOk]
  by_cases c : l.length = n
  · simp only [c, if_true, decide_true, Bool.true_and]
    exact Ev.ret (f := fun t => !t) (impl_allWithin_ev l 0 60 (by omega))
  · simp only [c, if_false, decide_false, Bool.false_and, Bool.not_false]
    exact Ev.now _
theorem impl_isPlan_l (m : List (List Int)) (h : Siz m) : ∀ i, i ≤ m.length → ∃ j : Int, Ev (fun k => impl_isPlan.l0 k m (i : Int)) j ∧ decide (j ≥ 0) = !((m.drop i).all (rowOk m.length)) := by
  have hm := h.1
  refine down ?_ ?_
  · refine ⟨-1, ?_, by simp⟩
    refine Ev.succ ?_
    simp only [impl_isPlan.l0, nlt (Nat.le_refl m.length), if_false]
    exact Ev.now _
  · intro i hi ⟨j, ih, hj⟩
    have hg : rd_L1 m (i : Int) = m[i] := by simp [rd_L1, List.getD_eq_getElem?_getD, hi]
    have hb := impl_isPlan_row_ev m.length m[i] (h.2 _ (List.getElem_mem hi))
    cases c : rowOk m.length m[i] with
    | true =>
      refine ⟨j, ?_, by rw [hj, drop_cons hi, List.all_cons, c, Bool.true_and]⟩
      rw [c] at hb
      refine Ev.succ ?_
      simp only [impl_isPlan.l0, ilt hi, inn, if_true, hg, wnext hi (by omega : m.length ≤ 4611686018427387904)]
      refine Ev.bind hb ?_
      simp only [Bool.not_true, Bool.false_eq_true, if_false]
      exact ih
    | false =>
      refine ⟨(i : Int), ?_, by rw [drop_cons hi, List.all_cons, c, Bool.false_and]; simp⟩
      rw [c] at hb
      refine Ev.succ ?_
      simp only [impl_isPlan.l0, ilt hi, inn, if_true, hg]
      refine Ev.bind hb ?_
      simp only [Bool.not_false, if_true]
      exact Ev.now _
theorem impl_isPlan_ev (m : List (List Int)) (h : Siz m) : Ev (fun k => impl_isPlan.f k m) (planB m) := by
  simp only [impl_isPlan.f, impl_within_e, Option.bind_some, planB]
  refine Ev.andS fun _ => ?_
  obtain ⟨j, hE, hj⟩ := impl_isPlan_l m h 0 (Nat.zero_le _)
  refine (Ev.ret (f := fun j : Int => !decide (j ≥ 0)) hE).eqv ?_
  rw [hj, Bool.not_not, List.drop_zero]

theorem impl_turn_l1 (m : List (List Int)) (h : Plan m) (o : Nat) (ho : o < m.length) (R : List (List Int))
    (hk : Ev (fun k => impl_turn.l0 k (colsUpto m (o + 1)) m (m.length : Int) (wrap64 ((o : Int) + 1))) R) :
    ∀ j, j ≤ m[o].length → ∀ out : List (List Int), out.length = m.length → out.take j = (colsUpto m (o + 1)).take j → out.drop j = (colsUpto m o).drop j → Ev (fun k => impl_turn.l1 k out m (m.length : Int) (o : Int) m[o] (m[o].length : Int) (j : Int)) R := by
  have hm := h.2.1
  have hl := (h.2.2 _ (List.getElem_mem ho)).1
  refine down ?_ ?_
  · intro out hout e1 e2
    refine Ev.succ ?_
    simp only [impl_turn.l1, nlt (Nat.le_refl m[o].length), if_false]
    rw [hl, ← hout, List.take_length, hout, List.take_of_length_le (by rw [colsUpto_len]; exact Nat.le_refl _)] at e1
    rw [e1]
    exact hk
  · intro j hj ih out hout e1 e2
    have hj2 : j < out.length := by omega
    have hj3 : j < m.length := by omega
    have hrow : rd_L1 out (j : Int) = out[j] := by simp [rd_L1, List.getD_eq_getElem?_getD, hj2]
    have hx : out[j] = (m.take o).map fun r => r.getD j 0 := by
      rw [drop_cons hj2, drop_cons (l := colsUpto m o) (by rw [colsUpto_len]; exact hj3)] at e2
      rw [(List.cons.inj e2).1, colsUpto_get hj3]
    have lim : out[j].length < 17592186044416 := by rw [hx, List.length_map, List.length_take]; omega
    have hn : (colsUpto m (o + 1))[j]'(by rw [colsUpto_len]; exact hj3) = out[j] ++ [m[o][j]] := by
      rw [colsUpto_get hj3, hx, List.take_succ_eq_append_getElem ho, List.map_append]
      simp [List.getD_eq_getElem?_getD, hj]
    refine Ev.succ ?_
    simp only [impl_turn.l1, ilt hj, ilt hj2, inn, if_true, rd_lt hj, hrow, lim, wnext hj (by omega : m[o].length ≤ 4611686018427387904), Int.toNat_natCast]
    have st := set_takeG (colsUpto m (o + 1)) out j (by rw [colsUpto_len]; exact hj3) (by rw [colsUpto_len]; exact hout) e1
    rw [hn] at st
    refine ih _ (by simpa using hout) st ?_
    rw [List.drop_set_of_lt (by omega)]
    rw [drop_cons hj2, drop_cons (l := colsUpto m o) (by rw [colsUpto_len]; exact hj3)] at e2
    exact (List.cons.inj e2).2
theorem impl_turn_l0 (m : List (List Int)) (h : Plan m) : ∀ i, i ≤ m.length → Ev (fun k => impl_turn.l0 k (colsUpto m i) m (m.length : Int) (i : Int)) (colsUpto m m.length) := by
  have hm := h.2.1
  refine down ?_ ?_
  · refine Ev.succ ?_
    simp only [impl_turn.l0, nlt (Nat.le_refl m.length), if_false]
    exact Ev.now _
  · intro i hi ih
    have hrow : rd_L1 m (i : Int) = m[i] := by simp [rd_L1, List.getD_eq_getElem?_getD, hi]
    refine Ev.succ ?_
    simp only [impl_turn.l0, ilt hi, inn, if_true, hrow]
    refine impl_turn_l1 m h i hi _ ?_ 0 (Nat.zero_le _) _ (colsUpto_len _ _) rfl rfl
    rw [wnext hi (by omega : m.length ≤ 4611686018427387904)]
    exact ih
theorem impl_turn_ev (m : List (List Int)) (h : Plan m) : Ev (fun k => impl_turn.f k m) (colsUpto m m.length) := by
  have h0 : 0 < m.length := h.1
  have hrow : rd_L1 m 0 = m[0] := by simp [rd_L1, List.getD_eq_getElem?_getD, h0]
  have hl := (h.2.2 _ (List.getElem_mem h0)).1
  have hm := h.2.1
  have c0 : 0 < (m.length : Int) := by omega
  have c1 : m.length ≤ 11728124029610 := by omega
  simp only [impl_turn.f, hrow, hl, c0, inn, Int.toNat_natCast, c1, if_true]
  have := impl_turn_l0 m h 0 (Nat.zero_le _)
  rw [colsUpto_zero] at this
  exact this

theorem impl_TurnPlan_ev (m : List (List Int)) (h : Siz m) : Ev (fun k => impl_TurnPlan.f k m) (if planB m then (colsUpto m m.length, true) else (([] : List (List Int)), false)) := by
  simp only [impl_TurnPlan.f]
  refine Ev.bind (impl_isPlan_ev m h) ?_
  cases c : planB m with
  | false => simp only [Bool.false_eq_true, if_false]; exact Ev.now _
  | true =>
    simp only [if_true]
    exact Ev.ret (f := fun t => (t, true)) (impl_turn_ev m (planB_iff.1 c))

theorem laws_eqIntS_l (l m : List Int) (he : m.length = l.length) (hl : l.length ≤ 4611686018427387904) : ∀ i, i ≤ l.length → Ev (fun k => laws_eqIntS.l0 k l m (i : Int)) (decide (l.drop i = m.drop i)) := by
  refine down ?_ ?_
  · refine Ev.succ ?_
    simp only [laws_eqIntS.l0, nlt (Nat.le_refl l.length), if_false, List.drop_length]
    rw [← he, List.drop_length]
    exact Ev.now _
  · intro i hi ih
    refine Ev.succ ?_
    simp only [laws_eqIntS.l0, ilt hi, inn, if_true, he, rd_lt hi, rd_lt (he ▸ hi : i < m.length), wnext hi hl]
    rw [drop_cons hi, drop_cons (he ▸ hi : i < m.length)]
    by_cases hx : l[i] = m[i]
    · simp only [hx, if_true, List.cons.injEq, true_and]
      exact ih
    · simp only [hx, if_false, List.cons.injEq, false_and, decide_false]
      exact Ev.now _
theorem laws_eqIntS_ev (l m : List Int) (hl : l.length ≤ 4611686018427387904) : Ev (fun k => laws_eqIntS.f k l m) (decide (l = m)) := by
  simp only [laws_eqIntS.f]
  by_cases he : (l.length : Int) = (m.length : Int)
  · simp only [he, if_true]
    exact laws_eqIntS_l l m (by omega) hl 0 (Nat.zero_le _)
  · simp only [he, if_false]
    rw [decide_eq_false (fun h => he (by rw [h]))]
    exact Ev.now _
theorem laws_eqIntS_self (l : List Int) (hl : l.length ≤ 4611686018427387904) : Ev (fun k => laws_eqIntS.f k l l) true := by
  simpa using laws_eqIntS_ev l l hl

theorem laws_eqIntSS_l (m q : List (List Int)) (he : q.length = m.length) (h : Siz m) : ∀ i, i ≤ m.length → Ev (fun k => laws_eqIntSS.l0 k m q (i : Int)) (decide (m.drop i = q.drop i)) := by
  have hm := h.1
  refine down ?_ ?_
  · refine Ev.succ ?_
    simp only [laws_eqIntSS.l0, nlt (Nat.le_refl m.length), if_false, List.drop_length]
    rw [← he, List.drop_length]
    exact Ev.now _
  · intro i hi ih
    have h2 : i < q.length := by omega
    have hrow : rd_L1 m (i : Int) = m[i] := by simp [rd_L1, List.getD_eq_getElem?_getD, hi]
    have hrow2 : rd_L1 q (i : Int) = q[i] := by simp [rd_L1, List.getD_eq_getElem?_getD, h2]
    refine Ev.succ ?_
    simp only [laws_eqIntSS.l0, ilt hi, inn, if_true, he, hrow, hrow2, wnext hi (by omega : m.length ≤ 4611686018427387904)]
    refine Ev.bind (laws_eqIntS_ev m[i] q[i] (by have := h.2 _ (List.getElem_mem hi); omega)) ?_
    rw [drop_cons hi, drop_cons h2]
    by_cases hx : m[i] = q[i]
    · simp only [hx, decide_true, if_true, List.cons.injEq, true_and]
      exact ih
    · simp only [hx, decide_false, Bool.false_eq_true, if_false, List.cons.injEq, false_and]
      exact Ev.now _
theorem laws_eqIntSS_ev (m q : List (List Int)) (h : Siz m) : Ev (fun k => laws_eqIntSS.f k m q) (decide (m = q)) := by
  simp only [laws_eqIntSS.f]
  by_cases he : (m.length : Int) = (q.length : Int)
  · simp only [he, if_true]
    exact laws_eqIntSS_l m q (by omega) h 0 (Nat.zero_le _)
  · simp only [he, if_false]
    rw [decide_eq_false (fun h => he (by rw [h]))]
    exact Ev.now _
theorem laws_eqIntSS_self (m : List (List Int)) (h : Siz m) : Ev (fun k => laws_eqIntSS.f k m m) true := by
  simpa using laws_eqIntSS_ev m m h

theorem laws_markIntS_l (n : Nat) (hn : n ≤ 1048576) (s : Nat) (hs : s ≤ 4611686018427) : ∀ i, i ≤ n → ∀ m : List Int, m.length = n → m.take i = (iotaF s n).take i → Ev (fun k => laws_markIntS.l0 k m ((s + i : Nat) : Int) (i : Int)) (((s + n : Nat) : Int), iotaF s n) := by
  refine down ?_ ?_
  · intro m hm h
    refine Ev.succ ?_
    simp only [laws_markIntS.l0, hm, nlt (Nat.le_refl n), if_false]
    rw [← hm, List.take_length, hm, List.take_of_length_le (by rw [iotaF_length]; exact Nat.le_refl _)] at h
    rw [h]
    exact Ev.now _
  · intro i hi ih m hm h
    refine Ev.succ ?_
    simp only [laws_markIntS.l0, hm, ilt hi, inn, if_true, Int.toNat_natCast, wnext hi (by omega : n ≤ 4611686018427387904), wnext (by omega : s + i < 4611686018427387904) (by omega)]
    have := set_take (iotaF s n) m i (by rw [iotaF_length]; exact hi) (by rw [iotaF_length]; exact hm) h
    rw [iotaF_get hi] at this
    exact ih _ (by simpa using hm) this
theorem laws_markIntS_ev (l : List Int) (hl : l.length ≤ 1048576) (s : Nat) (hs : s ≤ 4611686018427) : Ev (fun k => laws_markIntS.f k l (s : Int)) (((s + l.length : Nat) : Int), iotaF s l.length) := by
  have := laws_markIntS_l l.length hl s hs 0 (Nat.zero_le _) l rfl rfl
  simpa only [laws_markIntS.f, Int.natCast_zero, Nat.add_zero] using this
theorem laws_markIntS_from (l : List Int) (hl : l.length ≤ 1048576) (s : Nat) (hs : s ≤ 4611686018427) {x : Int} (hx : (s : Int) = x) : Ev (fun k => laws_markIntS.f k l x) (((s + l.length : Nat) : Int), iotaF s l.length) :=
  hx ▸ laws_markIntS_ev l hl s hs

/-- Rows that are marked: the numbers from s on. -/
def mkRows (s : Nat) : List (List Int) → List (List Int)
  | [] => []
  | r :: t => iotaF s r.length :: mkRows (s + r.length) t
def cntR : List (List Int) → Nat
  | [] => 0
  | r :: t => r.length + cntR t
theorem cntR_le : ∀ m : List (List Int), (∀ r ∈ m, r.length ≤ 1048576) → cntR m ≤ 1048576 * m.length
  | [], _ => by simp [cntR]
  | r :: t, h => by
    have := cntR_le t fun q hq => h q (List.mem_cons_of_mem _ hq)
    have := h r (List.mem_cons_self ..)
    simp only [cntR, List.length_cons]
    omega
theorem cntR_siz {m : List (List Int)} (h : Siz m) : cntR m ≤ 1099511627776 := by
  have := cntR_le m h.2
  have := h.1
  omega
theorem rdR_mid (A : List (List Int)) (b : List Int) (B : List (List Int)) : rd_L1 (A ++ b :: B) (A.length : Int) = b := by
  simp [rd_L1, List.getD_eq_getElem?_getD]
theorem laws_markIntSS_l : ∀ (B A : List (List Int)) (s : Nat), (A ++ B).length ≤ 1048576 → (∀ r ∈ B, r.length ≤ 1048576) → s + cntR B ≤ 4611686018427 →
    Ev (fun k => laws_markIntSS.l0 k (A ++ B) (s : Int) (A.length : Int)) (((s + cntR B : Nat) : Int), A ++ mkRows s B)
  | [], A, s, _, _, _ => by
    refine Ev.succ ?_
    simp only [laws_markIntSS.l0, List.append_nil, nlt (Nat.le_refl A.length), if_false, mkRows, cntR, Nat.add_zero]
    exact Ev.now _
  | b :: B, A, s, hl, hr, hs => by
    have hb := hr b (List.mem_cons_self ..)
    have hlt : A.length < (A ++ b :: B).length := by simp
    simp only [cntR] at hs
    refine Ev.succ ?_
    simp only [laws_markIntSS.l0, ilt hlt, inn, if_true, rdR_mid, Int.toNat_natCast, wnext hlt (by omega)]
    refine Ev.bind (laws_markIntS_ev b hb s (by omega)) ?_
    have e : (A ++ b :: B).set A.length (iotaF s b.length) = (A ++ [iotaF s b.length]) ++ B := by
      rw [List.set_append_right _ _ (Nat.le_refl _)]; simp
    have ih := laws_markIntSS_l B (A ++ [iotaF s b.length]) (s + b.length) (by simp at hl ⊢; omega) (fun r q => hr r (List.mem_cons_of_mem _ q)) (by omega)
    simp only [e]
    have e2 : (A ++ [iotaF s b.length]).length = A.length + 1 := by simp
    rw [e2] at ih
    refine ih.eqv ?_
    simp only [mkRows, cntR, List.append_assoc, List.singleton_append, Nat.add_assoc]
theorem laws_markIntSS_from (m : List (List Int)) (h : Siz m) (s : Nat) (hs : s + cntR m ≤ 4611686018427) {x : Int} (hx : (s : Int) = x) : Ev (fun k => laws_markIntSS.f k m x) (((s + cntR m : Nat) : Int), mkRows s m) := by
  subst hx
  have := laws_markIntSS_l m [] s (by simpa using h.1) h.2 hs
  simpa only [laws_markIntSS.f, List.nil_append, List.length_nil, Int.natCast_zero] using this

theorem laws_heldIntS_l (n : Nat) (hn : n ≤ 1048576) (s : Nat) (hs : s ≤ 4611686018427) : ∀ i, i ≤ n → Ev (fun k => laws_heldIntS.l0 k (iotaF s n) ((s + i : Nat) : Int) (i : Int)) (((s + n : Nat) : Int)) := by
  refine down ?_ ?_
  · refine Ev.succ ?_
    simp only [laws_heldIntS.l0, iotaF_length, nlt (Nat.le_refl n), if_false]
    exact Ev.now _
  · intro i hi ih
    refine Ev.succ ?_
    simp only [laws_heldIntS.l0, iotaF_length, ilt hi, inn, if_true, rd_lt (by rw [iotaF_length]; exact hi : i < (iotaF s n).length), iotaF_get hi, wnext hi (by omega : n ≤ 4611686018427387904), wnext (by omega : s + i < 4611686018427387904) (by omega)]
    exact ih
theorem laws_heldIntS_ev (n : Nat) (hn : n ≤ 1048576) (s : Nat) (hs : s ≤ 4611686018427) : Ev (fun k => laws_heldIntS.f k (iotaF s n) (s : Int)) (((s + n : Nat) : Int)) := by
  have := laws_heldIntS_l n hn s hs 0 (Nat.zero_le _)
  simpa only [laws_heldIntS.f, Int.natCast_zero, Nat.add_zero] using this
theorem laws_heldIntS_from (n : Nat) (hn : n ≤ 1048576) (s : Nat) (hs : s ≤ 4611686018427) {x : Int} (hx : (s : Int) = x) : Ev (fun k => laws_heldIntS.f k (iotaF s n) x) (((s + n : Nat) : Int)) :=
  hx ▸ laws_heldIntS_ev n hn s hs

theorem mkRows_length : ∀ (m : List (List Int)) (s : Nat), (mkRows s m).length = m.length
  | [], _ => rfl
  | r :: t, s => by simp [mkRows, mkRows_length t]
theorem laws_heldIntSS_l : ∀ (B A : List (List Int)) (s : Nat), (A ++ B).length ≤ 1048576 → (∀ r ∈ B, r.length ≤ 1048576) → s + cntR B ≤ 4611686018427 →
    Ev (fun k => laws_heldIntSS.l0 k (A ++ mkRows s B) (s : Int) (A.length : Int)) ((s + cntR B : Nat) : Int)
  | [], A, s, _, _, _ => by
    refine Ev.succ ?_
    simp only [laws_heldIntSS.l0, mkRows, List.append_nil, nlt (Nat.le_refl A.length), if_false, cntR, Nat.add_zero]
    exact Ev.now _
  | b :: B, A, s, hl, hr, hs => by
    have hb := hr b (List.mem_cons_self ..)
    have hlt : A.length < (A ++ iotaF s b.length :: mkRows (s + b.length) B).length := by simp
    have hle : (A ++ iotaF s b.length :: mkRows (s + b.length) B).length ≤ 1048576 := by simp [mkRows_length] at hl ⊢; omega
    simp only [cntR] at hs
    refine Ev.succ ?_
    simp only [laws_heldIntSS.l0, mkRows, ilt hlt, inn, if_true, rdR_mid, wnext hlt (by omega)]
    refine Ev.bind (laws_heldIntS_ev b.length hb s (by omega)) ?_
    simp only [nneg, if_false]
    have ih := laws_heldIntSS_l B (A ++ [iotaF s b.length]) (s + b.length) (by simp at hl ⊢; omega) (fun r q => hr r (List.mem_cons_of_mem _ q)) (by omega)
    have e2 : (A ++ [iotaF s b.length]).length = A.length + 1 := by simp
    rw [e2, List.append_assoc, List.singleton_append] at ih
    refine ih.eqv ?_
    simp only [cntR, Nat.add_assoc]
theorem laws_heldIntSS_from (m : List (List Int)) (h : Siz m) (s : Nat) (hs : s + cntR m ≤ 4611686018427) {x : Int} (hx : (s : Int) = x) : Ev (fun k => laws_heldIntSS.f k (mkRows s m) x) ((s + cntR m : Nat) : Int) := by
  subst hx
  have := laws_heldIntSS_l m [] s (by simpa using h.1) h.2 hs
  simpa only [laws_heldIntSS.f, List.nil_append, List.length_nil, Int.natCast_zero] using this

theorem turned_siz {m : List (List Int)} (h : Plan m) : Siz (colsUpto m m.length) := by
  have hm := h.2.1
  refine ⟨by rw [colsUpto_len]; omega, fun r hr => ?_⟩
  have := (h.colsShort r hr).1
  omega
theorem FnExactTurnPlan_pure (m : List (List Int)) (hm : m.length ≤ maxLen) (hr : ∀ r ∈ m, r.length ≤ maxLen) : ∃ k, laws_FnExactTurnPlan.f k m = some true := by
  refine Ev.rounds ?_
  simp only [laws_FnExactTurnPlan.f]
  obtain ⟨s, hE, q1, q2, q3⟩ := laws_szIntSS_ev m (by simpa [maxLen] using hm) (by simpa [maxLen] using hr) 1048576 (by omega) (by omega)
  refine Ev.bind hE ?_
  by_cases c : s < 0
  · simp only [c, if_true]; exact Ev.now _
  · simp only [c, if_false]
    have h := q3 (by omega)
    have hg : Siz (if planB m then (colsUpto m m.length, true) else (([] : List (List Int)), false)).1 := by
      cases e : planB m with
      | false => exact ⟨by simp, by simp⟩
      | true => exact turned_siz (planB_iff.1 e)
    have c1 := cntR_siz h
    have c2 := cntR_siz hg
    refine Ev.bind (laws_toIntSS_ev m h) ?_
    refine Ev.bind (spec_TurnPlan_ev m h) ?_
    refine Ev.bind (laws_toIntSS_ev m h) ?_
    refine Ev.bind (impl_TurnPlan_ev m h) ?_
    generalize hG : (if planB m then (colsUpto m m.length, true) else (([] : List (List Int)), false)) = g at hg c2 ⊢
    obtain ⟨g, b⟩ := g
    simp only at hg c2
    refine Ev.bind (laws_eqIntSS_self g hg) ?_
    simp only [if_true]
    refine Ev.bind (laws_toIntSS_ev m h) ?_
    refine Ev.bind (laws_eqIntSS_self m h) ?_
    simp only [if_true]
    refine Ev.bind (laws_markIntSS_from m h 1 (by omega) rfl) ?_
    simp only [nneg, if_false]
    refine Ev.bind (laws_eqIntSS_self g hg) ?_
    simp only [if_true]
    refine Ev.bind (laws_markIntSS_from g hg 1 (by omega) rfl) ?_
    refine Ev.bind (laws_heldIntSS_from g hg 1 (by omega) rfl) ?_
    simp only [nneg, if_false, if_true]
    refine Ev.bind (laws_toIntSS_ev m h) ?_
    refine Ev.bind ((impl_TurnPlan_ev m h).eqv hG) ?_
    simp only
    refine Ev.bind (laws_eqIntSS_self g hg) ?_
    simp only [if_true]
    refine Ev.bind (laws_heldIntSS_from g hg 1 (by omega) rfl) ?_
    simp only [nneg, if_false, if_true]
    exact Ev.now _

end Go.Proofs.Ytbnlfhdjcpegkaa.Pure
