/- The program's IsPlan returns what the reference's returns, for all arguments; the printed functions' own bounds on lengths are the only conditions. -/
import Derived.Test.YtnbhmanmdgjceaaPFnExactIsPlanx5
import Derived.Test.YtnbhmanmdgjceaaMath
namespace Go.Proofs.Ytnbhmanmdgjceaa.Pure
open Go.RowKit Go.Proofs.Ytnbhmanmdgjceaa.PFnExactIsPlan Go.Proofs.YtnbhmanmdgjceaaW.PrintWords Go.Proofs.YtnbhmanmdgjceaaW.PrintLast Go.Proofs.YtnbhmanmdgjceaaW.PrintMore Go.Proofs.Ytnbhmanmdgjceaa.Math
set_option linter.unusedVariables false
set_option linter.unusedSimpArgs false
set_option linter.unusedSectionVars false

theorem laws_szIntS_e (l : List Int) (a : Int) (h0 : -1 ≤ a) (h1 : a ≤ 1048576) (hl : l.length ≤ 9223372036854775807) : laws_szIntS.f l a = some (if a - l.length < 0 then -1 else a - l.length) := by
  unfold laws_szIntS.f
  rw [w64 (x := a - (l.length : Int)) (by omega) (by omega)]
  split <;> rfl

/-- What is left of a room is told; if it is not negative, all rows are short. -/
theorem laws_szIntSS_l (m : List (List Int)) (hm : m.length ≤ 1048576) (hr : ∀ r ∈ m, r.length ≤ 9223372036854775807) : ∀ i, i ≤ m.length → ∀ a : Int, 0 ≤ a → a ≤ 1048576 → ∃ r, Ev (fun k => laws_szIntSS.l0 k m a (i : Int)) r ∧ -1 ≤ r ∧ r ≤ a ∧ (0 ≤ r → ∀ x ∈ m.drop i, x.length ≤ 1048576) := by
  refine down ?_ ?_
  · intro a h0 h1
    refine ⟨a, ?_, by omega, by omega, fun _ x hx => by rw [List.drop_length] at hx; cases hx⟩
    refine Ev.succ ?_
    simp only [laws_szIntSS.l0, nlt (Nat.le_refl m.length), if_false]
    exact Ev.now _
  · intro i hi ih a h0 h1
    have hrow : rd_L1 m (i : Int) = m[i] := by simp [rd_L1, List.getD_eq_getElem?_getD, hi]
    have hq := hr m[i] (List.getElem_mem hi)
    by_cases c : a - (m[i].length : Int) < 0
    · refine ⟨-1, ?_, by omega, by omega, fun h => by omega⟩
      refine Ev.succ ?_
      simp only [laws_szIntSS.l0, ilt hi, inn, if_true, hrow, laws_szIntS_e m[i] a (by omega) h1 hq, c, Option.bind_some, (by decide : (-1 : Int) < 0)]
      exact Ev.now _
    · obtain ⟨r, hE, q1, q2, q3⟩ := ih (a - m[i].length) (by omega) (by omega)
      refine ⟨r, ?_, q1, by omega, fun h x hx => ?_⟩
      · refine Ev.succ ?_
        simp only [laws_szIntSS.l0, ilt hi, inn, if_true, hrow, laws_szIntS_e m[i] a (by omega) h1 hq, c, if_false, Option.bind_some, wnext hi (by omega : m.length ≤ 4611686018427387904)]
        exact hE
      · rw [drop_cons hi] at hx
        rcases List.mem_cons.1 hx with rfl | hx
        · omega
        · exact q3 h x hx
theorem laws_szIntSS_ev (m : List (List Int)) (hm : m.length ≤ 9223372036854775807) (hr : ∀ r ∈ m, r.length ≤ 9223372036854775807) (a : Int) (h0 : 0 ≤ a) (h1 : a ≤ 1048576) : ∃ r, Ev (fun k => laws_szIntSS.f k m a) r ∧ -1 ≤ r ∧ r ≤ a ∧ (0 ≤ r → Siz m) := by
  by_cases c : a - (m.length : Int) < 0
  · refine ⟨-1, ?_, by omega, by omega, fun h => by omega⟩
    simp only [laws_szIntSS.f, w64 (x := a - (m.length : Int)) (by omega) (by omega), c, if_true]
    exact Ev.now _
  · obtain ⟨r, hE, q1, q2, q3⟩ := laws_szIntSS_l m (by omega) hr 0 (Nat.zero_le _) (a - m.length) (by omega) (by omega)
    refine ⟨r, ?_, q1, by omega, fun h => ⟨by omega, fun x hx => q3 h x (by rw [List.drop_zero]; exact hx)⟩⟩
    simp only [laws_szIntSS.f, w64 (x := a - (m.length : Int)) (by omega) (by omega), c, if_false]
    exact hE

theorem laws_toIntS_l (l : List Int) (hl : l.length ≤ 4611686018427387904) : ∀ i, i ≤ l.length → ∀ m : List Int, m.length = l.length → m.take i = l.take i → Ev (fun k => laws_toIntS.l0 k l m (i : Int)) l := by
  refine down ?_ ?_
  · intro m hm h
    refine Ev.succ ?_
    simp only [laws_toIntS.l0, nlt (Nat.le_refl l.length), if_false]
    rw [← hm, List.take_length, hm, List.take_length] at h
    rw [h]
    exact Ev.now _
  · intro i hi ih m hm h
    refine Ev.succ ?_
    simp only [laws_toIntS.l0, ilt hi, inn, if_true, hm, rd_lt hi, wnext hi hl, Int.toNat_natCast]
    exact ih _ (by simpa using hm) (set_take l m i hi hm h)
theorem laws_toIntS_ev (l : List Int) (hl : l.length ≤ 35184372088832) : Ev (fun k => laws_toIntS.f k l) l := by
  have := laws_toIntS_l l (by omega) 0 (Nat.zero_le _) (List.replicate l.length 0) (by simp) (by simp)
  simp only [laws_toIntS.f, inn, if_true, Int.toNat_natCast, hl]
  exact this

theorem laws_toIntSS_l (m : List (List Int)) (h : Siz m) : ∀ i, i ≤ m.length → ∀ q : List (List Int), q.length = m.length → q.take i = m.take i → Ev (fun k => laws_toIntSS.l0 k m q (i : Int)) m := by
  have hm := h.1
  refine down ?_ ?_
  · intro q hq e
    refine Ev.succ ?_
    simp only [laws_toIntSS.l0, nlt (Nat.le_refl m.length), if_false]
    rw [← hq, List.take_length, hq, List.take_length] at e
    rw [e]
    exact Ev.now _
  · intro i hi ih q hq e
    have hrow : rd_L1 m (i : Int) = m[i] := by simp [rd_L1, List.getD_eq_getElem?_getD, hi]
    refine Ev.succ ?_
    simp only [laws_toIntSS.l0, ilt hi, inn, if_true, hrow, hq, wnext hi (by omega : m.length ≤ 4611686018427387904), Int.toNat_natCast]
    refine Ev.bind (laws_toIntS_ev m[i] (by have := h.2 _ (List.getElem_mem hi); omega)) ?_
    exact ih _ (by simpa using hq) (set_takeG m q i hi hq e)
theorem laws_toIntSS_ev (m : List (List Int)) (h : Siz m) : Ev (fun k => laws_toIntSS.f k m) m := by
  have hm := h.1
  have c : m.length ≤ 11728124029610 := by omega
  have := laws_toIntSS_l m h 0 (Nat.zero_le _) (List.replicate m.length []) (by simp) (by simp)
  simp only [laws_toIntSS.f, inn, if_true, Int.toNat_natCast, c]
  exact this

theorem laws_eqIntS_l (l m : List Int) (he : m.length = l.length) (hl : l.length ≤ 4611686018427387904) : ∀ i, i ≤ l.length → Ev (fun k => laws_eqIntS.l0 k l m (i : Int)) (decide (l.drop i = m.drop i)) := by
  refine down ?_ ?_
  · refine Ev.succ ?_
    simp only [laws_eqIntS.l0, nlt (Nat.le_refl l.length), if_false, List.drop_length]
    rw [← he, List.drop_length]
    exact Ev.now _
  · intro i hi ih
    refine Ev.succ ?_
    simp only [laws_eqIntS.l0, ilt hi, inn, if_true, he, rd_lt hi, rd_lt (he ▸ hi : i < m.length), wnext hi hl]
    rw [drop_cons hi, drop_cons (he ▸ hi : i < m.length)]
    by_cases hx : l[i] = m[i]
    · simp only [hx, if_true, List.cons.injEq, true_and]
      exact ih
    · simp only [hx, if_false, List.cons.injEq, false_and, decide_false]
      exact Ev.now _
theorem laws_eqIntS_ev (l m : List Int) (hl : l.length ≤ 4611686018427387904) : Ev (fun k => laws_eqIntS.f k l m) (decide (l = m)) := by
  simp only [laws_eqIntS.f]
  by_cases he : (l.length : Int) = (m.length : Int)
  · simp only [he, if_true]
    exact laws_eqIntS_l l m (by omega) hl 0 (Nat.zero_le _)
  · simp only [he, if_false]
    rw [decide_eq_false (fun h => he (by rw [h]))]
    exact Ev.now _
theorem laws_eqIntS_self (l : List Int) (hl : l.length ≤ 4611686018427387904) : Ev (fun k => laws_eqIntS.f k l l) true := by
  simpa using laws_eqIntS_ev l l hl

theorem laws_eqIntSS_l (m q : List (List Int)) (he : q.length = m.length) (h : Siz m) : ∀ i, i ≤ m.length → Ev (fun k => laws_eqIntSS.l0 k m q (i : Int)) (decide (m.drop i = q.drop i)) := by
  have hm := h.1
  refine down ?_ ?_
  · refine Ev.succ ?_
    simp only [laws_eqIntSS.l0, nlt (Nat.le_refl m.length), if_false, List.drop_length]
    rw [← he, List.drop_length]
    exact Ev.now _
  · intro i hi ih
    have h2 : i < q.length := by omega
    have hrow : rd_L1 m (i : Int) = m[i] := by simp [rd_L1, List.getD_eq_getElem?_getD, hi]
    have hrow2 : rd_L1 q (i : Int) = q[i] := by simp [rd_L1, List.getD_eq_getElem?_getD, h2]
    refine Ev.succ ?_
    simp only [laws_eqIntSS.l0, ilt hi, inn, if_true, he, hrow, hrow2, wnext hi (by omega : m.length ≤ 4611686018427387904)]
    refine Ev.bind (laws_eqIntS_ev m[i] q[i] (by have := h.2 _ (List.getElem_mem hi); omega)) ?_
    rw [drop_cons hi, drop_cons h2]
    by_cases hx : m[i] = q[i]
    · simp only [hx, decide_true, if_true, List.cons.injEq, true_and]
      exact ih
    · simp only [hx, decide_false, Bool.false_eq_true, if_false, List.cons.injEq, false_and]
      exact Ev.now _
theorem laws_eqIntSS_ev (m q : List (List Int)) (h : Siz m) : Ev (fun k => laws_eqIntSS.f k m q) (decide (m = q)) := by
  simp only [laws_eqIntSS.f]
  by_cases he : (m.length : Int) = (q.length : Int)
  · simp only [he, if_true]
    exact laws_eqIntSS_l m q (by omega) h 0 (Nat.zero_le _)
  · simp only [he, if_false]
    rw [decide_eq_false (fun h => he (by rw [h]))]
    exact Ev.now _
theorem laws_eqIntSS_self (m : List (List Int)) (h : Siz m) : Ev (fun k => laws_eqIntSS.f k m m) true := by
  simpa using laws_eqIntSS_ev m m h

theorem spec_l1In_e (a b c : Int) : spec_l1In.f a b c = some (wth a b c) := wth_opt a b c

theorem spec_l1All_l (l : List Int) (lo hi : Int) (hl : l.length ≤ 4611686018427387904) : ∀ i, i ≤ l.length → Ev (fun k => spec_l1All.l0 k lo hi l (l.length : Int) (i : Int)) (allW (l.drop i) lo hi) := by
  refine down ?_ ?_
  · refine Ev.succ ?_
    simp only [spec_l1All.l0, nlt (Nat.le_refl l.length), if_false, List.drop_length]
    exact Ev.now _
  · intro i hi ih
    refine Ev.succ ?_
    simp only [spec_l1All.l0, ilt hi, inn, if_true, spec_l1In_e, Option.bind_some, rd_lt hi, wnext hi hl]
    rw [drop_cons hi]
    exact Ev.andS fun _ => ih
theorem spec_l1All_ev (l : List Int) (lo hi : Int) (hl : l.length ≤ 4611686018427387904) : Ev (fun k => spec_l1All.f k l lo hi) (allW l lo hi) := by
  have := spec_l1All_l l lo hi hl 0 (Nat.zero_le _)
  simpa only [spec_l1All.f, List.drop_zero, Int.natCast_zero] using this

theorem spec_plGood_l (m : List (List Int)) (h : Siz m) : ∀ i, i ≤ m.length → Ev (fun k => spec_plGood.l0 k m m (m.length : Int) (i : Int)) ((m.drop i).all (rowOk m.length)) := by
  have hm := h.1
  refine down ?_ ?_
  · refine Ev.succ ?_
    simp only [spec_plGood.l0, nlt (Nat.le_refl m.length), if_false, List.drop_length, List.all_nil]
    exact Ev.now _
  · intro i hi ih
    have hrow : rd_L1 m (i : Int) = m[i] := by simp [rd_L1, List.getD_eq_getElem?_getD, hi]
    refine Ev.succ ?_
    simp only [spec_plGood.l0, ilt hi, inn, if_true, hrow, wnext hi (by omega : m.length ≤ 4611686018427387904)]
    rw [drop_cons hi, List.all_cons]
    by_cases c : m[i].length = m.length
    · have c2 : (m[i].length : Int) = (m.length : Int) := by omega
      simp only [c2, if_true, rowOk, c, decide_true, Bool.true_and]
      exact Ev.and (spec_l1All_ev m[i] 0 60 (by have := h.2 _ (List.getElem_mem hi); omega)) fun _ => ih
    · have c2 : ¬ (m[i].length : Int) = (m.length : Int) := by omega
      simp only [c2, if_false, rowOk, c, decide_false, Bool.false_and]
      exact Ev.now _
theorem spec_plGood_ev (m : List (List Int)) (h : Siz m) : Ev (fun k => spec_plGood.f k m) (planB m) := by
  simp only [spec_plGood.f, spec_l1In_e, Option.bind_some, planB]
  exact Ev.andS fun _ => spec_plGood_l m h 0 (Nat.zero_le _)

theorem spec_liGood_ev (l : List Int) (hl : l.length ≤ 4611686018427387904) : Ev (fun k => spec_liGood.f k l) (goodB l) := by
  simp only [spec_liGood.f, spec_l1In_e, Option.bind_some, goodB]
  exact Ev.andS fun _ => Ev.ret (f := fun t => t) (spec_l1All_ev l 0 60 hl)

theorem spec_liSum_l (l : List Int) (hl : l.length ≤ 4611686018427387904) : ∀ i, i ≤ l.length → ∀ acc, InR acc → Ev (fun k => spec_liSum.l0 k acc l (l.length : Int) (i : Int)) (wrap64 (acc + (l.drop i).sum)) := by
  refine down ?_ ?_
  · intro acc ha
    refine Ev.succ ?_
    simp only [spec_liSum.l0, nlt (Nat.le_refl l.length), if_false, List.drop_length, List.sum_nil, Int.add_zero, wR ha]
    exact Ev.now _
  · intro i hi ih acc ha
    refine Ev.succ ?_
    simp only [spec_liSum.l0, ilt hi, inn, if_true, rd_lt hi, wnext hi hl]
    rw [drop_cons hi, List.sum_cons, ← Int.add_assoc]
    exact (ih _ (inR_wrap _)).eqv (wrap_add _ _)
theorem spec_liSum_ev (l : List Int) (hl : l.length ≤ 4611686018427387904) : Ev (fun k => spec_liSum.f k l) (wrap64 l.sum) := by
  have := spec_liSum_l l hl 0 (Nat.zero_le _) 0 inR_0
  simpa only [spec_liSum.f, List.drop_zero, Int.zero_add, Int.natCast_zero] using this
theorem spec_liSum_good {l : List Int} (h : Lst l) : Ev (fun k => spec_liSum.f k l) l.sum :=
  (spec_liSum_ev l (by have := h.2.1; omega)).eqv (w64 (by have := h.sum; omega) (by have := h.sum; omega))

theorem spec_liFit_ev {a b : List Int} (ha : Lst a) (hb : Lst b) : Ev (fun k => spec_liFit.f k a b) (decide (a.length = b.length) && decide (a.sum = b.sum)) := by
  simp only [spec_liFit.f]
  by_cases h : a.length = b.length
  · have h2 : (a.length : Int) = (b.length : Int) := by omega
    simp only [h2, if_true, h, decide_true, Bool.true_and]
    refine Ev.bind (spec_liSum_good ha) ?_
    exact Ev.ret (f := fun t => a.sum == t) (spec_liSum_good hb)
  · have h2 : ¬ (a.length : Int) = (b.length : Int) := by omega
    simp only [h2, if_false, h, decide_false, Bool.false_and]
    exact Ev.now _

theorem spec_plSums_l1 (m : List (List Int)) (h : Plan m) (o : Nat) (ho : o < m.length) (rows : List Int) (R : List Int × List Int)
    (hk : Ev (fun k => spec_plSums.l0 k rows ((colsUpto m (o + 1)).map List.sum) m (m.length : Int) (wrap64 ((o : Int) + 1))) R) :
    ∀ j, j ≤ m[o].length → ∀ out : List Int, out.length = m.length → out.take j = ((colsUpto m (o + 1)).map List.sum).take j → out.drop j = ((colsUpto m o).map List.sum).drop j → Ev (fun k => spec_plSums.l1 k rows out m (m.length : Int) (o : Int) m[o] (m[o].length : Int) (j : Int)) R := by
  have hm := h.2.1
  have hl := (h.2.2 _ (List.getElem_mem ho)).1
  refine down ?_ ?_
  · intro out hout e1 e2
    refine Ev.succ ?_
    simp only [spec_plSums.l1, nlt (Nat.le_refl m[o].length), if_false]
    rw [hl, ← hout, List.take_length, hout, List.take_of_length_le (by rw [List.length_map, colsUpto_len]; exact Nat.le_refl _)] at e1
    rw [e1]
    exact hk
  · intro j hj ih out hout e1 e2
    have hj2 : j < out.length := by omega
    have hj3 : j < m.length := by omega
    have hc : ∀ q, j < ((colsUpto m q).map List.sum).length := fun q => by rw [List.length_map, colsUpto_len]; exact hj3
    have hx : out[j] = ((m.take o).map fun r => r.getD j 0).sum := by
      rw [drop_cons hj2, drop_cons (hc o)] at e2
      rw [(List.cons.inj e2).1, List.getElem_map, colsUpto_get hj3]
    have hb : 0 ≤ out[j] ∧ out[j] ≤ 480 := by
      rw [hx]
      have := sum_bound (l := (m.take o).map fun r => r.getD j 0) (lo := 0) (hi := 60) (by
        intro z hz
        obtain ⟨r, hr, rfl⟩ := List.mem_map.1 hz
        exact h.getD (List.mem_of_mem_take hr) j)
      rw [List.length_map, List.length_take] at this
      omega
    have hy := (h.2.2 _ (List.getElem_mem ho)).2 _ (List.getElem_mem hj)
    have hn : ((colsUpto m (o + 1)).map List.sum)[j]'(hc (o + 1)) = out[j] + m[o][j] := by
      rw [List.getElem_map, colsUpto_get hj3, hx, List.take_succ_eq_append_getElem ho, List.map_append, List.sum_append]
      simp [List.getD_eq_getElem?_getD, hj]
    refine Ev.succ ?_
    simp only [spec_plSums.l1, ilt hj, ilt hj2, inn, if_true, rd_lt hj, rd_lt hj2, wnext hj (by omega : m[o].length ≤ 4611686018427387904), Int.toNat_natCast]
    rw [w64 (x := out[j] + m[o][j]) (by omega) (by omega)]
    have st := set_takeG ((colsUpto m (o + 1)).map List.sum) out j (hc (o + 1)) (by rw [List.length_map, colsUpto_len]; exact hout) e1
    rw [hn] at st
    refine ih _ (by simpa using hout) st ?_
    rw [List.drop_set_of_lt (by omega)]
    rw [drop_cons hj2, drop_cons (hc o)] at e2
    exact (List.cons.inj e2).2
theorem spec_plSums_l0 (m : List (List Int)) (h : Plan m) : ∀ i, i ≤ m.length → ∀ rows : List Int, rows.length = i → Ev (fun k => spec_plSums.l0 k rows ((colsUpto m i).map List.sum) m (m.length : Int) (i : Int)) (rows ++ (m.drop i).map List.sum, (colsUpto m m.length).map List.sum) := by
  have hm := h.2.1
  refine down ?_ ?_
  · intro rows hr
    refine Ev.succ ?_
    simp only [spec_plSums.l0, nlt (Nat.le_refl m.length), if_false, List.drop_length, List.map_nil, List.append_nil]
    exact Ev.now _
  · intro i hi ih rows hr
    have hrow : rd_L1 m (i : Int) = m[i] := by simp [rd_L1, List.getD_eq_getElem?_getD, hi]
    have hs := h.short _ (List.getElem_mem hi)
    have lim : rows.length < 17592186044416 := by omega
    refine Ev.succ ?_
    simp only [spec_plSums.l0, ilt hi, inn, if_true, hrow]
    refine Ev.bind ((spec_liSum_ev m[i] (by have := hs.1; omega)).eqv (w64 (by have := hs.sum; omega) (by have := hs.sum; omega))) ?_
    simp only [lim, if_true]
    refine spec_plSums_l1 m h i hi _ _ ?_ 0 (Nat.zero_le _) _ (by rw [List.length_map, colsUpto_len]) rfl rfl
    rw [wnext hi (by omega : m.length ≤ 4611686018427387904), drop_cons hi, List.map_cons]
    exact (ih _ (by simp [hr])).eqv (by simp)
theorem spec_plSums_ev (m : List (List Int)) (h : Plan m) : Ev (fun k => spec_plSums.f k m) (m.map List.sum, (colsUpto m m.length).map List.sum) := by
  have hm := h.2.1
  have c1 : m.length ≤ 35184372088832 := by omega
  simp only [spec_plSums.f, inn, Int.toNat_natCast, c1, if_true]
  have := spec_plSums_l0 m h 0 (Nat.zero_le _) [] rfl
  rw [colsUpto_zero, List.map_replicate, List.sum_nil, List.drop_zero, List.nil_append] at this
  exact this

theorem spec_l1Same_l (l m : List Int) (he : m.length = l.length) (hl : l.length ≤ 4611686018427387904) : ∀ i, i ≤ l.length → Ev (fun k => spec_l1Same.l0 k l m (l.length : Int) (i : Int)) (decide (l.drop i = m.drop i)) := by
  refine down ?_ ?_
  · refine Ev.succ ?_
    simp only [spec_l1Same.l0, nlt (Nat.le_refl l.length), if_false, List.drop_length]
    rw [← he, List.drop_length]
    exact Ev.now _
  · intro i hi ih
    refine Ev.succ ?_
    simp only [spec_l1Same.l0, ilt hi, inn, if_true, he, rd_lt hi, rd_lt (he ▸ hi : i < m.length), wnext hi hl]
    rw [drop_cons hi, drop_cons (he ▸ hi : i < m.length)]
    by_cases hx : l[i] = m[i]
    · simp only [hx, if_true, List.cons.injEq, true_and]
      exact ih
    · simp only [hx, if_false, List.cons.injEq, false_and, decide_false]
      exact Ev.now _
theorem spec_l1Same_ev (l m : List Int) (hl : l.length ≤ 4611686018427387904) : Ev (fun k => spec_l1Same.f k l m) (decide (l = m)) := by
  simp only [spec_l1Same.f]
  by_cases he : (l.length : Int) = (m.length : Int)
  · simp only [he, if_true]
    have := spec_l1Same_l l m (by omega) hl 0 (Nat.zero_le _)
    rw [he] at this
    exact this
  · simp only [he, if_false]
    rw [decide_eq_false (fun h => he (by rw [h]))]
    exact Ev.now _

def isPlanR (m : List (List Int)) (a b : List Int) : Bool × Bool := if fits a b then (planB m && (decide (m.map List.sum = a) && decide ((colsUpto m m.length).map List.sum = b)), true) else (false, false)
theorem spec_IsPlan_ev (m : List (List Int)) (h : Siz m) (a b : List Int) (ha : a.length ≤ 1048576) (hb : b.length ≤ 1048576) : Ev (fun k => spec_IsPlan.f k m a b) (isPlanR m a b) := by
  simp only [spec_IsPlan.f, isPlanR]
  have off : Ev (fun k => spec_IsPlan.j0 k m a b true) (false, false) := by
    refine Ev.succ ?_
    simp only [spec_IsPlan.j0, if_true]
    exact Ev.now _
  refine Ev.bind (spec_liGood_ev a (by omega)) ?_
  cases g1 : goodB a with
  | false =>
    have hf : fits a b = false := by simp [fits, g1]
    simp only [hf, Bool.false_eq_true, if_false]; exact off
  | true =>
    simp only [if_true]
    refine Ev.bind (spec_liGood_ev b (by omega)) ?_
    cases g2 : goodB b with
    | false =>
      have hf : fits a b = false := by simp [fits, g2]
      simp only [hf, Bool.false_eq_true, if_false]; exact off
    | true =>
      simp only [if_true]
      refine Ev.bind (spec_liFit_ev (goodB_iff.1 g1) (goodB_iff.1 g2)) ?_
      have hf : fits a b = (decide (a.length = b.length) && decide (a.sum = b.sum)) := by simp [fits, g1, g2]
      rw [← hf]
      cases g3 : fits a b with
      | false => simp only [Bool.not_false, Bool.false_eq_true, if_false]; exact off
      | true =>
        simp only [Bool.not_true, if_true]
        refine Ev.succ ?_
        simp only [spec_IsPlan.j0, Bool.false_eq_true, if_false]
        refine Ev.bind (spec_plGood_ev m h) ?_
        cases g4 : planB m with
        | false => simp only [Bool.false_eq_true, if_false, Bool.false_and]; exact Ev.now _
        | true =>
          have hp := planB_iff.1 g4
          have hm := hp.2.1
          simp only [if_true, Bool.true_and]
          refine Ev.bind (spec_plSums_ev m hp) ?_
          refine Ev.bind (spec_l1Same_ev _ a (by rw [List.length_map]; omega)) ?_
          cases g5 : decide (m.map List.sum = a) with
          | false => simp only [Bool.false_eq_true, if_false, Bool.false_and]; exact Ev.now _
          | true =>
            simp only [if_true, Bool.true_and]
            exact Ev.ret (f := fun t => (t, true)) (spec_l1Same_ev _ b (by rw [List.length_map, colsUpto_len]; omega))

theorem impl_within_e (a b c : Int) : impl_within.f a b c = some (wth a b c) := wth_opt a b c

theorem impl_allWithin_l (l : List Int) (lo hi : Int) (hl : l.length ≤ 4611686018427387904) : ∀ i, i ≤ l.length → Ev (fun k => impl_allWithin.l0 k lo hi l (l.length : Int) (i : Int)) (allW (l.drop i) lo hi) := by
  refine down ?_ ?_
  · refine Ev.succ ?_
    simp only [impl_allWithin.l0, nlt (Nat.le_refl l.length), if_false, List.drop_length]
    exact Ev.now _
  · intro i hi ih
    refine Ev.succ ?_
    simp only [impl_allWithin.l0, ilt hi, inn, if_true, impl_within_e, Option.bind_some, rd_lt hi, wnext hi hl]
    rw [drop_cons hi]
    exact Ev.andS fun _ => ih
theorem impl_allWithin_ev (l : List Int) (lo hi : Int) (hl : l.length ≤ 4611686018427387904) : Ev (fun k => impl_allWithin.f k l lo hi) (allW l lo hi) := by
  have := impl_allWithin_l l lo hi hl 0 (Nat.zero_le _)
  simpa only [impl_allWithin.f, List.drop_zero, Int.natCast_zero] using this

theorem impl_isPlan_row_ev (n : Nat) (l : List Int) (hl : l.length ≤ 1048576) : Ev (fun k => impl_isPlan.row k n l) (!rowOk n l) := by
  simp only [impl_isPlan.row, rowOk]
  by_cases c : l.length = n
  · simp only [c, if_true, decide_true, Bool.true_and]
    exact Ev.ret (f := fun t => !t) (impl_allWithin_ev l 0 60 (by omega))
  · simp only [c, if_false, decide_false, Bool.false_and, Bool.not_false]
    exact Ev.now _
theorem impl_isPlan_l (m : List (List Int)) (h : Siz m) : ∀ i, i ≤ m.length → ∃ j : Int, Ev (fun k => impl_isPlan.l0 k m (i : Int)) j ∧ decide (j ≥ 0) = !((m.drop i).all (rowOk m.length)) := by
  have hm := h.1
  refine down ?_ ?_
  · refine ⟨-1, ?_, by simp⟩
    refine Ev.succ ?_
    simp only [impl_isPlan.l0, nlt (Nat.le_refl m.length), if_false]
    exact Ev.now _
  · intro i hi ⟨j, ih, hj⟩
    have hg : rd_L1 m (i : Int) = m[i] := by simp [rd_L1, List.getD_eq_getElem?_getD, hi]
    have hb := impl_isPlan_row_ev m.length m[i] (h.2 _ (List.getElem_mem hi))
    cases c : rowOk m.length m[i] with
    | true =>
      refine ⟨j, ?_, by rw [hj, drop_cons hi, List.all_cons, c, Bool.true_and]⟩
      rw [c] at hb
      refine Ev.succ ?_
      simp only [impl_isPlan.l0, ilt hi, inn, if_true, hg, wnext hi (by omega : m.length ≤ 4611686018427387904)]
      refine Ev.bind hb ?_
      simp only [Bool.not_true, Bool.false_eq_true, if_false]
      exact ih
    | false =>
      refine ⟨(i : Int), ?_, by rw [drop_cons hi, List.all_cons, c, Bool.false_and]; simp⟩
      rw [c] at hb
      refine Ev.succ ?_
      simp only [impl_isPlan.l0, ilt hi, inn, if_true, hg]
      refine Ev.bind hb ?_
      simp only [Bool.not_false, if_true]
      exact Ev.now _
theorem impl_isPlan_ev (m : List (List Int)) (h : Siz m) : Ev (fun k => impl_isPlan.f k m) (planB m) := by
  simp only [impl_isPlan.f, impl_within_e, Option.bind_some, planB]
  refine Ev.andS fun _ => ?_
  obtain ⟨j, hE, hj⟩ := impl_isPlan_l m h 0 (Nat.zero_le _)
  refine (Ev.ret (f := fun j : Int => !decide (j ≥ 0)) hE).eqv ?_
  rw [hj, Bool.not_not, List.drop_zero]

theorem impl_turn_l1 (m : List (List Int)) (h : Plan m) (o : Nat) (ho : o < m.length) (R : List (List Int))
    (hk : Ev (fun k => impl_turn.l0 k (colsUpto m (o + 1)) m (m.length : Int) (wrap64 ((o : Int) + 1))) R) :
    ∀ j, j ≤ m[o].length → ∀ out : List (List Int), out.length = m.length → out.take j = (colsUpto m (o + 1)).take j → out.drop j = (colsUpto m o).drop j → Ev (fun k => impl_turn.l1 k out m (m.length : Int) (o : Int) m[o] (m[o].length : Int) (j : Int)) R := by
  have hm := h.2.1
  have hl := (h.2.2 _ (List.getElem_mem ho)).1
  refine down ?_ ?_
  · intro out hout e1 e2
    refine Ev.succ ?_
    simp only [impl_turn.l1, nlt (Nat.le_refl m[o].length), if_false]
    rw [hl, ← hout, List.take_length, hout, List.take_of_length_le (by rw [colsUpto_len]; exact Nat.le_refl _)] at e1
    rw [e1]
    exact hk
  · intro j hj ih out hout e1 e2
    have hj2 : j < out.length := by omega
    have hj3 : j < m.length := by omega
    have hrow : rd_L1 out (j : Int) = out[j] := by simp [rd_L1, List.getD_eq_getElem?_getD, hj2]
    have hx : out[j] = (m.take o).map fun r => r.getD j 0 := by
      rw [drop_cons hj2, drop_cons (l := colsUpto m o) (by rw [colsUpto_len]; exact hj3)] at e2
      rw [(List.cons.inj e2).1, colsUpto_get hj3]
    have lim : out[j].length < 17592186044416 := by rw [hx, List.length_map, List.length_take]; omega
    have hn : (colsUpto m (o + 1))[j]'(by rw [colsUpto_len]; exact hj3) = out[j] ++ [m[o][j]] := by
      rw [colsUpto_get hj3, hx, List.take_succ_eq_append_getElem ho, List.map_append]
      simp [List.getD_eq_getElem?_getD, hj]
    refine Ev.succ ?_
    simp only [impl_turn.l1, ilt hj, ilt hj2, inn, if_true, rd_lt hj, hrow, lim, wnext hj (by omega : m[o].length ≤ 4611686018427387904), Int.toNat_natCast]
    have st := set_takeG (colsUpto m (o + 1)) out j (by rw [colsUpto_len]; exact hj3) (by rw [colsUpto_len]; exact hout) e1
    rw [hn] at st
    refine ih _ (by simpa using hout) st ?_
    rw [List.drop_set_of_lt (by omega)]
    rw [drop_cons hj2, drop_cons (l := colsUpto m o) (by rw [colsUpto_len]; exact hj3)] at e2
    exact (List.cons.inj e2).2
theorem impl_turn_l0 (m : List (List Int)) (h : Plan m) : ∀ i, i ≤ m.length → Ev (fun k => impl_turn.l0 k (colsUpto m i) m (m.length : Int) (i : Int)) (colsUpto m m.length) := by
  have hm := h.2.1
  refine down ?_ ?_
  · refine Ev.succ ?_
    simp only [impl_turn.l0, nlt (Nat.le_refl m.length), if_false]
    exact Ev.now _
  · intro i hi ih
    have hrow : rd_L1 m (i : Int) = m[i] := by simp [rd_L1, List.getD_eq_getElem?_getD, hi]
    refine Ev.succ ?_
    simp only [impl_turn.l0, ilt hi, inn, if_true, hrow]
    refine impl_turn_l1 m h i hi _ ?_ 0 (Nat.zero_le _) _ (colsUpto_len _ _) rfl rfl
    rw [wnext hi (by omega : m.length ≤ 4611686018427387904)]
    exact ih
theorem impl_turn_ev (m : List (List Int)) (h : Plan m) : Ev (fun k => impl_turn.f k m) (colsUpto m m.length) := by
  have h0 : 0 < m.length := h.1
  have hrow : rd_L1 m 0 = m[0] := by simp [rd_L1, List.getD_eq_getElem?_getD, h0]
  have hl := (h.2.2 _ (List.getElem_mem h0)).1
  have hm := h.2.1
  have c0 : 0 < (m.length : Int) := by omega
  have c1 : m.length ≤ 11728124029610 := by omega
  simp only [impl_turn.f, hrow, hl, c0, inn, Int.toNat_natCast, c1, if_true]
  have := impl_turn_l0 m h 0 (Nat.zero_le _)
  rw [colsUpto_zero] at this
  exact this

theorem impl_IsList_ev (l : List Int) (hl : l.length ≤ 4611686018427387904) : Ev (fun k => impl_IsList.f k l) (goodB l) := by
  simp only [impl_IsList.f, impl_within_e, Option.bind_some, goodB]
  exact Ev.andS fun _ => Ev.ret (f := fun t => t) (impl_allWithin_ev l 0 60 hl)

theorem impl_areLists_ev (a b : List Int) (ha : a.length ≤ 1048576) (hb : b.length ≤ 1048576) : Ev (fun k => impl_areLists.f k a b) (goodB a && goodB b) := by
  simp only [impl_areLists.f]
  exact Ev.and (impl_IsList_ev a (by omega)) fun h => Ev.ret (f := fun t => t) (impl_IsList_ev b (by omega))

theorem impl_total_l (l : List Int) (hl : l.length ≤ 4611686018427387904) : ∀ i, i ≤ l.length → ∀ acc, InR acc → Ev (fun k => impl_total.l0 k acc l (l.length : Int) (i : Int)) (wrap64 (acc + (l.drop i).sum)) := by
  refine down ?_ ?_
  · intro acc ha
    refine Ev.succ ?_
    simp only [impl_total.l0, nlt (Nat.le_refl l.length), if_false, List.drop_length, List.sum_nil, Int.add_zero, wR ha]
    exact Ev.now _
  · intro i hi ih acc ha
    refine Ev.succ ?_
    simp only [impl_total.l0, ilt hi, inn, if_true, rd_lt hi, wnext hi hl]
    rw [drop_cons hi, List.sum_cons, ← Int.add_assoc]
    exact (ih _ (inR_wrap _)).eqv (wrap_add _ _)
theorem impl_total_ev (l : List Int) (hl : l.length ≤ 4611686018427387904) : Ev (fun k => impl_total.f k l) (wrap64 l.sum) := by
  have := impl_total_l l hl 0 (Nat.zero_le _) 0 inR_0
  simpa only [impl_total.f, List.drop_zero, Int.zero_add, Int.natCast_zero] using this
theorem impl_total_good {l : List Int} (h : Lst l) : Ev (fun k => impl_total.f k l) l.sum :=
  (impl_total_ev l (by have := h.2.1; omega)).eqv (w64 (by have := h.sum; omega) (by have := h.sum; omega))

theorem impl_doFit_ev {a b : List Int} (ha : Lst a) (hb : Lst b) : Ev (fun k => impl_doFit.f k a b) (decide (a.length = b.length) && decide (a.sum = b.sum)) := by
  simp only [impl_doFit.f]
  by_cases h : a.length = b.length
  · have h2 : (a.length : Int) = (b.length : Int) := by omega
    simp only [h2, if_true, h, decide_true, Bool.true_and]
    refine Ev.bind (impl_total_good ha) ?_
    exact Ev.ret (f := fun t => a.sum == t) (impl_total_good hb)
  · have h2 : ¬ (a.length : Int) = (b.length : Int) := by omega
    simp only [h2, if_false, h, decide_false, Bool.false_and]
    exact Ev.now _

theorem impl_areFitting_ev (a b : List Int) (ha : a.length ≤ 1048576) (hb : b.length ≤ 1048576) : Ev (fun k => impl_areFitting.f k a b) (fits a b) := by
  simp only [impl_areFitting.f]
  refine (Ev.and (b := decide (a.length = b.length) && decide (a.sum = b.sum)) (impl_areLists_ev a b ha hb) fun h => ?_).eqv (Bool.and_assoc _ _ _)
  rw [Bool.and_eq_true, goodB_iff, goodB_iff] at h
  exact Ev.ret (f := fun t => t) (impl_doFit_ev h.1 h.2)

theorem slices_Equal_int_int_l (l m : List Int) (he : m.length = l.length) (hl : l.length ≤ 4611686018427387904) : ∀ i, i ≤ l.length → Ev (fun k => slices_Equal_int_int.l0 k l m (l.length : Int) (i : Int)) (decide (l.drop i = m.drop i)) := by
  refine down ?_ ?_
  · refine Ev.succ ?_
    simp only [slices_Equal_int_int.l0, nlt (Nat.le_refl l.length), if_false, List.drop_length]
    rw [← he, List.drop_length]
    exact Ev.now _
  · intro i hi ih
    refine Ev.succ ?_
    simp only [slices_Equal_int_int.l0, ilt hi, inn, if_true, he, rd_lt hi, rd_lt (he ▸ hi : i < m.length), wnext hi hl]
    rw [drop_cons hi, drop_cons (he ▸ hi : i < m.length)]
    by_cases hx : l[i] = m[i]
    · simp only [hx, if_true, List.cons.injEq, true_and]
      exact ih
    · simp only [hx, if_false, List.cons.injEq, false_and, decide_false]
      exact Ev.now _
theorem slices_Equal_int_int_ev (l m : List Int) (hl : l.length ≤ 4611686018427387904) : Ev (fun k => slices_Equal_int_int.f k l m) (decide (l = m)) := by
  simp only [slices_Equal_int_int.f]
  by_cases he : (l.length : Int) = (m.length : Int)
  · simp only [he, if_true]
    have := slices_Equal_int_int_l l m (by omega) hl 0 (Nat.zero_le _)
    rw [he] at this
    exact this
  · simp only [he, if_false]
    rw [decide_eq_false (fun h => he (by rw [h]))]
    exact Ev.now _

theorem impl_rowSums_l (m : List (List Int)) (hm : m.length ≤ 8) (h : ∀ r ∈ m, Short r) : ∀ i, i ≤ m.length → ∀ out : List Int, out.length = i → Ev (fun k => impl_rowSums.l0 k out m (m.length : Int) (i : Int)) (out ++ (m.drop i).map List.sum) := by
  refine down ?_ ?_
  · intro out ho
    refine Ev.succ ?_
    simp only [impl_rowSums.l0, nlt (Nat.le_refl m.length), if_false, List.drop_length, List.map_nil, List.append_nil]
    exact Ev.now _
  · intro i hi ih out ho
    have hrow : rd_L1 m (i : Int) = m[i] := by simp [rd_L1, List.getD_eq_getElem?_getD, hi]
    have c : out.length < 17592186044416 := by omega
    have hs := h _ (List.getElem_mem hi)
    refine Ev.succ ?_
    simp only [impl_rowSums.l0, ilt hi, inn, if_true, hrow, wnext hi (by omega : m.length ≤ 4611686018427387904)]
    refine Ev.bind ((impl_total_ev m[i] (by have := hs.1; omega)).eqv (w64 (by have := hs.sum; omega) (by have := hs.sum; omega))) ?_
    simp only [c, if_true]
    rw [drop_cons hi, List.map_cons]
    exact (ih _ (by simp [ho])).eqv (by simp)
theorem impl_rowSums_ev (m : List (List Int)) (hm : m.length ≤ 8) (h : ∀ r ∈ m, Short r) : Ev (fun k => impl_rowSums.f k m) (m.map List.sum) := by
  have := impl_rowSums_l m hm h 0 (Nat.zero_le _) [] rfl
  simpa only [impl_rowSums.f, List.drop_zero, List.nil_append, Int.natCast_zero] using this

theorem impl_IsPlan_ev (m : List (List Int)) (h : Siz m) (a b : List Int) (ha : a.length ≤ 1048576) (hb : b.length ≤ 1048576) : Ev (fun k => impl_IsPlan.f k m a b) (isPlanR m a b) := by
  simp only [impl_IsPlan.f, isPlanR]
  refine Ev.bind (impl_areFitting_ev a b ha hb) ?_
  cases g3 : fits a b with
  | false => simp only [Bool.false_eq_true, if_false]; exact Ev.now _
  | true =>
    simp only [if_true]
    refine Ev.bind (impl_isPlan_ev m h) ?_
    cases g4 : planB m with
    | false => simp only [Bool.false_eq_true, if_false, Bool.false_and]; exact Ev.now _
    | true =>
      have hp := planB_iff.1 g4
      have hm := hp.2.1
      simp only [if_true, Bool.true_and]
      refine Ev.bind (impl_rowSums_ev m hm hp.short) ?_
      refine Ev.bind (slices_Equal_int_int_ev _ a (by rw [List.length_map]; omega)) ?_
      cases g5 : decide (m.map List.sum = a) with
      | false => simp only [Bool.false_eq_true, if_false, Bool.false_and]; exact Ev.now _
      | true =>
        simp only [if_true, Bool.true_and]
        refine Ev.bind (impl_turn_ev m hp) ?_
        refine Ev.bind (impl_rowSums_ev _ (by rw [colsUpto_len]; omega) hp.colsShort) ?_
        exact Ev.ret (f := fun t => (t, true)) (slices_Equal_int_int_ev _ b (by rw [List.length_map, colsUpto_len]; omega))

theorem FnExactIsPlan_pure (m : List (List Int)) (a b : List Int) (hm : m.length ≤ maxLen) (hr : ∀ r ∈ m, r.length ≤ maxLen) (hma : a.length ≤ maxLen) (hsa : a.length * 8 ≤ 140737488351232) (hwa : ∀ x ∈ a, (Lit.int .i64 x).wf = true) (hmb : b.length ≤ maxLen) (hsb : b.length * 8 ≤ 140737488351232) (hwb : ∀ x ∈ b, (Lit.int .i64 x).wf = true) : ∃ k, laws_FnExactIsPlan.f k m a b = some true := by
  refine Ev.rounds ?_
  simp only [laws_FnExactIsPlan.f]
  by_cases hba : (a.length : Int) > 1048576
  · simp only [hba, if_true]; exact Ev.now _
  · simp only [hba, if_false]
    by_cases hbb : (b.length : Int) > 1048576
    · simp only [hbb, if_true]; exact Ev.now _
    · simp only [hbb, if_false]
      obtain ⟨s, hE, q1, q2, q3⟩ := laws_szIntSS_ev m (by simpa [maxLen] using hm) (by simpa [maxLen] using hr) 1048576 (by omega) (by omega)
      refine Ev.bind hE ?_
      by_cases c : s < 0
      · simp only [c, if_true]; exact Ev.now _
      · simp only [c, if_false]
        have h := q3 (by omega)
        refine Ev.bind (laws_toIntSS_ev m h) ?_
        refine Ev.bind (laws_toIntS_ev a (by omega)) ?_
        refine Ev.bind (laws_toIntS_ev b (by omega)) ?_
        refine Ev.bind (spec_IsPlan_ev m h a b (by omega) (by omega)) ?_
        refine Ev.bind (laws_toIntSS_ev m h) ?_
        refine Ev.bind (laws_toIntS_ev a (by omega)) ?_
        refine Ev.bind (laws_toIntS_ev b (by omega)) ?_
        refine Ev.bind (impl_IsPlan_ev m h a b (by omega) (by omega)) ?_
        simp only [bne_self_eq_false, Bool.false_eq_true, if_false, if_true]
        refine Ev.succ ?_
        simp only [laws_FnExactIsPlan.j0, Bool.false_eq_true, if_false]
        refine Ev.bind (laws_toIntSS_ev m h) ?_
        refine Ev.bind (laws_eqIntSS_self m h) ?_
        simp only [if_true]
        refine Ev.bind (laws_toIntS_ev a (by omega)) ?_
        refine Ev.bind (laws_eqIntS_self a (by omega)) ?_
        simp only [if_true]
        refine Ev.bind (laws_toIntS_ev b (by omega)) ?_
        refine Ev.bind (laws_eqIntS_self b (by omega)) ?_
        simp only [if_true]
        exact Ev.now _

end Go.Proofs.Ytnbhmanmdgjceaa.Pure
