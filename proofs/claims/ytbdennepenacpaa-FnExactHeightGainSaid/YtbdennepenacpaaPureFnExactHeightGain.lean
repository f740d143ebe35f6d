/- The program's HeightGain returns what the reference's returns, for all arguments; the printed functions' own bounds on lengths are the only conditions. -/
import Derived.Test.YtbdennepenacpaaPFnExactHeightGainx3
import Derived.Test.YtbdennepenacpaaMath
namespace Go.Proofs.Ytbdennepenacpaa.Pure
open Go.RowKit Go.Proofs.Ytbdennepenacpaa.PFnExactHeightGain Go.Proofs.YtbdennepenacpaaW.PrintWords Go.Proofs.YtbdennepenacpaaW.PrintLast Go.Proofs.YtbdennepenacpaaW.PrintMore Go.Proofs.Ytbdennepenacpaa.Math
set_option linter.unusedVariables false
set_option linter.unusedSimpArgs false
set_option linter.unusedSectionVars false

theorem laws_toIntS_l (l : List Int) (hl : l.length ≤ 4611686018427387904) : ∀ i, i ≤ l.length → ∀ m : List Int, m.length = l.length → m.take i = l.take i → Ev (fun k => laws_toIntS.l0 k l m (i : Int)) l := by
  refine down ?_ ?_
  · intro m hm h
    refine Ev.succ ?_
    simp only [laws_toIntS.l0, nlt (Nat.le_refl l.length), if_false]
    rw [← hm, List.take_length, hm, List.take_length] at h
    rw [h]
    exact Ev.now _
  · intro i hi ih m hm h
    refine Ev.succ ?_
    simp only [laws_toIntS.l0, ilt hi, inn, if_true, hm, rd_lt hi, wnext hi hl, Int.toNat_natCast]
    exact ih _ (by simpa using hm) (set_take l m i hi hm h)
theorem laws_toIntS_ev (l : List Int) (hl : l.length ≤ 35184372088832) : Ev (fun k => laws_toIntS.f k l) l := by
  have := laws_toIntS_l l (by omega) 0 (Nat.zero_le _) (List.replicate l.length 0) (by simp) (by simp)
  simp only [laws_toIntS.f, inn, if_true, Int.toNat_natCast, hl]
  exact this

theorem laws_eqIntS_l (l m : List Int) (he : m.length = l.length) (hl : l.length ≤ 4611686018427387904) : ∀ i, i ≤ l.length → Ev (fun k => laws_eqIntS.l0 k l m (i : Int)) (decide (l.drop i = m.drop i)) := by
  refine down ?_ ?_
  · refine Ev.succ ?_
    simp only [laws_eqIntS.l0, nlt (Nat.le_refl l.length), if_false, List.drop_length]
    rw [← he, List.drop_length]
    exact Ev.now _
  · intro i hi ih
    refine Ev.succ ?_
    simp only [laws_eqIntS.l0, ilt hi, inn, if_true, he, rd_lt hi, rd_lt (he ▸ hi : i < m.length), wnext hi hl]
    rw [drop_cons hi, drop_cons (he ▸ hi : i < m.length)]
    by_cases hx : l[i] = m[i]
    · simp only [hx, if_true, List.cons.injEq, true_and]
      exact ih
    · simp only [hx, if_false, List.cons.injEq, false_and, decide_false]
      exact Ev.now _
theorem laws_eqIntS_ev (l m : List Int) (hl : l.length ≤ 4611686018427387904) : Ev (fun k => laws_eqIntS.f k l m) (decide (l = m)) := by
  simp only [laws_eqIntS.f]
  by_cases he : (l.length : Int) = (m.length : Int)
  · simp only [he, if_true]
    exact laws_eqIntS_l l m (by omega) hl 0 (Nat.zero_le _)
  · simp only [he, if_false]
    rw [decide_eq_false (fun h => he (by rw [h]))]
    exact Ev.now _
theorem laws_eqIntS_self (l : List Int) (hl : l.length ≤ 4611686018427387904) : Ev (fun k => laws_eqIntS.f k l l) true := by
  simpa using laws_eqIntS_ev l l hl

theorem spec_l1In_e (a b c : Int) : spec_l1In.f a b c = some (wth a b c) := wth_opt a b c

theorem spec_l1All_l (l : List Int) (lo hi : Int) (hl : l.length ≤ 4611686018427387904) : ∀ i, i ≤ l.length → Ev (fun k => spec_l1All.l0 k lo hi l (l.length : Int) (i : Int)) (allW (l.drop i) lo hi) := by
  refine down ?_ ?_
  · refine Ev.succ ?_
    simp only [spec_l1All.l0, nlt (Nat.le_refl l.length), if_false, List.drop_length]
    exact Ev.now _
  · intro i hi ih
    refine Ev.succ ?_
    simp only [spec_l1All.l0, ilt hi, inn, if_true, spec_l1In_e, Option.bind_some, rd_lt hi, wnext hi hl]
    rw [drop_cons hi]
    exact Ev.andS fun _ => ih
theorem spec_l1All_ev (l : List Int) (lo hi : Int) (hl : l.length ≤ 4611686018427387904) : Ev (fun k => spec_l1All.f k l lo hi) (allW l lo hi) := by
  have := spec_l1All_l l lo hi hl 0 (Nat.zero_le _)
  simpa only [spec_l1All.f, List.drop_zero, Int.natCast_zero] using this

theorem spec_liGood_ev (l : List Int) (hl : l.length ≤ 4611686018427387904) : Ev (fun k => spec_liGood.f k l) (goodB l) := by
  simp only [spec_liGood.f, spec_l1In_e, Option.bind_some, goodB]
  exact Ev.andS fun _ => Ev.ret (f := fun t => t) (spec_l1All_ev l 0 60 hl)

theorem spec_liSum_l (l : List Int) (hl : l.length ≤ 4611686018427387904) : ∀ i, i ≤ l.length → ∀ acc, InR acc → Ev (fun k => spec_liSum.l0 k acc l (l.length : Int) (i : Int)) (wrap64 (acc + (l.drop i).sum)) := by
  refine down ?_ ?_
  · intro acc ha
    refine Ev.succ ?_
    simp only [spec_liSum.l0, nlt (Nat.le_refl l.length), if_false, List.drop_length, List.sum_nil, Int.add_zero, wR ha]
    exact Ev.now _
  · intro i hi ih acc ha
    refine Ev.succ ?_
    simp only [spec_liSum.l0, ilt hi, inn, if_true, rd_lt hi, wnext hi hl]
    rw [drop_cons hi, List.sum_cons, ← Int.add_assoc]
    exact (ih _ (inR_wrap _)).eqv (wrap_add _ _)
theorem spec_liSum_ev (l : List Int) (hl : l.length ≤ 4611686018427387904) : Ev (fun k => spec_liSum.f k l) (wrap64 l.sum) := by
  have := spec_liSum_l l hl 0 (Nat.zero_le _) 0 inR_0
  simpa only [spec_liSum.f, List.drop_zero, Int.zero_add, Int.natCast_zero] using this
theorem spec_liSum_good {l : List Int} (h : Lst l) : Ev (fun k => spec_liSum.f k l) l.sum :=
  (spec_liSum_ev l (by have := h.2.1; omega)).eqv (w64 (by have := h.sum; omega) (by have := h.sum; omega))

theorem spec_liFit_ev {a b : List Int} (ha : Lst a) (hb : Lst b) : Ev (fun k => spec_liFit.f k a b) (decide (a.length = b.length) && decide (a.sum = b.sum)) := by
  simp only [spec_liFit.f]
  by_cases h : a.length = b.length
  · have h2 : (a.length : Int) = (b.length : Int) := by omega
    simp only [h2, if_true, h, decide_true, Bool.true_and]
    refine Ev.bind (spec_liSum_good ha) ?_
    exact Ev.ret (f := fun t => a.sum == t) (spec_liSum_good hb)
  · have h2 : ¬ (a.length : Int) = (b.length : Int) := by omega
    simp only [h2, if_false, h, decide_false, Bool.false_and]
    exact Ev.now _

theorem spec_plBoth_ev (a b : List Int) (ha : a.length ≤ 1048576) (hb : b.length ≤ 1048576) : Ev (fun k => spec_plBoth.f k a b) (fits a b) := by
  simp only [spec_plBoth.f]
  refine Ev.and (spec_liGood_ev a (by omega)) fun h => ?_
  refine Ev.and (spec_liGood_ev b (by omega)) fun h2 => ?_
  exact Ev.ret (f := fun t => t) (spec_liFit_ev (goodB_iff.1 h) (goodB_iff.1 h2))

theorem spec_plHeights_l (l : List Int) (hl : l.length ≤ 1048576) (hb : ∀ x ∈ l, -100 ≤ x ∧ x ≤ 100) : ∀ i, i ≤ l.length - 1 → Ev (fun k => spec_plHeights.l0 k l ((i + 1 : Nat) : Int)) (adj hp (l.drop i) && wth l.length 1 8) := by
  refine down ?_ ?_
  · refine Ev.succ ?_
    simp only [spec_plHeights.l0, nlt (by omega : l.length ≤ l.length - 1 + 1), if_false, spec_l1In_e, Option.bind_some]
    rw [adj_short (by simp; omega), Bool.true_and]
    exact Ev.now _
  · intro i hi ih
    have h0 : i < l.length := by omega
    have h1 : i + 1 < l.length := by omega
    have b0 := hb _ (List.getElem_mem h0)
    have b1 := hb _ (List.getElem_mem h1)
    refine Ev.succ ?_
    simp only [spec_plHeights.l0, ilt h1, inn, if_true, wprev (by omega : i ≤ 4611686018427387904), ilt h0, spec_l1In_e, Option.bind_some, rd_lt h0, rd_lt h1, wnext h1 (by omega)]
    rw [drop_cons h0, drop_cons h1, adj, ← drop_cons h1, w64 (by omega) (by omega), Bool.and_assoc]
    exact Ev.andS fun _ => ih
theorem spec_plHeights_ev (l : List Int) (hl : l.length ≤ 1048576) (hb : ∀ x ∈ l, -100 ≤ x ∧ x ≤ 100) : Ev (fun k => spec_plHeights.f k l) (adj hp l && wth l.length 1 8) := by
  simp only [spec_plHeights.f]
  exact spec_plHeights_l l hl hb 0 (Nat.zero_le _)

theorem spec_plHigh_ev (l : List Int) (hl : l.length ≤ 1048576) : Ev (fun k => spec_plHigh.f k l) (heightsB l) := by
  simp only [spec_plHigh.f]
  refine (Ev.and (b := adj hp l && wth l.length 1 8) (spec_l1All_ev l _ _ (by omega)) fun h => Ev.ret (f := fun t => t) (spec_plHeights_ev l hl (allW_iff.1 h))).eqv ?_
  unfold heightsB
  cases wth l.length 1 8 <;> simp

theorem spec_syArranged_l (l m : List Int) (hl : l.length ≤ 1048576) (hm : l.length ≤ m.length) : ∀ i, i ≤ l.length → ∀ acc, InR acc → Ev (fun k => spec_syArranged.l0 k m acc l (l.length : Int) (i : Int)) (wrap64 (acc + dot (l.drop i) (m.drop i))) := by
  refine down ?_ ?_
  · intro acc ha
    refine Ev.succ ?_
    simp only [spec_syArranged.l0, nlt (Nat.le_refl l.length), if_false, List.drop_length, dot_nil, Int.add_zero, wR ha]
    exact Ev.now _
  · intro i hi ih acc ha
    have h2 : i < m.length := by omega
    refine Ev.succ ?_
    simp only [spec_syArranged.l0, ilt hi, ilt h2, inn, if_true, rd_lt hi, rd_lt h2, wnext hi (by omega : l.length ≤ 4611686018427387904)]
    rw [drop_cons hi, drop_cons h2, dot_cons, ← Int.add_assoc]
    refine (ih _ (inR_wrap _)).eqv ?_
    rw [wrap_add, Int.add_right_comm, wrap_add', Int.add_right_comm]
theorem spec_syArranged_ev (l m : List Int) (hl : l.length ≤ 1048576) (hm : l.length ≤ m.length) : Ev (fun k => spec_syArranged.f k l m) (wrap64 (dot l m)) := by
  have := spec_syArranged_l l m hl hm 0 (Nat.zero_le _) 0 inR_0
  simpa only [spec_syArranged.f, List.drop_zero, Int.zero_add, Int.natCast_zero] using this

theorem spec_HeightGain_ev (h a b : List Int) (hh : h.length ≤ 1048576) (ha : a.length ≤ 1048576) (hb : b.length ≤ 1048576) : Ev (fun k => spec_HeightGain.f k h a b) (if heightsB h && (fits a b && decide (h.length = a.length)) then (wrap64 (wrap64 (dot h a) - wrap64 (dot h b)), true) else (0, false)) := by
  simp only [spec_HeightGain.f]
  have off : Ev (fun k => spec_HeightGain.j0 k h a b true) (0, false) := by
    refine Ev.succ ?_
    simp only [spec_HeightGain.j0, if_true]
    exact Ev.now _
  refine Ev.bind (spec_plHigh_ev h hh) ?_
  cases h1 : heightsB h with
  | false => simp only [Bool.false_eq_true, if_false, Bool.false_and]; exact off
  | true =>
    simp only [if_true, Bool.true_and]
    refine Ev.bind (spec_plBoth_ev a b ha hb) ?_
    cases h2 : fits a b with
    | false => simp only [Bool.false_eq_true, if_false, Bool.false_and]; exact off
    | true =>
      simp only [if_true, Bool.true_and]
      have h3 := (fits_iff.1 h2).2.2.1
      by_cases e : h.length = a.length
      · simp only [e, bne_self_eq_false, decide_true, if_true]
        refine Ev.succ ?_
        simp only [spec_HeightGain.j0, Bool.false_eq_true, if_false]
        refine Ev.bind (spec_syArranged_ev h a hh (by omega)) ?_
        exact Ev.ret (f := fun t => (wrap64 (wrap64 (dot h a) - t), true)) (spec_syArranged_ev h b hh (by omega))
      · have e2 : ((h.length : Int) != (a.length : Int)) = true := by simp; omega
        simp only [e2, e, decide_false, Bool.false_eq_true, if_false]
        exact off

theorem impl_within_e (a b c : Int) : impl_within.f a b c = some (wth a b c) := wth_opt a b c

theorem impl_allWithin_l (l : List Int) (lo hi : Int) (hl : l.length ≤ 4611686018427387904) : ∀ i, i ≤ l.length → Ev (fun k => impl_allWithin.l0 k lo hi l (l.length : Int) (i : Int)) (allW (l.drop i) lo hi) := by
  refine down ?_ ?_
  · refine Ev.succ ?_
    simp only [impl_allWithin.l0, nlt (Nat.le_refl l.length), if_false, List.drop_length]
    exact Ev.now _
  · intro i hi ih
    refine Ev.succ ?_
    simp only [impl_allWithin.l0, ilt hi, inn, if_true, impl_within_e, Option.bind_some, rd_lt hi, wnext hi hl]
    rw [drop_cons hi]
    exact Ev.andS fun _ => ih
theorem impl_allWithin_ev (l : List Int) (lo hi : Int) (hl : l.length ≤ 4611686018427387904) : Ev (fun k => impl_allWithin.f k l lo hi) (allW l lo hi) := by
  have := impl_allWithin_l l lo hi hl 0 (Nat.zero_le _)
  simpa only [impl_allWithin.f, List.drop_zero, Int.natCast_zero] using this

theorem impl_IsList_ev (l : List Int) (hl : l.length ≤ 4611686018427387904) : Ev (fun k => impl_IsList.f k l) (goodB l) := by
  simp only [impl_IsList.f, impl_within_e, Option.bind_some, goodB]
  exact Ev.andS fun _ => Ev.ret (f := fun t => t) (impl_allWithin_ev l 0 60 hl)

theorem impl_areLists_ev (a b : List Int) (ha : a.length ≤ 1048576) (hb : b.length ≤ 1048576) : Ev (fun k => impl_areLists.f k a b) (goodB a && goodB b) := by
  simp only [impl_areLists.f]
  exact Ev.and (impl_IsList_ev a (by omega)) fun h => Ev.ret (f := fun t => t) (impl_IsList_ev b (by omega))

theorem impl_total_l (l : List Int) (hl : l.length ≤ 4611686018427387904) : ∀ i, i ≤ l.length → ∀ acc, InR acc → Ev (fun k => impl_total.l0 k acc l (l.length : Int) (i : Int)) (wrap64 (acc + (l.drop i).sum)) := by
  refine down ?_ ?_
  · intro acc ha
    refine Ev.succ ?_
    simp only [impl_total.l0, nlt (Nat.le_refl l.length), if_false, List.drop_length, List.sum_nil, Int.add_zero, wR ha]
    exact Ev.now _
  · intro i hi ih acc ha
    refine Ev.succ ?_
    simp only [impl_total.l0, ilt hi, inn, if_true, rd_lt hi, wnext hi hl]
    rw [drop_cons hi, List.sum_cons, ← Int.add_assoc]
    exact (ih _ (inR_wrap _)).eqv (wrap_add _ _)
theorem impl_total_ev (l : List Int) (hl : l.length ≤ 4611686018427387904) : Ev (fun k => impl_total.f k l) (wrap64 l.sum) := by
  have := impl_total_l l hl 0 (Nat.zero_le _) 0 inR_0
  simpa only [impl_total.f, List.drop_zero, Int.zero_add, Int.natCast_zero] using this
theorem impl_total_good {l : List Int} (h : Lst l) : Ev (fun k => impl_total.f k l) l.sum :=
  (impl_total_ev l (by have := h.2.1; omega)).eqv (w64 (by have := h.sum; omega) (by have := h.sum; omega))

theorem impl_doFit_ev {a b : List Int} (ha : Lst a) (hb : Lst b) : Ev (fun k => impl_doFit.f k a b) (decide (a.length = b.length) && decide (a.sum = b.sum)) := by
  simp only [impl_doFit.f]
  by_cases h : a.length = b.length
  · have h2 : (a.length : Int) = (b.length : Int) := by omega
    simp only [h2, if_true, h, decide_true, Bool.true_and]
    refine Ev.bind (impl_total_good ha) ?_
    exact Ev.ret (f := fun t => a.sum == t) (impl_total_good hb)
  · have h2 : ¬ (a.length : Int) = (b.length : Int) := by omega
    simp only [h2, if_false, h, decide_false, Bool.false_and]
    exact Ev.now _

theorem impl_areFitting_ev (a b : List Int) (ha : a.length ≤ 1048576) (hb : b.length ≤ 1048576) : Ev (fun k => impl_areFitting.f k a b) (fits a b) := by
  simp only [impl_areFitting.f]
  refine (Ev.and (b := decide (a.length = b.length) && decide (a.sum = b.sum)) (impl_areLists_ev a b ha hb) fun h => ?_).eqv (Bool.and_assoc _ _ _)
  rw [Bool.and_eq_true, goodB_iff, goodB_iff] at h
  exact Ev.ret (f := fun t => t) (impl_doFit_ev h.1 h.2)

theorem impl_areHeights_l (l : List Int) (hl : l.length ≤ 1048576) (hb : ∀ x ∈ l, -100 ≤ x ∧ x ≤ 100) : ∀ i, i ≤ l.length - 1 → Ev (fun k => impl_areHeights.l0 k l ((i + 1 : Nat) : Int)) (adj hp (l.drop i)) := by
  refine down ?_ ?_
  · refine Ev.succ ?_
    simp only [impl_areHeights.l0, nlt (by omega : l.length ≤ l.length - 1 + 1), if_false]
    rw [adj_short (by simp; omega)]
    exact Ev.now _
  · intro i hi ih
    have h0 : i < l.length := by omega
    have h1 : i + 1 < l.length := by omega
    have b0 := hb _ (List.getElem_mem h0)
    have b1 := hb _ (List.getElem_mem h1)
    refine Ev.succ ?_
    simp only [impl_areHeights.l0, ilt h1, inn, if_true, wprev (by omega : i ≤ 4611686018427387904), ilt h0, impl_within_e, Option.bind_some, rd_lt h0, rd_lt h1, wnext h1 (by omega)]
    rw [drop_cons h0, drop_cons h1, adj, ← drop_cons h1, w64 (by omega) (by omega)]
    exact Ev.andS fun _ => ih
theorem impl_areHeights_ev (l : List Int) (hl : l.length ≤ 1048576) : Ev (fun k => impl_areHeights.f k l) (heightsB l) := by
  simp only [impl_areHeights.f, impl_within_e, Option.bind_some, heightsB]
  cases h : wth l.length 1 8 with
  | false =>
    simp only [Bool.false_eq_true, if_false, Bool.false_and]
    refine Ev.succ ?_
    simp only [impl_areHeights.j0, if_true]
    exact Ev.now _
  | true =>
    simp only [if_true, Bool.true_and]
    refine Ev.bind (impl_allWithin_ev l _ _ (by omega)) ?_
    refine Ev.succ ?_
    cases h2 : allW l (-100) 100 with
    | false =>
      simp only [impl_areHeights.j0, Bool.not_false, if_true, Bool.false_and]
      exact Ev.now _
    | true =>
      simp only [impl_areHeights.j0, Bool.not_true, Bool.false_eq_true, if_false, Bool.true_and]
      exact impl_areHeights_l l hl (allW_iff.1 h2) 0 (Nat.zero_le _)

theorem impl_arranged_l (l m : List Int) (hl : l.length ≤ 1048576) (hm : l.length ≤ m.length) : ∀ i, i ≤ l.length → ∀ acc, InR acc → Ev (fun k => impl_arranged.l0 k m acc l (l.length : Int) (i : Int)) (wrap64 (acc + dot (l.drop i) (m.drop i))) := by
  refine down ?_ ?_
  · intro acc ha
    refine Ev.succ ?_
    simp only [impl_arranged.l0, nlt (Nat.le_refl l.length), if_false, List.drop_length, dot_nil, Int.add_zero, wR ha]
    exact Ev.now _
  · intro i hi ih acc ha
    have h2 : i < m.length := by omega
    refine Ev.succ ?_
    simp only [impl_arranged.l0, ilt hi, ilt h2, inn, if_true, rd_lt hi, rd_lt h2, wnext hi (by omega : l.length ≤ 4611686018427387904)]
    rw [drop_cons hi, drop_cons h2, dot_cons, ← Int.add_assoc]
    refine (ih _ (inR_wrap _)).eqv ?_
    rw [wrap_add, Int.add_right_comm, wrap_add', Int.add_right_comm]
theorem impl_arranged_ev (l m : List Int) (hl : l.length ≤ 1048576) (hm : l.length ≤ m.length) : Ev (fun k => impl_arranged.f k l m) (wrap64 (dot l m)) := by
  have := impl_arranged_l l m hl hm 0 (Nat.zero_le _) 0 inR_0
  simpa only [impl_arranged.f, List.drop_zero, Int.zero_add, Int.natCast_zero] using this

theorem impl_HeightGain_ev (h a b : List Int) (hh : h.length ≤ 1048576) (ha : a.length ≤ 1048576) (hb : b.length ≤ 1048576) : Ev (fun k => impl_HeightGain.f k h a b) (if heightsB h && (fits a b && decide (h.length = a.length)) then (wrap64 (wrap64 (dot h a) - wrap64 (dot h b)), true) else (0, false)) := by
  simp only [impl_HeightGain.f]
  have off : Ev (fun k => impl_HeightGain.j0 k h a b true) (0, false) := by
    refine Ev.succ ?_
    simp only [impl_HeightGain.j0, if_true]
    exact Ev.now _
  refine Ev.bind (impl_areHeights_ev h hh) ?_
  cases h1 : heightsB h with
  | false => simp only [Bool.false_eq_true, if_false, Bool.false_and]; exact off
  | true =>
    simp only [if_true, Bool.true_and]
    refine Ev.bind (impl_areFitting_ev a b ha hb) ?_
    cases h2 : fits a b with
    | false => simp only [Bool.false_eq_true, if_false, Bool.false_and]; exact off
    | true =>
      simp only [if_true, Bool.true_and]
      have h3 := (fits_iff.1 h2).2.2.1
      by_cases e : h.length = a.length
      · simp only [e, bne_self_eq_false, decide_true, if_true]
        refine Ev.succ ?_
        simp only [impl_HeightGain.j0, Bool.false_eq_true, if_false]
        refine Ev.bind (impl_arranged_ev h a hh (by omega)) ?_
        exact Ev.ret (f := fun t => (wrap64 (wrap64 (dot h a) - t), true)) (impl_arranged_ev h b hh (by omega))
      · have e2 : ((h.length : Int) != (a.length : Int)) = true := by simp; omega
        simp only [e2, e, decide_false, Bool.false_eq_true, if_false]
        exact off

theorem FnExactHeightGain : laws_FnExactHeightGain.Pure := by
  intro a b c hma hsa hwa hmb hsb hwb hmc hsc hwc
  refine Ev.rounds ?_
  simp only [laws_FnExactHeightGain.f]
  by_cases hba : (a.length : Int) > 1048576
  · simp only [hba, if_true]; exact Ev.now _
  · simp only [hba, if_false]
    by_cases hbb : (b.length : Int) > 1048576
    · simp only [hbb, if_true]; exact Ev.now _
    · simp only [hbb, if_false]
      by_cases hbc : (c.length : Int) > 1048576
      · simp only [hbc, if_true]; exact Ev.now _
      · simp only [hbc, if_false]
        refine Ev.bind (laws_toIntS_ev a (by omega)) ?_
        refine Ev.bind (laws_toIntS_ev b (by omega)) ?_
        refine Ev.bind (laws_toIntS_ev c (by omega)) ?_
        refine Ev.bind (spec_HeightGain_ev a b c (by omega) (by omega) (by omega)) ?_
        refine Ev.bind (laws_toIntS_ev a (by omega)) ?_
        refine Ev.bind (laws_toIntS_ev b (by omega)) ?_
        refine Ev.bind (laws_toIntS_ev c (by omega)) ?_
        refine Ev.bind (impl_HeightGain_ev a b c (by omega) (by omega) (by omega)) ?_
        simp only [bne_self_eq_false, Bool.false_eq_true, if_false, if_true]
        refine Ev.succ ?_
        simp only [laws_FnExactHeightGain.j0, Bool.false_eq_true, if_false]
        refine Ev.bind (laws_toIntS_ev a (by omega)) ?_
        refine Ev.bind (laws_eqIntS_self a (by omega)) ?_
        simp only [if_true]
        refine Ev.bind (laws_toIntS_ev b (by omega)) ?_
        refine Ev.bind (laws_eqIntS_self b (by omega)) ?_
        simp only [if_true]
        refine Ev.bind (laws_toIntS_ev c (by omega)) ?_
        refine Ev.bind (laws_eqIntS_self c (by omega)) ?_
        simp only [if_true]
        exact Ev.now _

end Go.Proofs.Ytbdennepenacpaa.Pure
