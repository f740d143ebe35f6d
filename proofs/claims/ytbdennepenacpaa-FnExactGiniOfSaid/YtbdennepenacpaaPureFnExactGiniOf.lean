/- The program's GiniOf returns what the reference's returns, for all arguments; the printed functions' own bounds on lengths are the only conditions. -/
import Derived.Test.YtbdennepenacpaaPFnExactGiniOfx3
import Derived.Test.YtbdennepenacpaaMath
namespace Go.Proofs.Ytbdennepenacpaa.Pure
open Go.RowKit Go.Proofs.Ytbdennepenacpaa.PFnExactGiniOf Go.Proofs.YtbdennepenacpaaW.PrintWords Go.Proofs.YtbdennepenacpaaW.PrintLast Go.Proofs.YtbdennepenacpaaW.PrintMore Go.Proofs.Ytbdennepenacpaa.Math
set_option linter.unusedVariables false
set_option linter.unusedSimpArgs false
set_option linter.unusedSectionVars false

theorem laws_toIntS_l (l : List Int) (hl : l.length ≤ 4611686018427387904) : ∀ i, i ≤ l.length → ∀ m : List Int, m.length = l.length → m.take i = l.take i → Ev (fun k => laws_toIntS.l0 k l m (i : Int)) l := by
  refine down ?_ ?_
  · intro m hm h
    refine Ev.succ ?_
    simp only [laws_toIntS.l0, nlt (Nat.le_refl l.length), if_false]
    rw [← hm, List.take_length, hm, List.take_length] at h
    rw [h]
    exact Ev.now _
  · intro i hi ih m hm h
    refine Ev.succ ?_
    simp only [laws_toIntS.l0, ilt hi, inn, if_true, hm, rd_lt hi, wnext hi hl, Int.toNat_natCast]
    exact ih _ (by simpa using hm) (set_take l m i hi hm h)
theorem laws_toIntS_ev (l : List Int) (hl : l.length ≤ 35184372088832) : Ev (fun k => laws_toIntS.f k l) l := by
  have := laws_toIntS_l l (by omega) 0 (Nat.zero_le _) (List.replicate l.length 0) (by simp) (by simp)
  simp only [laws_toIntS.f, inn, if_true, Int.toNat_natCast, hl]
  exact this

theorem laws_eqIntS_l (l m : List Int) (he : m.length = l.length) (hl : l.length ≤ 4611686018427387904) : ∀ i, i ≤ l.length → Ev (fun k => laws_eqIntS.l0 k l m (i : Int)) (decide (l.drop i = m.drop i)) := by
  refine down ?_ ?_
  · refine Ev.succ ?_
    simp only [laws_eqIntS.l0, nlt (Nat.le_refl l.length), if_false, List.drop_length]
    rw [← he, List.drop_length]
    exact Ev.now _
  · intro i hi ih
    refine Ev.succ ?_
    simp only [laws_eqIntS.l0, ilt hi, inn, if_true, he, rd_lt hi, rd_lt (he ▸ hi : i < m.length), wnext hi hl]
    rw [drop_cons hi, drop_cons (he ▸ hi : i < m.length)]
    by_cases hx : l[i] = m[i]
    · simp only [hx, if_true, List.cons.injEq, true_and]
      exact ih
    · simp only [hx, if_false, List.cons.injEq, false_and, decide_false]
      exact Ev.now _
theorem laws_eqIntS_ev (l m : List Int) (hl : l.length ≤ 4611686018427387904) : Ev (fun k => laws_eqIntS.f k l m) (decide (l = m)) := by
  simp only [laws_eqIntS.f]
  by_cases he : (l.length : Int) = (m.length : Int)
  · simp only [he, if_true]
    exact laws_eqIntS_l l m (by omega) hl 0 (Nat.zero_le _)
  · simp only [he, if_false]
    rw [decide_eq_false (fun h => he (by rw [h]))]
    exact Ev.now _
theorem laws_eqIntS_self (l : List Int) (hl : l.length ≤ 4611686018427387904) : Ev (fun k => laws_eqIntS.f k l l) true := by
  simpa using laws_eqIntS_ev l l hl

theorem spec_l1In_e (a b c : Int) : spec_l1In.f a b c = some (wth a b c) := wth_opt a b c

theorem spec_l1All_l (l : List Int) (lo hi : Int) (hl : l.length ≤ 4611686018427387904) : ∀ i, i ≤ l.length → Ev (fun k => spec_l1All.l0 k lo hi l (l.length : Int) (i : Int)) (allW (l.drop i) lo hi) := by
  refine down ?_ ?_
  · refine Ev.succ ?_
    simp only [spec_l1All.l0, nlt (Nat.le_refl l.length), if_false, List.drop_length]
    exact Ev.now _
  · intro i hi ih
    refine Ev.succ ?_
    simp only [spec_l1All.l0, ilt hi, inn, if_true, spec_l1In_e, Option.bind_some, rd_lt hi, wnext hi hl]
    rw [drop_cons hi]
    exact Ev.andS fun _ => ih
theorem spec_l1All_ev (l : List Int) (lo hi : Int) (hl : l.length ≤ 4611686018427387904) : Ev (fun k => spec_l1All.f k l lo hi) (allW l lo hi) := by
  have := spec_l1All_l l lo hi hl 0 (Nat.zero_le _)
  simpa only [spec_l1All.f, List.drop_zero, Int.natCast_zero] using this

theorem spec_liGood_ev (l : List Int) (hl : l.length ≤ 4611686018427387904) : Ev (fun k => spec_liGood.f k l) (goodB l) := by
  simp only [spec_liGood.f, spec_l1In_e, Option.bind_some, goodB]
  exact Ev.andS fun _ => Ev.ret (f := fun t => t) (spec_l1All_ev l 0 60 hl)

theorem spec_liSum_l (l : List Int) (hl : l.length ≤ 4611686018427387904) : ∀ i, i ≤ l.length → ∀ acc, InR acc → Ev (fun k => spec_liSum.l0 k acc l (l.length : Int) (i : Int)) (wrap64 (acc + (l.drop i).sum)) := by
  refine down ?_ ?_
  · intro acc ha
    refine Ev.succ ?_
    simp only [spec_liSum.l0, nlt (Nat.le_refl l.length), if_false, List.drop_length, List.sum_nil, Int.add_zero, wR ha]
    exact Ev.now _
  · intro i hi ih acc ha
    refine Ev.succ ?_
    simp only [spec_liSum.l0, ilt hi, inn, if_true, rd_lt hi, wnext hi hl]
    rw [drop_cons hi, List.sum_cons, ← Int.add_assoc]
    exact (ih _ (inR_wrap _)).eqv (wrap_add _ _)
theorem spec_liSum_ev (l : List Int) (hl : l.length ≤ 4611686018427387904) : Ev (fun k => spec_liSum.f k l) (wrap64 l.sum) := by
  have := spec_liSum_l l hl 0 (Nat.zero_le _) 0 inR_0
  simpa only [spec_liSum.f, List.drop_zero, Int.zero_add, Int.natCast_zero] using this
theorem spec_liSum_good {l : List Int} (h : Lst l) : Ev (fun k => spec_liSum.f k l) l.sum :=
  (spec_liSum_ev l (by have := h.2.1; omega)).eqv (w64 (by have := h.sum; omega) (by have := h.sum; omega))

theorem spec_l1Most_e (a b : Int) : spec_l1Most.f a b = some (max a b) := by
  unfold spec_l1Most.f
  by_cases h : a > b
  · rw [if_pos h]; congr 1; omega
  · rw [if_neg h]; congr 1; omega

theorem spec_l1Abs_e (a : Int) : spec_l1Abs.f a = some (max a (wrap64 (-a))) := by
  simp only [spec_l1Abs.f, spec_l1Most_e, Option.bind_some]

theorem spec_msPairs_l1 (l : List Int) (hl : l.length ≤ 1048576) (hb : ∀ x ∈ l, 0 ≤ x ∧ x ≤ 60) (x : Int) (hx : 0 ≤ x ∧ x ≤ 60) (o : Nat) (r : Int) (m : List Int) (hm : ∀ y ∈ m, 0 ≤ y ∧ y ≤ 60) (hml : m.length ≤ 1048576)
    (hk : ∀ acc, InR acc → Ev (fun k => spec_msPairs.l0 k l acc l (l.length : Int) (wrap64 ((o : Int) + 1))) (wrap64 (acc + r))) :
    ∀ i, i ≤ m.length → ∀ acc, InR acc → Ev (fun k => spec_msPairs.l1 k l acc x l (l.length : Int) (o : Int) m (m.length : Int) (i : Int)) (wrap64 (acc + ((m.drop i).map (absd x)).sum + r)) := by
  refine down ?_ ?_
  · intro acc ha
    refine Ev.succ ?_
    simp only [spec_msPairs.l1, nlt (Nat.le_refl m.length), if_false, List.drop_length, List.map_nil, List.sum_nil, Int.add_zero]
    exact hk acc ha
  · intro i hi ih acc ha
    have b := hm _ (List.getElem_mem hi)
    refine Ev.succ ?_
    simp only [spec_msPairs.l1, ilt hi, inn, if_true, rd_lt hi, wnext hi (by omega : m.length ≤ 4611686018427387904), spec_l1Abs_e, Option.bind_some]
    rw [drop_cons hi, List.map_cons, List.sum_cons, ← Int.add_assoc]
    refine (ih _ (inR_wrap _)).eqv ?_
    rw [Int.add_assoc, wrap_add]
    unfold absd
    congr 1
    rw [w64 (x := x - m[i]) (by omega) (by omega), w64 (x := -(x - m[i])) (by omega) (by omega)]
    omega
theorem spec_msPairs_l0 (l : List Int) (hl : l.length ≤ 1048576) (hb : ∀ x ∈ l, 0 ≤ x ∧ x ≤ 60) : ∀ i, i ≤ l.length → ∀ acc, InR acc → Ev (fun k => spec_msPairs.l0 k l acc l (l.length : Int) (i : Int)) (wrap64 (acc + pairsFrom l i)) := by
  refine down ?_ ?_
  · intro acc ha
    refine Ev.succ ?_
    simp only [spec_msPairs.l0, nlt (Nat.le_refl l.length), if_false, pairsFrom, List.drop_length, Nat.sub_self, pairsGo, Int.add_zero, wR ha]
    exact Ev.now _
  · intro i hi ih acc ha
    refine Ev.succ ?_
    simp only [spec_msPairs.l0, ilt hi, inn, if_true, rd_lt hi, ile (Nat.le_of_lt hi), Int.toNat_natCast]
    refine (spec_msPairs_l1 l hl hb l[i] (hb _ (List.getElem_mem hi)) i (pairsFrom l (i + 1)) (l.take i) (fun y hy => hb y (List.mem_of_mem_take hy)) (by simp; omega) (fun acc ha => ?_) 0 (Nat.zero_le _) acc ha).eqv ?_
    · rw [wnext hi (by omega)]
      exact ih acc ha
    · rw [List.drop_zero, pairsFrom_step hi, Int.add_assoc]
theorem spec_msPairs_ev (l : List Int) (h : Lst l) : Ev (fun k => spec_msPairs.f k l) (pairsSum l) := by
  have := spec_msPairs_l0 l (by have := h.2.1; omega) h.2.2 0 (Nat.zero_le _) 0 inR_0
  rw [Int.zero_add] at this
  have hb := pairsSum_bound h
  simp only [spec_msPairs.f]
  exact this.eqv (w64 (by have := hb.1; unfold pairsSum at this; omega) (by have := hb.2; unfold pairsSum at this; omega))

theorem spec_GiniOf_ev (l : List Int) (hl : l.length ≤ 1048576) : Ev (fun k => spec_GiniOf.f k l) (if goodB l && decide (l.sum > 0) then (pairsSum l, wrap64 (l.length * l.sum), true) else (0, 0, false)) := by
  simp only [spec_GiniOf.f]
  refine Ev.bind (spec_liGood_ev l (by omega)) ?_
  cases h : goodB l with
  | false =>
    simp only [Bool.false_eq_true, if_false, Bool.false_and]
    refine Ev.succ ?_
    simp only [spec_GiniOf.j0, if_true]
    exact Ev.now _
  | true =>
    simp only [if_true, Bool.true_and]
    have g := goodB_iff.1 h
    refine Ev.bind (spec_liSum_good g) ?_
    refine Ev.succ ?_
    by_cases h0 : l.sum = 0
    · simp only [spec_GiniOf.j0, h0, beq_self_eq_true, if_true, (by decide : ¬ ((0 : Int) > 0)), decide_false, Bool.false_eq_true, if_false]
      exact Ev.now _
    · have hp : l.sum > 0 := by have := g.sum; omega
      have hn : (l.sum == 0) = false := by simpa using h0
      simp only [spec_GiniOf.j0, hn, hp, decide_true, if_true, Bool.false_eq_true, if_false]
      refine Ev.bind (spec_msPairs_ev l g) ?_
      exact Ev.ret (f := fun t => (pairsSum l, wrap64 ((l.length : Int) * t), true)) (spec_liSum_good g)

theorem impl_within_e (a b c : Int) : impl_within.f a b c = some (wth a b c) := wth_opt a b c

theorem impl_allWithin_l (l : List Int) (lo hi : Int) (hl : l.length ≤ 4611686018427387904) : ∀ i, i ≤ l.length → Ev (fun k => impl_allWithin.l0 k lo hi l (l.length : Int) (i : Int)) (allW (l.drop i) lo hi) := by
  refine down ?_ ?_
  · refine Ev.succ ?_
    simp only [impl_allWithin.l0, nlt (Nat.le_refl l.length), if_false, List.drop_length]
    exact Ev.now _
  · intro i hi ih
    refine Ev.succ ?_
    simp only [impl_allWithin.l0, ilt hi, inn, if_true, impl_within_e, Option.bind_some, rd_lt hi, wnext hi hl]
    rw [drop_cons hi]
    exact Ev.andS fun _ => ih
theorem impl_allWithin_ev (l : List Int) (lo hi : Int) (hl : l.length ≤ 4611686018427387904) : Ev (fun k => impl_allWithin.f k l lo hi) (allW l lo hi) := by
  have := impl_allWithin_l l lo hi hl 0 (Nat.zero_le _)
  simpa only [impl_allWithin.f, List.drop_zero, Int.natCast_zero] using this

theorem impl_IsList_ev (l : List Int) (hl : l.length ≤ 4611686018427387904) : Ev (fun k => impl_IsList.f k l) (goodB l) := by
  simp only [impl_IsList.f, impl_within_e, Option.bind_some, goodB]
  exact Ev.andS fun _ => Ev.ret (f := fun t => t) (impl_allWithin_ev l 0 60 hl)

theorem impl_total_l (l : List Int) (hl : l.length ≤ 4611686018427387904) : ∀ i, i ≤ l.length → ∀ acc, InR acc → Ev (fun k => impl_total.l0 k acc l (l.length : Int) (i : Int)) (wrap64 (acc + (l.drop i).sum)) := by
  refine down ?_ ?_
  · intro acc ha
    refine Ev.succ ?_
    simp only [impl_total.l0, nlt (Nat.le_refl l.length), if_false, List.drop_length, List.sum_nil, Int.add_zero, wR ha]
    exact Ev.now _
  · intro i hi ih acc ha
    refine Ev.succ ?_
    simp only [impl_total.l0, ilt hi, inn, if_true, rd_lt hi, wnext hi hl]
    rw [drop_cons hi, List.sum_cons, ← Int.add_assoc]
    exact (ih _ (inR_wrap _)).eqv (wrap_add _ _)
theorem impl_total_ev (l : List Int) (hl : l.length ≤ 4611686018427387904) : Ev (fun k => impl_total.f k l) (wrap64 l.sum) := by
  have := impl_total_l l hl 0 (Nat.zero_le _) 0 inR_0
  simpa only [impl_total.f, List.drop_zero, Int.zero_add, Int.natCast_zero] using this
theorem impl_total_good {l : List Int} (h : Lst l) : Ev (fun k => impl_total.f k l) l.sum :=
  (impl_total_ev l (by have := h.2.1; omega)).eqv (w64 (by have := h.sum; omega) (by have := h.sum; omega))

theorem impl_isPositive_ev (l : List Int) (hl : l.length ≤ 1048576) : Ev (fun k => impl_isPositive.f k l) (goodB l && decide (l.sum > 0)) := by
  simp only [impl_isPositive.f]
  exact Ev.and (impl_IsList_ev l (by omega)) fun h => Ev.ret (f := fun t => decide (t > 0)) (impl_total_good (goodB_iff.1 h))

theorem impl_pairs_l1 (l : List Int) (hl : l.length ≤ 1048576) (hb : ∀ x ∈ l, 0 ≤ x ∧ x ≤ 60) (x : Int) (hx : 0 ≤ x ∧ x ≤ 60) (o : Nat) (r : Int) (m : List Int) (hm : ∀ y ∈ m, 0 ≤ y ∧ y ≤ 60) (hml : m.length ≤ 1048576)
    (hk : ∀ acc, InR acc → Ev (fun k => impl_pairs.l0 k l acc l (l.length : Int) (wrap64 ((o : Int) + 1))) (wrap64 (acc + r))) :
    ∀ i, i ≤ m.length → ∀ acc, InR acc → Ev (fun k => impl_pairs.l1 k l acc x l (l.length : Int) (o : Int) m (m.length : Int) (i : Int)) (wrap64 (acc + ((m.drop i).map (absd x)).sum + r)) := by
  refine down ?_ ?_
  · intro acc ha
    refine Ev.succ ?_
    simp only [impl_pairs.l1, nlt (Nat.le_refl m.length), if_false, List.drop_length, List.map_nil, List.sum_nil, Int.add_zero]
    exact hk acc ha
  · intro i hi ih acc ha
    have b := hm _ (List.getElem_mem hi)
    refine Ev.succ ?_
    simp only [impl_pairs.l1, ilt hi, inn, if_true, rd_lt hi, wnext hi (by omega : m.length ≤ 4611686018427387904), mx_eq]
    rw [drop_cons hi, List.map_cons, List.sum_cons, ← Int.add_assoc]
    refine (ih _ (inR_wrap _)).eqv ?_
    rw [Int.add_assoc, wrap_add]
    unfold absd
    congr 1
    rw [w64 (x := x - m[i]) (by omega) (by omega), w64 (x := m[i] - x) (by omega) (by omega)]
    omega
theorem impl_pairs_l0 (l : List Int) (hl : l.length ≤ 1048576) (hb : ∀ x ∈ l, 0 ≤ x ∧ x ≤ 60) : ∀ i, i ≤ l.length → ∀ acc, InR acc → Ev (fun k => impl_pairs.l0 k l acc l (l.length : Int) (i : Int)) (wrap64 (acc + pairsFrom l i)) := by
  refine down ?_ ?_
  · intro acc ha
    refine Ev.succ ?_
    simp only [impl_pairs.l0, nlt (Nat.le_refl l.length), if_false, pairsFrom, List.drop_length, Nat.sub_self, pairsGo, Int.add_zero, wR ha]
    exact Ev.now _
  · intro i hi ih acc ha
    refine Ev.succ ?_
    simp only [impl_pairs.l0, ilt hi, inn, if_true, rd_lt hi, ile (Nat.le_of_lt hi), Int.toNat_natCast]
    refine (impl_pairs_l1 l hl hb l[i] (hb _ (List.getElem_mem hi)) i (pairsFrom l (i + 1)) (l.take i) (fun y hy => hb y (List.mem_of_mem_take hy)) (by simp; omega) (fun acc ha => ?_) 0 (Nat.zero_le _) acc ha).eqv ?_
    · rw [wnext hi (by omega)]
      exact ih acc ha
    · rw [List.drop_zero, pairsFrom_step hi, Int.add_assoc]
theorem impl_pairs_ev (l : List Int) (h : Lst l) : Ev (fun k => impl_pairs.f k l) (pairsSum l) := by
  have := impl_pairs_l0 l (by have := h.2.1; omega) h.2.2 0 (Nat.zero_le _) 0 inR_0
  rw [Int.zero_add] at this
  have hb := pairsSum_bound h
  simp only [impl_pairs.f]
  exact this.eqv (w64 (by have := hb.1; unfold pairsSum at this; omega) (by have := hb.2; unfold pairsSum at this; omega))

theorem impl_GiniOf_ev (l : List Int) (hl : l.length ≤ 1048576) : Ev (fun k => impl_GiniOf.f k l) (if goodB l && decide (l.sum > 0) then (pairsSum l, wrap64 (l.length * l.sum), true) else (0, 0, false)) := by
  simp only [impl_GiniOf.f]
  refine Ev.bind (impl_isPositive_ev l hl) ?_
  cases h : goodB l && decide (l.sum > 0) with
  | false => simp only [Bool.false_eq_true, if_false]; exact Ev.now _
  | true =>
    simp only [if_true]
    rw [Bool.and_eq_true, goodB_iff] at h
    refine Ev.bind (impl_pairs_ev l h.1) ?_
    exact Ev.ret (f := fun t => (pairsSum l, wrap64 ((l.length : Int) * t), true)) (impl_total_good h.1)

theorem FnExactGiniOf : laws_FnExactGiniOf.Pure := by
  intro a hma hsa hwa
  refine Ev.rounds ?_
  simp only [laws_FnExactGiniOf.f]
  by_cases hba : (a.length : Int) > 1048576
  · simp only [hba, if_true]; exact Ev.now _
  · simp only [hba, if_false]
    refine Ev.bind (laws_toIntS_ev a (by omega)) ?_
    refine Ev.bind (spec_GiniOf_ev a (by omega)) ?_
    refine Ev.bind (laws_toIntS_ev a (by omega)) ?_
    refine Ev.bind (impl_GiniOf_ev a (by omega)) ?_
    simp only [bne_self_eq_false, Bool.false_eq_true, if_false, if_true]
    refine Ev.succ ?_
    simp only [laws_FnExactGiniOf.j0, Bool.false_eq_true, if_false]
    refine Ev.bind (laws_toIntS_ev a (by omega)) ?_
    refine Ev.bind (laws_eqIntS_self a (by omega)) ?_
    simp only [if_true]
    exact Ev.now _

end Go.Proofs.Ytbdennepenacpaa.Pure
