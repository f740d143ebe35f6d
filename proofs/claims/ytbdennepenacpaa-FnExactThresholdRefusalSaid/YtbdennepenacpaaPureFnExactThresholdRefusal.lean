/- The program's ThresholdRefusal returns what the reference's returns, for all arguments; the printed functions' own bounds on lengths are the only conditions. -/
import Derived.Test.YtbdennepenacpaaPFnExactThresholdRefusalx3
import Derived.Test.YtbdennepenacpaaMath
namespace Go.Proofs.Ytbdennepenacpaa.Pure
open Go.RowKit Go.Proofs.Ytbdennepenacpaa.PFnExactThresholdRefusal Go.Proofs.YtbdennepenacpaaW.PrintWords Go.Proofs.YtbdennepenacpaaW.PrintLast Go.Proofs.YtbdennepenacpaaW.PrintMore Go.Proofs.Ytbdennepenacpaa.Math
set_option linter.unusedVariables false
set_option linter.unusedSimpArgs false
set_option linter.unusedSectionVars false

theorem laws_toIntS_l (l : List Int) (hl : l.length ≤ 4611686018427387904) : ∀ i, i ≤ l.length → ∀ m : List Int, m.length = l.length → m.take i = l.take i → Ev (fun k => laws_toIntS.l0 k l m (i : Int)) l := by
  refine down ?_ ?_
  · intro m hm h
    refine Ev.succ ?_
    simp only [laws_toIntS.l0, nlt (Nat.le_refl l.length), if_false]
    rw [← hm, List.take_length, hm, List.take_length] at h
    rw [h]
    exact Ev.now _
  · intro i hi ih m hm h
    refine Ev.succ ?_
    simp only [laws_toIntS.l0, ilt hi, inn, if_true, hm, rd_lt hi, wnext hi hl, Int.toNat_natCast]
    exact ih _ (by simpa using hm) (set_take l m i hi hm h)
theorem laws_toIntS_ev (l : List Int) (hl : l.length ≤ 35184372088832) : Ev (fun k => laws_toIntS.f k l) l := by
  have := laws_toIntS_l l (by omega) 0 (Nat.zero_le _) (List.replicate l.length 0) (by simp) (by simp)
  simp only [laws_toIntS.f, inn, if_true, Int.toNat_natCast, hl]
  exact this

theorem laws_eqIntS_l (l m : List Int) (he : m.length = l.length) (hl : l.length ≤ 4611686018427387904) : ∀ i, i ≤ l.length → Ev (fun k => laws_eqIntS.l0 k l m (i : Int)) (decide (l.drop i = m.drop i)) := by
  refine down ?_ ?_
  · refine Ev.succ ?_
    simp only [laws_eqIntS.l0, nlt (Nat.le_refl l.length), if_false, List.drop_length]
    rw [← he, List.drop_length]
    exact Ev.now _
  · intro i hi ih
    refine Ev.succ ?_
    simp only [laws_eqIntS.l0, ilt hi, inn, if_true, he, rd_lt hi, rd_lt (he ▸ hi : i < m.length), wnext hi hl]
    rw [drop_cons hi, drop_cons (he ▸ hi : i < m.length)]
    by_cases hx : l[i] = m[i]
    · simp only [hx, if_true, List.cons.injEq, true_and]
      exact ih
    · simp only [hx, if_false, List.cons.injEq, false_and, decide_false]
      exact Ev.now _
theorem laws_eqIntS_ev (l m : List Int) (hl : l.length ≤ 4611686018427387904) : Ev (fun k => laws_eqIntS.f k l m) (decide (l = m)) := by
  simp only [laws_eqIntS.f]
  by_cases he : (l.length : Int) = (m.length : Int)
  · simp only [he, if_true]
    exact laws_eqIntS_l l m (by omega) hl 0 (Nat.zero_le _)
  · simp only [he, if_false]
    rw [decide_eq_false (fun h => he (by rw [h]))]
    exact Ev.now _
theorem laws_eqIntS_self (l : List Int) (hl : l.length ≤ 4611686018427387904) : Ev (fun k => laws_eqIntS.f k l l) true := by
  simpa using laws_eqIntS_ev l l hl

theorem spec_l1In_e (a b c : Int) : spec_l1In.f a b c = some (wth a b c) := wth_opt a b c

theorem spec_l1All_l (l : List Int) (lo hi : Int) (hl : l.length ≤ 4611686018427387904) : ∀ i, i ≤ l.length → Ev (fun k => spec_l1All.l0 k lo hi l (l.length : Int) (i : Int)) (allW (l.drop i) lo hi) := by
  refine down ?_ ?_
  · refine Ev.succ ?_
    simp only [spec_l1All.l0, nlt (Nat.le_refl l.length), if_false, List.drop_length]
    exact Ev.now _
  · intro i hi ih
    refine Ev.succ ?_
    simp only [spec_l1All.l0, ilt hi, inn, if_true, spec_l1In_e, Option.bind_some, rd_lt hi, wnext hi hl]
    rw [drop_cons hi]
    exact Ev.andS fun _ => ih
theorem spec_l1All_ev (l : List Int) (lo hi : Int) (hl : l.length ≤ 4611686018427387904) : Ev (fun k => spec_l1All.f k l lo hi) (allW l lo hi) := by
  have := spec_l1All_l l lo hi hl 0 (Nat.zero_le _)
  simpa only [spec_l1All.f, List.drop_zero, Int.natCast_zero] using this

theorem spec_liGood_ev (l : List Int) (hl : l.length ≤ 4611686018427387904) : Ev (fun k => spec_liGood.f k l) (goodB l) := by
  simp only [spec_liGood.f, spec_l1In_e, Option.bind_some, goodB]
  exact Ev.andS fun _ => Ev.ret (f := fun t => t) (spec_l1All_ev l 0 60 hl)

theorem spec_liSum_l (l : List Int) (hl : l.length ≤ 4611686018427387904) : ∀ i, i ≤ l.length → ∀ acc, InR acc → Ev (fun k => spec_liSum.l0 k acc l (l.length : Int) (i : Int)) (wrap64 (acc + (l.drop i).sum)) := by
  refine down ?_ ?_
  · intro acc ha
    refine Ev.succ ?_
    simp only [spec_liSum.l0, nlt (Nat.le_refl l.length), if_false, List.drop_length, List.sum_nil, Int.add_zero, wR ha]
    exact Ev.now _
  · intro i hi ih acc ha
    refine Ev.succ ?_
    simp only [spec_liSum.l0, ilt hi, inn, if_true, rd_lt hi, wnext hi hl]
    rw [drop_cons hi, List.sum_cons, ← Int.add_assoc]
    exact (ih _ (inR_wrap _)).eqv (wrap_add _ _)
theorem spec_liSum_ev (l : List Int) (hl : l.length ≤ 4611686018427387904) : Ev (fun k => spec_liSum.f k l) (wrap64 l.sum) := by
  have := spec_liSum_l l hl 0 (Nat.zero_le _) 0 inR_0
  simpa only [spec_liSum.f, List.drop_zero, Int.zero_add, Int.natCast_zero] using this
theorem spec_liSum_good {l : List Int} (h : Lst l) : Ev (fun k => spec_liSum.f k l) l.sum :=
  (spec_liSum_ev l (by have := h.2.1; omega)).eqv (w64 (by have := h.sum; omega) (by have := h.sum; omega))

theorem spec_liFit_ev {a b : List Int} (ha : Lst a) (hb : Lst b) : Ev (fun k => spec_liFit.f k a b) (decide (a.length = b.length) && decide (a.sum = b.sum)) := by
  simp only [spec_liFit.f]
  by_cases h : a.length = b.length
  · have h2 : (a.length : Int) = (b.length : Int) := by omega
    simp only [h2, if_true, h, decide_true, Bool.true_and]
    refine Ev.bind (spec_liSum_good ha) ?_
    exact Ev.ret (f := fun t => a.sum == t) (spec_liSum_good hb)
  · have h2 : ¬ (a.length : Int) = (b.length : Int) := by omega
    simp only [h2, if_false, h, decide_false, Bool.false_and]
    exact Ev.now _

theorem spec_l1Most_e (a b : Int) : spec_l1Most.f a b = some (max a b) := by
  unfold spec_l1Most.f
  by_cases h : a > b
  · rw [if_pos h]; congr 1; omega
  · rw [if_neg h]; congr 1; omega

theorem spec_syExcess_l {l : List Int} (h : Lst l) (t : Nat) (ht : t ≤ 61) : ∀ i, i ≤ l.length → ∀ acc : Int, 0 ≤ acc → acc ≤ 60 * i → Ev (fun k => spec_syExcess.l0 k (t : Int) acc l (l.length : Int) (i : Int)) (acc + exc (l.drop i) t) := by
  have hn := h.2.1
  unfold exc
  refine down ?_ ?_
  · intro acc ha hb
    refine Ev.succ ?_
    simp only [spec_syExcess.l0, nlt (Nat.le_refl l.length), if_false, List.drop_length, List.map_nil, List.sum_nil, Int.add_zero]
    exact Ev.now _
  · intro i hi ih acc ha hb
    have b := h.get hi
    refine Ev.succ ?_
    simp only [spec_syExcess.l0, ilt hi, inn, if_true, rd_lt hi, wnext hi (by omega : l.length ≤ 4611686018427387904), spec_l1Most_e, Option.bind_some]
    rw [drop_cons hi, List.map_cons, List.sum_cons, ← Int.add_assoc, w64 (x := l[i] - t) (by omega) (by omega), w64 (x := acc + _) (by omega) (by omega)]
    exact ih _ (by omega) (by omega)
theorem spec_syExcess_ev {l : List Int} (h : Lst l) (t : Nat) (ht : t ≤ 61) : Ev (fun k => spec_syExcess.f k l (t : Int)) (exc l t) := by
  have := spec_syExcess_l h t ht 0 (Nat.zero_le _) 0 (by omega) (by omega)
  simpa only [spec_syExcess.f, List.drop_zero, Int.zero_add, Int.natCast_zero] using this

theorem spec_ThresholdRefusal_l {a b : List Int} (ha : Lst a) (hb : Lst b) : ∀ d t : Nat, t + d = 61 → Ev (fun k => spec_ThresholdRefusal.l0 k a b (t : Int)) (fthr a b t d)
  | 0, t, h => by
    have c : ¬ ((t : Int) ≤ 60) := by omega
    refine Ev.succ ?_
    simp only [spec_ThresholdRefusal.l0, c, if_false, fthr]
    exact Ev.now _
  | d + 1, t, h => by
    have c : (t : Int) ≤ 60 := by omega
    refine Ev.succ ?_
    simp only [spec_ThresholdRefusal.l0, c, if_true, fthr]
    refine Ev.bind (spec_syExcess_ev ha t (by omega)) ?_
    refine Ev.bind (spec_syExcess_ev hb t (by omega)) ?_
    by_cases g : exc a t > exc b t
    · simp only [g, if_true]; exact Ev.now _
    · simp only [g, if_false]
      rw [wnext (by omega : t < 62) (by omega)]
      exact spec_ThresholdRefusal_l ha hb d (t + 1) (by omega)

theorem spec_ThresholdRefusal_ev (a b : List Int) (ha : a.length ≤ 1048576) (hb : b.length ≤ 1048576) : Ev (fun k => spec_ThresholdRefusal.f k a b) (if fits a b then fthr a b 0 61 else (0, false)) := by
  simp only [spec_ThresholdRefusal.f]
  refine Ev.bind (spec_liGood_ev a (by omega)) ?_
  have off : Ev (fun k => spec_ThresholdRefusal.j0 k a b true) (0, false) := by
    refine Ev.succ ?_
    simp only [spec_ThresholdRefusal.j0, if_true]
    exact Ev.now _
  cases h : goodB a with
  | false =>
    have hf : fits a b = false := by simp [fits, h]
    simp only [hf, Bool.false_eq_true, if_false]; exact off
  | true =>
    simp only [if_true]
    refine Ev.bind (spec_liGood_ev b (by omega)) ?_
    cases h2 : goodB b with
    | false =>
      have hf : fits a b = false := by simp [fits, h2]
      simp only [hf, Bool.false_eq_true, if_false]; exact off
    | true =>
      simp only [if_true]
      refine Ev.bind (spec_liFit_ev (goodB_iff.1 h) (goodB_iff.1 h2)) ?_
      have hf : fits a b = (decide (a.length = b.length) && decide (a.sum = b.sum)) := by simp [fits, h, h2]
      rw [← hf]
      cases h3 : fits a b with
      | false => simp only [Bool.not_false, Bool.false_eq_true, if_false]; exact off
      | true =>
        simp only [Bool.not_true, if_true]
        refine Ev.succ ?_
        simp only [spec_ThresholdRefusal.j0, Bool.false_eq_true, if_false]
        exact spec_ThresholdRefusal_l (goodB_iff.1 h) (goodB_iff.1 h2) 61 0 rfl

theorem impl_within_e (a b c : Int) : impl_within.f a b c = some (wth a b c) := wth_opt a b c

theorem impl_allWithin_l (l : List Int) (lo hi : Int) (hl : l.length ≤ 4611686018427387904) : ∀ i, i ≤ l.length → Ev (fun k => impl_allWithin.l0 k lo hi l (l.length : Int) (i : Int)) (allW (l.drop i) lo hi) := by
  refine down ?_ ?_
  · refine Ev.succ ?_
    simp only [impl_allWithin.l0, nlt (Nat.le_refl l.length), if_false, List.drop_length]
    exact Ev.now _
  · intro i hi ih
    refine Ev.succ ?_
    simp only [impl_allWithin.l0, ilt hi, inn, if_true, impl_within_e, Option.bind_some, rd_lt hi, wnext hi hl]
    rw [drop_cons hi]
    exact Ev.andS fun _ => ih
theorem impl_allWithin_ev (l : List Int) (lo hi : Int) (hl : l.length ≤ 4611686018427387904) : Ev (fun k => impl_allWithin.f k l lo hi) (allW l lo hi) := by
  have := impl_allWithin_l l lo hi hl 0 (Nat.zero_le _)
  simpa only [impl_allWithin.f, List.drop_zero, Int.natCast_zero] using this

theorem impl_IsList_ev (l : List Int) (hl : l.length ≤ 4611686018427387904) : Ev (fun k => impl_IsList.f k l) (goodB l) := by
  simp only [impl_IsList.f, impl_within_e, Option.bind_some, goodB]
  exact Ev.andS fun _ => Ev.ret (f := fun t => t) (impl_allWithin_ev l 0 60 hl)

theorem impl_areLists_ev (a b : List Int) (ha : a.length ≤ 1048576) (hb : b.length ≤ 1048576) : Ev (fun k => impl_areLists.f k a b) (goodB a && goodB b) := by
  simp only [impl_areLists.f]
  exact Ev.and (impl_IsList_ev a (by omega)) fun h => Ev.ret (f := fun t => t) (impl_IsList_ev b (by omega))

theorem impl_total_l (l : List Int) (hl : l.length ≤ 4611686018427387904) : ∀ i, i ≤ l.length → ∀ acc, InR acc → Ev (fun k => impl_total.l0 k acc l (l.length : Int) (i : Int)) (wrap64 (acc + (l.drop i).sum)) := by
  refine down ?_ ?_
  · intro acc ha
    refine Ev.succ ?_
    simp only [impl_total.l0, nlt (Nat.le_refl l.length), if_false, List.drop_length, List.sum_nil, Int.add_zero, wR ha]
    exact Ev.now _
  · intro i hi ih acc ha
    refine Ev.succ ?_
    simp only [impl_total.l0, ilt hi, inn, if_true, rd_lt hi, wnext hi hl]
    rw [drop_cons hi, List.sum_cons, ← Int.add_assoc]
    exact (ih _ (inR_wrap _)).eqv (wrap_add _ _)
theorem impl_total_ev (l : List Int) (hl : l.length ≤ 4611686018427387904) : Ev (fun k => impl_total.f k l) (wrap64 l.sum) := by
  have := impl_total_l l hl 0 (Nat.zero_le _) 0 inR_0
  simpa only [impl_total.f, List.drop_zero, Int.zero_add, Int.natCast_zero] using this
theorem impl_total_good {l : List Int} (h : Lst l) : Ev (fun k => impl_total.f k l) l.sum :=
  (impl_total_ev l (by have := h.2.1; omega)).eqv (w64 (by have := h.sum; omega) (by have := h.sum; omega))

theorem impl_doFit_ev {a b : List Int} (ha : Lst a) (hb : Lst b) : Ev (fun k => impl_doFit.f k a b) (decide (a.length = b.length) && decide (a.sum = b.sum)) := by
  simp only [impl_doFit.f]
  by_cases h : a.length = b.length
  · have h2 : (a.length : Int) = (b.length : Int) := by omega
    simp only [h2, if_true, h, decide_true, Bool.true_and]
    refine Ev.bind (impl_total_good ha) ?_
    exact Ev.ret (f := fun t => a.sum == t) (impl_total_good hb)
  · have h2 : ¬ (a.length : Int) = (b.length : Int) := by omega
    simp only [h2, if_false, h, decide_false, Bool.false_and]
    exact Ev.now _

theorem impl_excess_l {l : List Int} (h : Lst l) (t : Nat) (ht : t ≤ 61) : ∀ i, i ≤ l.length → ∀ acc : Int, 0 ≤ acc → acc ≤ 60 * i → Ev (fun k => impl_excess.l0 k (t : Int) acc l (l.length : Int) (i : Int)) (acc + exc (l.drop i) t) := by
  have hn := h.2.1
  unfold exc
  refine down ?_ ?_
  · intro acc ha hb
    refine Ev.succ ?_
    simp only [impl_excess.l0, nlt (Nat.le_refl l.length), if_false, List.drop_length, List.map_nil, List.sum_nil, Int.add_zero]
    exact Ev.now _
  · intro i hi ih acc ha hb
    have b := h.get hi
    refine Ev.succ ?_
    simp only [impl_excess.l0, ilt hi, inn, if_true, rd_lt hi, wnext hi (by omega : l.length ≤ 4611686018427387904), mx_eq]
    rw [drop_cons hi, List.map_cons, List.sum_cons, ← Int.add_assoc, w64 (x := l[i] - t) (by omega) (by omega), w64 (x := acc + _) (by omega) (by omega)]
    exact ih _ (by omega) (by omega)
theorem impl_excess_ev {l : List Int} (h : Lst l) (t : Nat) (ht : t ≤ 61) : Ev (fun k => impl_excess.f k l (t : Int)) (exc l t) := by
  have := impl_excess_l h t ht 0 (Nat.zero_le _) 0 (by omega) (by omega)
  simpa only [impl_excess.f, List.drop_zero, Int.zero_add, Int.natCast_zero] using this

theorem impl_ThresholdRefusal_l {a b : List Int} (ha : Lst a) (hb : Lst b) : ∀ d t : Nat, t + d = 61 → Ev (fun k => impl_ThresholdRefusal.l0 k a b (t : Int)) (fthr a b t d)
  | 0, t, h => by
    have c : ¬ ((t : Int) < 61) := by omega
    refine Ev.succ ?_
    simp only [impl_ThresholdRefusal.l0, c, if_false, fthr]
    exact Ev.now _
  | d + 1, t, h => by
    have c : (t : Int) < 61 := by omega
    refine Ev.succ ?_
    simp only [impl_ThresholdRefusal.l0, c, if_true, fthr]
    refine Ev.bind (impl_excess_ev ha t (by omega)) ?_
    refine Ev.bind (impl_excess_ev hb t (by omega)) ?_
    by_cases g : exc a t > exc b t
    · simp only [g, if_true]; exact Ev.now _
    · simp only [g, if_false]
      rw [wnext (by omega : t < 62) (by omega)]
      exact impl_ThresholdRefusal_l ha hb d (t + 1) (by omega)

theorem impl_ThresholdRefusal_ev (a b : List Int) (ha : a.length ≤ 1048576) (hb : b.length ≤ 1048576) : Ev (fun k => impl_ThresholdRefusal.f k a b) (if fits a b then fthr a b 0 61 else (0, false)) := by
  simp only [impl_ThresholdRefusal.f]
  refine Ev.bind (impl_areLists_ev a b ha hb) ?_
  have off : Ev (fun k => impl_ThresholdRefusal.j0 k a b true) (0, false) := by
    refine Ev.succ ?_
    simp only [impl_ThresholdRefusal.j0, if_true]
    exact Ev.now _
  cases h : goodB a && goodB b with
  | false =>
    have hf : fits a b = false := by rw [fits, ← Bool.and_assoc, h, Bool.false_and]
    simp only [hf, Bool.false_eq_true, if_false]; exact off
  | true =>
    simp only [if_true]
    have hf : fits a b = (decide (a.length = b.length) && decide (a.sum = b.sum)) := by rw [fits, ← Bool.and_assoc, h, Bool.true_and]
    rw [Bool.and_eq_true, goodB_iff, goodB_iff] at h
    refine Ev.bind (impl_doFit_ev h.1 h.2) ?_
    rw [← hf]
    cases h3 : fits a b with
    | false => simp only [Bool.not_false, Bool.false_eq_true, if_false]; exact off
    | true =>
      simp only [Bool.not_true, if_true]
      refine Ev.succ ?_
      simp only [impl_ThresholdRefusal.j0, Bool.false_eq_true, if_false]
      exact impl_ThresholdRefusal_l h.1 h.2 61 0 rfl

theorem FnExactThresholdRefusal : laws_FnExactThresholdRefusal.Pure := by
  intro a b hma hsa hwa hmb hsb hwb
  refine Ev.rounds ?_
  simp only [laws_FnExactThresholdRefusal.f]
  by_cases hba : (a.length : Int) > 1048576
  · simp only [hba, if_true]; exact Ev.now _
  · simp only [hba, if_false]
    by_cases hbb : (b.length : Int) > 1048576
    · simp only [hbb, if_true]; exact Ev.now _
    · simp only [hbb, if_false]
      refine Ev.bind (laws_toIntS_ev a (by omega)) ?_
      refine Ev.bind (laws_toIntS_ev b (by omega)) ?_
      refine Ev.bind (spec_ThresholdRefusal_ev a b (by omega) (by omega)) ?_
      refine Ev.bind (laws_toIntS_ev a (by omega)) ?_
      refine Ev.bind (laws_toIntS_ev b (by omega)) ?_
      refine Ev.bind (impl_ThresholdRefusal_ev a b (by omega) (by omega)) ?_
      simp only [bne_self_eq_false, Bool.false_eq_true, if_false, if_true]
      refine Ev.succ ?_
      simp only [laws_FnExactThresholdRefusal.j0, Bool.false_eq_true, if_false]
      refine Ev.bind (laws_toIntS_ev a (by omega)) ?_
      refine Ev.bind (laws_eqIntS_self a (by omega)) ?_
      simp only [if_true]
      refine Ev.bind (laws_toIntS_ev b (by omega)) ?_
      refine Ev.bind (laws_eqIntS_self b (by omega)) ?_
      simp only [if_true]
      exact Ev.now _

end Go.Proofs.Ytbdennepenacpaa.Pure
