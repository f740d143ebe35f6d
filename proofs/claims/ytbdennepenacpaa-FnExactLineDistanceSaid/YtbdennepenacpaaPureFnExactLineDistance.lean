/- The program's LineDistance returns what the reference's returns, for all arguments; the printed functions' own bounds on lengths are the only conditions. -/
import Derived.Test.YtbdennepenacpaaPFnExactLineDistancex3
import Derived.Test.YtbdennepenacpaaMath
namespace Go.Proofs.Ytbdennepenacpaa.Pure
open Go.RowKit Go.Proofs.Ytbdennepenacpaa.PFnExactLineDistance Go.Proofs.YtbdennepenacpaaW.PrintWords Go.Proofs.YtbdennepenacpaaW.PrintLast Go.Proofs.YtbdennepenacpaaW.PrintMore Go.Proofs.Ytbdennepenacpaa.Math
set_option linter.unusedVariables false
set_option linter.unusedSimpArgs false
set_option linter.unusedSectionVars false

theorem laws_toIntS_l (l : List Int) (hl : l.length ≤ 4611686018427387904) : ∀ i, i ≤ l.length → ∀ m : List Int, m.length = l.length → m.take i = l.take i → Ev (fun k => laws_toIntS.l0 k l m (i : Int)) l := by
  refine down ?_ ?_
  · intro m hm h
    refine Ev.succ ?_
    simp only [laws_toIntS.l0, nlt (Nat.le_refl l.length), if_false]
    rw [← hm, List.take_length, hm, List.take_length] at h
    rw [h]
    exact Ev.now _
  · intro i hi ih m hm h
    refine Ev.succ ?_
    simp only [laws_toIntS.l0, ilt hi, inn, if_true, hm, rd_lt hi, wnext hi hl, Int.toNat_natCast]
    exact ih _ (by simpa using hm) (set_take l m i hi hm h)
theorem laws_toIntS_ev (l : List Int) (hl : l.length ≤ 35184372088832) : Ev (fun k => laws_toIntS.f k l) l := by
  have := laws_toIntS_l l (by omega) 0 (Nat.zero_le _) (List.replicate l.length 0) (by simp) (by simp)
  simp only [laws_toIntS.f, inn, if_true, Int.toNat_natCast, hl]
  exact this

theorem laws_eqIntS_l (l m : List Int) (he : m.length = l.length) (hl : l.length ≤ 4611686018427387904) : ∀ i, i ≤ l.length → Ev (fun k => laws_eqIntS.l0 k l m (i : Int)) (decide (l.drop i = m.drop i)) := by
  refine down ?_ ?_
  · refine Ev.succ ?_
    simp only [laws_eqIntS.l0, nlt (Nat.le_refl l.length), if_false, List.drop_length]
    rw [← he, List.drop_length]
    exact Ev.now _
  · intro i hi ih
    refine Ev.succ ?_
    simp only [laws_eqIntS.l0, ilt hi, inn, if_true, he, rd_lt hi, rd_lt (he ▸ hi : i < m.length), wnext hi hl]
    rw [drop_cons hi, drop_cons (he ▸ hi : i < m.length)]
    by_cases hx : l[i] = m[i]
    · simp only [hx, if_true, List.cons.injEq, true_and]
      exact ih
    · simp only [hx, if_false, List.cons.injEq, false_and, decide_false]
      exact Ev.now _
theorem laws_eqIntS_ev (l m : List Int) (hl : l.length ≤ 4611686018427387904) : Ev (fun k => laws_eqIntS.f k l m) (decide (l = m)) := by
  simp only [laws_eqIntS.f]
  by_cases he : (l.length : Int) = (m.length : Int)
  · simp only [he, if_true]
    exact laws_eqIntS_l l m (by omega) hl 0 (Nat.zero_le _)
  · simp only [he, if_false]
    rw [decide_eq_false (fun h => he (by rw [h]))]
    exact Ev.now _
theorem laws_eqIntS_self (l : List Int) (hl : l.length ≤ 4611686018427387904) : Ev (fun k => laws_eqIntS.f k l l) true := by
  simpa using laws_eqIntS_ev l l hl

theorem spec_l1In_e (a b c : Int) : spec_l1In.f a b c = some (wth a b c) := wth_opt a b c

theorem spec_l1All_l (l : List Int) (lo hi : Int) (hl : l.length ≤ 4611686018427387904) : ∀ i, i ≤ l.length → Ev (fun k => spec_l1All.l0 k lo hi l (l.length : Int) (i : Int)) (allW (l.drop i) lo hi) := by
  refine down ?_ ?_
  · refine Ev.succ ?_
    simp only [spec_l1All.l0, nlt (Nat.le_refl l.length), if_false, List.drop_length]
    exact Ev.now _
  · intro i hi ih
    refine Ev.succ ?_
    simp only [spec_l1All.l0, ilt hi, inn, if_true, spec_l1In_e, Option.bind_some, rd_lt hi, wnext hi hl]
    rw [drop_cons hi]
    exact Ev.andS fun _ => ih
theorem spec_l1All_ev (l : List Int) (lo hi : Int) (hl : l.length ≤ 4611686018427387904) : Ev (fun k => spec_l1All.f k l lo hi) (allW l lo hi) := by
  have := spec_l1All_l l lo hi hl 0 (Nat.zero_le _)
  simpa only [spec_l1All.f, List.drop_zero, Int.natCast_zero] using this

theorem spec_liGood_ev (l : List Int) (hl : l.length ≤ 4611686018427387904) : Ev (fun k => spec_liGood.f k l) (goodB l) := by
  simp only [spec_liGood.f, spec_l1In_e, Option.bind_some, goodB]
  exact Ev.andS fun _ => Ev.ret (f := fun t => t) (spec_l1All_ev l 0 60 hl)

theorem spec_liSum_l (l : List Int) (hl : l.length ≤ 4611686018427387904) : ∀ i, i ≤ l.length → ∀ acc, InR acc → Ev (fun k => spec_liSum.l0 k acc l (l.length : Int) (i : Int)) (wrap64 (acc + (l.drop i).sum)) := by
  refine down ?_ ?_
  · intro acc ha
    refine Ev.succ ?_
    simp only [spec_liSum.l0, nlt (Nat.le_refl l.length), if_false, List.drop_length, List.sum_nil, Int.add_zero, wR ha]
    exact Ev.now _
  · intro i hi ih acc ha
    refine Ev.succ ?_
    simp only [spec_liSum.l0, ilt hi, inn, if_true, rd_lt hi, wnext hi hl]
    rw [drop_cons hi, List.sum_cons, ← Int.add_assoc]
    exact (ih _ (inR_wrap _)).eqv (wrap_add _ _)
theorem spec_liSum_ev (l : List Int) (hl : l.length ≤ 4611686018427387904) : Ev (fun k => spec_liSum.f k l) (wrap64 l.sum) := by
  have := spec_liSum_l l hl 0 (Nat.zero_le _) 0 inR_0
  simpa only [spec_liSum.f, List.drop_zero, Int.zero_add, Int.natCast_zero] using this
theorem spec_liSum_good {l : List Int} (h : Lst l) : Ev (fun k => spec_liSum.f k l) l.sum :=
  (spec_liSum_ev l (by have := h.2.1; omega)).eqv (w64 (by have := h.sum; omega) (by have := h.sum; omega))

theorem spec_liFit_ev {a b : List Int} (ha : Lst a) (hb : Lst b) : Ev (fun k => spec_liFit.f k a b) (decide (a.length = b.length) && decide (a.sum = b.sum)) := by
  simp only [spec_liFit.f]
  by_cases h : a.length = b.length
  · have h2 : (a.length : Int) = (b.length : Int) := by omega
    simp only [h2, if_true, h, decide_true, Bool.true_and]
    refine Ev.bind (spec_liSum_good ha) ?_
    exact Ev.ret (f := fun t => a.sum == t) (spec_liSum_good hb)
  · have h2 : ¬ (a.length : Int) = (b.length : Int) := by omega
    simp only [h2, if_false, h, decide_false, Bool.false_and]
    exact Ev.now _

theorem spec_plBoth_ev (a b : List Int) (ha : a.length ≤ 1048576) (hb : b.length ≤ 1048576) : Ev (fun k => spec_plBoth.f k a b) (fits a b) := by
  simp only [spec_plBoth.f]
  refine Ev.and (spec_liGood_ev a (by omega)) fun h => ?_
  refine Ev.and (spec_liGood_ev b (by omega)) fun h2 => ?_
  exact Ev.ret (f := fun t => t) (spec_liFit_ev (goodB_iff.1 h) (goodB_iff.1 h2))

theorem spec_l1Most_e (a b : Int) : spec_l1Most.f a b = some (max a b) := by
  unfold spec_l1Most.f
  by_cases h : a > b
  · rw [if_pos h]; congr 1; omega
  · rw [if_neg h]; congr 1; omega

theorem spec_liSums_l (l : List Int) (hl : l.length ≤ 1048576) (hb : ∀ x ∈ l, 0 ≤ x ∧ x ≤ 60) : ∀ i, i ≤ l.length → ∀ (out : List Int) (s : Int), out.length = i → 0 ≤ s → s ≤ 60 * i → Ev (fun k => spec_liSums.l0 k out s l (l.length : Int) (i : Int)) (out ++ psums s (l.drop i)) := by
  refine down ?_ ?_
  · intro out s ho h0 h1
    refine Ev.succ ?_
    simp only [spec_liSums.l0, nlt (Nat.le_refl l.length), if_false, List.drop_length, psums, List.append_nil]
    exact Ev.now _
  · intro i hi ih out s ho h0 h1
    have b := hb _ (List.getElem_mem hi)
    have c : out.length < 17592186044416 := by omega
    refine Ev.succ ?_
    simp only [spec_liSums.l0, ilt hi, inn, if_true, rd_lt hi, wnext hi (by omega : l.length ≤ 4611686018427387904), c, w64 (x := s + l[i]) (by omega) (by omega)]
    rw [drop_cons hi, psums]
    exact (ih _ _ (by simp [ho]) (by omega) (by omega)).eqv (by simp)
theorem spec_liSums_ev (l : List Int) (hl : l.length ≤ 1048576) (hb : ∀ x ∈ l, 0 ≤ x ∧ x ≤ 60) : Ev (fun k => spec_liSums.f k l) (psums 0 l) := by
  have := spec_liSums_l l hl hb 0 (Nat.zero_le _) [] 0 rfl (by omega) (by omega)
  simpa only [spec_liSums.f, List.drop_zero, List.nil_append, Int.natCast_zero] using this

theorem spec_plDistance_l {X Y : List Int} (he : X.length = Y.length) (hl : X.length ≤ 1048576) (hX : ∀ x ∈ X, 0 ≤ x ∧ x ≤ 480) (hY : ∀ x ∈ Y, 0 ≤ x ∧ x ≤ 480) : ∀ i, i ≤ X.length → ∀ acc : Int, 0 ≤ acc → acc ≤ 480 * i → Ev (fun k => spec_plDistance.l0 k X Y acc (X.length : Int) (i : Int)) (acc + sabs (X.drop i) (Y.drop i)) := by
  refine down ?_ ?_
  · intro acc h0 h1
    refine Ev.succ ?_
    simp only [spec_plDistance.l0, nlt (Nat.le_refl X.length), if_false, List.drop_length, sabs, Int.add_zero]
    exact Ev.now _
  · intro i hi ih acc h0 h1
    have h2 : i < Y.length := by omega
    have b0 := hX _ (List.getElem_mem hi)
    have b1 := hY _ (List.getElem_mem h2)
    refine Ev.succ ?_
    simp only [spec_plDistance.l0, ilt hi, ilt h2, inn, if_true, rd_lt hi, rd_lt h2, wnext hi (by omega : X.length ≤ 4611686018427387904), spec_l1Most_e, Option.bind_some, w64 (x := X[i] - Y[i]) (by omega) (by omega), w64 (x := Y[i] - X[i]) (by omega) (by omega)]
    rw [drop_cons hi, drop_cons h2, sabs, ← Int.add_assoc, w64 (x := acc + _) (by omega) (by omega)]
    exact ih _ (by omega) (by omega)
theorem spec_plDistance_ev {a b : List Int} (ha : Lst a) (hb : Lst b) (he : a.length = b.length) : Ev (fun k => spec_plDistance.f k a b) (lineDist a b) := by
  have hn := ha.2.1
  simp only [spec_plDistance.f]
  refine Ev.bind (spec_liSums_ev a (by omega) ha.2.2) ?_
  refine Ev.bind (spec_liSums_ev b (by omega) hb.2.2) ?_
  have e1 := psums_length 0 a
  have := spec_plDistance_l (X := psums 0 a) (Y := psums 0 b) (by rw [e1, psums_length, he]) (by omega) (psums_bound ha.2.2 (by omega) (by omega)) (psums_bound hb.2.2 (by omega) (by omega)) 0 (Nat.zero_le _) 0 (by omega) (by omega)
  rw [List.drop_zero, List.drop_zero, Int.zero_add, sabs_psums _ _ _ _ he] at this
  exact this

theorem spec_LineDistance_ev (a b : List Int) (ha : a.length ≤ 1048576) (hb : b.length ≤ 1048576) : Ev (fun k => spec_LineDistance.f k a b) (if fits a b then (lineDist a b, true) else (0, false)) := by
  simp only [spec_LineDistance.f]
  refine Ev.bind (spec_plBoth_ev a b ha hb) ?_
  cases h : fits a b with
  | false => simp only [Bool.false_eq_true, if_false]; exact Ev.now _
  | true =>
    simp only [if_true]
    obtain ⟨h1, h2, h3, h4⟩ := fits_iff.1 h
    exact Ev.ret (f := fun t => (t, true)) (spec_plDistance_ev h1 h2 h3)

theorem impl_within_e (a b c : Int) : impl_within.f a b c = some (wth a b c) := wth_opt a b c

theorem impl_allWithin_l (l : List Int) (lo hi : Int) (hl : l.length ≤ 4611686018427387904) : ∀ i, i ≤ l.length → Ev (fun k => impl_allWithin.l0 k lo hi l (l.length : Int) (i : Int)) (allW (l.drop i) lo hi) := by
  refine down ?_ ?_
  · refine Ev.succ ?_
    simp only [impl_allWithin.l0, nlt (Nat.le_refl l.length), if_false, List.drop_length]
    exact Ev.now _
  · intro i hi ih
    refine Ev.succ ?_
    simp only [impl_allWithin.l0, ilt hi, inn, if_true, impl_within_e, Option.bind_some, rd_lt hi, wnext hi hl]
    rw [drop_cons hi]
    exact Ev.andS fun _ => ih
theorem impl_allWithin_ev (l : List Int) (lo hi : Int) (hl : l.length ≤ 4611686018427387904) : Ev (fun k => impl_allWithin.f k l lo hi) (allW l lo hi) := by
  have := impl_allWithin_l l lo hi hl 0 (Nat.zero_le _)
  simpa only [impl_allWithin.f, List.drop_zero, Int.natCast_zero] using this

theorem impl_IsList_ev (l : List Int) (hl : l.length ≤ 4611686018427387904) : Ev (fun k => impl_IsList.f k l) (goodB l) := by
  simp only [impl_IsList.f, impl_within_e, Option.bind_some, goodB]
  exact Ev.andS fun _ => Ev.ret (f := fun t => t) (impl_allWithin_ev l 0 60 hl)

theorem impl_areLists_ev (a b : List Int) (ha : a.length ≤ 1048576) (hb : b.length ≤ 1048576) : Ev (fun k => impl_areLists.f k a b) (goodB a && goodB b) := by
  simp only [impl_areLists.f]
  exact Ev.and (impl_IsList_ev a (by omega)) fun h => Ev.ret (f := fun t => t) (impl_IsList_ev b (by omega))

theorem impl_total_l (l : List Int) (hl : l.length ≤ 4611686018427387904) : ∀ i, i ≤ l.length → ∀ acc, InR acc → Ev (fun k => impl_total.l0 k acc l (l.length : Int) (i : Int)) (wrap64 (acc + (l.drop i).sum)) := by
  refine down ?_ ?_
  · intro acc ha
    refine Ev.succ ?_
    simp only [impl_total.l0, nlt (Nat.le_refl l.length), if_false, List.drop_length, List.sum_nil, Int.add_zero, wR ha]
    exact Ev.now _
  · intro i hi ih acc ha
    refine Ev.succ ?_
    simp only [impl_total.l0, ilt hi, inn, if_true, rd_lt hi, wnext hi hl]
    rw [drop_cons hi, List.sum_cons, ← Int.add_assoc]
    exact (ih _ (inR_wrap _)).eqv (wrap_add _ _)
theorem impl_total_ev (l : List Int) (hl : l.length ≤ 4611686018427387904) : Ev (fun k => impl_total.f k l) (wrap64 l.sum) := by
  have := impl_total_l l hl 0 (Nat.zero_le _) 0 inR_0
  simpa only [impl_total.f, List.drop_zero, Int.zero_add, Int.natCast_zero] using this
theorem impl_total_good {l : List Int} (h : Lst l) : Ev (fun k => impl_total.f k l) l.sum :=
  (impl_total_ev l (by have := h.2.1; omega)).eqv (w64 (by have := h.sum; omega) (by have := h.sum; omega))

theorem impl_doFit_ev {a b : List Int} (ha : Lst a) (hb : Lst b) : Ev (fun k => impl_doFit.f k a b) (decide (a.length = b.length) && decide (a.sum = b.sum)) := by
  simp only [impl_doFit.f]
  by_cases h : a.length = b.length
  · have h2 : (a.length : Int) = (b.length : Int) := by omega
    simp only [h2, if_true, h, decide_true, Bool.true_and]
    refine Ev.bind (impl_total_good ha) ?_
    exact Ev.ret (f := fun t => a.sum == t) (impl_total_good hb)
  · have h2 : ¬ (a.length : Int) = (b.length : Int) := by omega
    simp only [h2, if_false, h, decide_false, Bool.false_and]
    exact Ev.now _

theorem impl_areFitting_ev (a b : List Int) (ha : a.length ≤ 1048576) (hb : b.length ≤ 1048576) : Ev (fun k => impl_areFitting.f k a b) (fits a b) := by
  simp only [impl_areFitting.f]
  refine (Ev.and (b := decide (a.length = b.length) && decide (a.sum = b.sum)) (impl_areLists_ev a b ha hb) fun h => ?_).eqv (Bool.and_assoc _ _ _)
  rw [Bool.and_eq_true, goodB_iff, goodB_iff] at h
  exact Ev.ret (f := fun t => t) (impl_doFit_ev h.1 h.2)

theorem impl_ahead_l {a b : List Int} (he : a.length = b.length) (hl : a.length ≤ 1048576) (ha : ∀ x ∈ a, 0 ≤ x ∧ x ≤ 60) (hb : ∀ x ∈ b, 0 ≤ x ∧ x ≤ 60) : ∀ i, i ≤ a.length → ∀ (out : List Int) (s : Int), out.length = i → -60 * (i : Int) ≤ s → s ≤ 60 * i → Ev (fun k => impl_ahead.l0 k b out s a (a.length : Int) (i : Int)) (out ++ dsums s (a.drop i) (b.drop i)) := by
  refine down ?_ ?_
  · intro out s ho h0 h1
    refine Ev.succ ?_
    simp only [impl_ahead.l0, nlt (Nat.le_refl a.length), if_false, List.drop_length, dsums, List.append_nil]
    exact Ev.now _
  · intro i hi ih out s ho h0 h1
    have h2 : i < b.length := by omega
    have b0 := ha _ (List.getElem_mem hi)
    have b1 := hb _ (List.getElem_mem h2)
    have c : out.length < 17592186044416 := by omega
    refine Ev.succ ?_
    simp only [impl_ahead.l0, ilt hi, ilt h2, inn, if_true, rd_lt hi, rd_lt h2, wnext hi (by omega : a.length ≤ 4611686018427387904), c, w64 (x := a[i] - b[i]) (by omega) (by omega), w64 (x := s + (a[i] - b[i])) (by omega) (by omega)]
    rw [drop_cons hi, drop_cons h2, dsums]
    exact (ih _ _ (by simp [ho]) (by omega) (by omega)).eqv (by simp)
theorem impl_ahead_ev {a b : List Int} (ha : Lst a) (hb : Lst b) (he : a.length = b.length) : Ev (fun k => impl_ahead.f k a b) (dsums 0 a b) := by
  have := impl_ahead_l he (by have := ha.2.1; omega) ha.2.2 hb.2.2 0 (Nat.zero_le _) [] 0 rfl (by omega) (by omega)
  simpa only [impl_ahead.f, List.drop_zero, List.nil_append, Int.natCast_zero] using this

theorem impl_LineDistance_l {X : List Int} (hl : X.length ≤ 1048576) (hX : ∀ x ∈ X, -480 ≤ x ∧ x ≤ 480) : ∀ i, i ≤ X.length → ∀ acc : Int, 0 ≤ acc → acc ≤ 480 * i → Ev (fun k => impl_LineDistance.l0 k acc X (X.length : Int) (i : Int)) (acc + sabs1 (X.drop i), true) := by
  refine down ?_ ?_
  · intro acc h0 h1
    refine Ev.succ ?_
    simp only [impl_LineDistance.l0, nlt (Nat.le_refl X.length), if_false, List.drop_length, sabs1, Int.add_zero]
    exact Ev.now _
  · intro i hi ih acc h0 h1
    have b0 := hX _ (List.getElem_mem hi)
    refine Ev.succ ?_
    simp only [impl_LineDistance.l0, ilt hi, inn, if_true, rd_lt hi, wnext hi (by omega : X.length ≤ 4611686018427387904), mx_eq, w64 (x := -X[i]) (by omega) (by omega)]
    rw [drop_cons hi, sabs1, ← Int.add_assoc, w64 (x := acc + _) (by omega) (by omega)]
    exact ih _ (by omega) (by omega)
theorem impl_LineDistance_ev (a b : List Int) (ha : a.length ≤ 1048576) (hb : b.length ≤ 1048576) : Ev (fun k => impl_LineDistance.f k a b) (if fits a b then (lineDist a b, true) else (0, false)) := by
  simp only [impl_LineDistance.f]
  refine Ev.bind (impl_areFitting_ev a b ha hb) ?_
  cases h : fits a b with
  | false => simp only [Bool.false_eq_true, if_false]; exact Ev.now _
  | true =>
    simp only [if_true]
    obtain ⟨h1, h2, h3, h4⟩ := fits_iff.1 h
    have hn := h1.2.1
    have e1 := dsums_length 0 a b h3
    refine Ev.bind (impl_ahead_ev h1 h2 h3) ?_
    have := impl_LineDistance_l (X := dsums 0 a b) (by omega) (dsums_bound h1.2.2 h2.2.2 (by omega) (by omega)) 0 (Nat.zero_le _) 0 (by omega) (by omega)
    rw [List.drop_zero, Int.zero_add] at this
    exact this

theorem FnExactLineDistance : laws_FnExactLineDistance.Pure := by
  intro a b hma hsa hwa hmb hsb hwb
  refine Ev.rounds ?_
  simp only [laws_FnExactLineDistance.f]
  by_cases hba : (a.length : Int) > 1048576
  · simp only [hba, if_true]; exact Ev.now _
  · simp only [hba, if_false]
    by_cases hbb : (b.length : Int) > 1048576
    · simp only [hbb, if_true]; exact Ev.now _
    · simp only [hbb, if_false]
      refine Ev.bind (laws_toIntS_ev a (by omega)) ?_
      refine Ev.bind (laws_toIntS_ev b (by omega)) ?_
      refine Ev.bind (spec_LineDistance_ev a b (by omega) (by omega)) ?_
      refine Ev.bind (laws_toIntS_ev a (by omega)) ?_
      refine Ev.bind (laws_toIntS_ev b (by omega)) ?_
      refine Ev.bind (impl_LineDistance_ev a b (by omega) (by omega)) ?_
      simp only [bne_self_eq_false, Bool.false_eq_true, if_false, if_true]
      refine Ev.succ ?_
      simp only [laws_FnExactLineDistance.j0, Bool.false_eq_true, if_false]
      refine Ev.bind (laws_toIntS_ev a (by omega)) ?_
      refine Ev.bind (laws_eqIntS_self a (by omega)) ?_
      simp only [if_true]
      refine Ev.bind (laws_toIntS_ev b (by omega)) ?_
      refine Ev.bind (laws_eqIntS_self b (by omega)) ?_
      simp only [if_true]
      exact Ev.now _

end Go.Proofs.Ytbdennepenacpaa.Pure
