/- The program's BestHeights returns what the reference's returns, for all arguments; the printed functions' own bounds on lengths are the only conditions. -/
import Derived.Test.YtbdennepenacpaaPFnExactBestHeightsx5
import Derived.Test.YtbdennepenacpaaMath
namespace Go.Proofs.Ytbdennepenacpaa.Pure
open Go.RowKit Go.Proofs.Ytbdennepenacpaa.PFnExactBestHeights Go.Proofs.YtbdennepenacpaaW.PrintWords Go.Proofs.YtbdennepenacpaaW.PrintLast Go.Proofs.YtbdennepenacpaaW.PrintMore Go.Proofs.Ytbdennepenacpaa.Math
set_option linter.unusedVariables false
set_option linter.unusedSimpArgs false
set_option linter.unusedSectionVars false

theorem laws_toIntS_l (l : List Int) (hl : l.length ≤ 4611686018427387904) : ∀ i, i ≤ l.length → ∀ m : List Int, m.length = l.length → m.take i = l.take i → Ev (fun k => laws_toIntS.l0 k l m (i : Int)) l := by
  refine down ?_ ?_
  · intro m hm h
    refine Ev.succ ?_
    simp only [laws_toIntS.l0, nlt (Nat.le_refl l.length), if_false]
    rw [← hm, List.take_length, hm, List.take_length] at h
    rw [h]
    exact Ev.now _
  · intro i hi ih m hm h
    refine Ev.succ ?_
    simp only [laws_toIntS.l0, ilt hi, inn, if_true, hm, rd_lt hi, wnext hi hl, Int.toNat_natCast]
    exact ih _ (by simpa using hm) (set_take l m i hi hm h)
theorem laws_toIntS_ev (l : List Int) (hl : l.length ≤ 35184372088832) : Ev (fun k => laws_toIntS.f k l) l := by
  have := laws_toIntS_l l (by omega) 0 (Nat.zero_le _) (List.replicate l.length 0) (by simp) (by simp)
  simp only [laws_toIntS.f, inn, if_true, Int.toNat_natCast, hl]
  exact this

theorem laws_eqIntS_l (l m : List Int) (he : m.length = l.length) (hl : l.length ≤ 4611686018427387904) : ∀ i, i ≤ l.length → Ev (fun k => laws_eqIntS.l0 k l m (i : Int)) (decide (l.drop i = m.drop i)) := by
  refine down ?_ ?_
  · refine Ev.succ ?_
    simp only [laws_eqIntS.l0, nlt (Nat.le_refl l.length), if_false, List.drop_length]
    rw [← he, List.drop_length]
    exact Ev.now _
  · intro i hi ih
    refine Ev.succ ?_
    simp only [laws_eqIntS.l0, ilt hi, inn, if_true, he, rd_lt hi, rd_lt (he ▸ hi : i < m.length), wnext hi hl]
    rw [drop_cons hi, drop_cons (he ▸ hi : i < m.length)]
    by_cases hx : l[i] = m[i]
    · simp only [hx, if_true, List.cons.injEq, true_and]
      exact ih
    · simp only [hx, if_false, List.cons.injEq, false_and, decide_false]
      exact Ev.now _
theorem laws_eqIntS_ev (l m : List Int) (hl : l.length ≤ 4611686018427387904) : Ev (fun k => laws_eqIntS.f k l m) (decide (l = m)) := by
  simp only [laws_eqIntS.f]
  by_cases he : (l.length : Int) = (m.length : Int)
  · simp only [he, if_true]
    exact laws_eqIntS_l l m (by omega) hl 0 (Nat.zero_le _)
  · simp only [he, if_false]
    rw [decide_eq_false (fun h => he (by rw [h]))]
    exact Ev.now _
theorem laws_eqIntS_self (l : List Int) (hl : l.length ≤ 4611686018427387904) : Ev (fun k => laws_eqIntS.f k l l) true := by
  simpa using laws_eqIntS_ev l l hl

theorem laws_markIntS_l (n : Nat) (hn : n ≤ 1048576) (s : Nat) (hs : s ≤ 4611686018427) : ∀ i, i ≤ n → ∀ m : List Int, m.length = n → m.take i = (iotaF s n).take i → Ev (fun k => laws_markIntS.l0 k m ((s + i : Nat) : Int) (i : Int)) (((s + n : Nat) : Int), iotaF s n) := by
  refine down ?_ ?_
  · intro m hm h
    refine Ev.succ ?_
    simp only [laws_markIntS.l0, hm, nlt (Nat.le_refl n), if_false]
    rw [← hm, List.take_length, hm, List.take_of_length_le (by rw [iotaF_length]; exact Nat.le_refl _)] at h
    rw [h]
    exact Ev.now _
  · intro i hi ih m hm h
    refine Ev.succ ?_
    simp only [laws_markIntS.l0, hm, ilt hi, inn, if_true, Int.toNat_natCast, wnext hi (by omega : n ≤ 4611686018427387904), wnext (by omega : s + i < 4611686018427387904) (by omega)]
    have := set_take (iotaF s n) m i (by rw [iotaF_length]; exact hi) (by rw [iotaF_length]; exact hm) h
    rw [iotaF_get hi] at this
    exact ih _ (by simpa using hm) this
theorem laws_markIntS_ev (l : List Int) (hl : l.length ≤ 1048576) (s : Nat) (hs : s ≤ 4611686018427) : Ev (fun k => laws_markIntS.f k l (s : Int)) (((s + l.length : Nat) : Int), iotaF s l.length) := by
  have := laws_markIntS_l l.length hl s hs 0 (Nat.zero_le _) l rfl rfl
  simpa only [laws_markIntS.f, Int.natCast_zero, Nat.add_zero] using this
theorem laws_markIntS_from (l : List Int) (hl : l.length ≤ 1048576) (s : Nat) (hs : s ≤ 4611686018427) {x : Int} (hx : (s : Int) = x) : Ev (fun k => laws_markIntS.f k l x) (((s + l.length : Nat) : Int), iotaF s l.length) :=
  hx ▸ laws_markIntS_ev l hl s hs

theorem laws_heldIntS_l (n : Nat) (hn : n ≤ 1048576) (s : Nat) (hs : s ≤ 4611686018427) : ∀ i, i ≤ n → Ev (fun k => laws_heldIntS.l0 k (iotaF s n) ((s + i : Nat) : Int) (i : Int)) (((s + n : Nat) : Int)) := by
  refine down ?_ ?_
  · refine Ev.succ ?_
    simp only [laws_heldIntS.l0, iotaF_length, nlt (Nat.le_refl n), if_false]
    exact Ev.now _
  · intro i hi ih
    refine Ev.succ ?_
    simp only [laws_heldIntS.l0, iotaF_length, ilt hi, inn, if_true, rd_lt (by rw [iotaF_length]; exact hi : i < (iotaF s n).length), iotaF_get hi, wnext hi (by omega : n ≤ 4611686018427387904), wnext (by omega : s + i < 4611686018427387904) (by omega)]
    exact ih
theorem laws_heldIntS_ev (n : Nat) (hn : n ≤ 1048576) (s : Nat) (hs : s ≤ 4611686018427) : Ev (fun k => laws_heldIntS.f k (iotaF s n) (s : Int)) (((s + n : Nat) : Int)) := by
  have := laws_heldIntS_l n hn s hs 0 (Nat.zero_le _)
  simpa only [laws_heldIntS.f, Int.natCast_zero, Nat.add_zero] using this
theorem laws_heldIntS_from (n : Nat) (hn : n ≤ 1048576) (s : Nat) (hs : s ≤ 4611686018427) {x : Int} (hx : (s : Int) = x) : Ev (fun k => laws_heldIntS.f k (iotaF s n) x) (((s + n : Nat) : Int)) :=
  hx ▸ laws_heldIntS_ev n hn s hs

theorem spec_l1In_e (a b c : Int) : spec_l1In.f a b c = some (wth a b c) := wth_opt a b c

theorem spec_l1All_l (l : List Int) (lo hi : Int) (hl : l.length ≤ 4611686018427387904) : ∀ i, i ≤ l.length → Ev (fun k => spec_l1All.l0 k lo hi l (l.length : Int) (i : Int)) (allW (l.drop i) lo hi) := by
  refine down ?_ ?_
  · refine Ev.succ ?_
    simp only [spec_l1All.l0, nlt (Nat.le_refl l.length), if_false, List.drop_length]
    exact Ev.now _
  · intro i hi ih
    refine Ev.succ ?_
    simp only [spec_l1All.l0, ilt hi, inn, if_true, spec_l1In_e, Option.bind_some, rd_lt hi, wnext hi hl]
    rw [drop_cons hi]
    exact Ev.andS fun _ => ih
theorem spec_l1All_ev (l : List Int) (lo hi : Int) (hl : l.length ≤ 4611686018427387904) : Ev (fun k => spec_l1All.f k l lo hi) (allW l lo hi) := by
  have := spec_l1All_l l lo hi hl 0 (Nat.zero_le _)
  simpa only [spec_l1All.f, List.drop_zero, Int.natCast_zero] using this

theorem spec_liGood_ev (l : List Int) (hl : l.length ≤ 4611686018427387904) : Ev (fun k => spec_liGood.f k l) (goodB l) := by
  simp only [spec_liGood.f, spec_l1In_e, Option.bind_some, goodB]
  exact Ev.andS fun _ => Ev.ret (f := fun t => t) (spec_l1All_ev l 0 60 hl)

theorem spec_liSum_l (l : List Int) (hl : l.length ≤ 4611686018427387904) : ∀ i, i ≤ l.length → ∀ acc, InR acc → Ev (fun k => spec_liSum.l0 k acc l (l.length : Int) (i : Int)) (wrap64 (acc + (l.drop i).sum)) := by
  refine down ?_ ?_
  · intro acc ha
    refine Ev.succ ?_
    simp only [spec_liSum.l0, nlt (Nat.le_refl l.length), if_false, List.drop_length, List.sum_nil, Int.add_zero, wR ha]
    exact Ev.now _
  · intro i hi ih acc ha
    refine Ev.succ ?_
    simp only [spec_liSum.l0, ilt hi, inn, if_true, rd_lt hi, wnext hi hl]
    rw [drop_cons hi, List.sum_cons, ← Int.add_assoc]
    exact (ih _ (inR_wrap _)).eqv (wrap_add _ _)
theorem spec_liSum_ev (l : List Int) (hl : l.length ≤ 4611686018427387904) : Ev (fun k => spec_liSum.f k l) (wrap64 l.sum) := by
  have := spec_liSum_l l hl 0 (Nat.zero_le _) 0 inR_0
  simpa only [spec_liSum.f, List.drop_zero, Int.zero_add, Int.natCast_zero] using this
theorem spec_liSum_good {l : List Int} (h : Lst l) : Ev (fun k => spec_liSum.f k l) l.sum :=
  (spec_liSum_ev l (by have := h.2.1; omega)).eqv (w64 (by have := h.sum; omega) (by have := h.sum; omega))

theorem spec_liFit_ev {a b : List Int} (ha : Lst a) (hb : Lst b) : Ev (fun k => spec_liFit.f k a b) (decide (a.length = b.length) && decide (a.sum = b.sum)) := by
  simp only [spec_liFit.f]
  by_cases h : a.length = b.length
  · have h2 : (a.length : Int) = (b.length : Int) := by omega
    simp only [h2, if_true, h, decide_true, Bool.true_and]
    refine Ev.bind (spec_liSum_good ha) ?_
    exact Ev.ret (f := fun t => a.sum == t) (spec_liSum_good hb)
  · have h2 : ¬ (a.length : Int) = (b.length : Int) := by omega
    simp only [h2, if_false, h, decide_false, Bool.false_and]
    exact Ev.now _

theorem spec_plBoth_ev (a b : List Int) (ha : a.length ≤ 1048576) (hb : b.length ≤ 1048576) : Ev (fun k => spec_plBoth.f k a b) (fits a b) := by
  simp only [spec_plBoth.f]
  refine Ev.and (spec_liGood_ev a (by omega)) fun h => ?_
  refine Ev.and (spec_liGood_ev b (by omega)) fun h2 => ?_
  exact Ev.ret (f := fun t => t) (spec_liFit_ev (goodB_iff.1 h) (goodB_iff.1 h2))

theorem spec_liSums_l (l : List Int) (hl : l.length ≤ 1048576) (hb : ∀ x ∈ l, 0 ≤ x ∧ x ≤ 60) : ∀ i, i ≤ l.length → ∀ (out : List Int) (s : Int), out.length = i → 0 ≤ s → s ≤ 60 * i → Ev (fun k => spec_liSums.l0 k out s l (l.length : Int) (i : Int)) (out ++ psums s (l.drop i)) := by
  refine down ?_ ?_
  · intro out s ho h0 h1
    refine Ev.succ ?_
    simp only [spec_liSums.l0, nlt (Nat.le_refl l.length), if_false, List.drop_length, psums, List.append_nil]
    exact Ev.now _
  · intro i hi ih out s ho h0 h1
    have b := hb _ (List.getElem_mem hi)
    have c : out.length < 17592186044416 := by omega
    refine Ev.succ ?_
    simp only [spec_liSums.l0, ilt hi, inn, if_true, rd_lt hi, wnext hi (by omega : l.length ≤ 4611686018427387904), c, w64 (x := s + l[i]) (by omega) (by omega)]
    rw [drop_cons hi, psums]
    exact (ih _ _ (by simp [ho]) (by omega) (by omega)).eqv (by simp)
theorem spec_liSums_ev (l : List Int) (hl : l.length ≤ 1048576) (hb : ∀ x ∈ l, 0 ≤ x ∧ x ≤ 60) : Ev (fun k => spec_liSums.f k l) (psums 0 l) := by
  have := spec_liSums_l l hl hb 0 (Nat.zero_le _) [] 0 rfl (by omega) (by omega)
  simpa only [spec_liSums.f, List.drop_zero, List.nil_append, Int.natCast_zero] using this

theorem spec_BestHeights_l {a b : List Int} (he : a.length = b.length) (hl : a.length ≤ 8) (x : Int) (X Y : List Int) (hX : X.length = a.length) (hY : Y.length = a.length)
    (hD : ∀ i (h : i < a.length), cmpI (X[i]'(by omega)) (Y[i]'(by omega)) = cmpI ((dsums 0 a b).getD i 0) 0) :
    ∀ (n : Nat) (out : List Int), n < a.length → out.length = a.length - n → (∀ z ∈ out, -8 + (n : Int) ≤ z ∧ z ≤ 8 - (n : Int)) → out = (heightsFrom (dsums 0 a b) n) → 
    Ev (fun k => spec_BestHeights.l0 k X Y out ((n : Int) - 1)) (heightsFrom (dsums 0 a b) 0, true)
  | 0, out, _, _, _, h => by
    refine Ev.succ ?_
    simp only [spec_BestHeights.l0, (by decide : ¬ ((0 : Nat) : Int) - 1 ≥ 0), if_false, h]
    exact Ev.now _
  | n + 1, out, hn, ho, hb, h => by
    have e1 : ((n + 1 : Nat) : Int) - 1 = (n : Int) := by omega
    have c0 : (n : Int) ≥ 0 := by omega
    have c1 : 0 < (out.length : Int) := by omega
    have hx : n < X.length := by omega
    have hy : n < Y.length := by omega
    have hd := hD n (by omega)
    have hz : rd out 0 = out.headD 0 := by cases out <;> simp [rd]
    have hzm : -8 + ((n + 1 : Nat) : Int) ≤ out.headD 0 ∧ out.headD 0 ≤ 8 - ((n + 1 : Nat) : Int) := by
      cases out with
      | nil => simp at ho; omega
      | cons z t => exact hb z (by simp)
    have hs : heightsFrom (dsums 0 a b) n = (out.headD 0 + cmpI ((dsums 0 a b).getD n 0) 0) :: out := by
      rw [h, heightsFrom_step (by rw [dsums_length _ _ _ he]; omega)]
    have lim : ∀ v : Int, ([v] : List Int).length + out.length < 17592186044416 := fun v => by simp only [List.length_cons, List.length_nil]; omega
    have next := spec_BestHeights_l he hl x X Y hX hY hD n (heightsFrom (dsums 0 a b) n) (by omega) (by rw [hs, List.length_cons]; omega) (by
      rw [hs]
      intro z hz
      have hc := cmpI_bound ((dsums 0 a b).getD n 0) 0
      rcases List.mem_cons.1 hz with rfl | hz
      · omega
      · have := hb z hz; omega) rfl
    rw [hs] at next
    rw [e1]
    refine Ev.succ ?_
    simp only [spec_BestHeights.l0, c0, c1, inn, ilt hx, ilt hy, if_true, rd_lt hx, rd_lt hy, hz, Option.bind_some, lim]
    rw [← hd] at next
    unfold cmpI at next
    by_cases g1 : X[n] > Y[n]
    · have g2 : ¬ X[n] < Y[n] := by omega
      simp only [g1, g2, if_true, if_false] at next ⊢
      rw [w64 (x := out.headD 0 + 1) (by omega) (by omega), w64 (x := (n : Int) - 1) (by omega) (by omega)]
      exact next
    · by_cases g2 : X[n] < Y[n]
      · simp only [g1, g2, if_true, if_false] at next ⊢
        rw [w64 (x := out.headD 0 - 1) (by omega) (by omega), w64 (x := (n : Int) - 1) (by omega) (by omega)]
        exact next
      · simp only [g1, g2, if_false] at next ⊢
        rw [w64 (x := (n : Int) - 1) (by omega) (by omega)]
        rw [Int.add_zero] at next
        exact next
theorem spec_BestHeights_ev (a b : List Int) (ha : a.length ≤ 1048576) (hb : b.length ≤ 1048576) : Ev (fun k => spec_BestHeights.f k a b) (if fits a b then (heightsFrom (dsums 0 a b) 0, true) else ([], false)) := by
  simp only [spec_BestHeights.f]
  refine Ev.bind (spec_plBoth_ev a b ha hb) ?_
  cases h : fits a b with
  | false => simp only [Bool.false_eq_true, if_false]; exact Ev.now _
  | true =>
    simp only [if_true]
    obtain ⟨h1, h2, h3, h4⟩ := fits_iff.1 h
    have n1 := h1.1
    have n8 := h1.2.1
    have hdl := dsums_length 0 a b h3
    refine Ev.bind (spec_liSums_ev a ha h1.2.2) ?_
    refine Ev.bind (spec_liSums_ev b hb h2.2.2) ?_
    rw [w64 (x := (a.length : Int) - 2) (by omega) (by omega)]
    have := spec_BestHeights_l h3 n8 0 (psums 0 a) (psums 0 b) (psums_length _ _) (by rw [psums_length, h3]) (fun i hi => cmpI_psums 0 0 a b h3 i hi) (a.length - 1) [0] (by omega) (by simp; omega) (fun z hz => by
      have : z = 0 := by simpa using hz
      omega) (by rw [← hdl]; exact (heightsFrom_last (by omega)).symm)
    rw [show (((a.length - 1 : Nat) : Int) - 1) = (a.length : Int) - 2 by omega] at this
    exact this

theorem impl_within_e (a b c : Int) : impl_within.f a b c = some (wth a b c) := wth_opt a b c

theorem impl_allWithin_l (l : List Int) (lo hi : Int) (hl : l.length ≤ 4611686018427387904) : ∀ i, i ≤ l.length → Ev (fun k => impl_allWithin.l0 k lo hi l (l.length : Int) (i : Int)) (allW (l.drop i) lo hi) := by
  refine down ?_ ?_
  · refine Ev.succ ?_
    simp only [impl_allWithin.l0, nlt (Nat.le_refl l.length), if_false, List.drop_length]
    exact Ev.now _
  · intro i hi ih
    refine Ev.succ ?_
    simp only [impl_allWithin.l0, ilt hi, inn, if_true, impl_within_e, Option.bind_some, rd_lt hi, wnext hi hl]
    rw [drop_cons hi]
    exact Ev.andS fun _ => ih
theorem impl_allWithin_ev (l : List Int) (lo hi : Int) (hl : l.length ≤ 4611686018427387904) : Ev (fun k => impl_allWithin.f k l lo hi) (allW l lo hi) := by
  have := impl_allWithin_l l lo hi hl 0 (Nat.zero_le _)
  simpa only [impl_allWithin.f, List.drop_zero, Int.natCast_zero] using this

theorem impl_IsList_ev (l : List Int) (hl : l.length ≤ 4611686018427387904) : Ev (fun k => impl_IsList.f k l) (goodB l) := by
  simp only [impl_IsList.f, impl_within_e, Option.bind_some, goodB]
  exact Ev.andS fun _ => Ev.ret (f := fun t => t) (impl_allWithin_ev l 0 60 hl)

theorem impl_areLists_ev (a b : List Int) (ha : a.length ≤ 1048576) (hb : b.length ≤ 1048576) : Ev (fun k => impl_areLists.f k a b) (goodB a && goodB b) := by
  simp only [impl_areLists.f]
  exact Ev.and (impl_IsList_ev a (by omega)) fun h => Ev.ret (f := fun t => t) (impl_IsList_ev b (by omega))

theorem impl_total_l (l : List Int) (hl : l.length ≤ 4611686018427387904) : ∀ i, i ≤ l.length → ∀ acc, InR acc → Ev (fun k => impl_total.l0 k acc l (l.length : Int) (i : Int)) (wrap64 (acc + (l.drop i).sum)) := by
  refine down ?_ ?_
  · intro acc ha
    refine Ev.succ ?_
    simp only [impl_total.l0, nlt (Nat.le_refl l.length), if_false, List.drop_length, List.sum_nil, Int.add_zero, wR ha]
    exact Ev.now _
  · intro i hi ih acc ha
    refine Ev.succ ?_
    simp only [impl_total.l0, ilt hi, inn, if_true, rd_lt hi, wnext hi hl]
    rw [drop_cons hi, List.sum_cons, ← Int.add_assoc]
    exact (ih _ (inR_wrap _)).eqv (wrap_add _ _)
theorem impl_total_ev (l : List Int) (hl : l.length ≤ 4611686018427387904) : Ev (fun k => impl_total.f k l) (wrap64 l.sum) := by
  have := impl_total_l l hl 0 (Nat.zero_le _) 0 inR_0
  simpa only [impl_total.f, List.drop_zero, Int.zero_add, Int.natCast_zero] using this
theorem impl_total_good {l : List Int} (h : Lst l) : Ev (fun k => impl_total.f k l) l.sum :=
  (impl_total_ev l (by have := h.2.1; omega)).eqv (w64 (by have := h.sum; omega) (by have := h.sum; omega))

theorem impl_doFit_ev {a b : List Int} (ha : Lst a) (hb : Lst b) : Ev (fun k => impl_doFit.f k a b) (decide (a.length = b.length) && decide (a.sum = b.sum)) := by
  simp only [impl_doFit.f]
  by_cases h : a.length = b.length
  · have h2 : (a.length : Int) = (b.length : Int) := by omega
    simp only [h2, if_true, h, decide_true, Bool.true_and]
    refine Ev.bind (impl_total_good ha) ?_
    exact Ev.ret (f := fun t => a.sum == t) (impl_total_good hb)
  · have h2 : ¬ (a.length : Int) = (b.length : Int) := by omega
    simp only [h2, if_false, h, decide_false, Bool.false_and]
    exact Ev.now _

theorem impl_areFitting_ev (a b : List Int) (ha : a.length ≤ 1048576) (hb : b.length ≤ 1048576) : Ev (fun k => impl_areFitting.f k a b) (fits a b) := by
  simp only [impl_areFitting.f]
  refine (Ev.and (b := decide (a.length = b.length) && decide (a.sum = b.sum)) (impl_areLists_ev a b ha hb) fun h => ?_).eqv (Bool.and_assoc _ _ _)
  rw [Bool.and_eq_true, goodB_iff, goodB_iff] at h
  exact Ev.ret (f := fun t => t) (impl_doFit_ev h.1 h.2)

theorem impl_ahead_l {a b : List Int} (he : a.length = b.length) (hl : a.length ≤ 1048576) (ha : ∀ x ∈ a, 0 ≤ x ∧ x ≤ 60) (hb : ∀ x ∈ b, 0 ≤ x ∧ x ≤ 60) : ∀ i, i ≤ a.length → ∀ (out : List Int) (s : Int), out.length = i → -60 * (i : Int) ≤ s → s ≤ 60 * i → Ev (fun k => impl_ahead.l0 k b out s a (a.length : Int) (i : Int)) (out ++ dsums s (a.drop i) (b.drop i)) := by
  refine down ?_ ?_
  · intro out s ho h0 h1
    refine Ev.succ ?_
    simp only [impl_ahead.l0, nlt (Nat.le_refl a.length), if_false, List.drop_length, dsums, List.append_nil]
    exact Ev.now _
  · intro i hi ih out s ho h0 h1
    have h2 : i < b.length := by omega
    have b0 := ha _ (List.getElem_mem hi)
    have b1 := hb _ (List.getElem_mem h2)
    have c : out.length < 17592186044416 := by omega
    refine Ev.succ ?_
    simp only [impl_ahead.l0, ilt hi, ilt h2, inn, if_true, rd_lt hi, rd_lt h2, wnext hi (by omega : a.length ≤ 4611686018427387904), c, w64 (x := a[i] - b[i]) (by omega) (by omega), w64 (x := s + (a[i] - b[i])) (by omega) (by omega)]
    rw [drop_cons hi, drop_cons h2, dsums]
    exact (ih _ _ (by simp [ho]) (by omega) (by omega)).eqv (by simp)
theorem impl_ahead_ev {a b : List Int} (ha : Lst a) (hb : Lst b) (he : a.length = b.length) : Ev (fun k => impl_ahead.f k a b) (dsums 0 a b) := by
  have := impl_ahead_l he (by have := ha.2.1; omega) ha.2.2 hb.2.2 0 (Nat.zero_le _) [] 0 rfl (by omega) (by omega)
  simpa only [impl_ahead.f, List.drop_zero, List.nil_append, Int.natCast_zero] using this

theorem cmp_isNaN_int_e (a : Int) : cmp_isNaN_int.f a = some false := by simp [cmp_isNaN_int.f]

theorem cmp_Compare_int_e (a b : Int) : cmp_Compare_int.f a b = some (cmpI a b) := by
  simp only [cmp_Compare_int.f, cmp_isNaN_int_e, Option.bind_some, Bool.false_eq_true, if_false, cmpI]
  by_cases h : a < b
  · simp only [h, if_true]
  · simp only [h, if_false]
    by_cases h2 : a > b
    · simp only [h2, if_true]
    · simp only [h2, if_false]

theorem impl_BestHeights_l (X : List Int) (hl : X.length ≤ 8) : ∀ (n : Nat) (out : List Int), n < X.length → out.length = X.length → (∀ z ∈ out.drop n, -8 + (n : Int) ≤ z ∧ z ≤ 8 - (n : Int)) → out.drop n = heightsFrom X n →
    Ev (fun k => impl_BestHeights.l0 k out X ((n : Int) - 1)) (heightsFrom X 0, true)
  | 0, out, _, ho, _, h => by
    refine Ev.succ ?_
    simp only [impl_BestHeights.l0, (by decide : ¬ ((0 : Nat) : Int) - 1 ≥ 0), if_false]
    rw [List.drop_zero] at h
    rw [h]
    exact Ev.now _
  | n + 1, out, hn, ho, hb, h => by
    have e1 : ((n + 1 : Nat) : Int) - 1 = (n : Int) := by omega
    have c0 : (n : Int) ≥ 0 := by omega
    have h0 : n < out.length := by omega
    have h1 : n + 1 < out.length := by omega
    have hd : out.drop (n + 1) = out[n + 1] :: out.drop (n + 1 + 1) := drop_cons h1
    have hzm := hb out[n + 1] (by rw [hd]; exact List.mem_cons_self)
    have hc := cmpI_bound (X.getD n 0) 0
    have hs : heightsFrom X n = (out[n + 1] + cmpI (X.getD n 0) 0) :: out.drop (n + 1) := by
      rw [heightsFrom_step (by omega), ← h, hd]; rfl
    rw [e1]
    refine Ev.succ ?_
    simp only [impl_BestHeights.l0, c0, inn, ilt h0, ilt h1, ilt (by omega : n < X.length), if_true, wnext (by omega : n < 9) (by omega), rd_lt h1, rd_get, cmp_Compare_int_e, Option.bind_some, Int.toNat_natCast]
    rw [w64 (x := out[n + 1] + cmpI (X.getD n 0) 0) (by omega) (by omega), w64 (x := (n : Int) - 1) (by omega) (by omega)]
    have hdn : (out.set n (out[n + 1] + cmpI (X.getD n 0) 0)).drop n = (out[n + 1] + cmpI (X.getD n 0) 0) :: out.drop (n + 1) := by
      rw [drop_cons (by simpa using h0), List.drop_set_of_lt (by omega), List.getElem_set_self]
    refine impl_BestHeights_l X hl n _ (by omega) (by simpa using ho) ?_ ?_
    · rw [hdn]
      intro z hz
      rcases List.mem_cons.1 hz with rfl | hz
      · omega
      · have := hb z hz; omega
    · rw [hdn, hs]
theorem impl_BestHeights_ev (a b : List Int) (ha : a.length ≤ 1048576) (hb : b.length ≤ 1048576) : Ev (fun k => impl_BestHeights.f k a b) (if fits a b then (heightsFrom (dsums 0 a b) 0, true) else ([], false)) := by
  simp only [impl_BestHeights.f]
  refine Ev.bind (impl_areFitting_ev a b ha hb) ?_
  cases h : fits a b with
  | false => simp only [Bool.false_eq_true, if_false]; exact Ev.now _
  | true =>
    obtain ⟨h1, h2, h3, h4⟩ := fits_iff.1 h
    have n1 := h1.1
    have n8 := h1.2.1
    have hdl := dsums_length 0 a b h3
    have c : a.length ≤ 35184372088832 := by omega
    simp only [if_true, inn, Int.toNat_natCast, c]
    refine Ev.bind (impl_ahead_ev h1 h2 h3) ?_
    rw [w64 (x := (a.length : Int) - 2) (by omega) (by omega)]
    have hr : (List.replicate a.length (0 : Int)).drop (a.length - 1) = [0] := by
      rw [List.drop_replicate, show a.length - (a.length - 1) = 1 by omega]; rfl
    have := impl_BestHeights_l (dsums 0 a b) (by omega) (a.length - 1) (List.replicate a.length 0) (by omega) (by simp [hdl]) (by
      rw [hr]
      intro z hz
      have : z = 0 := by simpa using hz
      omega) (by rw [hr, ← hdl]; exact (heightsFrom_last (by omega)).symm)
    rw [show (((a.length - 1 : Nat) : Int) - 1) = (a.length : Int) - 2 by omega] at this
    exact this

theorem FnExactBestHeights : laws_FnExactBestHeights.Pure := by
  intro a b hma hsa hwa hmb hsb hwb
  refine Ev.rounds ?_
  simp only [laws_FnExactBestHeights.f]
  by_cases hba : (a.length : Int) > 1048576
  · simp only [hba, if_true]; exact Ev.now _
  · simp only [hba, if_false]
    by_cases hbb : (b.length : Int) > 1048576
    · simp only [hbb, if_true]; exact Ev.now _
    · simp only [hbb, if_false]
      refine Ev.bind (laws_toIntS_ev a (by omega)) ?_
      refine Ev.bind (laws_toIntS_ev b (by omega)) ?_
      refine Ev.bind (spec_BestHeights_ev a b (by omega) (by omega)) ?_
      refine Ev.bind (laws_toIntS_ev a (by omega)) ?_
      refine Ev.bind (laws_toIntS_ev b (by omega)) ?_
      refine Ev.bind (impl_BestHeights_ev a b (by omega) (by omega)) ?_
      have hr := best_len a b
      refine Ev.bind (laws_eqIntS_self _ (by omega)) ?_
      simp only [bne_self_eq_false, Bool.false_eq_true, if_false, if_true]
      refine Ev.succ ?_
      simp only [laws_FnExactBestHeights.j0, Bool.false_eq_true, if_false]
      refine Ev.bind (laws_toIntS_ev a (by omega)) ?_
      refine Ev.bind (laws_eqIntS_self a (by omega)) ?_
      simp only [if_true]
      refine Ev.bind (laws_toIntS_ev b (by omega)) ?_
      refine Ev.bind (laws_eqIntS_self b (by omega)) ?_
      simp only [if_true]
      refine Ev.bind (laws_markIntS_from a (by omega) 1 (by omega) rfl) ?_
      refine Ev.bind (laws_markIntS_from b (by omega) (1 + a.length) (by omega) rfl) ?_
      simp only [nneg, if_false]
      refine Ev.bind (laws_eqIntS_self _ (by omega)) ?_
      simp only [if_true]
      refine Ev.succ ?_
      simp only [laws_FnExactBestHeights.j1, bne_self_eq_false, Bool.false_eq_true, if_false]
      refine Ev.bind (laws_markIntS_from _ (by omega) 1 (by omega) rfl) ?_
      refine Ev.bind (laws_heldIntS_from _ (by omega) 1 (by omega) rfl) ?_
      simp only [nneg, if_false, if_true]
      refine Ev.bind (laws_toIntS_ev a (by omega)) ?_
      refine Ev.bind (laws_toIntS_ev b (by omega)) ?_
      refine Ev.bind (impl_BestHeights_ev a b (by omega) (by omega)) ?_
      refine Ev.bind (laws_eqIntS_self _ (by omega)) ?_
      simp only [if_true]
      refine Ev.succ ?_
      simp only [laws_FnExactBestHeights.j2, bne_self_eq_false, Bool.false_eq_true, if_false]
      refine Ev.bind (laws_heldIntS_from _ (by omega) 1 (by omega) rfl) ?_
      simp only [nneg, if_false, if_true]
      exact Ev.now _

end Go.Proofs.Ytbdennepenacpaa.Pure
