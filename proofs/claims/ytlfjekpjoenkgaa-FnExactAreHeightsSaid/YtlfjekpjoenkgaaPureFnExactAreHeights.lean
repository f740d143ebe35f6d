/- The program's AreHeights returns what the reference's returns, for all arguments; the printed functions' own bounds on lengths are the only conditions. -/
import Derived.Test.YtlfjekpjoenkgaaPFnExactAreHeightsx2
import Derived.Test.YtlfjekpjoenkgaaMath
namespace Go.Proofs.Ytlfjekpjoenkgaa.Pure
open Go.RowKit Go.Proofs.Ytlfjekpjoenkgaa.PFnExactAreHeights Go.Proofs.YtlfjekpjoenkgaaW.PrintWords Go.Proofs.YtlfjekpjoenkgaaW.PrintLast Go.Proofs.YtlfjekpjoenkgaaW.PrintMore Go.Proofs.Ytlfjekpjoenkgaa.Math
set_option linter.unusedVariables false
set_option linter.unusedSimpArgs false
set_option linter.unusedSectionVars false

theorem spec_l1In_e (a b c : Int) : spec_l1In.f a b c = some (wth a b c) := wth_opt a b c

theorem spec_l1All_l (l : List Int) (lo hi : Int) (hl : l.length ≤ 4611686018427387904) : ∀ i, i ≤ l.length → Ev (fun k => spec_l1All.l0 k lo hi l (l.length : Int) (i : Int)) (allW (l.drop i) lo hi) := by
  refine down ?_ ?_
  · refine Ev.succ ?_
    simp only [spec_l1All.l0, nlt (Nat.le_refl l.length), if_false, List.drop_length]
    exact Ev.now _
  · intro i hi ih
    refine Ev.succ ?_
    simp only [spec_l1All.l0, ilt hi, inn, if_true, spec_l1In_e, Option.bind_some, rd_lt hi, wnext hi hl]
    rw [drop_cons hi]
    exact Ev.andS fun _ => ih
theorem spec_l1All_ev (l : List Int) (lo hi : Int) (hl : l.length ≤ 4611686018427387904) : Ev (fun k => spec_l1All.f k l lo hi) (allW l lo hi) := by
  have := spec_l1All_l l lo hi hl 0 (Nat.zero_le _)
  simpa only [spec_l1All.f, List.drop_zero, Int.natCast_zero] using this

theorem spec_plHeights_l (l : List Int) (hl : l.length ≤ 1048576) (hb : ∀ x ∈ l, -100 ≤ x ∧ x ≤ 100) : ∀ i, i ≤ l.length - 1 → Ev (fun k => spec_plHeights.l0 k l ((i + 1 : Nat) : Int)) (adj hp (l.drop i) && wth l.length 1 8) := by
  refine down ?_ ?_
  · refine Ev.succ ?_
    simp only [spec_plHeights.l0, nlt (by omega : l.length ≤ l.length - 1 + 1), if_false, spec_l1In_e, Option.bind_some]
    rw [adj_short (by simp; omega), Bool.true_and]
    exact Ev.now _
  · intro i hi ih
    have h0 : i < l.length := by omega
    have h1 : i + 1 < l.length := by omega
    have b0 := hb _ (List.getElem_mem h0)
    have b1 := hb _ (List.getElem_mem h1)
    refine Ev.succ ?_
    simp only [spec_plHeights.l0, ilt h1, inn, if_true, wprev (by omega : i ≤ 4611686018427387904), ilt h0, spec_l1In_e, Option.bind_some, rd_lt h0, rd_lt h1, wnext h1 (by omega)]
    rw [drop_cons h0, drop_cons h1, adj, ← drop_cons h1, w64 (by omega) (by omega), Bool.and_assoc]
    exact Ev.andS fun _ => ih
theorem spec_plHeights_ev (l : List Int) (hl : l.length ≤ 1048576) (hb : ∀ x ∈ l, -100 ≤ x ∧ x ≤ 100) : Ev (fun k => spec_plHeights.f k l) (adj hp l && wth l.length 1 8) := by
  simp only [spec_plHeights.f]
  exact spec_plHeights_l l hl hb 0 (Nat.zero_le _)

theorem spec_plHigh_ev (l : List Int) (hl : l.length ≤ 1048576) : Ev (fun k => spec_plHigh.f k l) (heightsB l) := by
  simp only [spec_plHigh.f]
  refine (Ev.and (b := adj hp l && wth l.length 1 8) (spec_l1All_ev l _ _ (by omega)) fun h => Ev.ret (f := fun t => t) (spec_plHeights_ev l hl (allW_iff.1 h))).eqv ?_
  unfold heightsB
  cases wth l.length 1 8 <;> simp

theorem spec_AreHeights_ev (l : List Int) (hl : l.length ≤ 1048576) : Ev (fun k => spec_AreHeights.f k l) (heightsB l, true) := by
  simp only [spec_AreHeights.f]
  exact Ev.ret (f := fun t => (t, true)) (spec_plHigh_ev l hl)

theorem laws_toIntS_l (l : List Int) (hl : l.length ≤ 4611686018427387904) : ∀ i, i ≤ l.length → ∀ m : List Int, m.length = l.length → m.take i = l.take i → Ev (fun k => laws_toIntS.l0 k l m (i : Int)) l := by
  refine down ?_ ?_
  · intro m hm h
    refine Ev.succ ?_
    simp only [laws_toIntS.l0, nlt (Nat.le_refl l.length), if_false]
    rw [← hm, List.take_length, hm, List.take_length] at h
    rw [h]
    exact Ev.now _
  · intro i hi ih m hm h
    refine Ev.succ ?_
    simp only [laws_toIntS.l0, ilt hi, inn, if_true, hm, rd_lt hi, wnext hi hl, Int.toNat_natCast]
    exact ih _ (by simpa using hm) (set_take l m i hi hm h)
theorem laws_toIntS_ev (l : List Int) (hl : l.length ≤ 35184372088832) : Ev (fun k => laws_toIntS.f k l) l := by
  have := laws_toIntS_l l (by omega) 0 (Nat.zero_le _) (List.replicate l.length 0) (by simp) (by simp)
  simp only [laws_toIntS.f, inn, if_true, Int.toNat_natCast, hl]
  exact this

theorem impl_within_e (a b c : Int) : impl_within.f a b c = some (wth a b c) := wth_opt a b c

theorem impl_allWithin_l (l : List Int) (lo hi : Int) (hl : l.length ≤ 4611686018427387904) : ∀ i, i ≤ l.length → Ev (fun k => impl_allWithin.l0 k lo hi l (l.length : Int) (i : Int)) (allW (l.drop i) lo hi) := by
  refine down ?_ ?_
  · refine Ev.succ ?_
    simp only [impl_allWithin.l0, nlt (Nat.le_refl l.length), if_false, List.drop_length]
    exact Ev.now _
  · intro i hi ih
    refine Ev.succ ?_
    simp only [impl_allWithin.l0, ilt hi, inn, if_true, impl_within_e, Option.bind_some, rd_lt hi, wnext hi hl]
    rw [drop_cons hi]
    exact Ev.andS fun _ => ih
theorem impl_allWithin_ev (l : List Int) (lo hi : Int) (hl : l.length ≤ 4611686018427387904) : Ev (fun k => impl_allWithin.f k l lo hi) (allW l lo hi) := by
  have := impl_allWithin_l l lo hi hl 0 (Nat.zero_le _)
  simpa only [impl_allWithin.f, List.drop_zero, Int.natCast_zero] using this

theorem impl_areHeights_l (l : List Int) (hl : l.length ≤ 1048576) (hb : ∀ x ∈ l, -100 ≤ x ∧ x ≤ 100) : ∀ i, i ≤ l.length - 1 → Ev (fun k => impl_areHeights.l0 k l ((i + 1 : Nat) : Int)) (adj hp (l.drop i)) := by
  refine down ?_ ?_
  · refine Ev.succ ?_
    simp only [impl_areHeights.l0, nlt (by omega : l.length ≤ l.length - 1 + 1), if_false]
    rw [adj_short (by simp; omega)]
    exact Ev.now _
  · intro i hi ih
    have h0 : i < l.length := by omega
    have h1 : i + 1 < l.length := by omega
    have b0 := hb _ (List.getElem_mem h0)
    have b1 := hb _ (List.getElem_mem h1)
    refine Ev.succ ?_
    simp only [impl_areHeights.l0, ilt h1, inn, if_true, wprev (by omega : i ≤ 4611686018427387904), ilt h0, impl_within_e, Option.bind_some, rd_lt h0, rd_lt h1, wnext h1 (by omega)]
    rw [drop_cons h0, drop_cons h1, adj, ← drop_cons h1, w64 (by omega) (by omega)]
    exact Ev.andS fun _ => ih
theorem impl_areHeights_ev (l : List Int) (hl : l.length ≤ 1048576) : Ev (fun k => impl_areHeights.f k l) (heightsB l) := by
  simp only [impl_areHeights.f, impl_within_e, Option.bind_some, heightsB]
  cases h : wth l.length 1 8 with
  | false =>
    simp only [Bool.false_eq_true, if_false, Bool.false_and]
    refine Ev.succ ?_
    simp only [impl_areHeights.j0, if_true]
    exact Ev.now _
  | true =>
    simp only [if_true, Bool.true_and]
    refine Ev.bind (impl_allWithin_ev l _ _ (by omega)) ?_
    refine Ev.succ ?_
    cases h2 : allW l (-100) 100 with
    | false =>
      simp only [impl_areHeights.j0, Bool.not_false, if_true, Bool.false_and]
      exact Ev.now _
    | true =>
      simp only [impl_areHeights.j0, Bool.not_true, Bool.false_eq_true, if_false, Bool.true_and]
      exact impl_areHeights_l l hl (allW_iff.1 h2) 0 (Nat.zero_le _)

theorem impl_AreHeights_ev (l : List Int) (hl : l.length ≤ 1048576) : Ev (fun k => impl_AreHeights.f k l) (heightsB l, true) := by
  simp only [impl_AreHeights.f]
  exact Ev.ret (f := fun t => (t, true)) (impl_areHeights_ev l hl)

theorem laws_eqIntS_l (l m : List Int) (he : m.length = l.length) (hl : l.length ≤ 4611686018427387904) : ∀ i, i ≤ l.length → Ev (fun k => laws_eqIntS.l0 k l m (i : Int)) (decide (l.drop i = m.drop i)) := by
  refine down ?_ ?_
  · refine Ev.succ ?_
    simp only [laws_eqIntS.l0, nlt (Nat.le_refl l.length), if_false, List.drop_length]
    rw [← he, List.drop_length]
    exact Ev.now _
  · intro i hi ih
    refine Ev.succ ?_
    simp only [laws_eqIntS.l0, ilt hi, inn, if_true, he, rd_lt hi, rd_lt (he ▸ hi : i < m.length), wnext hi hl]
    rw [drop_cons hi, drop_cons (he ▸ hi : i < m.length)]
    by_cases hx : l[i] = m[i]
    · simp only [hx, if_true, List.cons.injEq, true_and]
      exact ih
    · simp only [hx, if_false, List.cons.injEq, false_and, decide_false]
      exact Ev.now _
theorem laws_eqIntS_ev (l m : List Int) (hl : l.length ≤ 4611686018427387904) : Ev (fun k => laws_eqIntS.f k l m) (decide (l = m)) := by
  simp only [laws_eqIntS.f]
  by_cases he : (l.length : Int) = (m.length : Int)
  · simp only [he, if_true]
    exact laws_eqIntS_l l m (by omega) hl 0 (Nat.zero_le _)
  · simp only [he, if_false]
    rw [decide_eq_false (fun h => he (by rw [h]))]
    exact Ev.now _
theorem laws_eqIntS_self (l : List Int) (hl : l.length ≤ 4611686018427387904) : Ev (fun k => laws_eqIntS.f k l l) true := by
  simpa using laws_eqIntS_ev l l hl

theorem FnExactAreHeights : laws_FnExactAreHeights.Pure := by
  intro l hm hs hw
  refine Ev.rounds ?_
  simp only [laws_FnExactAreHeights.f]
  by_cases hbig : (l.length : Int) > 1048576
  · simp only [hbig, if_true]; exact Ev.now _
  · simp only [hbig, if_false]
    refine Ev.bind (laws_toIntS_ev l (by omega)) ?_
    refine Ev.bind (spec_AreHeights_ev l (by omega)) ?_
    refine Ev.bind (laws_toIntS_ev l (by omega)) ?_
    refine Ev.bind (impl_AreHeights_ev l (by omega)) ?_
    simp only [bne_self_eq_false, Bool.false_eq_true, if_false, if_true]
    refine Ev.succ ?_
    simp only [laws_FnExactAreHeights.j0, Bool.false_eq_true, if_false]
    refine Ev.bind (laws_toIntS_ev l (by omega)) ?_
    refine Ev.bind (laws_eqIntS_self l (by omega)) ?_
    simp only [if_true]
    exact Ev.now _

end Go.Proofs.Ytlfjekpjoenkgaa.Pure
