/- The program's IsConvexTable returns what the reference's returns, for all arguments; the printed functions' own bounds on lengths are the only conditions. -/
import Derived.Test.YtlfjekpjoenkgaaPFnExactIsConvexTablex2
import Derived.Test.YtlfjekpjoenkgaaMath
namespace Go.Proofs.Ytlfjekpjoenkgaa.Pure
open Go.RowKit Go.Proofs.Ytlfjekpjoenkgaa.PFnExactIsConvexTable Go.Proofs.YtlfjekpjoenkgaaW.PrintWords Go.Proofs.YtlfjekpjoenkgaaW.PrintLast Go.Proofs.YtlfjekpjoenkgaaW.PrintMore Go.Proofs.Ytlfjekpjoenkgaa.Math
set_option linter.unusedVariables false
set_option linter.unusedSimpArgs false
set_option linter.unusedSectionVars false

theorem laws_toIntS_l (l : List Int) (hl : l.length ≤ 4611686018427387904) : ∀ i, i ≤ l.length → ∀ m : List Int, m.length = l.length → m.take i = l.take i → Ev (fun k => laws_toIntS.l0 k l m (i : Int)) l := by
  refine down ?_ ?_
  · intro m hm h
    refine Ev.succ ?_
    simp only [laws_toIntS.l0, nlt (Nat.le_refl l.length), if_false]
    rw [← hm, List.take_length, hm, List.take_length] at h
    rw [h]
    exact Ev.now _
  · intro i hi ih m hm h
    refine Ev.succ ?_
    simp only [laws_toIntS.l0, ilt hi, inn, if_true, hm, rd_lt hi, wnext hi hl, Int.toNat_natCast]
    exact ih _ (by simpa using hm) (set_take l m i hi hm h)
theorem laws_toIntS_ev (l : List Int) (hl : l.length ≤ 35184372088832) : Ev (fun k => laws_toIntS.f k l) l := by
  have := laws_toIntS_l l (by omega) 0 (Nat.zero_le _) (List.replicate l.length 0) (by simp) (by simp)
  simp only [laws_toIntS.f, inn, if_true, Int.toNat_natCast, hl]
  exact this

theorem laws_eqIntS_l (l m : List Int) (he : m.length = l.length) (hl : l.length ≤ 4611686018427387904) : ∀ i, i ≤ l.length → Ev (fun k => laws_eqIntS.l0 k l m (i : Int)) (decide (l.drop i = m.drop i)) := by
  refine down ?_ ?_
  · refine Ev.succ ?_
    simp only [laws_eqIntS.l0, nlt (Nat.le_refl l.length), if_false, List.drop_length]
    rw [← he, List.drop_length]
    exact Ev.now _
  · intro i hi ih
    refine Ev.succ ?_
    simp only [laws_eqIntS.l0, ilt hi, inn, if_true, he, rd_lt hi, rd_lt (he ▸ hi : i < m.length), wnext hi hl]
    rw [drop_cons hi, drop_cons (he ▸ hi : i < m.length)]
    by_cases hx : l[i] = m[i]
    · simp only [hx, if_true, List.cons.injEq, true_and]
      exact ih
    · simp only [hx, if_false, List.cons.injEq, false_and, decide_false]
      exact Ev.now _
theorem laws_eqIntS_ev (l m : List Int) (hl : l.length ≤ 4611686018427387904) : Ev (fun k => laws_eqIntS.f k l m) (decide (l = m)) := by
  simp only [laws_eqIntS.f]
  by_cases he : (l.length : Int) = (m.length : Int)
  · simp only [he, if_true]
    exact laws_eqIntS_l l m (by omega) hl 0 (Nat.zero_le _)
  · simp only [he, if_false]
    rw [decide_eq_false (fun h => he (by rw [h]))]
    exact Ev.now _
theorem laws_eqIntS_self (l : List Int) (hl : l.length ≤ 4611686018427387904) : Ev (fun k => laws_eqIntS.f k l l) true := by
  simpa using laws_eqIntS_ev l l hl

theorem spec_l1In_e (a b c : Int) : spec_l1In.f a b c = some (wth a b c) := wth_opt a b c

theorem spec_l1All_l (l : List Int) (lo hi : Int) (hl : l.length ≤ 4611686018427387904) : ∀ i, i ≤ l.length → Ev (fun k => spec_l1All.l0 k lo hi l (l.length : Int) (i : Int)) (allW (l.drop i) lo hi) := by
  refine down ?_ ?_
  · refine Ev.succ ?_
    simp only [spec_l1All.l0, nlt (Nat.le_refl l.length), if_false, List.drop_length]
    exact Ev.now _
  · intro i hi ih
    refine Ev.succ ?_
    simp only [spec_l1All.l0, ilt hi, inn, if_true, spec_l1In_e, Option.bind_some, rd_lt hi, wnext hi hl]
    rw [drop_cons hi]
    exact Ev.andS fun _ => ih
theorem spec_l1All_ev (l : List Int) (lo hi : Int) (hl : l.length ≤ 4611686018427387904) : Ev (fun k => spec_l1All.f k l lo hi) (allW l lo hi) := by
  have := spec_l1All_l l lo hi hl 0 (Nat.zero_le _)
  simpa only [spec_l1All.f, List.drop_zero, Int.natCast_zero] using this

theorem spec_syTable_ev (l : List Int) (hl : l.length ≤ 1048576) : Ev (fun k => spec_syTable.f k l) (tableB l) := by
  simp only [spec_syTable.f, tableB]
  by_cases h : (l.length : Int) = 61
  · simp only [h, if_true, decide_true, Bool.true_and]
    exact Ev.ret (f := fun t => t) (spec_l1All_ev l _ _ (by omega))
  · simp only [h, if_false, decide_false, Bool.false_and]
    exact Ev.now _

theorem spec_syConvex_l (l : List Int) (hl : l.length = 61) (hb : ∀ x ∈ l, -1000000 ≤ x ∧ x ≤ 1000000) : ∀ i, i ≤ 59 → Ev (fun k => spec_syConvex.l0 k l ((i + 1 : Nat) : Int)) (conv3 (l.drop i)) := by
  refine down ?_ ?_
  · refine Ev.succ ?_
    simp only [spec_syConvex.l0, (by decide : ¬ (((59 + 1 : Nat) : Int) < 60)), if_false]
    rw [conv3_short (by simp; omega)]
    exact Ev.now _
  · intro i hi ih
    have h0 : i < l.length := by omega
    have h1 : i + 1 < l.length := by omega
    have h2 : i + 1 + 1 < l.length := by omega
    have b0 := hb _ (List.getElem_mem h0)
    have b1 := hb _ (List.getElem_mem h1)
    have b2 := hb _ (List.getElem_mem h2)
    have c : ((i + 1 : Nat) : Int) < 60 := by omega
    refine Ev.succ ?_
    simp only [spec_syConvex.l0, c, ilt h1, inn, if_true, wprev (by omega : i ≤ 4611686018427387904), wnext h1 (by omega), ilt h0, ilt h2, rd_lt h0, rd_lt h1, rd_lt h2]
    rw [drop_cons h0, drop_cons h1, drop_cons h2, conv3, ← drop_cons h2, ← drop_cons h1, w64 (by omega) (by omega), w64 (by omega) (by omega)]
    by_cases hc : 2 * l[i + 1] ≤ l[i] + l[i + 1 + 1]
    · have c2 : ¬ 2 * l[i + 1] > l[i] + l[i + 1 + 1] := by omega
      simp only [decide_eq_true hc, Bool.true_and, c2, if_false]
      exact ih
    · have c2 : 2 * l[i + 1] > l[i] + l[i + 1 + 1] := by omega
      simp only [decide_eq_false hc, Bool.false_and, c2, if_true]
      exact Ev.now _
theorem spec_syConvex_ev (l : List Int) (hl : l.length = 61) (hb : ∀ x ∈ l, -1000000 ≤ x ∧ x ≤ 1000000) : Ev (fun k => spec_syConvex.f k l) (conv3 l) := by
  simp only [spec_syConvex.f]
  exact spec_syConvex_l l hl hb 0 (Nat.zero_le _)

theorem spec_IsConvexTable_ev (l : List Int) (hl : l.length ≤ 1048576) : Ev (fun k => spec_IsConvexTable.f k l) (tableB l && conv3 l, tableB l) := by
  simp only [spec_IsConvexTable.f]
  refine Ev.bind (spec_syTable_ev l hl) ?_
  cases h : tableB l with
  | false => simp only [Bool.false_eq_true, if_false, Bool.false_and]; exact Ev.now _
  | true =>
    simp only [if_true, Bool.true_and]
    have h2 := h
    rw [tableB, Bool.and_eq_true, decide_eq_true_eq, allW_iff] at h2
    exact Ev.ret (f := fun t => (t, true)) (spec_syConvex_ev l (by omega) h2.2)

theorem impl_within_e (a b c : Int) : impl_within.f a b c = some (wth a b c) := wth_opt a b c

theorem impl_allWithin_l (l : List Int) (lo hi : Int) (hl : l.length ≤ 4611686018427387904) : ∀ i, i ≤ l.length → Ev (fun k => impl_allWithin.l0 k lo hi l (l.length : Int) (i : Int)) (allW (l.drop i) lo hi) := by
  refine down ?_ ?_
  · refine Ev.succ ?_
    simp only [impl_allWithin.l0, nlt (Nat.le_refl l.length), if_false, List.drop_length]
    exact Ev.now _
  · intro i hi ih
    refine Ev.succ ?_
    simp only [impl_allWithin.l0, ilt hi, inn, if_true, impl_within_e, Option.bind_some, rd_lt hi, wnext hi hl]
    rw [drop_cons hi]
    exact Ev.andS fun _ => ih
theorem impl_allWithin_ev (l : List Int) (lo hi : Int) (hl : l.length ≤ 4611686018427387904) : Ev (fun k => impl_allWithin.f k l lo hi) (allW l lo hi) := by
  have := impl_allWithin_l l lo hi hl 0 (Nat.zero_le _)
  simpa only [impl_allWithin.f, List.drop_zero, Int.natCast_zero] using this

theorem impl_isTable_ev (l : List Int) (hl : l.length ≤ 1048576) : Ev (fun k => impl_isTable.f k l) (tableB l) := by
  simp only [impl_isTable.f, tableB]
  by_cases h : (l.length : Int) = 61
  · simp only [h, if_true, decide_true, Bool.true_and]
    exact Ev.ret (f := fun t => t) (impl_allWithin_ev l _ _ (by omega))
  · simp only [h, if_false, decide_false, Bool.false_and]
    exact Ev.now _

theorem impl_isConvex_l (l : List Int) (hl : l.length = 61) (hb : ∀ x ∈ l, -1000000 ≤ x ∧ x ≤ 1000000) : ∀ i, i ≤ 59 → Ev (fun k => impl_isConvex.l0 k l ((i + 1 : Nat) : Int)) (conv3 (l.drop i)) := by
  refine down ?_ ?_
  · refine Ev.succ ?_
    simp only [impl_isConvex.l0, (by decide : ¬ (((59 + 1 : Nat) : Int) < 60)), if_false]
    rw [conv3_short (by simp; omega)]
    exact Ev.now _
  · intro i hi ih
    have h0 : i < l.length := by omega
    have h1 : i + 1 < l.length := by omega
    have h2 : i + 1 + 1 < l.length := by omega
    have b0 := hb _ (List.getElem_mem h0)
    have b1 := hb _ (List.getElem_mem h1)
    have b2 := hb _ (List.getElem_mem h2)
    have c : ((i + 1 : Nat) : Int) < 60 := by omega
    refine Ev.succ ?_
    simp only [impl_isConvex.l0, c, ilt h1, inn, if_true, wprev (by omega : i ≤ 4611686018427387904), wnext h1 (by omega), ilt h0, ilt h2, rd_lt h0, rd_lt h1, rd_lt h2]
    rw [drop_cons h0, drop_cons h1, drop_cons h2, conv3, ← drop_cons h2, ← drop_cons h1, w64 (by omega) (by omega), w64 (by omega) (by omega)]
    by_cases hc : 2 * l[i + 1] ≤ l[i] + l[i + 1 + 1]
    · have c2 : ¬ 2 * l[i + 1] > l[i] + l[i + 1 + 1] := by omega
      simp only [decide_eq_true hc, Bool.true_and, c2, if_false]
      exact ih
    · have c2 : 2 * l[i + 1] > l[i] + l[i + 1 + 1] := by omega
      simp only [decide_eq_false hc, Bool.false_and, c2, if_true]
      exact Ev.now _
theorem impl_isConvex_ev (l : List Int) (hl : l.length = 61) (hb : ∀ x ∈ l, -1000000 ≤ x ∧ x ≤ 1000000) : Ev (fun k => impl_isConvex.f k l) (conv3 l) := by
  simp only [impl_isConvex.f]
  exact impl_isConvex_l l hl hb 0 (Nat.zero_le _)

theorem impl_IsConvexTable_ev (l : List Int) (hl : l.length ≤ 1048576) : Ev (fun k => impl_IsConvexTable.f k l) (tableB l && conv3 l, tableB l) := by
  simp only [impl_IsConvexTable.f]
  refine Ev.bind (impl_isTable_ev l hl) ?_
  cases h : tableB l with
  | false => simp only [Bool.false_eq_true, if_false, Bool.false_and]; exact Ev.now _
  | true =>
    simp only [if_true, Bool.true_and]
    have h2 := h
    rw [tableB, Bool.and_eq_true, decide_eq_true_eq, allW_iff] at h2
    exact Ev.ret (f := fun t => (t, true)) (impl_isConvex_ev l (by omega) h2.2)

theorem FnExactIsConvexTable : laws_FnExactIsConvexTable.Pure := by
  intro l hm hs hw
  refine Ev.rounds ?_
  simp only [laws_FnExactIsConvexTable.f]
  by_cases hbig : (l.length : Int) > 1048576
  · simp only [hbig, if_true]; exact Ev.now _
  · simp only [hbig, if_false]
    refine Ev.bind (laws_toIntS_ev l (by omega)) ?_
    refine Ev.bind (spec_IsConvexTable_ev l (by omega)) ?_
    refine Ev.bind (laws_toIntS_ev l (by omega)) ?_
    refine Ev.bind (impl_IsConvexTable_ev l (by omega)) ?_
    simp only [bne_self_eq_false, Bool.false_eq_true, if_false, if_true]
    refine Ev.succ ?_
    simp only [laws_FnExactIsConvexTable.j0, Bool.false_eq_true, if_false]
    refine Ev.bind (laws_toIntS_ev l (by omega)) ?_
    refine Ev.bind (laws_eqIntS_self l (by omega)) ?_
    simp only [if_true]
    exact Ev.now _

end Go.Proofs.Ytlfjekpjoenkgaa.Pure
