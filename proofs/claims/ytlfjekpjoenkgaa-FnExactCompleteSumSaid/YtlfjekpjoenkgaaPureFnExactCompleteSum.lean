/- The program's CompleteSum returns what the reference's returns, for all arguments; the printed functions' own bounds on lengths are the only conditions. -/
import Derived.Test.YtlfjekpjoenkgaaPFnExactCompleteSumx3
import Derived.Test.YtlfjekpjoenkgaaMath
namespace Go.Proofs.Ytlfjekpjoenkgaa.Pure
open Go.RowKit Go.Proofs.Ytlfjekpjoenkgaa.PFnExactCompleteSum Go.Proofs.YtlfjekpjoenkgaaW.PrintWords Go.Proofs.YtlfjekpjoenkgaaW.PrintLast Go.Proofs.YtlfjekpjoenkgaaW.PrintMore Go.Proofs.Ytlfjekpjoenkgaa.Math
set_option linter.unusedVariables false
set_option linter.unusedSimpArgs false
set_option linter.unusedSectionVars false

theorem laws_toIntS_l (l : List Int) (hl : l.length ≤ 4611686018427387904) : ∀ i, i ≤ l.length → ∀ m : List Int, m.length = l.length → m.take i = l.take i → Ev (fun k => laws_toIntS.l0 k l m (i : Int)) l := by
  refine down ?_ ?_
  · intro m hm h
    refine Ev.succ ?_
    simp only [laws_toIntS.l0, nlt (Nat.le_refl l.length), if_false]
    rw [← hm, List.take_length, hm, List.take_length] at h
    rw [h]
    exact Ev.now _
  · intro i hi ih m hm h
    refine Ev.succ ?_
    simp only [laws_toIntS.l0, ilt hi, inn, if_true, hm, rd_lt hi, wnext hi hl, Int.toNat_natCast]
    exact ih _ (by simpa using hm) (set_take l m i hi hm h)
theorem laws_toIntS_ev (l : List Int) (hl : l.length ≤ 35184372088832) : Ev (fun k => laws_toIntS.f k l) l := by
  have := laws_toIntS_l l (by omega) 0 (Nat.zero_le _) (List.replicate l.length 0) (by simp) (by simp)
  simp only [laws_toIntS.f, inn, if_true, Int.toNat_natCast, hl]
  exact this

theorem laws_eqIntS_l (l m : List Int) (he : m.length = l.length) (hl : l.length ≤ 4611686018427387904) : ∀ i, i ≤ l.length → Ev (fun k => laws_eqIntS.l0 k l m (i : Int)) (decide (l.drop i = m.drop i)) := by
  refine down ?_ ?_
  · refine Ev.succ ?_
    simp only [laws_eqIntS.l0, nlt (Nat.le_refl l.length), if_false, List.drop_length]
    rw [← he, List.drop_length]
    exact Ev.now _
  · intro i hi ih
    refine Ev.succ ?_
    simp only [laws_eqIntS.l0, ilt hi, inn, if_true, he, rd_lt hi, rd_lt (he ▸ hi : i < m.length), wnext hi hl]
    rw [drop_cons hi, drop_cons (he ▸ hi : i < m.length)]
    by_cases hx : l[i] = m[i]
    · simp only [hx, if_true, List.cons.injEq, true_and]
      exact ih
    · simp only [hx, if_false, List.cons.injEq, false_and, decide_false]
      exact Ev.now _
theorem laws_eqIntS_ev (l m : List Int) (hl : l.length ≤ 4611686018427387904) : Ev (fun k => laws_eqIntS.f k l m) (decide (l = m)) := by
  simp only [laws_eqIntS.f]
  by_cases he : (l.length : Int) = (m.length : Int)
  · simp only [he, if_true]
    exact laws_eqIntS_l l m (by omega) hl 0 (Nat.zero_le _)
  · simp only [he, if_false]
    rw [decide_eq_false (fun h => he (by rw [h]))]
    exact Ev.now _
theorem laws_eqIntS_self (l : List Int) (hl : l.length ≤ 4611686018427387904) : Ev (fun k => laws_eqIntS.f k l l) true := by
  simpa using laws_eqIntS_ev l l hl

theorem spec_l1In_e (a b c : Int) : spec_l1In.f a b c = some (wth a b c) := wth_opt a b c

theorem spec_l1All_l (l : List Int) (lo hi : Int) (hl : l.length ≤ 4611686018427387904) : ∀ i, i ≤ l.length → Ev (fun k => spec_l1All.l0 k lo hi l (l.length : Int) (i : Int)) (allW (l.drop i) lo hi) := by
  refine down ?_ ?_
  · refine Ev.succ ?_
    simp only [spec_l1All.l0, nlt (Nat.le_refl l.length), if_false, List.drop_length]
    exact Ev.now _
  · intro i hi ih
    refine Ev.succ ?_
    simp only [spec_l1All.l0, ilt hi, inn, if_true, spec_l1In_e, Option.bind_some, rd_lt hi, wnext hi hl]
    rw [drop_cons hi]
    exact Ev.andS fun _ => ih
theorem spec_l1All_ev (l : List Int) (lo hi : Int) (hl : l.length ≤ 4611686018427387904) : Ev (fun k => spec_l1All.f k l lo hi) (allW l lo hi) := by
  have := spec_l1All_l l lo hi hl 0 (Nat.zero_le _)
  simpa only [spec_l1All.f, List.drop_zero, Int.natCast_zero] using this

theorem spec_syArguments_ev (l : List Int) (hl : l.length ≤ 1048576) : Ev (fun k => spec_syArguments.f k l) (argsB l) := by
  simp only [spec_syArguments.f, spec_l1In_e, Option.bind_some, argsB]
  exact Ev.andS fun _ => Ev.ret (f := fun t => t) (spec_l1All_ev l 1 9 (by omega))

theorem spec_syChoose_ev (ag : Bool) : ∀ (m : Nat) (K : Nat) (l : List Int), K + l.length ≤ m → m ≤ 1048576 → Ev (fun k => spec_syChoose.f k (K : Int) l ag) (wrap64 (chZ ag K l)) := by
  intro m
  induction m with
  | zero =>
    intro K l h hm
    obtain rfl : K = 0 := by omega
    refine Ev.succ ?_
    simp only [spec_syChoose.f, Int.natCast_zero, if_true, chZ, w64 (x := 1) (by decide) (by decide)]
    exact Ev.now _
  | succ m ih =>
    intro K l h hm
    refine Ev.succ ?_
    cases K with
    | zero =>
      simp only [spec_syChoose.f, Int.natCast_zero, if_true, chZ, w64 (x := 1) (by decide) (by decide)]
      exact Ev.now _
    | succ K =>
      have c : ¬ ((K + 1 : Nat) : Int) = 0 := by omega
      cases l with
      | nil =>
        simp only [spec_syChoose.f, c, if_false, List.length_nil, Int.natCast_zero, if_true, chZ, wrap_0]
        exact Ev.now _
      | cons x t =>
        simp only [List.length_cons] at h
        have c1 : ¬ ((t.length + 1 : Nat) : Int) = 0 := by omega
        have c2 : 1 ≤ ((t.length + 1 : Nat) : Int) := by omega
        have c3 : 0 < ((t.length + 1 : Nat) : Int) := by omega
        have e : rd (x :: t) 0 = x := by simp [rd]
        simp only [spec_syChoose.f, c, if_false, List.length_cons, c1, c2, c3, if_true, wprev (by omega : K ≤ 4611686018427387904), e, List.drop_one, List.tail_cons, chZ]
        cases ag with
        | true =>
          simp only [if_true]
          refine Ev.bind (ih (K + 1) t (by omega) (by omega)) ?_
          refine (Ev.ret (f := fun v => wrap64 (wrap64 (chZ true (K + 1) t) + wrap64 (x * v))) (ih K (x :: t) (by simp; omega) (by omega))).eqv ?_
          rw [wrap_add, wrap_add', ← wrap_add', wrap_mul', wrap_add']
        | false =>
          simp only [Bool.false_eq_true, if_false]
          refine Ev.bind (ih (K + 1) t (by omega) (by omega)) ?_
          refine (Ev.ret (f := fun v => wrap64 (wrap64 (chZ false (K + 1) t) + wrap64 (x * v))) (ih K t (by omega) (by omega))).eqv ?_
          rw [wrap_add, wrap_add', ← wrap_add', wrap_mul', wrap_add']

theorem spec_CompleteSum_ev (n : Int) (l : List Int) (hl : l.length ≤ 1048576) : Ev (fun k => spec_CompleteSum.f k n l) (if argsB l && wth n 0 8 then (wrap64 (chZ true n.toNat l), true) else (0, false)) := by
  simp only [spec_CompleteSum.f]
  refine Ev.bind (spec_syArguments_ev l hl) ?_
  cases h : argsB l with
  | false => simp only [Bool.false_eq_true, if_false, Bool.false_and]; exact Ev.now _
  | true =>
    simp only [if_true, Bool.true_and, spec_l1In_e, Option.bind_some]
    cases h2 : wth n 0 8 with
    | false => simp only [Bool.false_eq_true, if_false]; exact Ev.now _
    | true =>
      simp only [if_true]
      have h3 := wth_iff.1 h2
      have h4 : (l.length : Int) ≤ 4 := by
        rw [argsB, Bool.and_eq_true, wth_iff] at h
        exact h.1.2
      have e : ((n.toNat : Nat) : Int) = n := Int.toNat_of_nonneg h3.1
      have := spec_syChoose_ev true (n.toNat + l.length) n.toNat l (Nat.le_refl _) (by omega)
      rw [e] at this
      exact Ev.ret (f := fun t => (t, true)) this

theorem impl_within_e (a b c : Int) : impl_within.f a b c = some (wth a b c) := wth_opt a b c

theorem impl_allWithin_l (l : List Int) (lo hi : Int) (hl : l.length ≤ 4611686018427387904) : ∀ i, i ≤ l.length → Ev (fun k => impl_allWithin.l0 k lo hi l (l.length : Int) (i : Int)) (allW (l.drop i) lo hi) := by
  refine down ?_ ?_
  · refine Ev.succ ?_
    simp only [impl_allWithin.l0, nlt (Nat.le_refl l.length), if_false, List.drop_length]
    exact Ev.now _
  · intro i hi ih
    refine Ev.succ ?_
    simp only [impl_allWithin.l0, ilt hi, inn, if_true, impl_within_e, Option.bind_some, rd_lt hi, wnext hi hl]
    rw [drop_cons hi]
    exact Ev.andS fun _ => ih
theorem impl_allWithin_ev (l : List Int) (lo hi : Int) (hl : l.length ≤ 4611686018427387904) : Ev (fun k => impl_allWithin.f k l lo hi) (allW l lo hi) := by
  have := impl_allWithin_l l lo hi hl 0 (Nat.zero_le _)
  simpa only [impl_allWithin.f, List.drop_zero, Int.natCast_zero] using this

theorem impl_areArguments_ev (l : List Int) (hl : l.length ≤ 1048576) : Ev (fun k => impl_areArguments.f k l) (argsB l) := by
  simp only [impl_areArguments.f, impl_within_e, Option.bind_some, argsB]
  exact Ev.andS fun _ => Ev.ret (f := fun t => t) (impl_allWithin_ev l 1 9 (by omega))

theorem impl_products_l (ag : Bool) (K : Nat) (hK : K ≤ 1048576) (l : List Int) (hl : l.length ≤ 1048576)
    (IH : ∀ l' : List Int, l'.length ≤ 1048576 → Ev (fun k => impl_products.f k (K : Int) l' ag) (wrap64 (chZ ag K l'))) :
    ∀ i, i ≤ l.length → ∀ acc, InR acc → Ev (fun k => impl_products.l0 k ((K + 1 : Nat) : Int) l ag acc l (l.length : Int) (i : Int)) (wrap64 (acc + chZ ag (K + 1) (l.drop i))) := by
  refine down ?_ ?_
  · intro acc ha
    refine Ev.succ ?_
    simp only [impl_products.l0, nlt (Nat.le_refl l.length), if_false, List.drop_length, chZ, Int.add_zero, wR ha]
    exact Ev.now _
  · intro i hi ih acc ha
    refine Ev.succ ?_
    simp only [impl_products.l0, ilt hi, inn, if_true, ile (Nat.le_of_lt hi), wprev (by omega : K ≤ 4611686018427387904), wnext hi (by omega : l.length ≤ 4611686018427387904), ile (Nat.succ_le_of_lt hi), Int.toNat_natCast, rd_lt hi]
    rw [drop_cons hi, chZ, ← drop_cons hi]
    cases ag with
    | true =>
      simp only [if_true]
      refine Ev.bind (IH _ (by simp; omega)) ?_
      refine (ih _ (inR_wrap _)).eqv ?_
      rw [wrap_add, Int.add_assoc, Int.add_comm (wrap64 _), ← Int.add_assoc, wrap_add', ← wrap_add', wrap_mul', wrap_add', Int.add_assoc]
    | false =>
      simp only [Bool.false_eq_true, if_false]
      refine Ev.bind (IH _ (by simp; omega)) ?_
      refine (ih _ (inR_wrap _)).eqv ?_
      rw [wrap_add, Int.add_assoc, Int.add_comm (wrap64 _), ← Int.add_assoc, wrap_add', ← wrap_add', wrap_mul', wrap_add', Int.add_assoc]
theorem impl_products_ev (ag : Bool) : ∀ (K : Nat), K ≤ 1048576 → ∀ (l : List Int), l.length ≤ 1048576 → Ev (fun k => impl_products.f k (K : Int) l ag) (wrap64 (chZ ag K l))
  | 0, _, l, hl => by
    refine Ev.succ ?_
    simp only [impl_products.f, Int.natCast_zero, if_true, chZ, w64 (x := 1) (by decide) (by decide)]
    exact Ev.now _
  | K + 1, hK, l, hl => by
    refine Ev.succ ?_
    have c : ¬ ((K + 1 : Nat) : Int) = 0 := by omega
    simp only [impl_products.f, c, if_false]
    have := impl_products_l ag K (by omega) l hl (impl_products_ev ag K (by omega)) 0 (Nat.zero_le _) 0 inR_0
    simpa only [List.drop_zero, Int.zero_add, Int.natCast_zero] using this

theorem impl_CompleteSum_ev (n : Int) (l : List Int) (hl : l.length ≤ 1048576) : Ev (fun k => impl_CompleteSum.f k n l) (if argsB l && wth n 0 8 then (wrap64 (chZ true n.toNat l), true) else (0, false)) := by
  simp only [impl_CompleteSum.f]
  refine Ev.bind (impl_areArguments_ev l hl) ?_
  cases h : argsB l with
  | false => simp only [Bool.false_eq_true, if_false, Bool.false_and]; exact Ev.now _
  | true =>
    simp only [if_true, Bool.true_and, impl_within_e, Option.bind_some]
    cases h2 : wth n 0 8 with
    | false => simp only [Bool.false_eq_true, if_false]; exact Ev.now _
    | true =>
      simp only [if_true]
      have h3 := wth_iff.1 h2
      have h4 : (l.length : Int) ≤ 4 := by
        rw [argsB, Bool.and_eq_true, wth_iff] at h
        exact h.1.2
      have e : ((n.toNat : Nat) : Int) = n := Int.toNat_of_nonneg h3.1
      have := impl_products_ev true n.toNat (by omega) l hl
      rw [e] at this
      exact Ev.ret (f := fun t => (t, true)) this

theorem FnExactCompleteSum : laws_FnExactCompleteSum.Pure := by
  intro n a hwn hma hsa hwa
  refine Ev.rounds ?_
  simp only [laws_FnExactCompleteSum.f]
  by_cases hba : (a.length : Int) > 1048576
  · simp only [hba, if_true]; exact Ev.now _
  · simp only [hba, if_false]
    refine Ev.bind (laws_toIntS_ev a (by omega)) ?_
    refine Ev.bind (spec_CompleteSum_ev n a (by omega)) ?_
    refine Ev.bind (laws_toIntS_ev a (by omega)) ?_
    refine Ev.bind (impl_CompleteSum_ev n a (by omega)) ?_
    simp only [bne_self_eq_false, Bool.false_eq_true, if_false, if_true]
    refine Ev.succ ?_
    simp only [laws_FnExactCompleteSum.j0, Bool.false_eq_true, if_false]
    refine Ev.bind (laws_toIntS_ev a (by omega)) ?_
    refine Ev.bind (laws_eqIntS_self a (by omega)) ?_
    simp only [if_true]
    exact Ev.now _

end Go.Proofs.Ytlfjekpjoenkgaa.Pure
