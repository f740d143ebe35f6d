/- The program's LorenzOf returns what the reference's returns, for all arguments; the printed functions' own bounds on lengths are the only conditions. -/
import Derived.Test.YtbbioadebhnfiaaPFnExactLorenzOfx4
import Derived.Test.YtbbioadebhnfiaaMath
namespace Go.Proofs.Ytbbioadebhnfiaa.Pure
open Go.RowKit Go.Proofs.Ytbbioadebhnfiaa.PFnExactLorenzOf Go.Proofs.YtbbioadebhnfiaaW.PrintWords Go.Proofs.YtbbioadebhnfiaaW.PrintLast Go.Proofs.YtbbioadebhnfiaaW.PrintMore Go.Proofs.Ytbbioadebhnfiaa.Math
set_option linter.unusedVariables false
set_option linter.unusedSimpArgs false
set_option linter.unusedSectionVars false

theorem laws_toIntS_l (l : List Int) (hl : l.length ≤ 4611686018427387904) : ∀ i, i ≤ l.length → ∀ m : List Int, m.length = l.length → m.take i = l.take i → Ev (fun k => laws_toIntS.l0 k l m (i : Int)) l := by
  refine down ?_ ?_
  · intro m hm h
    refine Ev.succ ?_
    simp only [laws_toIntS.l0, nlt (Nat.le_refl l.length), if_false]
    rw [← hm, List.take_length, hm, List.take_length] at h
    rw [h]
    exact Ev.now _
  · intro i hi ih m hm h
    refine Ev.succ ?_
    simp only [laws_toIntS.l0, ilt hi, inn, if_true, hm, rd_lt hi, wnext hi hl, Int.toNat_natCast]
    exact ih _ (by simpa using hm) (set_take l m i hi hm h)
theorem laws_toIntS_ev (l : List Int) (hl : l.length ≤ 35184372088832) : Ev (fun k => laws_toIntS.f k l) l := by
  have := laws_toIntS_l l (by omega) 0 (Nat.zero_le _) (List.replicate l.length 0) (by simp) (by simp)
  simp only [laws_toIntS.f, inn, if_true, Int.toNat_natCast, hl]
  exact this

theorem laws_eqIntS_l (l m : List Int) (he : m.length = l.length) (hl : l.length ≤ 4611686018427387904) : ∀ i, i ≤ l.length → Ev (fun k => laws_eqIntS.l0 k l m (i : Int)) (decide (l.drop i = m.drop i)) := by
  refine down ?_ ?_
  · refine Ev.succ ?_
    simp only [laws_eqIntS.l0, nlt (Nat.le_refl l.length), if_false, List.drop_length]
    rw [← he, List.drop_length]
    exact Ev.now _
  · intro i hi ih
    refine Ev.succ ?_
    simp only [laws_eqIntS.l0, ilt hi, inn, if_true, he, rd_lt hi, rd_lt (he ▸ hi : i < m.length), wnext hi hl]
    rw [drop_cons hi, drop_cons (he ▸ hi : i < m.length)]
    by_cases hx : l[i] = m[i]
    · simp only [hx, if_true, List.cons.injEq, true_and]
      exact ih
    · simp only [hx, if_false, List.cons.injEq, false_and, decide_false]
      exact Ev.now _
theorem laws_eqIntS_ev (l m : List Int) (hl : l.length ≤ 4611686018427387904) : Ev (fun k => laws_eqIntS.f k l m) (decide (l = m)) := by
  simp only [laws_eqIntS.f]
  by_cases he : (l.length : Int) = (m.length : Int)
  · simp only [he, if_true]
    exact laws_eqIntS_l l m (by omega) hl 0 (Nat.zero_le _)
  · simp only [he, if_false]
    rw [decide_eq_false (fun h => he (by rw [h]))]
    exact Ev.now _
theorem laws_eqIntS_self (l : List Int) (hl : l.length ≤ 4611686018427387904) : Ev (fun k => laws_eqIntS.f k l l) true := by
  simpa using laws_eqIntS_ev l l hl

theorem laws_markIntS_l (n : Nat) (hn : n ≤ 1048576) (s : Nat) (hs : s ≤ 4611686018427) : ∀ i, i ≤ n → ∀ m : List Int, m.length = n → m.take i = (iotaF s n).take i → Ev (fun k => laws_markIntS.l0 k m ((s + i : Nat) : Int) (i : Int)) (((s + n : Nat) : Int), iotaF s n) := by
  refine down ?_ ?_
  · intro m hm h
    refine Ev.succ ?_
    simp only [laws_markIntS.l0, hm, nlt (Nat.le_refl n), if_false]
    rw [← hm, List.take_length, hm, List.take_of_length_le (by rw [iotaF_length]; exact Nat.le_refl _)] at h
    rw [h]
    exact Ev.now _
  · intro i hi ih m hm h
    refine Ev.succ ?_
    simp only [laws_markIntS.l0, hm, ilt hi, inn, if_true, Int.toNat_natCast, wnext hi (by omega : n ≤ 4611686018427387904), wnext (by omega : s + i < 4611686018427387904) (by omega)]
    have := set_take (iotaF s n) m i (by rw [iotaF_length]; exact hi) (by rw [iotaF_length]; exact hm) h
    rw [iotaF_get hi] at this
    exact ih _ (by simpa using hm) this
theorem laws_markIntS_ev (l : List Int) (hl : l.length ≤ 1048576) (s : Nat) (hs : s ≤ 4611686018427) : Ev (fun k => laws_markIntS.f k l (s : Int)) (((s + l.length : Nat) : Int), iotaF s l.length) := by
  have := laws_markIntS_l l.length hl s hs 0 (Nat.zero_le _) l rfl rfl
  simpa only [laws_markIntS.f, Int.natCast_zero, Nat.add_zero] using this
theorem laws_markIntS_from (l : List Int) (hl : l.length ≤ 1048576) (s : Nat) (hs : s ≤ 4611686018427) {x : Int} (hx : (s : Int) = x) : Ev (fun k => laws_markIntS.f k l x) (((s + l.length : Nat) : Int), iotaF s l.length) :=
  hx ▸ laws_markIntS_ev l hl s hs

theorem laws_heldIntS_l (n : Nat) (hn : n ≤ 1048576) (s : Nat) (hs : s ≤ 4611686018427) : ∀ i, i ≤ n → Ev (fun k => laws_heldIntS.l0 k (iotaF s n) ((s + i : Nat) : Int) (i : Int)) (((s + n : Nat) : Int)) := by
  refine down ?_ ?_
  · refine Ev.succ ?_
    simp only [laws_heldIntS.l0, iotaF_length, nlt (Nat.le_refl n), if_false]
    exact Ev.now _
  · intro i hi ih
    refine Ev.succ ?_
    simp only [laws_heldIntS.l0, iotaF_length, ilt hi, inn, if_true, rd_lt (by rw [iotaF_length]; exact hi : i < (iotaF s n).length), iotaF_get hi, wnext hi (by omega : n ≤ 4611686018427387904), wnext (by omega : s + i < 4611686018427387904) (by omega)]
    exact ih
theorem laws_heldIntS_ev (n : Nat) (hn : n ≤ 1048576) (s : Nat) (hs : s ≤ 4611686018427) : Ev (fun k => laws_heldIntS.f k (iotaF s n) (s : Int)) (((s + n : Nat) : Int)) := by
  have := laws_heldIntS_l n hn s hs 0 (Nat.zero_le _)
  simpa only [laws_heldIntS.f, Int.natCast_zero, Nat.add_zero] using this
theorem laws_heldIntS_from (n : Nat) (hn : n ≤ 1048576) (s : Nat) (hs : s ≤ 4611686018427) {x : Int} (hx : (s : Int) = x) : Ev (fun k => laws_heldIntS.f k (iotaF s n) x) (((s + n : Nat) : Int)) :=
  hx ▸ laws_heldIntS_ev n hn s hs

theorem spec_l1In_e (a b c : Int) : spec_l1In.f a b c = some (wth a b c) := wth_opt a b c

theorem spec_l1All_l (l : List Int) (lo hi : Int) (hl : l.length ≤ 4611686018427387904) : ∀ i, i ≤ l.length → Ev (fun k => spec_l1All.l0 k lo hi l (l.length : Int) (i : Int)) (allW (l.drop i) lo hi) := by
  refine down ?_ ?_
  · refine Ev.succ ?_
    simp only [spec_l1All.l0, nlt (Nat.le_refl l.length), if_false, List.drop_length]
    exact Ev.now _
  · intro i hi ih
    refine Ev.succ ?_
    simp only [spec_l1All.l0, ilt hi, inn, if_true, spec_l1In_e, Option.bind_some, rd_lt hi, wnext hi hl]
    rw [drop_cons hi]
    exact Ev.andS fun _ => ih
theorem spec_l1All_ev (l : List Int) (lo hi : Int) (hl : l.length ≤ 4611686018427387904) : Ev (fun k => spec_l1All.f k l lo hi) (allW l lo hi) := by
  have := spec_l1All_l l lo hi hl 0 (Nat.zero_le _)
  simpa only [spec_l1All.f, List.drop_zero, Int.natCast_zero] using this

theorem spec_liGood_ev (l : List Int) (hl : l.length ≤ 4611686018427387904) : Ev (fun k => spec_liGood.f k l) (goodB l) := by
  simp only [spec_liGood.f, spec_l1In_e, Option.bind_some, goodB]
  exact Ev.andS fun _ => Ev.ret (f := fun t => t) (spec_l1All_ev l 0 60 hl)

theorem spec_l1Own_e (l : List Int) (hl : l.length < 17592186044416) : spec_l1Own.f l = some l := by
  simp only [spec_l1Own.f, Option.bind_some, List.nil_append, List.length_nil, Nat.zero_add, hl, if_true]

theorem spec_liRank_l1 (l : List Int) (x : Int) (i : Nat) (r : List Int) (hr : r.length ≤ 1048576) (hl : l.length ≤ 1048576) (hi : i < l.length) (v : List Int)
    (ih : Ev (fun k => spec_liRank.l0 k (insD x r) l (l.length : Int) ((i + 1 : Nat) : Int)) v) : ∀ p, p ≤ r.length → insD x r = r.take p ++ insD x (r.drop p) → Ev (fun k => spec_liRank.l1 k r x (p : Int) l (l.length : Int) (i : Int)) v := by
  refine down ?_ ?_
  · intro e
    rw [List.take_length, List.drop_length] at e
    refine Ev.succ ?_
    have e2 : (r ++ [x]).length < 17592186044416 := by rw [List.length_append, List.length_singleton]; omega
    have e3 : r.length + 1 < 17592186044416 := by omega
    simp only [spec_liRank.l1, nlt (Nat.le_refl r.length), if_false, inn, ile (Nat.le_refl r.length), if_true, Int.toNat_natCast, List.take_length, List.drop_length, spec_l1Own_e r (by omega), Option.bind_some, List.length_singleton, List.length_append, List.length_nil, Nat.add_zero, e3, List.append_nil, wnext hi (by omega : l.length ≤ 4611686018427387904)]
    have e' : insD x r = r ++ [x] := e
    rw [← e']; exact ih
  · intro p hp ihp e
    refine Ev.succ ?_
    have e1 : r.drop p = r[p] :: r.drop (p + 1) := drop_cons hp
    by_cases c : r[p] ≥ x
    · simp only [spec_liRank.l1, ilt hp, inn, if_true, rd_lt hp, c, wnext hp (by omega : r.length ≤ 4611686018427387904)]
      refine ihp ?_
      rw [e, e1]
      simp only [insD, c, if_true]
      rw [List.take_succ_eq_append_getElem hp, List.append_assoc, List.singleton_append]
    · have h1 : (r.take p).length = p := by rw [List.length_take]; omega
      have h2 : (r.drop p).length = r.length - p := List.length_drop
      have e2 : p + 1 < 17592186044416 := by omega
      have e3 : p + 1 + (r.length - p) < 17592186044416 := by omega
      simp only [spec_liRank.l1, ilt hp, ile (Nat.le_of_lt hp), inn, if_true, rd_lt hp, c, if_false, Int.toNat_natCast, spec_l1Own_e (r.take p) (by omega), Option.bind_some, List.length_singleton, List.length_append, h1, h2, e2, e3, wnext hi (by omega : l.length ≤ 4611686018427387904)]
      have e' : insD x r = r.take p ++ [x] ++ r.drop p := by
        rw [e, e1]
        simp only [insD, c, if_false]
        rw [List.append_assoc, List.singleton_append]
      rw [← e']; exact ih
theorem spec_liRank_l0 (l : List Int) (hl : l.length ≤ 1048576) : ∀ i, i ≤ l.length → ∀ r : List Int, r.length = i → Ev (fun k => spec_liRank.l0 k r l (l.length : Int) (i : Int)) (rankFrom r (l.drop i)) := by
  refine down ?_ ?_
  · intro r hr
    refine Ev.succ ?_
    simp only [spec_liRank.l0, nlt (Nat.le_refl l.length), if_false, List.drop_length]
    exact Ev.now _
  · intro i hi ih r hr
    refine Ev.succ ?_
    simp only [spec_liRank.l0, ilt hi, inn, if_true, rd_lt hi]
    rw [drop_cons hi]
    exact spec_liRank_l1 l l[i] i r (by omega) hl hi _ (ih (insD l[i] r) (by rw [insD_length, hr])) 0 (Nat.zero_le _) (by rw [List.take_zero, List.drop_zero, List.nil_append])
theorem spec_liRank_ev (l : List Int) (hl : l.length ≤ 1048576) : Ev (fun k => spec_liRank.f k l) (rankD l) := by
  have := spec_liRank_l0 l hl 0 (Nat.zero_le _) [] rfl
  rwa [List.drop_zero] at this

theorem spec_msLorenz_l (r : List Int) (hr : r.length ≤ 8) (hb : ∀ x ∈ r, 0 ≤ x ∧ x ≤ 60) : ∀ (j : Nat), j ≤ r.length → ∀ (acc : List Int) (s : Int), 0 < acc.length → acc.length + j ≤ 9 → acc.getD (acc.length - 1) 0 = s → 0 ≤ s → s + 60 * j ≤ 480 → Ev (fun k => spec_msLorenz.l0 k r acc ((j : Int) - 1)) (acc ++ psums s (r.take j).reverse)
  | 0, _, acc, s, _, _, _, _, _ => by
    refine Ev.succ ?_
    simp only [spec_msLorenz.l0, (by omega : ¬ (((0 : Nat) : Int) - 1) ≥ 0), if_false, List.take_zero, List.reverse_nil, psums, List.append_nil]
    exact Ev.now _
  | j + 1, hj, acc, s, h0, h9, hl, hs0, hs => by
    have hj' : j < r.length := by omega
    have b := hb _ (List.getElem_mem hj')
    have e : (((j + 1 : Nat) : Int) - 1) = (j : Int) := by omega
    have e1 : wrap64 ((acc.length : Int) - 1) = ((acc.length - 1 : Nat) : Int) := by rw [w64 (by omega) (by omega)]; omega
    have c : acc.length < 17592186044416 := by omega
    have e2 : wrap64 ((j : Int) - 1) = (j : Int) - 1 := w64 (by omega) (by omega)
    rw [e]
    refine Ev.succ ?_
    simp only [spec_msLorenz.l0, (by omega : (j : Int) ≥ 0), e1, e2, inn, if_true, ilt (by omega : acc.length - 1 < acc.length), ilt hj', rd_get, hl, c]
    have er : r.getD j 0 = r[j] := by simp [List.getD_eq_getElem?_getD, hj']
    rw [er, w64 (x := s + r[j]) (by omega) (by omega), List.take_succ_eq_append_getElem hj', List.reverse_append, List.reverse_singleton, List.singleton_append, psums]
    refine (spec_msLorenz_l r hr hb j (by omega) (acc ++ [s + r[j]]) (s + r[j]) (by simp) (by rw [List.length_append, List.length_singleton]; omega) (by simp [List.getD_eq_getElem?_getD]) (by omega) (by omega)).eqv ?_
    rw [List.append_assoc, List.singleton_append]
theorem spec_msLorenz_ev {l : List Int} (h : Lst l) : Ev (fun k => spec_msLorenz.f k l) (lorOf l) := by
  have hr := rankD_lst h
  have h1 := h.1
  have h2 := h.2.1
  simp only [spec_msLorenz.f]
  refine Ev.bind (spec_liRank_ev l (by omega)) ?_
  have e : wrap64 (((rankD l).length : Int) - 1) = ((rankD l).length : Int) - 1 := w64 (by rw [rankD_length]; omega) (by rw [rankD_length]; omega)
  rw [e]
  have := spec_msLorenz_l (rankD l) hr.2.1 hr.2.2 (rankD l).length (Nat.le_refl _) [0] 0 (by simp) (by rw [rankD_length, List.length_singleton]; omega) rfl (by omega) (by rw [rankD_length]; omega)
  rw [List.take_length] at this
  exact this

theorem spec_LorenzOf_ev (a : List Int) (ha : a.length ≤ 1048576) : Ev (fun k => spec_LorenzOf.f k a) (if goodB a then (lorOf a, true) else (([] : List Int), false)) := by
  simp only [spec_LorenzOf.f]
  refine Ev.bind (spec_liGood_ev a (by omega)) ?_
  cases h : goodB a with
  | false => simp only [Bool.false_eq_true, if_false]; exact Ev.now _
  | true =>
    simp only [if_true]
    exact Ev.ret (f := fun t => (t, true)) (spec_msLorenz_ev (goodB_iff.1 h))

theorem impl_within_e (a b c : Int) : impl_within.f a b c = some (wth a b c) := wth_opt a b c

theorem impl_allWithin_l (l : List Int) (lo hi : Int) (hl : l.length ≤ 4611686018427387904) : ∀ i, i ≤ l.length → Ev (fun k => impl_allWithin.l0 k lo hi l (l.length : Int) (i : Int)) (allW (l.drop i) lo hi) := by
  refine down ?_ ?_
  · refine Ev.succ ?_
    simp only [impl_allWithin.l0, nlt (Nat.le_refl l.length), if_false, List.drop_length]
    exact Ev.now _
  · intro i hi ih
    refine Ev.succ ?_
    simp only [impl_allWithin.l0, ilt hi, inn, if_true, impl_within_e, Option.bind_some, rd_lt hi, wnext hi hl]
    rw [drop_cons hi]
    exact Ev.andS fun _ => ih
theorem impl_allWithin_ev (l : List Int) (lo hi : Int) (hl : l.length ≤ 4611686018427387904) : Ev (fun k => impl_allWithin.f k l lo hi) (allW l lo hi) := by
  have := impl_allWithin_l l lo hi hl 0 (Nat.zero_le _)
  simpa only [impl_allWithin.f, List.drop_zero, Int.natCast_zero] using this

theorem impl_IsList_ev (l : List Int) (hl : l.length ≤ 4611686018427387904) : Ev (fun k => impl_IsList.f k l) (goodB l) := by
  simp only [impl_IsList.f, impl_within_e, Option.bind_some, goodB]
  exact Ev.andS fun _ => Ev.ret (f := fun t => t) (impl_allWithin_ev l 0 60 hl)

theorem rev_sorted (l : List Int) : (l.mergeSort fun x y => decide (x ≤ y)) = (rankD l).reverse := by
  have hp : List.Perm (l.mergeSort fun x y => decide (x ≤ y)).reverse (rankD l) := (List.reverse_perm _).trans ((List.mergeSort_perm _ _).trans (rankD_perm l).symm)
  have hd : Desc (l.mergeSort fun x y => decide (x ≤ y)).reverse := by
    unfold Desc
    rw [List.pairwise_reverse]
    refine (List.pairwise_mergeSort (le := fun x y : Int => decide (x ≤ y)) ?_ ?_ l).imp (fun h => of_decide_eq_true h)
    · intro a b c h1 h2
      have h1 := of_decide_eq_true h1
      have h2 := of_decide_eq_true h2
      exact decide_eq_true (by omega)
    · intro a b
      rw [Bool.or_eq_true, decide_eq_true_eq, decide_eq_true_eq]
      omega
  have := desc_unique hp hd (rankD_desc l)
  rw [← this, List.reverse_reverse]
theorem slices_Sorted_int_e (l : List Int) (hl : l.length ≤ 1048576) : slices_Sorted_int.f l = some (rankD l).reverse := by
  rw [slices_Sorted_int.f, if_pos hl, rev_sorted]

theorem impl_lorenz_l (l : List Int) (hl : l.length ≤ 8) (hb : ∀ x ∈ l, 0 ≤ x ∧ x ≤ 60) : ∀ i, i ≤ l.length → ∀ (out : List Int) (s : Int), out.length = i + 1 → 0 ≤ s ∧ s ≤ 60 * i → Ev (fun k => impl_lorenz.l0 k out s l (l.length : Int) (i : Int)) (out ++ psums s (l.drop i)) := by
  refine down ?_ ?_
  · intro out s ho hs
    refine Ev.succ ?_
    simp only [impl_lorenz.l0, nlt (Nat.le_refl l.length), if_false, List.drop_length, psums, List.append_nil]
    exact Ev.now _
  · intro i hi ih out s ho hs
    have b := hb _ (List.getElem_mem hi)
    have c : out.length < 17592186044416 := by omega
    refine Ev.succ ?_
    simp only [impl_lorenz.l0, ilt hi, inn, if_true, rd_lt hi, c, w64 (x := s + l[i]) (by omega) (by omega), wnext hi (by omega : l.length ≤ 4611686018427387904)]
    rw [drop_cons hi, psums]
    exact (ih (out ++ [s + l[i]]) (s + l[i]) (by simp [ho]) (by omega)).eqv (by simp)
theorem impl_lorenz_ev {l : List Int} (h : Lst l) : Ev (fun k => impl_lorenz.f k l) (lorOf l) := by
  have hr := rankD_lst h
  have h8 := h.2.1
  simp only [impl_lorenz.f, slices_Sorted_int_e l (by omega), Option.bind_some]
  have := impl_lorenz_l (rankD l).reverse (by rw [List.length_reverse]; exact hr.2.1) (fun x hx => hr.2.2 x (List.mem_reverse.1 hx)) 0 (Nat.zero_le _) [0] 0 rfl (by omega)
  rw [List.drop_zero] at this
  exact this

theorem impl_LorenzOf_ev (a : List Int) (ha : a.length ≤ 1048576) : Ev (fun k => impl_LorenzOf.f k a) (if goodB a then (lorOf a, true) else (([] : List Int), false)) := by
  simp only [impl_LorenzOf.f]
  refine Ev.bind (impl_IsList_ev a (by omega)) ?_
  cases h : goodB a with
  | false => simp only [Bool.false_eq_true, if_false]; exact Ev.now _
  | true =>
    simp only [if_true]
    exact Ev.ret (f := fun t => (t, true)) (impl_lorenz_ev (goodB_iff.1 h))

theorem lorV_len (a : List Int) : (if goodB a then (lorOf a, true) else (([] : List Int), false)).1.length ≤ 1048576 := by
  cases h : goodB a with
  | false => simp
  | true =>
    have := (goodB_iff.1 h).2.1
    simp only [if_true, lorOf_length]
    omega
theorem FnExactLorenzOf : laws_FnExactLorenzOf.Pure := by
  intro a hma hsa hwa
  refine Ev.rounds ?_
  simp only [laws_FnExactLorenzOf.f]
  by_cases hba : (a.length : Int) > 1048576
  · simp only [hba, if_true]; exact Ev.now _
  · simp only [hba, if_false]
    refine Ev.bind (laws_toIntS_ev a (by omega)) ?_
    refine Ev.bind (spec_LorenzOf_ev a (by omega)) ?_
    refine Ev.bind (laws_toIntS_ev a (by omega)) ?_
    refine Ev.bind (impl_LorenzOf_ev a (by omega)) ?_
    have hr := lorV_len a
    refine Ev.bind (laws_eqIntS_self _ (by omega)) ?_
    simp only [bne_self_eq_false, Bool.false_eq_true, if_false, if_true]
    refine Ev.succ ?_
    simp only [laws_FnExactLorenzOf.j0, Bool.false_eq_true, if_false]
    refine Ev.bind (laws_toIntS_ev a (by omega)) ?_
    refine Ev.bind (laws_eqIntS_self a (by omega)) ?_
    simp only [if_true]
    refine Ev.bind (laws_markIntS_from a (by omega) 1 (by omega) rfl) ?_
    simp only [nneg, if_false]
    refine Ev.bind (laws_eqIntS_self _ (by omega)) ?_
    simp only [if_true]
    refine Ev.succ ?_
    simp only [laws_FnExactLorenzOf.j1, bne_self_eq_false, Bool.false_eq_true, if_false]
    refine Ev.bind (laws_markIntS_from _ (by omega) 1 (by omega) rfl) ?_
    refine Ev.bind (laws_heldIntS_from _ (by omega) 1 (by omega) rfl) ?_
    simp only [nneg, if_false, if_true]
    refine Ev.bind (laws_toIntS_ev a (by omega)) ?_
    refine Ev.bind (impl_LorenzOf_ev a (by omega)) ?_
    refine Ev.bind (laws_eqIntS_self _ (by omega)) ?_
    simp only [if_true]
    refine Ev.succ ?_
    simp only [laws_FnExactLorenzOf.j2, bne_self_eq_false, Bool.false_eq_true, if_false]
    refine Ev.bind (laws_heldIntS_from _ (by omega) 1 (by omega) rfl) ?_
    simp only [nneg, if_false, if_true]
    exact Ev.now _

end Go.Proofs.Ytbbioadebhnfiaa.Pure
