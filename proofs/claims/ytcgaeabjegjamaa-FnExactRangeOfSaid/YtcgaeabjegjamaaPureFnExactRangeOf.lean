/- The program's RangeOf returns what the reference's returns, for all arguments; the printed functions' own bounds on lengths are the only conditions. -/
import Derived.Test.YtcgaeabjegjamaaPFnExactRangeOfx4
import Derived.Test.YtcgaeabjegjamaaMath
namespace Go.Proofs.Ytcgaeabjegjamaa.Pure
open Go.RowKit Go.Proofs.Ytcgaeabjegjamaa.PFnExactRangeOf Go.Proofs.YtcgaeabjegjamaaW.PrintWords Go.Proofs.YtcgaeabjegjamaaW.PrintLast Go.Proofs.YtcgaeabjegjamaaW.PrintMore Go.Proofs.Ytcgaeabjegjamaa.Math
set_option linter.unusedVariables false
set_option linter.unusedSimpArgs false
set_option linter.unusedSectionVars false

theorem spec_l1In_e (a b c : Int) : spec_l1In.f a b c = some (wth a b c) := wth_opt a b c

theorem spec_l1All_l (l : List Int) (lo hi : Int) (hl : l.length ≤ 4611686018427387904) : ∀ i, i ≤ l.length → Ev (fun k => spec_l1All.l0 k lo hi l (l.length : Int) (i : Int)) (allW (l.drop i) lo hi) := by
  refine down ?_ ?_
  · refine Ev.succ ?_
    simp only [spec_l1All.l0, nlt (Nat.le_refl l.length), if_false, List.drop_length]
    exact Ev.now _
  · intro i hi ih
    refine Ev.succ ?_
    simp only [spec_l1All.l0, ilt hi, inn, if_true, spec_l1In_e, Option.bind_some, rd_lt hi, wnext hi hl]
    rw [drop_cons hi]
    exact Ev.andS fun _ => ih
theorem spec_l1All_ev (l : List Int) (lo hi : Int) (hl : l.length ≤ 4611686018427387904) : Ev (fun k => spec_l1All.f k l lo hi) (allW l lo hi) := by
  have := spec_l1All_l l lo hi hl 0 (Nat.zero_le _)
  simpa only [spec_l1All.f, List.drop_zero, Int.natCast_zero] using this

theorem spec_liGood_ev (l : List Int) (hl : l.length ≤ 4611686018427387904) : Ev (fun k => spec_liGood.f k l) (goodB l) := by
  simp only [spec_liGood.f, spec_l1In_e, Option.bind_some, goodB]
  exact Ev.andS fun _ => Ev.ret (f := fun t => t) (spec_l1All_ev l 0 60 hl)

theorem spec_l1Own_e (l : List Int) (hl : l.length < 17592186044416) : spec_l1Own.f l = some l := by
  simp only [spec_l1Own.f, Option.bind_some, List.nil_append, List.length_nil, Nat.zero_add, hl, if_true]

theorem spec_liRank_l1 (l : List Int) (x : Int) (i : Nat) (r : List Int) (hr : r.length ≤ 1048576) (hl : l.length ≤ 1048576) (hi : i < l.length) (v : List Int)
    (ih : Ev (fun k => spec_liRank.l0 k (insD x r) l (l.length : Int) ((i + 1 : Nat) : Int)) v) : ∀ p, p ≤ r.length → insD x r = r.take p ++ insD x (r.drop p) → Ev (fun k => spec_liRank.l1 k r x (p : Int) l (l.length : Int) (i : Int)) v := by
  refine down ?_ ?_
  · intro e
    rw [List.take_length, List.drop_length] at e
    refine Ev.succ ?_
    have e2 : (r ++ [x]).length < 17592186044416 := by rw [List.length_append, List.length_singleton]; omega
    have e3 : r.length + 1 < 17592186044416 := by omega
    simp only [spec_liRank.l1, nlt (Nat.le_refl r.length), if_false, inn, ile (Nat.le_refl r.length), if_true, Int.toNat_natCast, List.take_length, List.drop_length, spec_l1Own_e r (by omega), Option.bind_some, List.length_singleton, List.length_append, List.length_nil, Nat.add_zero, e3, List.append_nil, wnext hi (by omega : l.length ≤ 4611686018427387904)]
    have e' : insD x r = r ++ [x] := e
    rw [← e']; exact ih
  · intro p hp ihp e
    refine Ev.succ ?_
    have e1 : r.drop p = r[p] :: r.drop (p + 1) := drop_cons hp
    by_cases c : r[p] ≥ x
    · simp only [spec_liRank.l1, ilt hp, inn, if_true, rd_lt hp, c, wnext hp (by omega : r.length ≤ 4611686018427387904)]
      refine ihp ?_
      rw [e, e1]
      simp only [insD, c, if_true]
      rw [List.take_succ_eq_append_getElem hp, List.append_assoc, List.singleton_append]
    · have h1 : (r.take p).length = p := by rw [List.length_take]; omega
      have h2 : (r.drop p).length = r.length - p := List.length_drop
      have e2 : p + 1 < 17592186044416 := by omega
      have e3 : p + 1 + (r.length - p) < 17592186044416 := by omega
      simp only [spec_liRank.l1, ilt hp, ile (Nat.le_of_lt hp), inn, if_true, rd_lt hp, c, if_false, Int.toNat_natCast, spec_l1Own_e (r.take p) (by omega), Option.bind_some, List.length_singleton, List.length_append, h1, h2, e2, e3, wnext hi (by omega : l.length ≤ 4611686018427387904)]
      have e' : insD x r = r.take p ++ [x] ++ r.drop p := by
        rw [e, e1]
        simp only [insD, c, if_false]
        rw [List.append_assoc, List.singleton_append]
      rw [← e']; exact ih
theorem spec_liRank_l0 (l : List Int) (hl : l.length ≤ 1048576) : ∀ i, i ≤ l.length → ∀ r : List Int, r.length = i → Ev (fun k => spec_liRank.l0 k r l (l.length : Int) (i : Int)) (rankFrom r (l.drop i)) := by
  refine down ?_ ?_
  · intro r hr
    refine Ev.succ ?_
    simp only [spec_liRank.l0, nlt (Nat.le_refl l.length), if_false, List.drop_length]
    exact Ev.now _
  · intro i hi ih r hr
    refine Ev.succ ?_
    simp only [spec_liRank.l0, ilt hi, inn, if_true, rd_lt hi]
    rw [drop_cons hi]
    exact spec_liRank_l1 l l[i] i r (by omega) hl hi _ (ih (insD l[i] r) (by rw [insD_length, hr])) 0 (Nat.zero_le _) (by rw [List.take_zero, List.drop_zero, List.nil_append])
theorem spec_liRank_ev (l : List Int) (hl : l.length ≤ 1048576) : Ev (fun k => spec_liRank.f k l) (rankD l) := by
  have := spec_liRank_l0 l hl 0 (Nat.zero_le _) [] rfl
  rwa [List.drop_zero] at this

theorem spec_msRange_ev {l : List Int} (h : Lst l) : Ev (fun k => spec_msRange.f k l) (mostOf l - lowOf l) := by
  simp only [spec_msRange.f]
  have h1 := h.1
  have h2 := h.2.1
  refine Ev.bind (spec_liRank_ev l (by omega)) ?_
  have a := h.2.2 _ (mostOf_mem (by omega : 0 < l.length))
  have b := h.2.2 _ (lowOf_mem (by omega : 0 < l.length))
  have e0 : wrap64 ((l.length : Int) - 1) = ((l.length - 1 : Nat) : Int) := by rw [w64 (by omega) (by omega)]; omega
  have e1 : rd (rankD l) 0 = mostOf l := (rd_get _ 0).trans (rankD_first (by omega))
  simp only [rankD_length, e0, e1, rd_get, rankD_last (by omega : 0 < l.length), inn, ilt (by omega : l.length - 1 < l.length), if_true, eq_true (by omega : 0 < (l.length : Int)), w64 (by omega : -9223372036854775808 ≤ mostOf l - lowOf l) (by omega)]
  exact Ev.now _

theorem spec_RangeOf_ev (l : List Int) (hl : l.length ≤ 1048576) : Ev (fun k => spec_RangeOf.f k l) (if goodB l then (mostOf l - lowOf l, true) else (0, false)) := by
  simp only [spec_RangeOf.f]
  refine Ev.bind (spec_liGood_ev l (by omega)) ?_
  cases h : goodB l with
  | false => simp only [Bool.false_eq_true, if_false]; exact Ev.now _
  | true =>
    have h' := goodB_iff.1 h
    have h1 := h'.1
    have a := h'.2.2 _ (mostOf_mem (by omega : 0 < l.length))
    have b := h'.2.2 _ (lowOf_mem (by omega : 0 < l.length))
    simp only [if_true]
    exact Ev.ret (f := fun t => (t, true)) (spec_msRange_ev h')

theorem laws_toIntS_l (l : List Int) (hl : l.length ≤ 4611686018427387904) : ∀ i, i ≤ l.length → ∀ m : List Int, m.length = l.length → m.take i = l.take i → Ev (fun k => laws_toIntS.l0 k l m (i : Int)) l := by
  refine down ?_ ?_
  · intro m hm h
    refine Ev.succ ?_
    simp only [laws_toIntS.l0, nlt (Nat.le_refl l.length), if_false]
    rw [← hm, List.take_length, hm, List.take_length] at h
    rw [h]
    exact Ev.now _
  · intro i hi ih m hm h
    refine Ev.succ ?_
    simp only [laws_toIntS.l0, ilt hi, inn, if_true, hm, rd_lt hi, wnext hi hl, Int.toNat_natCast]
    exact ih _ (by simpa using hm) (set_take l m i hi hm h)
theorem laws_toIntS_ev (l : List Int) (hl : l.length ≤ 35184372088832) : Ev (fun k => laws_toIntS.f k l) l := by
  have := laws_toIntS_l l (by omega) 0 (Nat.zero_le _) (List.replicate l.length 0) (by simp) (by simp)
  simp only [laws_toIntS.f, inn, if_true, Int.toNat_natCast, hl]
  exact this

theorem impl_within_e (a b c : Int) : impl_within.f a b c = some (wth a b c) := wth_opt a b c

theorem impl_allWithin_l (l : List Int) (lo hi : Int) (hl : l.length ≤ 4611686018427387904) : ∀ i, i ≤ l.length → Ev (fun k => impl_allWithin.l0 k lo hi l (l.length : Int) (i : Int)) (allW (l.drop i) lo hi) := by
  refine down ?_ ?_
  · refine Ev.succ ?_
    simp only [impl_allWithin.l0, nlt (Nat.le_refl l.length), if_false, List.drop_length]
    exact Ev.now _
  · intro i hi ih
    refine Ev.succ ?_
    simp only [impl_allWithin.l0, ilt hi, inn, if_true, impl_within_e, Option.bind_some, rd_lt hi, wnext hi hl]
    rw [drop_cons hi]
    exact Ev.andS fun _ => ih
theorem impl_allWithin_ev (l : List Int) (lo hi : Int) (hl : l.length ≤ 4611686018427387904) : Ev (fun k => impl_allWithin.f k l lo hi) (allW l lo hi) := by
  have := impl_allWithin_l l lo hi hl 0 (Nat.zero_le _)
  simpa only [impl_allWithin.f, List.drop_zero, Int.natCast_zero] using this

theorem impl_IsList_ev (l : List Int) (hl : l.length ≤ 4611686018427387904) : Ev (fun k => impl_IsList.f k l) (goodB l) := by
  simp only [impl_IsList.f, impl_within_e, Option.bind_some, goodB]
  exact Ev.andS fun _ => Ev.ret (f := fun t => t) (impl_allWithin_ev l 0 60 hl)

theorem slices_Max_int_int_l (l : List Int) (hl : l.length ≤ 1048576) : ∀ i, i ≤ l.length → ∀ a : Int, Ev (fun k => slices_Max_int_int.l0 k l a (i : Int)) ((l.drop i).foldl max a) := by
  refine down ?_ ?_
  · intro a
    refine Ev.succ ?_
    simp only [slices_Max_int_int.l0, nlt (Nat.le_refl l.length), if_false, List.drop_length, List.foldl_nil]
    exact Ev.now _
  · intro i hi ih a
    refine Ev.succ ?_
    simp only [slices_Max_int_int.l0, ilt hi, inn, if_true, rd_lt hi, mx_eq, wnext hi (by omega : l.length ≤ 4611686018427387904)]
    rw [drop_cons hi, List.foldl_cons]
    exact ih _
theorem slices_Max_int_int_ev (l : List Int) (h0 : 0 < l.length) (hl : l.length ≤ 1048576) : Ev (fun k => slices_Max_int_int.f k l) (mostOf l) := by
  simp only [slices_Max_int_int.f, eq_false (by omega : ¬ (l.length : Int) < 1), eq_true (by omega : 0 < (l.length : Int)), if_false, if_true]
  have := slices_Max_int_int_l l hl 1 (by omega) (l.getD 0 0)
  rw [show rd l 0 = l.getD 0 0 from rd_get l 0]
  exact this

theorem slices_Min_int_int_l (l : List Int) (hl : l.length ≤ 1048576) : ∀ i, i ≤ l.length → ∀ a : Int, Ev (fun k => slices_Min_int_int.l0 k l a (i : Int)) ((l.drop i).foldl min a) := by
  refine down ?_ ?_
  · intro a
    refine Ev.succ ?_
    simp only [slices_Min_int_int.l0, nlt (Nat.le_refl l.length), if_false, List.drop_length, List.foldl_nil]
    exact Ev.now _
  · intro i hi ih a
    refine Ev.succ ?_
    simp only [slices_Min_int_int.l0, ilt hi, inn, if_true, rd_lt hi, mn_eq, wnext hi (by omega : l.length ≤ 4611686018427387904)]
    rw [drop_cons hi, List.foldl_cons]
    exact ih _
theorem slices_Min_int_int_ev (l : List Int) (h0 : 0 < l.length) (hl : l.length ≤ 1048576) : Ev (fun k => slices_Min_int_int.f k l) (lowOf l) := by
  simp only [slices_Min_int_int.f, eq_false (by omega : ¬ (l.length : Int) < 1), eq_true (by omega : 0 < (l.length : Int)), if_false, if_true]
  have := slices_Min_int_int_l l hl 1 (by omega) (l.getD 0 0)
  rw [show rd l 0 = l.getD 0 0 from rd_get l 0]
  exact this

theorem impl_RangeOf_ev (l : List Int) (hl : l.length ≤ 1048576) : Ev (fun k => impl_RangeOf.f k l) (if goodB l then (mostOf l - lowOf l, true) else (0, false)) := by
  simp only [impl_RangeOf.f]
  refine Ev.bind (impl_IsList_ev l (by omega)) ?_
  cases h : goodB l with
  | false => simp only [Bool.false_eq_true, if_false]; exact Ev.now _
  | true =>
    have h' := goodB_iff.1 h
    have h1 := h'.1
    have a := h'.2.2 _ (mostOf_mem (by omega : 0 < l.length))
    have b := h'.2.2 _ (lowOf_mem (by omega : 0 < l.length))
    simp only [if_true]
    refine Ev.bind (slices_Max_int_int_ev l (by omega) (by omega)) ?_; refine Ev.bind (slices_Min_int_int_ev l (by omega) (by omega)) ?_; simp only [w64 (by omega : -9223372036854775808 ≤ mostOf l - lowOf l) (by omega)]; exact Ev.now _

theorem laws_eqIntS_l (l m : List Int) (he : m.length = l.length) (hl : l.length ≤ 4611686018427387904) : ∀ i, i ≤ l.length → Ev (fun k => laws_eqIntS.l0 k l m (i : Int)) (decide (l.drop i = m.drop i)) := by
  refine down ?_ ?_
  · refine Ev.succ ?_
    simp only [laws_eqIntS.l0, nlt (Nat.le_refl l.length), if_false, List.drop_length]
    rw [← he, List.drop_length]
    exact Ev.now _
  · intro i hi ih
    refine Ev.succ ?_
    simp only [laws_eqIntS.l0, ilt hi, inn, if_true, he, rd_lt hi, rd_lt (he ▸ hi : i < m.length), wnext hi hl]
    rw [drop_cons hi, drop_cons (he ▸ hi : i < m.length)]
    by_cases hx : l[i] = m[i]
    · simp only [hx, if_true, List.cons.injEq, true_and]
      exact ih
    · simp only [hx, if_false, List.cons.injEq, false_and, decide_false]
      exact Ev.now _
theorem laws_eqIntS_ev (l m : List Int) (hl : l.length ≤ 4611686018427387904) : Ev (fun k => laws_eqIntS.f k l m) (decide (l = m)) := by
  simp only [laws_eqIntS.f]
  by_cases he : (l.length : Int) = (m.length : Int)
  · simp only [he, if_true]
    exact laws_eqIntS_l l m (by omega) hl 0 (Nat.zero_le _)
  · simp only [he, if_false]
    rw [decide_eq_false (fun h => he (by rw [h]))]
    exact Ev.now _
theorem laws_eqIntS_self (l : List Int) (hl : l.length ≤ 4611686018427387904) : Ev (fun k => laws_eqIntS.f k l l) true := by
  simpa using laws_eqIntS_ev l l hl

theorem FnExactRangeOf : laws_FnExactRangeOf.Pure := by
  intro a hma hsa hwa
  refine Ev.rounds ?_
  simp only [laws_FnExactRangeOf.f]
  by_cases hba : (a.length : Int) > 1048576
  · simp only [hba, if_true]; exact Ev.now _
  · simp only [hba, if_false]
    refine Ev.bind (laws_toIntS_ev a (by omega)) ?_
    refine Ev.bind (spec_RangeOf_ev a (by omega)) ?_
    refine Ev.bind (laws_toIntS_ev a (by omega)) ?_
    refine Ev.bind (impl_RangeOf_ev a (by omega)) ?_
    simp only [bne_self_eq_false, Bool.false_eq_true, if_false, if_true]
    refine Ev.succ ?_
    simp only [laws_FnExactRangeOf.j0, Bool.false_eq_true, if_false]
    refine Ev.bind (laws_toIntS_ev a (by omega)) ?_
    refine Ev.bind (laws_eqIntS_self a (by omega)) ?_
    simp only [if_true]
    exact Ev.now _

end Go.Proofs.Ytcgaeabjegjamaa.Pure
