/- Lists that fit are majorized exactly if no threshold refuses, and the least one that refuses does; the printed functions' own bounds on lengths are the only conditions. -/
import Derived.Test.YtclnfaclfplpmaaPFnThresholdsRefusex8
import Derived.Test.YtclnfaclfplpmaaMathB
namespace Go.Proofs.Ytclnfaclfplpmaa.Pure
open Go.RowKit Go.Proofs.Ytclnfaclfplpmaa.PFnThresholdsRefuse Go.Proofs.YtclnfaclfplpmaaW.PrintWords Go.Proofs.YtclnfaclfplpmaaW.PrintLast Go.Proofs.YtclnfaclfplpmaaW.PrintMore Go.Proofs.Ytclnfaclfplpmaa.Math
set_option linter.unusedVariables false
set_option linter.unusedSimpArgs false
set_option linter.unusedSectionVars false

theorem laws_big_x (a b : List Int) : ∃ t, laws_big.f a b = some t := by
  unfold laws_big.f
  by_cases c : (a.length : Int) > 1048576
  · rw [if_pos c]; exact ⟨_, rfl⟩
  · rw [if_neg c]; exact ⟨_, rfl⟩

theorem impl_within_e (a b c : Int) : impl_within.f a b c = some (wth a b c) := wth_opt a b c

theorem impl_allWithin_l (l : List Int) (lo hi : Int) (hl : l.length ≤ 4611686018427387904) : ∀ i, i ≤ l.length → Ev (fun k => impl_allWithin.l0 k lo hi l (l.length : Int) (i : Int)) (allW (l.drop i) lo hi) := by
  refine down ?_ ?_
  · refine Ev.succ ?_
    simp only [impl_allWithin.l0, nlt (Nat.le_refl l.length), if_false, List.drop_length]
    exact Ev.now _
  · intro i hi ih
    refine Ev.succ ?_
    simp only [impl_allWithin.l0, ilt hi, inn, if_true, impl_within_e, Option.bind_some, rd_lt hi, wnext hi hl]
    rw [drop_cons hi]
    exact Ev.andS fun _ => ih
theorem impl_allWithin_ev (l : List Int) (lo hi : Int) (hl : l.length ≤ 4611686018427387904) : Ev (fun k => impl_allWithin.f k l lo hi) (allW l lo hi) := by
  have := impl_allWithin_l l lo hi hl 0 (Nat.zero_le _)
  simpa only [impl_allWithin.f, List.drop_zero, Int.natCast_zero] using this

theorem impl_IsList_ev (l : List Int) (hl : l.length ≤ 4611686018427387904) : Ev (fun k => impl_IsList.f k l) (goodB l) := by
  simp only [impl_IsList.f, impl_within_e, Option.bind_some, goodB]
  exact Ev.andS fun _ => Ev.ret (f := fun t => t) (impl_allWithin_ev l 0 60 hl)

theorem impl_excess_l {l : List Int} (h : Lst l) (t : Nat) (ht : t ≤ 61) : ∀ i, i ≤ l.length → ∀ acc : Int, 0 ≤ acc → acc ≤ 60 * i → Ev (fun k => impl_excess.l0 k (t : Int) acc l (l.length : Int) (i : Int)) (acc + exc (l.drop i) t) := by
  have hn := h.2.1
  unfold exc
  refine down ?_ ?_
  · intro acc ha hb
    refine Ev.succ ?_
    simp only [impl_excess.l0, nlt (Nat.le_refl l.length), if_false, List.drop_length, List.map_nil, List.sum_nil, Int.add_zero]
    exact Ev.now _
  · intro i hi ih acc ha hb
    have b := h.get hi
    refine Ev.succ ?_
    simp only [impl_excess.l0, ilt hi, inn, if_true, rd_lt hi, wnext hi (by omega : l.length ≤ 4611686018427387904), mx_eq]
    rw [drop_cons hi, List.map_cons, List.sum_cons, ← Int.add_assoc, w64 (x := l[i] - t) (by omega) (by omega), w64 (x := acc + _) (by omega) (by omega)]
    exact ih _ (by omega) (by omega)
theorem impl_excess_ev {l : List Int} (h : Lst l) (t : Nat) (ht : t ≤ 61) : Ev (fun k => impl_excess.f k l (t : Int)) (exc l t) := by
  have := impl_excess_l h t ht 0 (Nat.zero_le _) 0 (by omega) (by omega)
  simpa only [impl_excess.f, List.drop_zero, Int.zero_add, Int.natCast_zero] using this

theorem impl_ExcessOver_ev (l : List Int) (t : Int) (hl : l.length ≤ 1048576) : Ev (fun k => impl_ExcessOver.f k l t) (if goodB l && wth t 0 60 then (exc l t, true) else (0, false)) := by
  simp only [impl_ExcessOver.f]
  refine Ev.bind (impl_IsList_ev l (by omega)) ?_
  cases h : goodB l with
  | false => simp only [Bool.false_and, Bool.false_eq_true, if_false]; exact Ev.now _
  | true =>
    simp only [if_true, Bool.true_and, impl_within_e, Option.bind_some]
    cases h2 : wth t 0 60 with
    | false => simp only [Bool.false_eq_true, if_false]; exact Ev.now _
    | true =>
      simp only [if_true]
      have h3 := wth_iff.1 h2
      have := impl_excess_ev (goodB_iff.1 h) t.toNat (by omega)
      rw [Int.toNat_of_nonneg h3.1] at this
      exact Ev.ret (f := fun z => (z, true)) this

theorem impl_areLists_ev (a b : List Int) (ha : a.length ≤ 1048576) (hb : b.length ≤ 1048576) : Ev (fun k => impl_areLists.f k a b) (goodB a && goodB b) := by
  simp only [impl_areLists.f]
  exact Ev.and (impl_IsList_ev a (by omega)) fun h => Ev.ret (f := fun t => t) (impl_IsList_ev b (by omega))

theorem slices_Clone_int_int_e (l : List Int) (hl : l.length < 17592186044416) : slices_Clone_int_int.f l = some l := by
  simp only [slices_Clone_int_int.f, Option.bind_some, List.nil_append, List.length_nil, Nat.zero_add, hl, if_true]

theorem impl_ranking_1_e (x y : Int) : impl_ranking_1.f x y = some (wrap64 (y - x)) := rfl

def Bnd (l : List Int) : Prop := ∀ x ∈ l, -1000000 ≤ x ∧ x ≤ 1000000
theorem slices_insertionSortCmpFunc_int_l1 (x : Int) (hx : -1000000 ≤ x ∧ x ≤ 1000000) (R : List Int) (n i : Nat) (v : List Int) : ∀ (m : Nat) (P Q : List Int), P.length = m → m ≤ 1048576 → Bnd P → Desc (P ++ Q) → (∀ y ∈ Q, y < x) →
    Ev (fun k => slices_insertionSortCmpFunc_int.l0 k (insD x (P ++ Q) ++ R) 0 (n : Int) (wrap64 ((i : Int) + 1))) v → Ev (fun k => slices_insertionSortCmpFunc_int.l1 k (P ++ x :: (Q ++ R)) 0 (n : Int) (i : Int) (m : Int)) v
  | 0, P, Q, hP, _, _, _, hQ, hv => by
    have e : P = [] := List.eq_nil_of_length_eq_zero hP
    subst e
    refine Ev.succ ?_
    have c : ¬ ((0 : Nat) : Int) > 0 := by omega
    rw [insD_split x [] Q (fun y hy => absurd hy List.not_mem_nil) hQ] at hv
    simp only [slices_insertionSortCmpFunc_int.l1, c, if_false]
    exact hv
  | m + 1, P, Q, hP, hm, hb, hd, hQ, hv => by
    have hne : P ≠ [] := fun e => by rw [e] at hP; simp at hP
    have ep : P = P.dropLast ++ [P.getLast hne] := (List.dropLast_concat_getLast hne).symm
    generalize hP' : P.dropLast = P' at ep
    generalize hp : P.getLast hne = p at ep
    have hpb := hb p (by rw [ep]; simp)
    clear hP' hp
    subst ep
    have hl : P'.length = m := by rw [List.length_append, List.length_singleton] at hP; omega
    refine Ev.succ ?_
    have c : ((m + 1 : Nat) : Int) > 0 := by omega
    have c1 : m < ((P' ++ [p]) ++ x :: (Q ++ R)).length := by rw [List.length_append, hP, List.length_cons]; omega
    have c2 : m + 1 < ((P' ++ [p]) ++ x :: (Q ++ R)).length := by rw [List.length_append, hP, List.length_cons]; omega
    have r1 : rd ((P' ++ [p]) ++ x :: (Q ++ R)) ((m + 1 : Nat) : Int) = x := rd_mid _ _ _ _ hP
    have r2 : rd ((P' ++ [p]) ++ x :: (Q ++ R)) (m : Int) = p := by rw [List.append_assoc]; exact rd_mid _ _ _ _ hl
    simp only [slices_insertionSortCmpFunc_int.l1, eq_true c, inn, ilt c1, ilt c2, if_true, wprev (by omega : m ≤ 4611686018427387904), r1, r2, impl_ranking_1_e, Option.bind_some, Int.toNat_natCast, w64 (x := p - x) (by omega) (by omega)]
    by_cases d : p - x < 0
    · simp only [eq_true d, if_true]
      have e1 : ((((P' ++ [p]) ++ x :: (Q ++ R)).set (m + 1) p).set m x) = P' ++ x :: ((p :: Q) ++ R) := by
        rw [set_mid _ _ _ _ _ hP, List.append_assoc, List.singleton_append, set_mid _ _ _ _ _ hl, List.cons_append]
      rw [e1]
      refine slices_insertionSortCmpFunc_int_l1 x hx R n i v m P' (p :: Q) hl (by omega) (fun y hy => hb y (List.mem_append_left _ hy)) (by rw [List.append_assoc, List.singleton_append] at hd; exact hd) (fun y hy => ?_) ?_
      · rcases List.mem_cons.1 hy with e | e
        · omega
        · exact hQ y e
      · rw [List.append_assoc, List.singleton_append] at hv
        exact hv
    · simp only [eq_false d, if_false]
      rw [insD_split x (P' ++ [p]) Q (fun y hy => ?_) hQ, List.append_assoc, List.cons_append] at hv
      · exact hv
      · rcases List.mem_append.1 hy with e | e
        · have := desc_split ((List.pairwise_append.1 hd).1) e (List.mem_singleton.2 rfl); omega
        · have := List.mem_singleton.1 e; omega
theorem slices_insertionSortCmpFunc_int_l0 (l : List Int) (hl : l.length ≤ 1048576) (hb : Bnd l) : ∀ i, i ≤ l.length → ∀ S : List Int, S.length = i → Bnd S → Desc S →
    Ev (fun k => slices_insertionSortCmpFunc_int.l0 k (S ++ l.drop i) 0 (l.length : Int) (i : Int)) (rankFrom S (l.drop i)) := by
  refine down ?_ ?_
  · intro S hS hB hD
    refine Ev.succ ?_
    simp only [slices_insertionSortCmpFunc_int.l0, nlt (Nat.le_refl l.length), if_false, List.drop_length, List.append_nil]
    exact Ev.now _
  · intro i hi ih S hS hB hD
    have hx := hb _ (List.getElem_mem hi)
    refine Ev.succ ?_
    simp only [slices_insertionSortCmpFunc_int.l0, ilt hi, if_true]
    rw [drop_cons hi]
    refine slices_insertionSortCmpFunc_int_l1 l[i] hx (l.drop (i + 1)) l.length i _ i S [] hS (by omega) hB (by rw [List.append_nil]; exact hD) (fun y hy => absurd hy List.not_mem_nil) ?_
    rw [List.append_nil, wnext hi (by omega)]
    refine ih (insD l[i] S) (by rw [insD_length, hS]) (fun y hy => ?_) (insD_desc _ _ hD)
    rcases List.mem_cons.1 ((insD_perm l[i] S).mem_iff.1 hy) with e | e
    · rw [e]; exact hx
    · exact hB y e
theorem slices_insertionSortCmpFunc_int_ev (l : List Int) (h0 : 0 < l.length) (hl : l.length ≤ 1048576) (hb : Bnd l) (a : Int) : Ev (fun k => slices_insertionSortCmpFunc_int.f k l 0 (l.length : Int) a) (rankD l) := by
  cases l with
  | nil => exact absurd h0 (by simp)
  | cons x t =>
    have := slices_insertionSortCmpFunc_int_l0 (x :: t) hl hb 1 (by rw [List.length_cons]; omega) [x] rfl (fun y hy => hb y (by rw [List.mem_singleton.1 hy]; exact List.mem_cons_self ..)) (List.pairwise_singleton _ _)
    have e : wrap64 (0 + 1) = ((1 : Nat) : Int) := by rw [w64 (by omega) (by omega)]; rfl
    simp only [slices_insertionSortCmpFunc_int.f, e]
    exact this

theorem slices_pdqsortCmpFunc_int_ev (l : List Int) (h0 : 0 < l.length) (hl : l.length ≤ 12) (hb : Bnd l) (a b : Int) : Ev (fun k => slices_pdqsortCmpFunc_int.f k l 0 (l.length : Int) a b) (rankD l) := by
  refine Ev.succ ?_
  simp only [slices_pdqsortCmpFunc_int.f]
  refine Ev.succ ?_
  simp only [slices_pdqsortCmpFunc_int.l0, Int.sub_zero, w64 (by omega : -9223372036854775808 ≤ (l.length : Int)) (by omega), eq_true (by omega : (l.length : Int) ≤ 12), if_true]
  exact Ev.ret (f := fun t => t) (slices_insertionSortCmpFunc_int_ev l h0 (by omega) hb b)

theorem bits_Len_e (n : Nat) (h : n ≤ 8) : ∃ r, bits_Len.f (IntKind.u64.wrap (n : Int)) = some r := by
  unfold bits_Len.f
  rw [IntKind.wrap_u64, if_pos (by omega)]
  exact ⟨_, rfl⟩

theorem slices_SortFunc_int_int_ev (l : List Int) (h0 : 0 < l.length) (hl : l.length ≤ 8) (hb : Bnd l) (a : Int) : Ev (fun k => slices_SortFunc_int_int.f k l a) (rankD l) := by
  obtain ⟨q, hq⟩ := bits_Len_e l.length hl
  simp only [slices_SortFunc_int_int.f, hq, Option.bind_some]
  exact Ev.ret (f := fun t => t) (slices_pdqsortCmpFunc_int_ev l h0 (by omega) hb q a)

theorem impl_ranking_ev {l : List Int} (h : Lst l) : Ev (fun k => impl_ranking.f k l) (rankD l) := by
  have h1 := h.1
  have h2 := h.2.1
  simp only [impl_ranking.f, slices_Clone_int_int_e l (by omega), Option.bind_some]
  exact Ev.ret (f := fun t => t) (slices_SortFunc_int_int_ev l (by omega) h2 (fun x hx => by have := h.2.2 x hx; omega) 0)

theorem impl_partial_l (l : List Int) (hl : l.length ≤ 8) (hb : ∀ x ∈ l, 0 ≤ x ∧ x ≤ 60) : ∀ i, i ≤ l.length → ∀ (out : List Int) (s : Int), out.length = i → 0 ≤ s ∧ s ≤ 60 * i → Ev (fun k => impl_partial.l0 k out s l (l.length : Int) (i : Int)) (out ++ psums s (l.drop i)) := by
  refine down ?_ ?_
  · intro out s ho hs
    refine Ev.succ ?_
    simp only [impl_partial.l0, nlt (Nat.le_refl l.length), if_false, List.drop_length, psums, List.append_nil]
    exact Ev.now _
  · intro i hi ih out s ho hs
    have b := hb _ (List.getElem_mem hi)
    have c : out.length < 17592186044416 := by omega
    refine Ev.succ ?_
    simp only [impl_partial.l0, ilt hi, inn, if_true, rd_lt hi, c, w64 (x := s + l[i]) (by omega) (by omega), wnext hi (by omega : l.length ≤ 4611686018427387904)]
    rw [drop_cons hi, psums]
    exact (ih (out ++ [s + l[i]]) (s + l[i]) (by simp [ho]) (by omega)).eqv (by simp)
theorem impl_partial_ev {l : List Int} (h : Lst l) : Ev (fun k => impl_partial.f k l) (partOf l) := by
  have hr := rankD_lst h
  simp only [impl_partial.f]
  refine Ev.bind (impl_ranking_ev h) ?_
  have := impl_partial_l (rankD l) hr.2.1 hr.2.2 0 (Nat.zero_le _) [] 0 rfl (by omega)
  rw [List.drop_zero, List.nil_append] at this
  exact this

theorem impl_refused_l (p q : List Int) (hp : p.length ≤ 1048576) (hq : p.length ≤ q.length) : ∀ i, i ≤ p.length → Ev (fun k => impl_refused.l0 k q p (p.length : Int) (i : Int)) (refGo i (p.drop i) (q.drop i)) := by
  refine down ?_ ?_
  · refine Ev.succ ?_
    simp only [impl_refused.l0, nlt (Nat.le_refl p.length), if_false, List.drop_length, refGo]
    exact Ev.now _
  · intro i hi ih
    have h2 : i < q.length := by omega
    refine Ev.succ ?_
    simp only [impl_refused.l0, ilt hi, ilt h2, inn, if_true, rd_lt hi, rd_lt h2, wnext hi (by omega : p.length ≤ 4611686018427387904)]
    rw [drop_cons hi, drop_cons h2, refGo]
    by_cases c : p[i] > q[i]
    · simp only [c, if_true]; exact Ev.now _
    · simp only [c, if_false]; exact ih
theorem impl_refused_ev {a b : List Int} (ha : Lst a) (hb : Lst b) (hl : a.length = b.length) : Ev (fun k => impl_refused.f k a b) (refGo 0 (partOf a) (partOf b)) := by
  have h2 := ha.2.1
  simp only [impl_refused.f]
  refine Ev.bind (impl_partial_ev hb) ?_
  refine Ev.bind (impl_partial_ev ha) ?_
  exact impl_refused_l (partOf a) (partOf b) (by rw [partOf_length]; omega) (by rw [partOf_length, partOf_length]; omega) 0 (Nat.zero_le _)

theorem impl_total_l (l : List Int) (hl : l.length ≤ 4611686018427387904) : ∀ i, i ≤ l.length → ∀ acc, InR acc → Ev (fun k => impl_total.l0 k acc l (l.length : Int) (i : Int)) (wrap64 (acc + (l.drop i).sum)) := by
  refine down ?_ ?_
  · intro acc ha
    refine Ev.succ ?_
    simp only [impl_total.l0, nlt (Nat.le_refl l.length), if_false, List.drop_length, List.sum_nil, Int.add_zero, wR ha]
    exact Ev.now _
  · intro i hi ih acc ha
    refine Ev.succ ?_
    simp only [impl_total.l0, ilt hi, inn, if_true, rd_lt hi, wnext hi hl]
    rw [drop_cons hi, List.sum_cons, ← Int.add_assoc]
    exact (ih _ (inR_wrap _)).eqv (wrap_add _ _)
theorem impl_total_ev (l : List Int) (hl : l.length ≤ 4611686018427387904) : Ev (fun k => impl_total.f k l) (wrap64 l.sum) := by
  have := impl_total_l l hl 0 (Nat.zero_le _) 0 inR_0
  simpa only [impl_total.f, List.drop_zero, Int.zero_add, Int.natCast_zero] using this
theorem impl_total_good {l : List Int} (h : Lst l) : Ev (fun k => impl_total.f k l) l.sum :=
  (impl_total_ev l (by have := h.2.1; omega)).eqv (w64 (by have := h.sum; omega) (by have := h.sum; omega))

theorem impl_doFit_ev {a b : List Int} (ha : Lst a) (hb : Lst b) : Ev (fun k => impl_doFit.f k a b) (decide (a.length = b.length) && decide (a.sum = b.sum)) := by
  simp only [impl_doFit.f]
  by_cases h : a.length = b.length
  · have h2 : (a.length : Int) = (b.length : Int) := by omega
    simp only [h2, if_true, h, decide_true, Bool.true_and]
    refine Ev.bind (impl_total_good ha) ?_
    exact Ev.ret (f := fun t => a.sum == t) (impl_total_good hb)
  · have h2 : ¬ (a.length : Int) = (b.length : Int) := by omega
    simp only [h2, if_false, h, decide_false, Bool.false_and]
    exact Ev.now _

theorem impl_isMajorized_ev {a b : List Int} (ha : Lst a) (hb : Lst b) : Ev (fun k => impl_isMajorized.f k a b) ((decide (a.length = b.length) && decide (a.sum = b.sum)) && leAll (partOf a) (partOf b)) := by
  simp only [impl_isMajorized.f]
  refine (Ev.and (impl_doFit_ev ha hb) fun h => ?_)
  simp only [Bool.and_eq_true, decide_eq_true_eq] at h
  exact (Ev.ret (f := fun t => t == 0) (impl_refused_ev ha hb h.1)).eqv (refGo_zero 0 _ _)

theorem impl_IsMajorized_ev (a b : List Int) (ha : a.length ≤ 1048576) (hb : b.length ≤ 1048576) : Ev (fun k => impl_IsMajorized.f k a b) (if goodB a && goodB b then (majB a b, true) else (false, false)) := by
  simp only [impl_IsMajorized.f]
  refine Ev.bind (impl_areLists_ev a b ha hb) ?_
  cases h : goodB a && goodB b with
  | false => simp only [Bool.false_eq_true, if_false]; exact Ev.now _
  | true =>
    simp only [if_true]
    rw [Bool.and_eq_true, goodB_iff, goodB_iff] at h
    exact (Ev.ret (f := fun t => (t, true)) (impl_isMajorized_ev h.1 h.2)).eqv (by rw [Bool.and_assoc]; rfl)

theorem laws_pBelow_ev (a b : List Int) (ha : a.length ≤ 1048576) (hb : b.length ≤ 1048576) : Ev (fun k => laws_pBelow.f k a b) (goodB a && goodB b && majB a b) := by
  simp only [laws_pBelow.f]
  refine Ev.bind (impl_IsMajorized_ev a b ha hb) ?_
  cases h : goodB a && goodB b with
  | false => simp only [Bool.false_eq_true, if_false, Bool.false_and]; exact Ev.now _
  | true => simp only [if_true, Bool.true_and]; exact Ev.now _

theorem spec_l1Cur_next_x {c : List Int} (hc : Bts c) (a s b : Int) (ha : At a b) (hb : b ≤ 4611686018427387904) : ∃ r : Int × Int × Int, spec_l1Cur_next.f c a s = some r ∧ 0 ≤ r.1 ∧ r.1 ≤ 255 ∧ At r.2.1 (b + 1) := by
  have h0 := ha.1
  have h1 := ha.2
  have e : wrap64 (a + 1) = a + 1 := w64 (by omega) (by omega)
  have a1 : At (a + 1) (b + 1) := ⟨by omega, by omega⟩
  have u : ∀ z : Int, 0 ≤ wrap64 (Go.bits .and .u64 (IntKind.u64.wrap z / 1099511627776) 255) ∧ wrap64 (Go.bits .and .u64 (IntKind.u64.wrap z / 1099511627776) 255) ≤ 255 := fun z => and255 _ (by rw [wrapU64]; omega) (by rw [wrapU64]; omega)
  unfold spec_l1Cur_next.f
  by_cases c1 : a < (c.length : Int)
  · have r := rd_code hc h0 c1
    simp only [c1, h0, if_true, e]
    by_cases c2 : a + 1 ≤ (c.length : Int)
    · simp only [c2, if_true]
      refine ⟨_, rfl, ?_, ?_, a1⟩
      · show 0 ≤ wrap64 _
        rw [w64 (by omega) (by omega)]; exact r.1
      · show wrap64 _ ≤ 255
        rw [w64 (by omega) (by omega)]; exact r.2
    · simp only [c2, if_false]
      exact ⟨_, rfl, (u _).1, (u _).2, a1⟩
  · simp only [c1, if_false, e]
    by_cases c2 : a + 1 ≤ (c.length : Int)
    · simp only [c2, if_true]
      exact ⟨_, rfl, by show (0 : Int) ≤ 0; omega, by show (0 : Int) ≤ 255; omega, a1⟩
    · simp only [c2, if_false]
      exact ⟨_, rfl, (u _).1, (u _).2, a1⟩

theorem spec_l1Cur_pick_x {c : List Int} (hc : Bts c) (a s b n : Int) (ha : At a b) (hb : b ≤ 1073741824) : Ex (fun _ => spec_l1Cur_pick.f c a s n) (fun r => 0 ≤ r.1 ∧ (1 ≤ n → r.1 < n) ∧ At r.2.1 (b + 2)) := by
  have h0 := ha.1
  have h1 := ha.2
  unfold spec_l1Cur_pick.f
  by_cases c1 : n ≤ 1
  · simp only [c1, if_true]
    exact Ex.now ⟨by show (0 : Int) ≤ 0; omega, fun h => by show (0 : Int) < n; omega, by omega, by show a ≤ b + 2; omega⟩
  · simp only [c1, if_false]
    obtain ⟨r, hr, r0, r1, r2⟩ := spec_l1Cur_next_x hc a s b ha (by omega)
    rw [hr]
    simp only [Option.bind_some]
    have n0 : ¬ n = 0 := by omega
    by_cases c2 : n > 200
    · simp only [c2, if_true]
      obtain ⟨q, hq, q0, q1, q2⟩ := spec_l1Cur_next_x hc r.2.1 r.2.2 (b + 1) r2 (by omega)
      rw [hq]
      simp only [Option.bind_some, n0, if_false]
      have e : wrap64 (wrap64 (r.1 * 256) + q.1) = r.1 * 256 + q.1 := by rw [w64 (x := r.1 * 256) (by omega) (by omega), w64 (by omega) (by omega)]
      rw [e]
      refine Ex.now ⟨Int.tmod_nonneg _ (by omega), fun _ => Int.tmod_lt_of_pos _ (by omega), q2.1, ?_⟩
      have := q2.2
      show q.2.1 ≤ b + 2
      omega
    · simp only [c2, if_false, n0]
      refine Ex.now ⟨Int.tmod_nonneg _ (by omega), fun _ => Int.tmod_lt_of_pos _ (by omega), r2.1, ?_⟩
      have := r2.2
      show r.2.1 ≤ b + 2
      omega

theorem spec_l1Cur_one_x {c : List Int} (hc : Bts c) (a s b n : Int) (ha : At a b) (hb : b ≤ 1073741824) : Ex (fun _ => spec_l1Cur_one.f c a s n) (fun r => At r.2.1 (b + 2)) := by
  unfold spec_l1Cur_one.f
  refine Ex.bind (spec_l1Cur_pick_x hc a s b n ha hb) fun r hr => ?_
  exact Ex.now hr.2.2

theorem spec_l1Cur_among_x {c : List Int} (hc : Bts c) (a s b : Int) (l : List Int) (hl : 1 ≤ l.length) (ha : At a b) (hb : b ≤ 1073741824) : Ex (fun _ => spec_l1Cur_among.f c a s l) (fun r => r.1 ∈ l ∧ At r.2.1 (b + 2)) := by
  unfold spec_l1Cur_among.f
  refine Ex.bind (spec_l1Cur_pick_x hc a s b _ ha hb) fun r hr => ?_
  have h0 := hr.1
  have h1 := hr.2.1 (by omega)
  simp only [h0, h1, if_true]
  refine Ex.now ⟨?_, hr.2.2⟩
  have hi : r.1.toNat < l.length := by omega
  show rd l r.1 ∈ l
  unfold rd
  rw [List.getD_eq_getElem?_getD, List.getElem?_eq_getElem hi, Option.getD_some]
  exact List.getElem_mem hi

theorem spec_l1Cur_list_l {c : List Int} (hc : Bts c) (m : Int) : ∀ (n : Nat) (x : List Int) (a s b : Int), At a b → b + 2 * n ≤ 1073741824 → x.length + n ≤ 1048576 → Ex (fun k => spec_l1Cur_list.l0 k m x (n : Int) c a s) (fun r => r.1.length = x.length + n ∧ At r.2.1 (b + 2 * n))
  | 0, x, a, s, b, ha, hb, hx => by
    refine Ex.succ ?_
    simp only [spec_l1Cur_list.l0, show ¬ (((0 : Nat) : Int) > 0) by omega, if_false]
    exact Ex.now ⟨rfl, by simpa using ha⟩
  | n + 1, x, a, s, b, ha, hb, hx => by
    refine Ex.succ ?_
    simp only [spec_l1Cur_list.l0, show (((n + 1 : Nat) : Int) > 0) by omega, if_true]
    refine Ex.bind (spec_l1Cur_pick_x hc a s b _ ha (by omega)) fun r hr => ?_
    have hl : x.length < 17592186044416 := by omega
    simp only [hl, if_true, w64 (x := ((n + 1 : Nat) : Int) - 1) (by omega) (by omega)]
    rw [show ((n + 1 : Nat) : Int) - 1 = (n : Int) by omega]
    refine (spec_l1Cur_list_l hc m n (x ++ [r.1]) r.2.1 r.2.2 (b + 2) hr.2.2 (by omega) (by rw [List.length_append, List.length_singleton]; omega)).mono fun q hq => ?_
    rw [List.length_append, List.length_singleton] at hq
    exact ⟨by omega, hq.2.1, by have := hq.2.2; omega⟩
theorem spec_l1Cur_list_x {c : List Int} (hc : Bts c) (a s b m : Int) (ha : At a b) (hb : b ≤ 536870912) : Ex (fun k => spec_l1Cur_list.f k c a s m) (fun r => 1 ≤ r.1.length ∧ r.1.length ≤ 6 ∧ At r.2.1 (b + 14)) := by
  simp only [spec_l1Cur_list.f]
  refine Ex.bind (spec_l1Cur_pick_x hc a s b 6 ha (by omega)) fun r hr => ?_
  have h0 := hr.1
  have h1 := hr.2.1 (by omega)
  obtain ⟨n, hn⟩ := Int.eq_ofNat_of_zero_le h0
  rw [w64 (by omega) (by omega), show 1 + r.1 = ((n + 1 : Nat) : Int) by omega]
  refine (spec_l1Cur_list_l hc m (n + 1) [] r.2.1 r.2.2 (b + 2) hr.2.2 (by omega) (by simp; omega)).mono fun q hq => ?_
  rw [List.length_nil] at hq
  exact ⟨by omega, by omega, hq.2.1, by have := hq.2.2; omega⟩

theorem spec_l1Cur_anyList_l {c : List Int} (hc : Bts c) : ∀ (d : Nat) (x : List Int) (a s b : Int), x.length + d = 10 → At a b → b + 4 * d + 4 ≤ 1073741824 → Ex (fun k => spec_l1Cur_anyList.l0 k x c a s) (fun r => r.1.length ≤ 10 ∧ At r.2.1 (b + 4 * d + 4))
  | 0, x, a, s, b, hx, ha, hb => by
    refine Ex.succ ?_
    simp only [spec_l1Cur_anyList.l0]
    refine Ex.bind (spec_l1Cur_pick_x hc a s b 2 ha (by omega)) fun r hr => ?_
    have h0 := hr.1
    have h1 := hr.2.1 (by omega)
    have c1 : ¬ ((x.length : Int) < wrap64 (8 + r.1)) := by rw [w64 (by omega) (by omega)]; omega
    simp only [c1, if_false]
    exact Ex.now ⟨by show x.length ≤ 10; omega, hr.2.2.1, by have := hr.2.2.2; show r.2.1 ≤ _; omega⟩
  | d + 1, x, a, s, b, hx, ha, hb => by
    refine Ex.succ ?_
    simp only [spec_l1Cur_anyList.l0]
    refine Ex.bind (spec_l1Cur_pick_x hc a s b 2 ha (by omega)) fun r hr => ?_
    by_cases c1 : (x.length : Int) < wrap64 (8 + r.1)
    · simp only [c1, if_true]
      refine Ex.bind (spec_l1Cur_pick_x hc _ _ (b + 2) 9 hr.2.2 (by omega)) fun q hq => ?_
      have hl : x.length < 17592186044416 := by omega
      simp only [hl, if_true]
      refine (spec_l1Cur_anyList_l hc d (x ++ [q.1]) _ _ (b + 2 + 2) (by rw [List.length_append, List.length_singleton]; omega) hq.2.2 (by omega)).mono fun z hz => ?_
      exact ⟨hz.1, hz.2.1, by have := hz.2.2; omega⟩
    · simp only [c1, if_false]
      exact Ex.now ⟨by show x.length ≤ 10; omega, hr.2.2.1, by have := hr.2.2.2; show r.2.1 ≤ _; omega⟩
theorem spec_l1Cur_anyList_x {c : List Int} (hc : Bts c) (a s b m : Int) (ha : At a b) (hb : b ≤ 268435456) : Ex (fun k => spec_l1Cur_anyList.f k c a s m) (fun r => r.1.length ≤ 10 ∧ At r.2.1 (b + 64)) := by
  simp only [spec_l1Cur_anyList.f]
  refine Ex.bind (spec_l1Cur_list_x hc a s b m ha (by omega)) fun r hr => ?_
  refine Ex.bind (spec_l1Cur_pick_x hc _ _ (b + 14) 14 hr.2.2 (by omega)) fun q hq => ?_
  have q2 := hq.2.2.2
  by_cases c1 : q.1 = 0
  · simp only [c1, if_true]
    refine Ex.bind (spec_l1Cur_among_x hc _ _ (b + 14 + 2) _ (by simp) hq.2.2 (by omega)) fun z hz => ?_
    have hl : r.1.length < 17592186044416 := by omega
    simp only [hl, if_true]
    exact Ex.now ⟨by show (r.1 ++ [z.1]).length ≤ 10; rw [List.length_append, List.length_singleton]; omega, hz.2.1, by have := hz.2.2; show z.2.1 ≤ _; omega⟩
  · simp only [c1, if_false]
    by_cases c2 : q.1 = 1
    · simp only [c2, if_true]
      refine (spec_l1Cur_anyList_l hc (10 - r.1.length) r.1 _ _ (b + 14 + 2) (by omega) hq.2.2 (by omega)).mono fun z hz => ?_
      exact ⟨hz.1, hz.2.1, by have := hz.2.2; omega⟩
    · simp only [c2, if_false]
      by_cases c3 : q.1 = 2
      · simp only [c3, if_true]
        exact Ex.now ⟨by show ([] : List Int).length ≤ 10; simp, hq.2.2.1, by show q.2.1 ≤ _; omega⟩
      · simp only [c3, if_false]
        exact Ex.now ⟨by show r.1.length ≤ 10; omega, hq.2.2.1, by show q.2.1 ≤ _; omega⟩

theorem spec_l1Own_e (l : List Int) (hl : l.length < 17592186044416) : spec_l1Own.f l = some l := by
  simp only [spec_l1Own.f, Option.bind_some, List.nil_append, List.length_nil, Nat.zero_add, hl, if_true]

theorem spec_l1Cur_fitting_l {c : List Int} (hc : Bts c) (x : List Int) (hx : x.length ≤ 10) : ∀ (n : Nat) (y : List Int) (a s b : Int), y.length ≤ 10 → At a b → b + 8 * n + 8 ≤ 1073741824 → Ex (fun k => spec_l1Cur_fitting.l0 k x y (n : Int) c a s) (fun r => r.1.length ≤ 10 ∧ r.2.1.length ≤ 10 ∧ At r.2.2.1 (b + 8 * n + 8))
  | n, y, a, s, b, hy, ha, hb => by
    have hb0 := ha.1
    have hb1 := ha.2
    have off : Ex (fun k => spec_l1Cur_fitting.j1 k x y (n : Int) false c a s) (fun r => r.1.length ≤ 10 ∧ r.2.1.length ≤ 10 ∧ At r.2.2.1 (b + 8 * n + 8)) := by
      refine Ex.succ ?_
      simp only [spec_l1Cur_fitting.j1, Bool.false_eq_true, if_false]
      refine Ex.bind (spec_l1Cur_one_x hc a s b 5 ha (by omega)) fun r hr => ?_
      have h2 := hr.2
      by_cases c1 : r.1 = true
      · simp only [c1, if_true]
        exact Ex.now ⟨hx, hy, hr.1, by show r.2.1 ≤ _; omega⟩
      · simp only [c1, if_false]
        exact Ex.now ⟨hy, hx, hr.1, by show r.2.1 ≤ _; omega⟩
    refine Ex.succ ?_
    simp only [spec_l1Cur_fitting.l0]
    by_cases c0 : (n : Int) > 0
    · simp only [c0, if_true]
      by_cases c1 : (y.length : Int) > 1
      · simp only [c1, decide_true]
        obtain ⟨m, rfl⟩ : ∃ m, n = m + 1 := ⟨n - 1, by omega⟩
        have ew : wrap64 (((m + 1 : Nat) : Int) - 1) = (m : Int) := by rw [w64 (by omega) (by omega)]; omega
        refine Ex.succ ?_
        simp only [spec_l1Cur_fitting.j1, if_true, ew]
        refine Ex.bind (spec_l1Cur_pick_x hc a s b _ ha (by omega)) fun r hr => ?_
        refine Ex.bind (spec_l1Cur_pick_x hc _ _ (b + 2) _ hr.2.2 (by omega)) fun q hq => ?_
        have r0 := hr.1
        have r1 := hr.2.1 (by omega)
        have q0 := hq.1
        have q1 := hq.2.1 (by omega)
        simp only [r0, r1, q0, q1, if_true]
        have go : ∀ (z : List Int) (a' s' b' : Int), z.length = y.length → At a' b' → b' ≤ b + 8 → Ex (fun k => spec_l1Cur_fitting.l0 k x z (m : Int) c a' s') (fun r => r.1.length ≤ 10 ∧ r.2.1.length ≤ 10 ∧ At r.2.2.1 (b + 8 * ((m + 1 : Nat) : Int) + 8)) := by
          intro z a' s' b' hz ha' hb'
          refine (spec_l1Cur_fitting_l hc x hx m z a' s' b' (by omega) ha' (by omega)).mono fun t ht => ⟨ht.1, ht.2.1, ht.2.2.1, by have := ht.2.2.2; omega⟩
        by_cases c2 : rd y r.1 > 0
        · simp only [c2, if_true]
          by_cases c3 : rd y r.1 > rd y q.1
          · simp only [c3, if_true, Option.bind_some]
            exact go _ _ _ _ (by simp) hq.2.2 (by omega)
          · simp only [c3, if_false]
            refine Ex.bind (spec_l1Cur_one_x hc _ _ (b + 2 + 2) 4 hq.2.2 (by omega)) fun t ht => ?_
            by_cases c4 : t.1 = true
            · simp only [c4, if_true, Option.bind_some]
              exact go _ _ _ _ (by simp) ht (by omega)
            · simp only [c4, if_false]
              exact go _ _ _ _ rfl ht (by omega)
        · simp only [c2, if_false]
          exact go _ _ _ _ rfl hq.2.2 (by omega)
      · simp only [c1, decide_false]
        exact off
    · simp only [c0, if_false]
      exact off
theorem spec_l1Cur_fitting_x {c : List Int} (hc : Bts c) (a s b m : Int) (ha : At a b) (hb : b ≤ 134217728) : Ex (fun k => spec_l1Cur_fitting.f k c a s m) (fun r => r.1.length ≤ 10 ∧ r.2.1.length ≤ 10 ∧ At r.2.2.1 (b + 256)) := by
  simp only [spec_l1Cur_fitting.f]
  refine Ex.bind (spec_l1Cur_anyList_x hc a s b m ha (by omega)) fun r hr => ?_
  refine Ex.bind (spec_l1Cur_one_x hc _ _ (b + 64) 5 hr.2 (by omega)) fun q hq => ?_
  by_cases c1 : q.1 = true
  · simp only [c1, if_true]
    refine Ex.bind (spec_l1Cur_anyList_x hc _ _ (b + 64 + 2) m hq (by omega)) fun z hz => ?_
    exact Ex.now ⟨hz.1, hr.1, hz.2.1, by have := hz.2.2; show z.2.1 ≤ _; omega⟩
  · simp only [c1, if_false, spec_l1Own_e r.1 (by omega), Option.bind_some]
    refine Ex.bind (spec_l1Cur_pick_x hc _ _ (b + 64 + 2) 12 hq (by omega)) fun z hz => ?_
    have z0 := hz.1
    have z1 := hz.2.1 (by omega)
    obtain ⟨n, hn⟩ := Int.eq_ofNat_of_zero_le z0
    rw [hn] at z1 ⊢
    refine (spec_l1Cur_fitting_l hc r.1 hr.1 n r.1 _ _ (b + 64 + 2 + 2) hr.1 hz.2.2 (by omega)).mono fun t ht => ⟨ht.1, ht.2.1, ht.2.2.1, by have := ht.2.2.2; omega⟩

theorem spec_DrawThresholdRefusal_x {c : List Int} (hc : Bts c) : Ex (fun k => spec_DrawThresholdRefusal.f k c) (fun r => r.1.length ≤ 10 ∧ r.2.length ≤ 10) := by
  simp only [spec_DrawThresholdRefusal.f]
  refine Ex.bind (spec_l1Cur_fitting_x hc 0 0 0 12 ⟨by omega, by omega⟩ (by omega)) fun r hr => ?_
  exact Ex.now ⟨hr.1, hr.2.1⟩

theorem impl_ThresholdRefusal_l {a b : List Int} (ha : Lst a) (hb : Lst b) : ∀ d t : Nat, t + d = 61 → Ev (fun k => impl_ThresholdRefusal.l0 k a b (t : Int)) (fthr a b t d)
  | 0, t, h => by
    have c : ¬ ((t : Int) < 61) := by omega
    refine Ev.succ ?_
    simp only [impl_ThresholdRefusal.l0, c, if_false, fthr]
    exact Ev.now _
  | d + 1, t, h => by
    have c : (t : Int) < 61 := by omega
    refine Ev.succ ?_
    simp only [impl_ThresholdRefusal.l0, c, if_true, fthr]
    refine Ev.bind (impl_excess_ev ha t (by omega)) ?_
    refine Ev.bind (impl_excess_ev hb t (by omega)) ?_
    by_cases g : exc a t > exc b t
    · simp only [g, if_true]; exact Ev.now _
    · simp only [g, if_false]
      rw [wnext (by omega : t < 62) (by omega)]
      exact impl_ThresholdRefusal_l ha hb d (t + 1) (by omega)

theorem impl_ThresholdRefusal_ev (a b : List Int) (ha : a.length ≤ 1048576) (hb : b.length ≤ 1048576) : Ev (fun k => impl_ThresholdRefusal.f k a b) (if fits a b then fthr a b 0 61 else (0, false)) := by
  simp only [impl_ThresholdRefusal.f]
  refine Ev.bind (impl_areLists_ev a b ha hb) ?_
  have off : Ev (fun k => impl_ThresholdRefusal.j0 k a b true) (0, false) := by
    refine Ev.succ ?_
    simp only [impl_ThresholdRefusal.j0, if_true]
    exact Ev.now _
  cases h : goodB a && goodB b with
  | false =>
    have hf : fits a b = false := by rw [fits, ← Bool.and_assoc, h, Bool.false_and]
    simp only [hf, Bool.false_eq_true, if_false]; exact off
  | true =>
    simp only [if_true]
    have hf : fits a b = (decide (a.length = b.length) && decide (a.sum = b.sum)) := by rw [fits, ← Bool.and_assoc, h, Bool.true_and]
    rw [Bool.and_eq_true, goodB_iff, goodB_iff] at h
    refine Ev.bind (impl_doFit_ev h.1 h.2) ?_
    rw [← hf]
    cases h3 : fits a b with
    | false => simp only [Bool.not_false, Bool.false_eq_true, if_false]; exact off
    | true =>
      simp only [Bool.not_true, if_true]
      refine Ev.succ ?_
      simp only [impl_ThresholdRefusal.j0, Bool.false_eq_true, if_false]
      exact impl_ThresholdRefusal_l h.1 h.2 61 0 rfl

theorem spec_l1In_e (a b c : Int) : spec_l1In.f a b c = some (wth a b c) := wth_opt a b c

theorem spec_l1All_l (l : List Int) (lo hi : Int) (hl : l.length ≤ 4611686018427387904) : ∀ i, i ≤ l.length → Ev (fun k => spec_l1All.l0 k lo hi l (l.length : Int) (i : Int)) (allW (l.drop i) lo hi) := by
  refine down ?_ ?_
  · refine Ev.succ ?_
    simp only [spec_l1All.l0, nlt (Nat.le_refl l.length), if_false, List.drop_length]
    exact Ev.now _
  · intro i hi ih
    refine Ev.succ ?_
    simp only [spec_l1All.l0, ilt hi, inn, if_true, spec_l1In_e, Option.bind_some, rd_lt hi, wnext hi hl]
    rw [drop_cons hi]
    exact Ev.andS fun _ => ih
theorem spec_l1All_ev (l : List Int) (lo hi : Int) (hl : l.length ≤ 4611686018427387904) : Ev (fun k => spec_l1All.f k l lo hi) (allW l lo hi) := by
  have := spec_l1All_l l lo hi hl 0 (Nat.zero_le _)
  simpa only [spec_l1All.f, List.drop_zero, Int.natCast_zero] using this

theorem spec_liGood_ev (l : List Int) (hl : l.length ≤ 4611686018427387904) : Ev (fun k => spec_liGood.f k l) (goodB l) := by
  simp only [spec_liGood.f, spec_l1In_e, Option.bind_some, goodB]
  exact Ev.andS fun _ => Ev.ret (f := fun t => t) (spec_l1All_ev l 0 60 hl)

theorem spec_liSum_l (l : List Int) (hl : l.length ≤ 4611686018427387904) : ∀ i, i ≤ l.length → ∀ acc, InR acc → Ev (fun k => spec_liSum.l0 k acc l (l.length : Int) (i : Int)) (wrap64 (acc + (l.drop i).sum)) := by
  refine down ?_ ?_
  · intro acc ha
    refine Ev.succ ?_
    simp only [spec_liSum.l0, nlt (Nat.le_refl l.length), if_false, List.drop_length, List.sum_nil, Int.add_zero, wR ha]
    exact Ev.now _
  · intro i hi ih acc ha
    refine Ev.succ ?_
    simp only [spec_liSum.l0, ilt hi, inn, if_true, rd_lt hi, wnext hi hl]
    rw [drop_cons hi, List.sum_cons, ← Int.add_assoc]
    exact (ih _ (inR_wrap _)).eqv (wrap_add _ _)
theorem spec_liSum_ev (l : List Int) (hl : l.length ≤ 4611686018427387904) : Ev (fun k => spec_liSum.f k l) (wrap64 l.sum) := by
  have := spec_liSum_l l hl 0 (Nat.zero_le _) 0 inR_0
  simpa only [spec_liSum.f, List.drop_zero, Int.zero_add, Int.natCast_zero] using this
theorem spec_liSum_good {l : List Int} (h : Lst l) : Ev (fun k => spec_liSum.f k l) l.sum :=
  (spec_liSum_ev l (by have := h.2.1; omega)).eqv (w64 (by have := h.sum; omega) (by have := h.sum; omega))

theorem spec_liFit_ev {a b : List Int} (ha : Lst a) (hb : Lst b) : Ev (fun k => spec_liFit.f k a b) (decide (a.length = b.length) && decide (a.sum = b.sum)) := by
  simp only [spec_liFit.f]
  by_cases h : a.length = b.length
  · have h2 : (a.length : Int) = (b.length : Int) := by omega
    simp only [h2, if_true, h, decide_true, Bool.true_and]
    refine Ev.bind (spec_liSum_good ha) ?_
    exact Ev.ret (f := fun t => a.sum == t) (spec_liSum_good hb)
  · have h2 : ¬ (a.length : Int) = (b.length : Int) := by omega
    simp only [h2, if_false, h, decide_false, Bool.false_and]
    exact Ev.now _

theorem spec_l1Most_e (a b : Int) : spec_l1Most.f a b = some (max a b) := by
  unfold spec_l1Most.f
  by_cases h : a > b
  · rw [if_pos h]; congr 1; omega
  · rw [if_neg h]; congr 1; omega

theorem spec_syExcess_l {l : List Int} (h : Lst l) (t : Nat) (ht : t ≤ 61) : ∀ i, i ≤ l.length → ∀ acc : Int, 0 ≤ acc → acc ≤ 60 * i → Ev (fun k => spec_syExcess.l0 k (t : Int) acc l (l.length : Int) (i : Int)) (acc + exc (l.drop i) t) := by
  have hn := h.2.1
  unfold exc
  refine down ?_ ?_
  · intro acc ha hb
    refine Ev.succ ?_
    simp only [spec_syExcess.l0, nlt (Nat.le_refl l.length), if_false, List.drop_length, List.map_nil, List.sum_nil, Int.add_zero]
    exact Ev.now _
  · intro i hi ih acc ha hb
    have b := h.get hi
    refine Ev.succ ?_
    simp only [spec_syExcess.l0, ilt hi, inn, if_true, rd_lt hi, wnext hi (by omega : l.length ≤ 4611686018427387904), spec_l1Most_e, Option.bind_some]
    rw [drop_cons hi, List.map_cons, List.sum_cons, ← Int.add_assoc, w64 (x := l[i] - t) (by omega) (by omega), w64 (x := acc + _) (by omega) (by omega)]
    exact ih _ (by omega) (by omega)
theorem spec_syExcess_ev {l : List Int} (h : Lst l) (t : Nat) (ht : t ≤ 61) : Ev (fun k => spec_syExcess.f k l (t : Int)) (exc l t) := by
  have := spec_syExcess_l h t ht 0 (Nat.zero_le _) 0 (by omega) (by omega)
  simpa only [spec_syExcess.f, List.drop_zero, Int.zero_add, Int.natCast_zero] using this

theorem spec_ThresholdRefusal_l {a b : List Int} (ha : Lst a) (hb : Lst b) : ∀ d t : Nat, t + d = 61 → Ev (fun k => spec_ThresholdRefusal.l0 k a b (t : Int)) (fthr a b t d)
  | 0, t, h => by
    have c : ¬ ((t : Int) ≤ 60) := by omega
    refine Ev.succ ?_
    simp only [spec_ThresholdRefusal.l0, c, if_false, fthr]
    exact Ev.now _
  | d + 1, t, h => by
    have c : (t : Int) ≤ 60 := by omega
    refine Ev.succ ?_
    simp only [spec_ThresholdRefusal.l0, c, if_true, fthr]
    refine Ev.bind (spec_syExcess_ev ha t (by omega)) ?_
    refine Ev.bind (spec_syExcess_ev hb t (by omega)) ?_
    by_cases g : exc a t > exc b t
    · simp only [g, if_true]; exact Ev.now _
    · simp only [g, if_false]
      rw [wnext (by omega : t < 62) (by omega)]
      exact spec_ThresholdRefusal_l ha hb d (t + 1) (by omega)

theorem spec_ThresholdRefusal_ev (a b : List Int) (ha : a.length ≤ 1048576) (hb : b.length ≤ 1048576) : Ev (fun k => spec_ThresholdRefusal.f k a b) (if fits a b then fthr a b 0 61 else (0, false)) := by
  simp only [spec_ThresholdRefusal.f]
  refine Ev.bind (spec_liGood_ev a (by omega)) ?_
  have off : Ev (fun k => spec_ThresholdRefusal.j0 k a b true) (0, false) := by
    refine Ev.succ ?_
    simp only [spec_ThresholdRefusal.j0, if_true]
    exact Ev.now _
  cases h : goodB a with
  | false =>
    have hf : fits a b = false := by simp [fits, h]
    simp only [hf, Bool.false_eq_true, if_false]; exact off
  | true =>
    simp only [if_true]
    refine Ev.bind (spec_liGood_ev b (by omega)) ?_
    cases h2 : goodB b with
    | false =>
      have hf : fits a b = false := by simp [fits, h2]
      simp only [hf, Bool.false_eq_true, if_false]; exact off
    | true =>
      simp only [if_true]
      refine Ev.bind (spec_liFit_ev (goodB_iff.1 h) (goodB_iff.1 h2)) ?_
      have hf : fits a b = (decide (a.length = b.length) && decide (a.sum = b.sum)) := by simp [fits, h, h2]
      rw [← hf]
      cases h3 : fits a b with
      | false => simp only [Bool.not_false, Bool.false_eq_true, if_false]; exact off
      | true =>
        simp only [Bool.not_true, if_true]
        refine Ev.succ ?_
        simp only [spec_ThresholdRefusal.j0, Bool.false_eq_true, if_false]
        exact spec_ThresholdRefusal_l (goodB_iff.1 h) (goodB_iff.1 h2) 61 0 rfl

theorem spec_DrawExcessOver_x {c : List Int} (hc : Bts c) : Ex (fun k => spec_DrawExcessOver.f k c) (fun r => r.1.length ≤ 10) := by
  simp only [spec_DrawExcessOver.f]
  refine Ex.bind (spec_l1Cur_pick_x hc 0 0 0 20 ⟨by omega, by omega⟩ (by omega)) fun r hr => ?_
  refine Ex.bind (spec_l1Cur_one_x hc _ _ (0 + 2) 8 hr.2.2 (by omega)) fun q hq => ?_
  by_cases c1 : q.1 = true
  · simp only [c1, if_true]
    refine Ex.bind (spec_l1Cur_among_x hc _ _ (0 + 2 + 2) _ (by simp) hq (by omega)) fun z hz => ?_
    refine Ex.bind (spec_l1Cur_anyList_x hc _ _ (0 + 2 + 2 + 2) 25 hz.2 (by omega)) fun y hy => ?_
    exact Ex.now hy.1
  · simp only [c1, if_false]
    refine Ex.bind (spec_l1Cur_anyList_x hc _ _ (0 + 2 + 2) 25 hq (by omega)) fun y hy => ?_
    exact Ex.now hy.1

theorem spec_ExcessOver_ev (l : List Int) (t : Int) (hl : l.length ≤ 1048576) : Ev (fun k => spec_ExcessOver.f k l t) (if goodB l && wth t 0 60 then (exc l t, true) else (0, false)) := by
  simp only [spec_ExcessOver.f]
  refine Ev.bind (spec_liGood_ev l (by omega)) ?_
  cases h : goodB l with
  | false => simp only [Bool.false_and, Bool.false_eq_true, if_false]; exact Ev.now _
  | true =>
    simp only [if_true, Bool.true_and, spec_l1In_e, Option.bind_some]
    cases h2 : wth t 0 60 with
    | false => simp only [Bool.false_eq_true, if_false]; exact Ev.now _
    | true =>
      simp only [if_true]
      have h3 := wth_iff.1 h2
      have := spec_syExcess_ev (goodB_iff.1 h) t.toNat (by omega)
      rw [Int.toNat_of_nonneg h3.1] at this
      exact Ev.ret (f := fun z => (z, true)) this

theorem laws_pSum_l (l : List Int) (hl : l.length ≤ 4611686018427387904) : ∀ i, i ≤ l.length → ∀ acc, InR acc → Ev (fun k => laws_pSum.l0 k acc l (l.length : Int) (i : Int)) (wrap64 (acc + (l.drop i).sum)) := by
  refine down ?_ ?_
  · intro acc ha
    refine Ev.succ ?_
    simp only [laws_pSum.l0, nlt (Nat.le_refl l.length), if_false, List.drop_length, List.sum_nil, Int.add_zero, wR ha]
    exact Ev.now _
  · intro i hi ih acc ha
    refine Ev.succ ?_
    simp only [laws_pSum.l0, ilt hi, inn, if_true, rd_lt hi, wnext hi hl]
    rw [drop_cons hi, List.sum_cons, ← Int.add_assoc]
    exact (ih _ (inR_wrap _)).eqv (wrap_add _ _)
theorem laws_pSum_ev (l : List Int) (hl : l.length ≤ 4611686018427387904) : Ev (fun k => laws_pSum.f k l) (wrap64 l.sum) := by
  have := laws_pSum_l l hl 0 (Nat.zero_le _) 0 inR_0
  simpa only [laws_pSum.f, List.drop_zero, Int.zero_add, Int.natCast_zero] using this
theorem laws_pSum_good {l : List Int} (h : Lst l) : Ev (fun k => laws_pSum.f k l) l.sum :=
  (laws_pSum_ev l (by have := h.2.1; omega)).eqv (w64 (by have := h.sum; omega) (by have := h.sum; omega))

theorem laws_pFit_ev {a b : List Int} (ha : Lst a) (hb : Lst b) : Ev (fun k => laws_pFit.f k a b) (decide (a.length = b.length) && decide (a.sum = b.sum)) := by
  simp only [laws_pFit.f]
  by_cases h : a.length = b.length
  · have h2 : (a.length : Int) = (b.length : Int) := by omega
    simp only [h2, if_true, h, decide_true, Bool.true_and]
    refine Ev.bind (laws_pSum_good ha) ?_
    exact Ev.ret (f := fun t => a.sum == t) (laws_pSum_good hb)
  · have h2 : ¬ (a.length : Int) = (b.length : Int) := by omega
    simp only [h2, if_false, h, decide_false, Bool.false_and]
    exact Ev.now _

theorem fthr_cases (a b : List Int) : ∀ d t : Nat, (fthr a b t d = (0, false) ∧ ∀ s : Nat, t ≤ s → s < t + d → exc a s ≤ exc b s) ∨ ∃ u : Nat, t ≤ u ∧ u < t + d ∧ fthr a b t d = ((u : Int), true) ∧ exc a u > exc b u ∧ ∀ s : Nat, t ≤ s → s < u → exc a s ≤ exc b s
  | 0, t => .inl ⟨rfl, fun s h1 h2 => absurd h2 (by omega)⟩
  | d + 1, t => by
    by_cases c : exc a t > exc b t
    · exact .inr ⟨t, Nat.le_refl _, by omega, by rw [fthr, if_pos c], c, fun s h1 h2 => absurd h2 (by omega)⟩
    · rcases fthr_cases a b d (t + 1) with h | ⟨u, h1, h2, h3, h4, h5⟩
      · refine .inl ⟨by rw [fthr, if_neg c]; exact h.1, fun s hs1 hs2 => ?_⟩
        by_cases e : s = t
        · rw [e]; omega
        · exact h.2 s (by omega) (by omega)
      · refine .inr ⟨u, by omega, by omega, by rw [fthr, if_neg c]; exact h3, h4, fun s hs1 hs2 => ?_⟩
        by_cases e : s = t
        · rw [e]; omega
        · exact h5 s (by omega) hs2
theorem FnThresholdsRefuse_l {a b : List Int} (ha : Lst a) (hb : Lst b) (u : Nat) (hu : u ≤ 60) (h1 : exc a u > exc b u) (h2 : ∀ s : Nat, s < u → exc a s ≤ exc b s) : ∀ (d t : Nat), t + d = u + 1 → Ev (fun k => laws_FnThresholdsRefuse.l0 k a b (u : Int) (t : Int)) true
  | 0, t, ht => by
    have c : ¬ ((t : Int) ≤ (u : Int)) := by omega
    refine Ev.succ ?_
    simp only [laws_FnThresholdsRefuse.l0, c, if_false]
    exact Ev.now _
  | d + 1, t, ht => by
    have c : (t : Int) ≤ (u : Int) := by omega
    have hw : wth (t : Int) 0 60 = true := wth_iff.2 (by omega)
    refine Ev.succ ?_
    simp only [laws_FnThresholdsRefuse.l0, c, if_true]
    refine Ev.bind (impl_ExcessOver_ev a t (by have := ha.2.1; omega)) ?_
    refine Ev.bind (impl_ExcessOver_ev b t (by have := hb.2.1; omega)) ?_
    rw [goodB_iff.2 ha, goodB_iff.2 hb, hw]
    have e : (decide (exc a t > exc b t) != ((t : Int) == (u : Int))) = false := by
      by_cases q : t = u
      · subst q
        rw [decide_eq_true h1]; simp
      · have h3 := h2 t (by omega)
        rw [decide_eq_false (by omega)]
        have : ((t : Int) == (u : Int)) = false := beq_eq_false_iff_ne.2 (by omega)
        rw [this]; rfl
    simp only [Bool.and_self, if_true, e, Bool.false_eq_true, if_false, wnext (by omega : t < 62) (by omega)]
    exact FnThresholdsRefuse_l ha hb u hu h1 h2 d (t + 1) (by omega)
theorem FnThresholdsRefuse : laws_FnThresholdsRefuse.Pure := by
  intro a b hma hsa hwa hmb hsb hwb
  refine Ev.rounds ?_
  have hc := Bts.of hsa hwa
  have hd := Bts.of hsb hwb
  simp only [laws_FnThresholdsRefuse.f]
  obtain ⟨t, ht⟩ := laws_big_x a b
  rw [ht]
  simp only [Option.bind_some]
  by_cases h0 : t = true
  · simp only [h0, if_true]; exact Ev.now _
  · simp only [h0, if_false]
    refine Ex.ev (spec_DrawThresholdRefusal_x hc) fun r hr => ?_
    obtain ⟨x, y⟩ := r
    have hx : x.length ≤ 1048576 := by have := hr.1; show x.length ≤ _; simp only at this; omega
    have hy : y.length ≤ 1048576 := by have := hr.2; show y.length ≤ _; simp only at this; omega
    simp only
    refine Ev.bind (impl_ThresholdRefusal_ev x y hx hy) ?_
    refine Ev.bind (spec_ThresholdRefusal_ev x y hx hy) ?_
    simp only [bne_self_eq_false, Bool.false_eq_true, if_false]
    refine Ev.succ ?_
    simp only [laws_FnThresholdsRefuse.j0, Bool.false_eq_true, if_false]
    refine Ex.ev (spec_DrawExcessOver_x hd) fun r hr => ?_
    obtain ⟨z, s⟩ := r
    have hz : z.length ≤ 1048576 := by show z.length ≤ _; simp only at hr; omega
    simp only
    refine Ev.bind (impl_ExcessOver_ev z s hz) ?_
    refine Ev.bind (spec_ExcessOver_ev z s hz) ?_
    simp only [bne_self_eq_false, Bool.false_eq_true, if_false]
    refine Ev.succ ?_
    simp only [laws_FnThresholdsRefuse.j1, Bool.false_eq_true, if_false]
    refine Ev.bind (impl_IsList_ev x (by omega)) ?_
    have off : fits x y = false → ∀ u : Bool × Bool, Ev (fun k => laws_FnThresholdsRefuse.j2 k x y (if fits x y = true then fthr x y 0 61 else (0, false)).1 (if fits x y = true then fthr x y 0 61 else (0, false)).2 true) true := by
      intro h _
      refine Ev.succ ?_
      simp only [laws_FnThresholdsRefuse.j2, h, Bool.false_eq_true, if_false, if_true, Bool.not_false]
      exact Ev.now _
    cases h1 : goodB x with
    | false =>
      simp only [Bool.false_eq_true, if_false]
      exact off (by simp [fits, h1]) (true, true)
    | true =>
      simp only [if_true]
      refine Ev.bind (impl_IsList_ev y (by omega)) ?_
      cases h2 : goodB y with
      | false =>
        simp only [Bool.false_eq_true, if_false]
        exact off (by simp [fits, h2]) (true, true)
      | true =>
        simp only [if_true]
        have la := goodB_iff.1 h1
        have lb := goodB_iff.1 h2
        refine Ev.bind (laws_pFit_ev la lb) ?_
        have hf : fits x y = (decide (x.length = y.length) && decide (x.sum = y.sum)) := by simp [fits, h1, h2]
        cases h3 : (decide (x.length = y.length) && decide (x.sum = y.sum)) with
        | false =>
          simp only [Bool.not_false]
          exact off (by rw [hf, h3]) (true, true)
        | true =>
          rw [hf, h3]
          simp only [Bool.not_true, if_true]
          rw [Bool.and_eq_true, decide_eq_true_eq, decide_eq_true_eq] at h3
          refine Ev.succ ?_
          simp only [laws_FnThresholdsRefuse.j2, Bool.false_eq_true, if_false]
          refine Ev.bind (laws_pBelow_ev x y hx hy) ?_
          rw [h1, h2]
          have hm : majB x y = subB x y := by simp [majB, h3.1, h3.2]
          simp only [Bool.and_self, Bool.true_and, hm]
          rcases fthr_cases x y 61 0 with ⟨q1, q2⟩ | ⟨u, q1, q2, q3, q4, q5⟩
          · rw [q1]
            have : subB x y = true := (subB_exc lb h3.1).2 fun t ht => q2 t (by omega) (by omega)
            rw [this]
            simp only [Bool.false_eq_true, if_false, show (false == true) = false from rfl]
            exact Ev.now _
          · rw [q3]
            have : subB x y = false := by
              cases hs : subB x y with
              | false => rfl
              | true =>
                have := (subB_exc lb h3.1).1 hs u (by omega)
                omega
            rw [this]
            simp only [Bool.false_eq_true, if_false, if_true, show (true == false) = false from rfl]
            exact FnThresholdsRefuse_l la lb u (by omega) q4 (fun s hs => q5 s (by omega) hs) (u + 1) 0 (by omega)

end Go.Proofs.Ytclnfaclfplpmaa.Pure
