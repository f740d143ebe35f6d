/- A unit gift to a poorer one makes no measure greater, and the spread always less; the printed functions' own bounds on lengths are the only conditions. -/
import Derived.Test.YtclnfaclfplpmaaPFnGiftEffectsx12
import Derived.Test.YtclnfaclfplpmaaTFnGiftEffectsMathL
namespace Go.Proofs.Ytclnfaclfplpmaa.Pure
open Go.RowKit Go.Proofs.Ytclnfaclfplpmaa.PFnGiftEffects Go.Proofs.YtclnfaclfplpmaaW.PrintWords Go.Proofs.YtclnfaclfplpmaaW.PrintLast Go.Proofs.YtclnfaclfplpmaaW.PrintMore Go.Proofs.Ytclnfaclfplpmaa.Math
set_option linter.unusedVariables false
set_option linter.unusedSimpArgs false
set_option linter.unusedSectionVars false

theorem laws_big_x (a b : List Int) : ∃ t, laws_big.f a b = some t := by
  unfold laws_big.f
  by_cases c : (a.length : Int) > 1048576
  · rw [if_pos c]; exact ⟨_, rfl⟩
  · rw [if_neg c]; exact ⟨_, rfl⟩

theorem impl_within_e (a b c : Int) : impl_within.f a b c = some (wth a b c) := wth_opt a b c

theorem impl_allWithin_l (l : List Int) (lo hi : Int) (hl : l.length ≤ 4611686018427387904) : ∀ i, i ≤ l.length → Ev (fun k => impl_allWithin.l0 k lo hi l (l.length : Int) (i : Int)) (allW (l.drop i) lo hi) := by
  refine down ?_ ?_
  · refine Ev.succ ?_
    simp only [impl_allWithin.l0, nlt (Nat.le_refl l.length), if_false, List.drop_length]
    exact Ev.now _
  · intro i hi ih
    refine Ev.succ ?_
    simp only [impl_allWithin.l0, ilt hi, inn, if_true, impl_within_e, Option.bind_some, rd_lt hi, wnext hi hl]
    rw [drop_cons hi]
    exact Ev.andS fun _ => ih
theorem impl_allWithin_ev (l : List Int) (lo hi : Int) (hl : l.length ≤ 4611686018427387904) : Ev (fun k => impl_allWithin.f k l lo hi) (allW l lo hi) := by
  have := impl_allWithin_l l lo hi hl 0 (Nat.zero_le _)
  simpa only [impl_allWithin.f, List.drop_zero, Int.natCast_zero] using this

theorem impl_IsList_ev (l : List Int) (hl : l.length ≤ 4611686018427387904) : Ev (fun k => impl_IsList.f k l) (goodB l) := by
  simp only [impl_IsList.f, impl_within_e, Option.bind_some, goodB]
  exact Ev.andS fun _ => Ev.ret (f := fun t => t) (impl_allWithin_ev l 0 60 hl)

theorem impl_total_l (l : List Int) (hl : l.length ≤ 4611686018427387904) : ∀ i, i ≤ l.length → ∀ acc, InR acc → Ev (fun k => impl_total.l0 k acc l (l.length : Int) (i : Int)) (wrap64 (acc + (l.drop i).sum)) := by
  refine down ?_ ?_
  · intro acc ha
    refine Ev.succ ?_
    simp only [impl_total.l0, nlt (Nat.le_refl l.length), if_false, List.drop_length, List.sum_nil, Int.add_zero, wR ha]
    exact Ev.now _
  · intro i hi ih acc ha
    refine Ev.succ ?_
    simp only [impl_total.l0, ilt hi, inn, if_true, rd_lt hi, wnext hi hl]
    rw [drop_cons hi, List.sum_cons, ← Int.add_assoc]
    exact (ih _ (inR_wrap _)).eqv (wrap_add _ _)
theorem impl_total_ev (l : List Int) (hl : l.length ≤ 4611686018427387904) : Ev (fun k => impl_total.f k l) (wrap64 l.sum) := by
  have := impl_total_l l hl 0 (Nat.zero_le _) 0 inR_0
  simpa only [impl_total.f, List.drop_zero, Int.zero_add, Int.natCast_zero] using this
theorem impl_total_good {l : List Int} (h : Lst l) : Ev (fun k => impl_total.f k l) l.sum :=
  (impl_total_ev l (by have := h.2.1; omega)).eqv (w64 (by have := h.sum; omega) (by have := h.sum; omega))

theorem impl_arranged_l (l m : List Int) (hl : l.length ≤ 1048576) (hm : l.length ≤ m.length) : ∀ i, i ≤ l.length → ∀ acc, InR acc → Ev (fun k => impl_arranged.l0 k m acc l (l.length : Int) (i : Int)) (wrap64 (acc + dot (l.drop i) (m.drop i))) := by
  refine down ?_ ?_
  · intro acc ha
    refine Ev.succ ?_
    simp only [impl_arranged.l0, nlt (Nat.le_refl l.length), if_false, List.drop_length, dot_nil, Int.add_zero, wR ha]
    exact Ev.now _
  · intro i hi ih acc ha
    have h2 : i < m.length := by omega
    refine Ev.succ ?_
    simp only [impl_arranged.l0, ilt hi, ilt h2, inn, if_true, rd_lt hi, rd_lt h2, wnext hi (by omega : l.length ≤ 4611686018427387904)]
    rw [drop_cons hi, drop_cons h2, dot_cons, ← Int.add_assoc]
    refine (ih _ (inR_wrap _)).eqv ?_
    rw [wrap_add, Int.add_right_comm, wrap_add', Int.add_right_comm]
theorem impl_arranged_ev (l m : List Int) (hl : l.length ≤ 1048576) (hm : l.length ≤ m.length) : Ev (fun k => impl_arranged.f k l m) (wrap64 (dot l m)) := by
  have := impl_arranged_l l m hl hm 0 (Nat.zero_le _) 0 inR_0
  simpa only [impl_arranged.f, List.drop_zero, Int.zero_add, Int.natCast_zero] using this

theorem impl_squares_ev (l : List Int) (hl : l.length ≤ 1048576) : Ev (fun k => impl_squares.f k l) (wrap64 (dot l l)) := by
  simp only [impl_squares.f]
  exact Ev.ret (f := fun t => t) (impl_arranged_ev l l hl (Nat.le_refl _))

theorem impl_spread_ev {l : List Int} (h : Lst l) : Ev (fun k => impl_spread.f k l) (spreadOf l) := by
  simp only [impl_spread.f]
  refine Ev.bind (impl_squares_ev l (by have := h.2.1; omega)) ?_
  refine Ev.bind (impl_total_good h) ?_
  exact Ev.ret (f := fun t => wrap64 (wrap64 ((l.length : Int) * wrap64 (dot l l)) - wrap64 (l.sum * t))) (impl_total_good h)

theorem impl_SpreadOf_ev (l : List Int) (hl : l.length ≤ 1048576) : Ev (fun k => impl_SpreadOf.f k l) (if goodB l then (spreadOf l, true) else (0, false)) := by
  simp only [impl_SpreadOf.f]
  refine Ev.bind (impl_IsList_ev l (by omega)) ?_
  cases h : goodB l with
  | false => simp only [Bool.false_eq_true, if_false]; exact Ev.now _
  | true =>
    simp only [if_true]
    exact Ev.ret (f := fun t => (t, true)) (impl_spread_ev (goodB_iff.1 h))

theorem laws_ySame_l (l m : List Int) (he : m.length = l.length) (hl : l.length ≤ 4611686018427387904) : ∀ i, i ≤ l.length → Ev (fun k => laws_ySame.l0 k l m (l.length : Int) (i : Int)) (decide (l.drop i = m.drop i)) := by
  refine down ?_ ?_
  · refine Ev.succ ?_
    simp only [laws_ySame.l0, nlt (Nat.le_refl l.length), if_false, List.drop_length]
    rw [← he, List.drop_length]
    exact Ev.now _
  · intro i hi ih
    refine Ev.succ ?_
    simp only [laws_ySame.l0, ilt hi, inn, if_true, he, rd_lt hi, rd_lt (he ▸ hi : i < m.length), wnext hi hl]
    rw [drop_cons hi, drop_cons (he ▸ hi : i < m.length)]
    by_cases hx : l[i] = m[i]
    · simp only [hx, if_true, List.cons.injEq, true_and]
      exact ih
    · simp only [hx, if_false, List.cons.injEq, false_and, decide_false]
      exact Ev.now _
theorem laws_ySame_ev (l m : List Int) (hl : l.length ≤ 4611686018427387904) : Ev (fun k => laws_ySame.f k l m) (decide (l = m)) := by
  simp only [laws_ySame.f]
  by_cases he : (l.length : Int) = (m.length : Int)
  · simp only [he, if_true]
    have := laws_ySame_l l m (by omega) hl 0 (Nat.zero_le _)
    rw [he] at this
    exact this
  · simp only [he, if_false]
    rw [decide_eq_false (fun h => he (by rw [h]))]
    exact Ev.now _

theorem impl_areLists_ev (a b : List Int) (ha : a.length ≤ 1048576) (hb : b.length ≤ 1048576) : Ev (fun k => impl_areLists.f k a b) (goodB a && goodB b) := by
  simp only [impl_areLists.f]
  exact Ev.and (impl_IsList_ev a (by omega)) fun h => Ev.ret (f := fun t => t) (impl_IsList_ev b (by omega))

theorem slices_Clone_int_int_e (l : List Int) (hl : l.length < 17592186044416) : slices_Clone_int_int.f l = some l := by
  simp only [slices_Clone_int_int.f, Option.bind_some, List.nil_append, List.length_nil, Nat.zero_add, hl, if_true]

theorem impl_ranking_1_e (x y : Int) : impl_ranking_1.f x y = some (wrap64 (y - x)) := rfl

def Bnd (l : List Int) : Prop := ∀ x ∈ l, -1000000 ≤ x ∧ x ≤ 1000000
theorem slices_insertionSortCmpFunc_int_l1 (x : Int) (hx : -1000000 ≤ x ∧ x ≤ 1000000) (R : List Int) (n i : Nat) (v : List Int) : ∀ (m : Nat) (P Q : List Int), P.length = m → m ≤ 1048576 → Bnd P → Desc (P ++ Q) → (∀ y ∈ Q, y < x) →
    Ev (fun k => slices_insertionSortCmpFunc_int.l0 k (insD x (P ++ Q) ++ R) 0 (n : Int) (wrap64 ((i : Int) + 1))) v → Ev (fun k => slices_insertionSortCmpFunc_int.l1 k (P ++ x :: (Q ++ R)) 0 (n : Int) (i : Int) (m : Int)) v
  | 0, P, Q, hP, _, _, _, hQ, hv => by
    have e : P = [] := List.eq_nil_of_length_eq_zero hP
    subst e
    refine Ev.succ ?_
    have c : ¬ ((0 : Nat) : Int) > 0 := by omega
    rw [insD_split x [] Q (fun y hy => absurd hy List.not_mem_nil) hQ] at hv
    simp only [slices_insertionSortCmpFunc_int.l1, c, if_false]
    exact hv
  | m + 1, P, Q, hP, hm, hb, hd, hQ, hv => by
    have hne : P ≠ [] := fun e => by rw [e] at hP; simp at hP
    have ep : P = P.dropLast ++ [P.getLast hne] := (List.dropLast_concat_getLast hne).symm
    generalize hP' : P.dropLast = P' at ep
    generalize hp : P.getLast hne = p at ep
    have hpb := hb p (by rw [ep]; simp)
    clear hP' hp
    subst ep
    have hl : P'.length = m := by rw [List.length_append, List.length_singleton] at hP; omega
    refine Ev.succ ?_
    have c : ((m + 1 : Nat) : Int) > 0 := by omega
    have c1 : m < ((P' ++ [p]) ++ x :: (Q ++ R)).length := by rw [List.length_append, hP, List.length_cons]; omega
    have c2 : m + 1 < ((P' ++ [p]) ++ x :: (Q ++ R)).length := by rw [List.length_append, hP, List.length_cons]; omega
    have r1 : rd ((P' ++ [p]) ++ x :: (Q ++ R)) ((m + 1 : Nat) : Int) = x := rd_mid _ _ _ _ hP
    have r2 : rd ((P' ++ [p]) ++ x :: (Q ++ R)) (m : Int) = p := by rw [List.append_assoc]; exact rd_mid _ _ _ _ hl
    simp only [slices_insertionSortCmpFunc_int.l1, eq_true c, inn, ilt c1, ilt c2, if_true, wprev (by omega : m ≤ 4611686018427387904), r1, r2, impl_ranking_1_e, Option.bind_some, Int.toNat_natCast, w64 (x := p - x) (by omega) (by omega)]
    by_cases d : p - x < 0
    · simp only [eq_true d, if_true]
      have e1 : ((((P' ++ [p]) ++ x :: (Q ++ R)).set (m + 1) p).set m x) = P' ++ x :: ((p :: Q) ++ R) := by
        rw [set_mid _ _ _ _ _ hP, List.append_assoc, List.singleton_append, set_mid _ _ _ _ _ hl, List.cons_append]
      rw [e1]
      refine slices_insertionSortCmpFunc_int_l1 x hx R n i v m P' (p :: Q) hl (by omega) (fun y hy => hb y (List.mem_append_left _ hy)) (by rw [List.append_assoc, List.singleton_append] at hd; exact hd) (fun y hy => ?_) ?_
      · rcases List.mem_cons.1 hy with e | e
        · omega
        · exact hQ y e
      · rw [List.append_assoc, List.singleton_append] at hv
        exact hv
    · simp only [eq_false d, if_false]
      rw [insD_split x (P' ++ [p]) Q (fun y hy => ?_) hQ, List.append_assoc, List.cons_append] at hv
      · exact hv
      · rcases List.mem_append.1 hy with e | e
        · have := desc_split ((List.pairwise_append.1 hd).1) e (List.mem_singleton.2 rfl); omega
        · have := List.mem_singleton.1 e; omega
theorem slices_insertionSortCmpFunc_int_l0 (l : List Int) (hl : l.length ≤ 1048576) (hb : Bnd l) : ∀ i, i ≤ l.length → ∀ S : List Int, S.length = i → Bnd S → Desc S →
    Ev (fun k => slices_insertionSortCmpFunc_int.l0 k (S ++ l.drop i) 0 (l.length : Int) (i : Int)) (rankFrom S (l.drop i)) := by
  refine down ?_ ?_
  · intro S hS hB hD
    refine Ev.succ ?_
    simp only [slices_insertionSortCmpFunc_int.l0, nlt (Nat.le_refl l.length), if_false, List.drop_length, List.append_nil]
    exact Ev.now _
  · intro i hi ih S hS hB hD
    have hx := hb _ (List.getElem_mem hi)
    refine Ev.succ ?_
    simp only [slices_insertionSortCmpFunc_int.l0, ilt hi, if_true]
    rw [drop_cons hi]
    refine slices_insertionSortCmpFunc_int_l1 l[i] hx (l.drop (i + 1)) l.length i _ i S [] hS (by omega) hB (by rw [List.append_nil]; exact hD) (fun y hy => absurd hy List.not_mem_nil) ?_
    rw [List.append_nil, wnext hi (by omega)]
    refine ih (insD l[i] S) (by rw [insD_length, hS]) (fun y hy => ?_) (insD_desc _ _ hD)
    rcases List.mem_cons.1 ((insD_perm l[i] S).mem_iff.1 hy) with e | e
    · rw [e]; exact hx
    · exact hB y e
theorem slices_insertionSortCmpFunc_int_ev (l : List Int) (h0 : 0 < l.length) (hl : l.length ≤ 1048576) (hb : Bnd l) (a : Int) : Ev (fun k => slices_insertionSortCmpFunc_int.f k l 0 (l.length : Int) a) (rankD l) := by
  cases l with
  | nil => exact absurd h0 (by simp)
  | cons x t =>
    have := slices_insertionSortCmpFunc_int_l0 (x :: t) hl hb 1 (by rw [List.length_cons]; omega) [x] rfl (fun y hy => hb y (by rw [List.mem_singleton.1 hy]; exact List.mem_cons_self ..)) (List.pairwise_singleton _ _)
    have e : wrap64 (0 + 1) = ((1 : Nat) : Int) := by rw [w64 (by omega) (by omega)]; rfl
    simp only [slices_insertionSortCmpFunc_int.f, e]
    exact this

theorem slices_pdqsortCmpFunc_int_ev (l : List Int) (h0 : 0 < l.length) (hl : l.length ≤ 12) (hb : Bnd l) (a b : Int) : Ev (fun k => slices_pdqsortCmpFunc_int.f k l 0 (l.length : Int) a b) (rankD l) := by
  refine Ev.succ ?_
  simp only [slices_pdqsortCmpFunc_int.f]
  refine Ev.succ ?_
  simp only [slices_pdqsortCmpFunc_int.l0, Int.sub_zero, w64 (by omega : -9223372036854775808 ≤ (l.length : Int)) (by omega), eq_true (by omega : (l.length : Int) ≤ 12), if_true]
  exact Ev.ret (f := fun t => t) (slices_insertionSortCmpFunc_int_ev l h0 (by omega) hb b)

theorem bits_Len_e (n : Nat) (h : n ≤ 8) : ∃ r, bits_Len.f (IntKind.u64.wrap (n : Int)) = some r := by
  unfold bits_Len.f
  rw [IntKind.wrap_u64, if_pos (by omega)]
  exact ⟨_, rfl⟩

theorem slices_SortFunc_int_int_ev (l : List Int) (h0 : 0 < l.length) (hl : l.length ≤ 8) (hb : Bnd l) (a : Int) : Ev (fun k => slices_SortFunc_int_int.f k l a) (rankD l) := by
  obtain ⟨q, hq⟩ := bits_Len_e l.length hl
  simp only [slices_SortFunc_int_int.f, hq, Option.bind_some]
  exact Ev.ret (f := fun t => t) (slices_pdqsortCmpFunc_int_ev l h0 (by omega) hb q a)

theorem impl_ranking_ev {l : List Int} (h : Lst l) : Ev (fun k => impl_ranking.f k l) (rankD l) := by
  have h1 := h.1
  have h2 := h.2.1
  simp only [impl_ranking.f, slices_Clone_int_int_e l (by omega), Option.bind_some]
  exact Ev.ret (f := fun t => t) (slices_SortFunc_int_int_ev l (by omega) h2 (fun x hx => by have := h.2.2 x hx; omega) 0)

theorem impl_partial_l (l : List Int) (hl : l.length ≤ 8) (hb : ∀ x ∈ l, 0 ≤ x ∧ x ≤ 60) : ∀ i, i ≤ l.length → ∀ (out : List Int) (s : Int), out.length = i → 0 ≤ s ∧ s ≤ 60 * i → Ev (fun k => impl_partial.l0 k out s l (l.length : Int) (i : Int)) (out ++ psums s (l.drop i)) := by
  refine down ?_ ?_
  · intro out s ho hs
    refine Ev.succ ?_
    simp only [impl_partial.l0, nlt (Nat.le_refl l.length), if_false, List.drop_length, psums, List.append_nil]
    exact Ev.now _
  · intro i hi ih out s ho hs
    have b := hb _ (List.getElem_mem hi)
    have c : out.length < 17592186044416 := by omega
    refine Ev.succ ?_
    simp only [impl_partial.l0, ilt hi, inn, if_true, rd_lt hi, c, w64 (x := s + l[i]) (by omega) (by omega), wnext hi (by omega : l.length ≤ 4611686018427387904)]
    rw [drop_cons hi, psums]
    exact (ih (out ++ [s + l[i]]) (s + l[i]) (by simp [ho]) (by omega)).eqv (by simp)
theorem impl_partial_ev {l : List Int} (h : Lst l) : Ev (fun k => impl_partial.f k l) (partOf l) := by
  have hr := rankD_lst h
  simp only [impl_partial.f]
  refine Ev.bind (impl_ranking_ev h) ?_
  have := impl_partial_l (rankD l) hr.2.1 hr.2.2 0 (Nat.zero_le _) [] 0 rfl (by omega)
  rw [List.drop_zero, List.nil_append] at this
  exact this

theorem impl_refused_l (p q : List Int) (hp : p.length ≤ 1048576) (hq : p.length ≤ q.length) : ∀ i, i ≤ p.length → Ev (fun k => impl_refused.l0 k q p (p.length : Int) (i : Int)) (refGo i (p.drop i) (q.drop i)) := by
  refine down ?_ ?_
  · refine Ev.succ ?_
    simp only [impl_refused.l0, nlt (Nat.le_refl p.length), if_false, List.drop_length, refGo]
    exact Ev.now _
  · intro i hi ih
    have h2 : i < q.length := by omega
    refine Ev.succ ?_
    simp only [impl_refused.l0, ilt hi, ilt h2, inn, if_true, rd_lt hi, rd_lt h2, wnext hi (by omega : p.length ≤ 4611686018427387904)]
    rw [drop_cons hi, drop_cons h2, refGo]
    by_cases c : p[i] > q[i]
    · simp only [c, if_true]; exact Ev.now _
    · simp only [c, if_false]; exact ih
theorem impl_refused_ev {a b : List Int} (ha : Lst a) (hb : Lst b) (hl : a.length = b.length) : Ev (fun k => impl_refused.f k a b) (refGo 0 (partOf a) (partOf b)) := by
  have h2 := ha.2.1
  simp only [impl_refused.f]
  refine Ev.bind (impl_partial_ev hb) ?_
  refine Ev.bind (impl_partial_ev ha) ?_
  exact impl_refused_l (partOf a) (partOf b) (by rw [partOf_length]; omega) (by rw [partOf_length, partOf_length]; omega) 0 (Nat.zero_le _)

theorem impl_doFit_ev {a b : List Int} (ha : Lst a) (hb : Lst b) : Ev (fun k => impl_doFit.f k a b) (decide (a.length = b.length) && decide (a.sum = b.sum)) := by
  simp only [impl_doFit.f]
  by_cases h : a.length = b.length
  · have h2 : (a.length : Int) = (b.length : Int) := by omega
    simp only [h2, if_true, h, decide_true, Bool.true_and]
    refine Ev.bind (impl_total_good ha) ?_
    exact Ev.ret (f := fun t => a.sum == t) (impl_total_good hb)
  · have h2 : ¬ (a.length : Int) = (b.length : Int) := by omega
    simp only [h2, if_false, h, decide_false, Bool.false_and]
    exact Ev.now _

theorem impl_isMajorized_ev {a b : List Int} (ha : Lst a) (hb : Lst b) : Ev (fun k => impl_isMajorized.f k a b) ((decide (a.length = b.length) && decide (a.sum = b.sum)) && leAll (partOf a) (partOf b)) := by
  simp only [impl_isMajorized.f]
  refine (Ev.and (impl_doFit_ev ha hb) fun h => ?_)
  simp only [Bool.and_eq_true, decide_eq_true_eq] at h
  exact (Ev.ret (f := fun t => t == 0) (impl_refused_ev ha hb h.1)).eqv (refGo_zero 0 _ _)

theorem impl_IsMajorized_ev (a b : List Int) (ha : a.length ≤ 1048576) (hb : b.length ≤ 1048576) : Ev (fun k => impl_IsMajorized.f k a b) (if goodB a && goodB b then (majB a b, true) else (false, false)) := by
  simp only [impl_IsMajorized.f]
  refine Ev.bind (impl_areLists_ev a b ha hb) ?_
  cases h : goodB a && goodB b with
  | false => simp only [Bool.false_eq_true, if_false]; exact Ev.now _
  | true =>
    simp only [if_true]
    rw [Bool.and_eq_true, goodB_iff, goodB_iff] at h
    exact (Ev.ret (f := fun t => (t, true)) (impl_isMajorized_ev h.1 h.2)).eqv (by rw [Bool.and_assoc]; rfl)

theorem spec_l1Cur_next_x {c : List Int} (hc : Bts c) (a s b : Int) (ha : At a b) (hb : b ≤ 4611686018427387904) : ∃ r : Int × Int × Int, spec_l1Cur_next.f c a s = some r ∧ 0 ≤ r.1 ∧ r.1 ≤ 255 ∧ At r.2.1 (b + 1) := by
  have h0 := ha.1
  have h1 := ha.2
  have e : wrap64 (a + 1) = a + 1 := w64 (by omega) (by omega)
  have a1 : At (a + 1) (b + 1) := ⟨by omega, by omega⟩
  have u : ∀ z : Int, 0 ≤ wrap64 (Go.bits .and .u64 (IntKind.u64.wrap z / 1099511627776) 255) ∧ wrap64 (Go.bits .and .u64 (IntKind.u64.wrap z / 1099511627776) 255) ≤ 255 := fun z => and255 _ (by rw [wrapU64]; omega) (by rw [wrapU64]; omega)
  unfold spec_l1Cur_next.f
  by_cases c1 : a < (c.length : Int)
  · have r := rd_code hc h0 c1
    simp only [c1, h0, if_true, e]
    by_cases c2 : a + 1 ≤ (c.length : Int)
    · simp only [c2, if_true]
      refine ⟨_, rfl, ?_, ?_, a1⟩
      · show 0 ≤ wrap64 _
        rw [w64 (by omega) (by omega)]; exact r.1
      · show wrap64 _ ≤ 255
        rw [w64 (by omega) (by omega)]; exact r.2
    · simp only [c2, if_false]
      exact ⟨_, rfl, (u _).1, (u _).2, a1⟩
  · simp only [c1, if_false, e]
    by_cases c2 : a + 1 ≤ (c.length : Int)
    · simp only [c2, if_true]
      exact ⟨_, rfl, by show (0 : Int) ≤ 0; omega, by show (0 : Int) ≤ 255; omega, a1⟩
    · simp only [c2, if_false]
      exact ⟨_, rfl, (u _).1, (u _).2, a1⟩

theorem spec_l1Cur_pick_x {c : List Int} (hc : Bts c) (a s b n : Int) (ha : At a b) (hb : b ≤ 1073741824) : Ex (fun _ => spec_l1Cur_pick.f c a s n) (fun r => 0 ≤ r.1 ∧ (1 ≤ n → r.1 < n) ∧ At r.2.1 (b + 2)) := by
  have h0 := ha.1
  have h1 := ha.2
  unfold spec_l1Cur_pick.f
  by_cases c1 : n ≤ 1
  · simp only [c1, if_true]
    exact Ex.now ⟨by show (0 : Int) ≤ 0; omega, fun h => by show (0 : Int) < n; omega, by omega, by show a ≤ b + 2; omega⟩
  · simp only [c1, if_false]
    obtain ⟨r, hr, r0, r1, r2⟩ := spec_l1Cur_next_x hc a s b ha (by omega)
    rw [hr]
    simp only [Option.bind_some]
    have n0 : ¬ n = 0 := by omega
    by_cases c2 : n > 200
    · simp only [c2, if_true]
      obtain ⟨q, hq, q0, q1, q2⟩ := spec_l1Cur_next_x hc r.2.1 r.2.2 (b + 1) r2 (by omega)
      rw [hq]
      simp only [Option.bind_some, n0, if_false]
      have e : wrap64 (wrap64 (r.1 * 256) + q.1) = r.1 * 256 + q.1 := by rw [w64 (x := r.1 * 256) (by omega) (by omega), w64 (by omega) (by omega)]
      rw [e]
      refine Ex.now ⟨Int.tmod_nonneg _ (by omega), fun _ => Int.tmod_lt_of_pos _ (by omega), q2.1, ?_⟩
      have := q2.2
      show q.2.1 ≤ b + 2
      omega
    · simp only [c2, if_false, n0]
      refine Ex.now ⟨Int.tmod_nonneg _ (by omega), fun _ => Int.tmod_lt_of_pos _ (by omega), r2.1, ?_⟩
      have := r2.2
      show r.2.1 ≤ b + 2
      omega

theorem spec_l1Cur_among_x {c : List Int} (hc : Bts c) (a s b : Int) (l : List Int) (hl : 1 ≤ l.length) (ha : At a b) (hb : b ≤ 1073741824) : Ex (fun _ => spec_l1Cur_among.f c a s l) (fun r => r.1 ∈ l ∧ At r.2.1 (b + 2)) := by
  unfold spec_l1Cur_among.f
  refine Ex.bind (spec_l1Cur_pick_x hc a s b _ ha hb) fun r hr => ?_
  have h0 := hr.1
  have h1 := hr.2.1 (by omega)
  simp only [h0, h1, if_true]
  refine Ex.now ⟨?_, hr.2.2⟩
  have hi : r.1.toNat < l.length := by omega
  show rd l r.1 ∈ l
  unfold rd
  rw [List.getD_eq_getElem?_getD, List.getElem?_eq_getElem hi, Option.getD_some]
  exact List.getElem_mem hi

theorem spec_l1Cur_list_l {c : List Int} (hc : Bts c) (m : Int) : ∀ (n : Nat) (x : List Int) (a s b : Int), At a b → b + 2 * n ≤ 1073741824 → x.length + n ≤ 1048576 → Ex (fun k => spec_l1Cur_list.l0 k m x (n : Int) c a s) (fun r => r.1.length = x.length + n ∧ At r.2.1 (b + 2 * n))
  | 0, x, a, s, b, ha, hb, hx => by
    refine Ex.succ ?_
    simp only [spec_l1Cur_list.l0, show ¬ (((0 : Nat) : Int) > 0) by omega, if_false]
    exact Ex.now ⟨rfl, by simpa using ha⟩
  | n + 1, x, a, s, b, ha, hb, hx => by
    refine Ex.succ ?_
    simp only [spec_l1Cur_list.l0, show (((n + 1 : Nat) : Int) > 0) by omega, if_true]
    refine Ex.bind (spec_l1Cur_pick_x hc a s b _ ha (by omega)) fun r hr => ?_
    have hl : x.length < 17592186044416 := by omega
    simp only [hl, if_true, w64 (x := ((n + 1 : Nat) : Int) - 1) (by omega) (by omega)]
    rw [show ((n + 1 : Nat) : Int) - 1 = (n : Int) by omega]
    refine (spec_l1Cur_list_l hc m n (x ++ [r.1]) r.2.1 r.2.2 (b + 2) hr.2.2 (by omega) (by rw [List.length_append, List.length_singleton]; omega)).mono fun q hq => ?_
    rw [List.length_append, List.length_singleton] at hq
    exact ⟨by omega, hq.2.1, by have := hq.2.2; omega⟩
theorem spec_l1Cur_list_x {c : List Int} (hc : Bts c) (a s b m : Int) (ha : At a b) (hb : b ≤ 536870912) : Ex (fun k => spec_l1Cur_list.f k c a s m) (fun r => 1 ≤ r.1.length ∧ r.1.length ≤ 6 ∧ At r.2.1 (b + 14)) := by
  simp only [spec_l1Cur_list.f]
  refine Ex.bind (spec_l1Cur_pick_x hc a s b 6 ha (by omega)) fun r hr => ?_
  have h0 := hr.1
  have h1 := hr.2.1 (by omega)
  obtain ⟨n, hn⟩ := Int.eq_ofNat_of_zero_le h0
  rw [w64 (by omega) (by omega), show 1 + r.1 = ((n + 1 : Nat) : Int) by omega]
  refine (spec_l1Cur_list_l hc m (n + 1) [] r.2.1 r.2.2 (b + 2) hr.2.2 (by omega) (by simp; omega)).mono fun q hq => ?_
  rw [List.length_nil] at hq
  exact ⟨by omega, by omega, hq.2.1, by have := hq.2.2; omega⟩

theorem spec_l1Cur_anyList_l {c : List Int} (hc : Bts c) : ∀ (d : Nat) (x : List Int) (a s b : Int), x.length + d = 10 → At a b → b + 4 * d + 4 ≤ 1073741824 → Ex (fun k => spec_l1Cur_anyList.l0 k x c a s) (fun r => r.1.length ≤ 10 ∧ At r.2.1 (b + 4 * d + 4))
  | 0, x, a, s, b, hx, ha, hb => by
    refine Ex.succ ?_
    simp only [spec_l1Cur_anyList.l0]
    refine Ex.bind (spec_l1Cur_pick_x hc a s b 2 ha (by omega)) fun r hr => ?_
    have h0 := hr.1
    have h1 := hr.2.1 (by omega)
    have c1 : ¬ ((x.length : Int) < wrap64 (8 + r.1)) := by rw [w64 (by omega) (by omega)]; omega
    simp only [c1, if_false]
    exact Ex.now ⟨by show x.length ≤ 10; omega, hr.2.2.1, by have := hr.2.2.2; show r.2.1 ≤ _; omega⟩
  | d + 1, x, a, s, b, hx, ha, hb => by
    refine Ex.succ ?_
    simp only [spec_l1Cur_anyList.l0]
    refine Ex.bind (spec_l1Cur_pick_x hc a s b 2 ha (by omega)) fun r hr => ?_
    by_cases c1 : (x.length : Int) < wrap64 (8 + r.1)
    · simp only [c1, if_true]
      refine Ex.bind (spec_l1Cur_pick_x hc _ _ (b + 2) 9 hr.2.2 (by omega)) fun q hq => ?_
      have hl : x.length < 17592186044416 := by omega
      simp only [hl, if_true]
      refine (spec_l1Cur_anyList_l hc d (x ++ [q.1]) _ _ (b + 2 + 2) (by rw [List.length_append, List.length_singleton]; omega) hq.2.2 (by omega)).mono fun z hz => ?_
      exact ⟨hz.1, hz.2.1, by have := hz.2.2; omega⟩
    · simp only [c1, if_false]
      exact Ex.now ⟨by show x.length ≤ 10; omega, hr.2.2.1, by have := hr.2.2.2; show r.2.1 ≤ _; omega⟩
theorem spec_l1Cur_anyList_x {c : List Int} (hc : Bts c) (a s b m : Int) (ha : At a b) (hb : b ≤ 268435456) : Ex (fun k => spec_l1Cur_anyList.f k c a s m) (fun r => r.1.length ≤ 10 ∧ At r.2.1 (b + 64)) := by
  simp only [spec_l1Cur_anyList.f]
  refine Ex.bind (spec_l1Cur_list_x hc a s b m ha (by omega)) fun r hr => ?_
  refine Ex.bind (spec_l1Cur_pick_x hc _ _ (b + 14) 14 hr.2.2 (by omega)) fun q hq => ?_
  have q2 := hq.2.2.2
  by_cases c1 : q.1 = 0
  · simp only [c1, if_true]
    refine Ex.bind (spec_l1Cur_among_x hc _ _ (b + 14 + 2) _ (by simp) hq.2.2 (by omega)) fun z hz => ?_
    have hl : r.1.length < 17592186044416 := by omega
    simp only [hl, if_true]
    exact Ex.now ⟨by show (r.1 ++ [z.1]).length ≤ 10; rw [List.length_append, List.length_singleton]; omega, hz.2.1, by have := hz.2.2; show z.2.1 ≤ _; omega⟩
  · simp only [c1, if_false]
    by_cases c2 : q.1 = 1
    · simp only [c2, if_true]
      refine (spec_l1Cur_anyList_l hc (10 - r.1.length) r.1 _ _ (b + 14 + 2) (by omega) hq.2.2 (by omega)).mono fun z hz => ?_
      exact ⟨hz.1, hz.2.1, by have := hz.2.2; omega⟩
    · simp only [c2, if_false]
      by_cases c3 : q.1 = 2
      · simp only [c3, if_true]
        exact Ex.now ⟨by show ([] : List Int).length ≤ 10; simp, hq.2.2.1, by show q.2.1 ≤ _; omega⟩
      · simp only [c3, if_false]
        exact Ex.now ⟨by show r.1.length ≤ 10; omega, hq.2.2.1, by show q.2.1 ≤ _; omega⟩

theorem spec_l1Most_e (a b : Int) : spec_l1Most.f a b = some (max a b) := by
  unfold spec_l1Most.f
  by_cases h : a > b
  · rw [if_pos h]; congr 1; omega
  · rw [if_neg h]; congr 1; omega

theorem spec_DrawGiftEffects_x {c : List Int} (hc : Bts c) : Ex (fun k => spec_DrawGiftEffects.f k c) (fun r => r.1.length ≤ 10) := by
  simp only [spec_DrawGiftEffects.f]
  refine Ex.bind (spec_l1Cur_among_x hc 0 0 0 _ (by simp) ⟨by omega, by omega⟩ (by omega)) fun r hr => ?_
  refine Ex.bind (spec_l1Cur_anyList_x hc _ _ (0 + 2) _ hr.2 (by omega)) fun q hq => ?_
  simp only [spec_l1Most_e, Option.bind_some]
  refine Ex.bind (spec_l1Cur_pick_x hc _ _ (0 + 2 + 64) _ hq.2 (by omega)) fun z hz => ?_
  refine Ex.bind (spec_l1Cur_among_x hc _ _ (0 + 2 + 64 + 2) _ (by simp) hz.2.2 (by omega)) fun y hy => ?_
  exact Ex.now hq.1

theorem impl_pairs_l1 (l : List Int) (hl : l.length ≤ 1048576) (hb : ∀ x ∈ l, 0 ≤ x ∧ x ≤ 60) (x : Int) (hx : 0 ≤ x ∧ x ≤ 60) (o : Nat) (r : Int) (m : List Int) (hm : ∀ y ∈ m, 0 ≤ y ∧ y ≤ 60) (hml : m.length ≤ 1048576)
    (hk : ∀ acc, InR acc → Ev (fun k => impl_pairs.l0 k l acc l (l.length : Int) (wrap64 ((o : Int) + 1))) (wrap64 (acc + r))) :
    ∀ i, i ≤ m.length → ∀ acc, InR acc → Ev (fun k => impl_pairs.l1 k l acc x l (l.length : Int) (o : Int) m (m.length : Int) (i : Int)) (wrap64 (acc + ((m.drop i).map (absd x)).sum + r)) := by
  refine down ?_ ?_
  · intro acc ha
    refine Ev.succ ?_
    simp only [impl_pairs.l1, nlt (Nat.le_refl m.length), if_false, List.drop_length, List.map_nil, List.sum_nil, Int.add_zero]
    exact hk acc ha
  · intro i hi ih acc ha
    have b := hm _ (List.getElem_mem hi)
    refine Ev.succ ?_
    simp only [impl_pairs.l1, ilt hi, inn, if_true, rd_lt hi, wnext hi (by omega : m.length ≤ 4611686018427387904), mx_eq]
    rw [drop_cons hi, List.map_cons, List.sum_cons, ← Int.add_assoc]
    refine (ih _ (inR_wrap _)).eqv ?_
    rw [Int.add_assoc, wrap_add]
    unfold absd
    congr 1
    rw [w64 (x := x - m[i]) (by omega) (by omega), w64 (x := m[i] - x) (by omega) (by omega)]
    omega
theorem impl_pairs_l0 (l : List Int) (hl : l.length ≤ 1048576) (hb : ∀ x ∈ l, 0 ≤ x ∧ x ≤ 60) : ∀ i, i ≤ l.length → ∀ acc, InR acc → Ev (fun k => impl_pairs.l0 k l acc l (l.length : Int) (i : Int)) (wrap64 (acc + pairsFrom l i)) := by
  refine down ?_ ?_
  · intro acc ha
    refine Ev.succ ?_
    simp only [impl_pairs.l0, nlt (Nat.le_refl l.length), if_false, pairsFrom, List.drop_length, Nat.sub_self, pairsGo, Int.add_zero, wR ha]
    exact Ev.now _
  · intro i hi ih acc ha
    refine Ev.succ ?_
    simp only [impl_pairs.l0, ilt hi, inn, if_true, rd_lt hi, ile (Nat.le_of_lt hi), Int.toNat_natCast]
    refine (impl_pairs_l1 l hl hb l[i] (hb _ (List.getElem_mem hi)) i (pairsFrom l (i + 1)) (l.take i) (fun y hy => hb y (List.mem_of_mem_take hy)) (by simp; omega) (fun acc ha => ?_) 0 (Nat.zero_le _) acc ha).eqv ?_
    · rw [wnext hi (by omega)]
      exact ih acc ha
    · rw [List.drop_zero, pairsFrom_step hi, Int.add_assoc]
theorem impl_pairs_ev (l : List Int) (h : Lst l) : Ev (fun k => impl_pairs.f k l) (pairsSum l) := by
  have := impl_pairs_l0 l (by have := h.2.1; omega) h.2.2 0 (Nat.zero_le _) 0 inR_0
  rw [Int.zero_add] at this
  have hb := pairsSum_bound h
  simp only [impl_pairs.f]
  exact this.eqv (w64 (by have := hb.1; unfold pairsSum at this; omega) (by have := hb.2; unfold pairsSum at this; omega))

theorem slices_Max_int_int_l (l : List Int) (hl : l.length ≤ 1048576) : ∀ i, i ≤ l.length → ∀ a : Int, Ev (fun k => slices_Max_int_int.l0 k l a (i : Int)) ((l.drop i).foldl max a) := by
  refine down ?_ ?_
  · intro a
    refine Ev.succ ?_
    simp only [slices_Max_int_int.l0, nlt (Nat.le_refl l.length), if_false, List.drop_length, List.foldl_nil]
    exact Ev.now _
  · intro i hi ih a
    refine Ev.succ ?_
    simp only [slices_Max_int_int.l0, ilt hi, inn, if_true, rd_lt hi, mx_eq, wnext hi (by omega : l.length ≤ 4611686018427387904)]
    rw [drop_cons hi, List.foldl_cons]
    exact ih _
theorem slices_Max_int_int_ev (l : List Int) (h0 : 0 < l.length) (hl : l.length ≤ 1048576) : Ev (fun k => slices_Max_int_int.f k l) (mostOf l) := by
  simp only [slices_Max_int_int.f, eq_false (by omega : ¬ (l.length : Int) < 1), eq_true (by omega : 0 < (l.length : Int)), if_false, if_true]
  have := slices_Max_int_int_l l hl 1 (by omega) (l.getD 0 0)
  rw [show rd l 0 = l.getD 0 0 from rd_get l 0]
  exact this

theorem slices_Min_int_int_l (l : List Int) (hl : l.length ≤ 1048576) : ∀ i, i ≤ l.length → ∀ a : Int, Ev (fun k => slices_Min_int_int.l0 k l a (i : Int)) ((l.drop i).foldl min a) := by
  refine down ?_ ?_
  · intro a
    refine Ev.succ ?_
    simp only [slices_Min_int_int.l0, nlt (Nat.le_refl l.length), if_false, List.drop_length, List.foldl_nil]
    exact Ev.now _
  · intro i hi ih a
    refine Ev.succ ?_
    simp only [slices_Min_int_int.l0, ilt hi, inn, if_true, rd_lt hi, mn_eq, wnext hi (by omega : l.length ≤ 4611686018427387904)]
    rw [drop_cons hi, List.foldl_cons]
    exact ih _
theorem slices_Min_int_int_ev (l : List Int) (h0 : 0 < l.length) (hl : l.length ≤ 1048576) : Ev (fun k => slices_Min_int_int.f k l) (lowOf l) := by
  simp only [slices_Min_int_int.f, eq_false (by omega : ¬ (l.length : Int) < 1), eq_true (by omega : 0 < (l.length : Int)), if_false, if_true]
  have := slices_Min_int_int_l l hl 1 (by omega) (l.getD 0 0)
  rw [show rd l 0 = l.getD 0 0 from rd_get l 0]
  exact this

theorem impl_excessOf_l {l : List Int} (h : Lst l) : ∀ i, i ≤ l.length → ∀ acc : Int, 0 ≤ acc → acc ≤ 4611686018427387904 - 4000 * ((l.length - i : Nat) : Int) → Ev (fun k => impl_excessOf.l0 k l acc l (l.length : Int) (i : Int)) (acc + ((l.drop i).map fun x => max 0 (l.length * x - l.sum)).sum) := by
  have hn := h.2.1
  refine down ?_ ?_
  · intro acc ha hb
    refine Ev.succ ?_
    simp only [impl_excessOf.l0, nlt (Nat.le_refl l.length), if_false, List.drop_length, List.map_nil, List.sum_nil, Int.add_zero]
    exact Ev.now _
  · intro i hi ih acc ha hb
    have b := h.get hi
    have s := h.sum
    have hx : 0 ≤ (l.length : Int) * l[i] ∧ (l.length : Int) * l[i] ≤ 480 := by
      have h1 : (l.length : Int) * l[i] ≤ 8 * 60 := Int.mul_le_mul (by omega) b.2 b.1 (by omega)
      exact ⟨Int.mul_nonneg (by omega) b.1, h1⟩
    refine Ev.succ ?_
    simp only [impl_excessOf.l0, ilt hi, inn, if_true, rd_lt hi, wnext hi (by omega : l.length ≤ 4611686018427387904)]
    refine Ev.bind (impl_total_good h) ?_
    simp only [mx_eq]
    rw [drop_cons hi, List.map_cons, List.sum_cons, ← Int.add_assoc, w64 (x := (l.length : Int) * l[i]) (by omega) (by omega), w64 (x := (l.length : Int) * l[i] - l.sum) (by omega) (by omega), w64 (x := acc + _) (by omega) (by omega)]
    exact ih _ (by omega) (by omega)
theorem impl_excessOf_ev {l : List Int} (h : Lst l) : Ev (fun k => impl_excessOf.f k l) (excessOf l) := by
  have := impl_excessOf_l h 0 (Nat.zero_le _) 0 (by omega) (by have := h.2.1; omega)
  simpa only [impl_excessOf.f, List.drop_zero, Int.zero_add, Int.natCast_zero, excessOf] using this

theorem impl_measures_ev {l : List Int} (h : Lst l) : Ev (fun k => impl_measures.f k l) (measuresOf l) := by
  have h1 := h.1
  have h2 := h.2.1
  have m := h.most
  have n := h.low
  simp only [impl_measures.f]
  refine Ev.bind (impl_spread_ev h) ?_
  refine Ev.bind (impl_pairs_ev l h) ?_
  refine Ev.bind (slices_Max_int_int_ev l (by omega) (by omega)) ?_
  refine Ev.bind (slices_Max_int_int_ev l (by omega) (by omega)) ?_
  refine Ev.bind (slices_Min_int_int_ev l (by omega) (by omega)) ?_
  refine Ev.bind (impl_excessOf_ev h) ?_
  rw [w64 (x := mostOf l - lowOf l) (by omega) (by omega)]
  exact Ev.now _

/-- A unit given: the one has less, the other more. -/
def gave (l : List Int) (i j : Nat) : List Int := (l.set i (l.getD i 0 - 1)).set j (l.getD j 0 + 1)
def giftB (l : List Int) (i j : Int) : Bool := goodB l && (wth i 0 ((l.length : Int) - 1) && (wth j 0 ((l.length : Int) - 1) && decide (l.getD i.toNat 0 - l.getD j.toNat 0 ≥ 2)))
def giftV (l : List Int) (i j : Nat) : List Int := [wrap64 (spreadOf (gave l i j) - spreadOf l), wrap64 (pairsSum (gave l i j) - pairsSum l), wrap64 ((mostOf (gave l i j) - lowOf (gave l i j)) - (mostOf l - lowOf l)), wrap64 (excessOf (gave l i j) - excessOf l)]
def giftE (l : List Int) (i j : Int) : List Int × Bool := if giftB l i j then (giftV l i.toNat j.toNat, true) else ([], false)
theorem giftE_len (l : List Int) (i j : Int) : (giftE l i j).1.length ≤ 4 := by
  unfold giftE
  split <;> simp [giftV]
theorem giftB_parts {l : List Int} {i j : Int} (h : giftB l i j = true) : ∃ p q : Nat, i = (p : Int) ∧ j = (q : Int) ∧ Lst l ∧ p < l.length ∧ q < l.length ∧ p ≠ q ∧ l.getD p 0 - l.getD q 0 ≥ 2 := by
  unfold giftB at h
  rw [Bool.and_eq_true, Bool.and_eq_true, Bool.and_eq_true, goodB_iff, wth_iff, wth_iff, decide_eq_true_eq] at h
  obtain ⟨h1, h2, h3, h4⟩ := h
  refine ⟨i.toNat, j.toNat, by omega, by omega, h1, by omega, by omega, fun e => ?_, h4⟩
  rw [e] at h4
  omega
theorem gave_len (l : List Int) (i j : Nat) : (gave l i j).length = l.length := by unfold gave; rw [List.length_set, List.length_set]
theorem gave_lst {l : List Int} (h : Lst l) {p q : Nat} (hp : p < l.length) (hq : q < l.length) (hg : l.getD p 0 - l.getD q 0 ≥ 2) : Lst (gave l p q) := by
  have ep : l.getD p 0 = l[p] := by simp [List.getD_eq_getElem?_getD, hp]
  have eq : l.getD q 0 = l[q] := by simp [List.getD_eq_getElem?_getD, hq]
  have bp := h.get hp
  have bq := h.get hq
  refine ⟨by rw [gave_len]; exact h.1, by rw [gave_len]; exact h.2.1, fun x hx => ?_⟩
  unfold gave at hx
  rcases List.mem_or_eq_of_mem_set hx with hx | e
  · rcases List.mem_or_eq_of_mem_set hx with hx | e
    · exact h.2.2 x hx
    · omega
  · omega
theorem set_getD_ne {l : List Int} {p q : Nat} (h : p ≠ q) (v : Int) : (l.set p v).getD q 0 = l.getD q 0 := by
  rw [List.getD_eq_getElem?_getD, List.getElem?_set_ne h, ← List.getD_eq_getElem?_getD]
theorem gave_made {l : List Int} (h : Lst l) {p q : Nat} (hp : p < l.length) (hq : q < l.length) (hpq : p ≠ q) : (l.set p (wrap64 (l.getD p 0 - 1))).set q (wrap64 ((l.set p (wrap64 (l.getD p 0 - 1))).getD q 0 + 1)) = gave l p q := by
  have ep : l.getD p 0 = l[p] := by simp [List.getD_eq_getElem?_getD, hp]
  have eq : l.getD q 0 = l[q] := by simp [List.getD_eq_getElem?_getD, hq]
  have bp := h.get hp
  have bq := h.get hq
  rw [set_getD_ne hpq, w64 (x := l.getD p 0 - 1) (by omega) (by omega), w64 (x := l.getD q 0 + 1) (by omega) (by omega)]
  rfl

theorem impl_given_e {l : List Int} (h : Lst l) {p q : Nat} (hp : p < l.length) (hq : q < l.length) (hpq : p ≠ q) : impl_given.f l (p : Int) (q : Int) 1 = some (gave l p q) := by
  have h8 := h.2.1
  simp only [impl_given.f, slices_Clone_int_int_e l (by omega), Option.bind_some, inn, ilt hp, ilt hq, if_true, rd_get, Int.toNat_natCast]
  rw [gave_made h hp hq hpq]

-- (nothing: its function is unfolded where it is called)

def subW (p q : List Int) : List Int := List.zipWith (fun x y => wrap64 (x - y)) p q
theorem subW_get (p q : List Int) (i : Nat) (hp : i < p.length) (hq : i < q.length) (h : i < (subW p q).length) : (subW p q)[i] = wrap64 (p.getD i 0 - q.getD i 0) := by
  have e : (subW p q)[i] = wrap64 (p[i] - q[i]) := by simp [subW]
  rw [e]
  simp [List.getD_eq_getElem?_getD, hp, hq]
theorem impl_GiftEffects_l (p q : List Int) (hl : p.length = q.length) (h5 : p.length = 5) : ∀ i, i ≤ q.length → ∀ x : List Int, x.length = p.length → x.take i = (subW p q).take i → (∀ j, i ≤ j → j < p.length → x.getD j 0 = p.getD j 0) → Ev (fun k => impl_GiftEffects.l0 k x q (q.length : Int) (i : Int)) ((subW p q).take 2 ++ (subW p q).drop 3, true) := by
  have hs : (subW p q).length = 5 := by unfold subW; rw [List.length_zipWith]; omega
  refine down ?_ ?_
  · intro x hx ht _
    have e : x = subW p q := by
      have h1 : x.take q.length = x := List.take_of_length_le (by omega)
      have h2 : (subW p q).take q.length = subW p q := List.take_of_length_le (by omega)
      rw [← h1, ht, h2]
    subst e
    refine Ev.succ ?_
    simp only [impl_GiftEffects.l0, nlt (Nat.le_refl q.length), if_false, slices_Delete_int_int.f, hs, if_true, Option.bind_some]
    exact Ev.now _
  · intro i hi ih x hx ht hd
    have hix : i < x.length := by omega
    have his : i < (subW p q).length := by omega
    refine Ev.succ ?_
    simp only [impl_GiftEffects.l0, ilt hi, ilt hix, inn, if_true, rd_get, Int.toNat_natCast, wnext hi (by omega : q.length ≤ 4611686018427387904)]
    have e : wrap64 (x.getD i 0 - q.getD i 0) = (subW p q)[i] := by
      rw [hd i (Nat.le_refl _) (by omega), subW_get p q i (by omega) hi his]
    rw [e]
    refine ih _ (by rw [List.length_set]; exact hx) (set_take (subW p q) x i his (by omega) ht) (fun j hj hjl => ?_)
    rw [set_getD_ne (by omega)]
    exact hd j (by omega) hjl
theorem impl_GiftEffects_ev (l : List Int) (i j : Int) (hl : l.length ≤ 1048576) : Ev (fun k => impl_GiftEffects.f k l i j) (giftE l i j) := by
  simp only [impl_GiftEffects.f]
  have off : giftB l i j = false → Ev (fun k => impl_GiftEffects.j0 k l i j true) (giftE l i j) := by
    intro h
    have e : giftE l i j = ([], false) := by unfold giftE; rw [h]; rfl
    rw [e]
    refine Ev.succ ?_
    simp only [impl_GiftEffects.j0, if_true]
    exact Ev.now _
  refine Ev.bind (impl_IsList_ev l (by omega)) ?_
  cases h1 : goodB l with
  | false => simp only [Bool.false_eq_true, if_false]; exact off (by unfold giftB; rw [h1]; rfl)
  | true =>
    have la := goodB_iff.1 h1
    have l8 := la.2.1
    have w1 : wrap64 ((l.length : Int) - 1) = (l.length : Int) - 1 := w64 (by omega) (by omega)
    simp only [if_true, impl_within_e, Option.bind_some, w1]
    cases h2 : wth i 0 ((l.length : Int) - 1) with
    | false => simp only [Bool.false_eq_true, if_false]; exact off (by unfold giftB; rw [h1, h2]; rfl)
    | true =>
      simp only [if_true]
      cases h3 : wth j 0 ((l.length : Int) - 1) with
      | false => simp only [Bool.false_eq_true, if_false]; exact off (by unfold giftB; rw [h1, h2, h3]; rfl)
      | true =>
        simp only [if_true]
        have b2 := wth_iff.1 h2
        have b3 := wth_iff.1 h3
        obtain ⟨p, rfl⟩ := Int.eq_ofNat_of_zero_le b2.1
        obtain ⟨q, rfl⟩ := Int.eq_ofNat_of_zero_le b3.1
        have hp : p < l.length := by omega
        have hq : q < l.length := by omega
        have ep : l.getD p 0 = l[p] := by simp [List.getD_eq_getElem?_getD, hp]
        have eq : l.getD q 0 = l[q] := by simp [List.getD_eq_getElem?_getD, hq]
        have bp := la.get hp
        have bq := la.get hq
        simp only [inn, ilt hp, ilt hq, if_true, rd_get, w64 (x := l.getD p 0 - l.getD q 0) (by omega) (by omega)]
        by_cases c : l.getD p 0 - l.getD q 0 < 2
        · simp only [decide_eq_true c]
          refine off ?_
          unfold giftB
          rw [h1, h2, h3, Int.toNat_natCast, Int.toNat_natCast, decide_eq_false (by omega)]
          rfl
        · have hg : l.getD p 0 - l.getD q 0 ≥ 2 := by omega
          have hpq : p ≠ q := by rintro rfl; omega
          have hb : giftB l (p : Int) (q : Int) = true := by
            unfold giftB
            rw [h1, h2, h3, Int.toNat_natCast, Int.toNat_natCast, decide_eq_true hg]
            rfl
          have ev : giftE l (p : Int) (q : Int) = (giftV l p q, true) := by unfold giftE; rw [hb]; rfl
          have lb := gave_lst la hp hq hg
          rw [ev]
          simp only [decide_eq_false c]
          refine Ev.succ ?_
          simp only [impl_GiftEffects.j0, Bool.false_eq_true, if_false, impl_given_e la hp hq hpq, Option.bind_some]
          refine Ev.bind (impl_measures_ev lb) ?_
          refine Ev.bind (impl_measures_ev la) ?_
          exact impl_GiftEffects_l (measuresOf (gave l p q)) (measuresOf l) rfl rfl 0 (Nat.zero_le _) _ rfl (by simp) (fun _ _ _ => rfl)

theorem spec_l1In_e (a b c : Int) : spec_l1In.f a b c = some (wth a b c) := wth_opt a b c

theorem spec_l1All_l (l : List Int) (lo hi : Int) (hl : l.length ≤ 4611686018427387904) : ∀ i, i ≤ l.length → Ev (fun k => spec_l1All.l0 k lo hi l (l.length : Int) (i : Int)) (allW (l.drop i) lo hi) := by
  refine down ?_ ?_
  · refine Ev.succ ?_
    simp only [spec_l1All.l0, nlt (Nat.le_refl l.length), if_false, List.drop_length]
    exact Ev.now _
  · intro i hi ih
    refine Ev.succ ?_
    simp only [spec_l1All.l0, ilt hi, inn, if_true, spec_l1In_e, Option.bind_some, rd_lt hi, wnext hi hl]
    rw [drop_cons hi]
    exact Ev.andS fun _ => ih
theorem spec_l1All_ev (l : List Int) (lo hi : Int) (hl : l.length ≤ 4611686018427387904) : Ev (fun k => spec_l1All.f k l lo hi) (allW l lo hi) := by
  have := spec_l1All_l l lo hi hl 0 (Nat.zero_le _)
  simpa only [spec_l1All.f, List.drop_zero, Int.natCast_zero] using this

theorem spec_liGood_ev (l : List Int) (hl : l.length ≤ 4611686018427387904) : Ev (fun k => spec_liGood.f k l) (goodB l) := by
  simp only [spec_liGood.f, spec_l1In_e, Option.bind_some, goodB]
  exact Ev.andS fun _ => Ev.ret (f := fun t => t) (spec_l1All_ev l 0 60 hl)

theorem spec_liSum_l (l : List Int) (hl : l.length ≤ 4611686018427387904) : ∀ i, i ≤ l.length → ∀ acc, InR acc → Ev (fun k => spec_liSum.l0 k acc l (l.length : Int) (i : Int)) (wrap64 (acc + (l.drop i).sum)) := by
  refine down ?_ ?_
  · intro acc ha
    refine Ev.succ ?_
    simp only [spec_liSum.l0, nlt (Nat.le_refl l.length), if_false, List.drop_length, List.sum_nil, Int.add_zero, wR ha]
    exact Ev.now _
  · intro i hi ih acc ha
    refine Ev.succ ?_
    simp only [spec_liSum.l0, ilt hi, inn, if_true, rd_lt hi, wnext hi hl]
    rw [drop_cons hi, List.sum_cons, ← Int.add_assoc]
    exact (ih _ (inR_wrap _)).eqv (wrap_add _ _)
theorem spec_liSum_ev (l : List Int) (hl : l.length ≤ 4611686018427387904) : Ev (fun k => spec_liSum.f k l) (wrap64 l.sum) := by
  have := spec_liSum_l l hl 0 (Nat.zero_le _) 0 inR_0
  simpa only [spec_liSum.f, List.drop_zero, Int.zero_add, Int.natCast_zero] using this
theorem spec_liSum_good {l : List Int} (h : Lst l) : Ev (fun k => spec_liSum.f k l) l.sum :=
  (spec_liSum_ev l (by have := h.2.1; omega)).eqv (w64 (by have := h.sum; omega) (by have := h.sum; omega))

theorem spec_msSquares_l (l : List Int) (hl : l.length ≤ 1048576) : ∀ i, i ≤ l.length → ∀ acc, InR acc → Ev (fun k => spec_msSquares.l0 k acc l (l.length : Int) (i : Int)) (wrap64 (acc + dot (l.drop i) (l.drop i))) := by
  refine down ?_ ?_
  · intro acc ha
    refine Ev.succ ?_
    simp only [spec_msSquares.l0, nlt (Nat.le_refl l.length), if_false, List.drop_length, dot_nil, Int.add_zero, wR ha]
    exact Ev.now _
  · intro i hi ih acc ha
    refine Ev.succ ?_
    simp only [spec_msSquares.l0, ilt hi, inn, if_true, rd_lt hi, wnext hi (by omega : l.length ≤ 4611686018427387904)]
    rw [drop_cons hi, dot_cons, ← Int.add_assoc]
    refine (ih _ (inR_wrap _)).eqv ?_
    rw [wrap_add, Int.add_right_comm, wrap_add', Int.add_right_comm]
theorem spec_msSquares_ev (l : List Int) (hl : l.length ≤ 1048576) : Ev (fun k => spec_msSquares.f k l) (wrap64 (dot l l)) := by
  have := spec_msSquares_l l hl 0 (Nat.zero_le _) 0 inR_0
  simpa only [spec_msSquares.f, List.drop_zero, Int.zero_add, Int.natCast_zero] using this

theorem spec_msSpread_ev {l : List Int} (h : Lst l) : Ev (fun k => spec_msSpread.f k l) (spreadOf l) := by
  simp only [spec_msSpread.f]
  refine Ev.bind (spec_msSquares_ev l (by have := h.2.1; omega)) ?_
  refine Ev.bind (spec_liSum_good h) ?_
  exact Ev.ret (f := fun t => wrap64 (wrap64 ((l.length : Int) * wrap64 (dot l l)) - wrap64 (l.sum * t))) (spec_liSum_good h)

theorem spec_l1Abs_e (a : Int) : spec_l1Abs.f a = some (max a (wrap64 (-a))) := by
  simp only [spec_l1Abs.f, spec_l1Most_e, Option.bind_some]

theorem spec_msPairs_l1 (l : List Int) (hl : l.length ≤ 1048576) (hb : ∀ x ∈ l, 0 ≤ x ∧ x ≤ 60) (x : Int) (hx : 0 ≤ x ∧ x ≤ 60) (o : Nat) (r : Int) (m : List Int) (hm : ∀ y ∈ m, 0 ≤ y ∧ y ≤ 60) (hml : m.length ≤ 1048576)
    (hk : ∀ acc, InR acc → Ev (fun k => spec_msPairs.l0 k l acc l (l.length : Int) (wrap64 ((o : Int) + 1))) (wrap64 (acc + r))) :
    ∀ i, i ≤ m.length → ∀ acc, InR acc → Ev (fun k => spec_msPairs.l1 k l acc x l (l.length : Int) (o : Int) m (m.length : Int) (i : Int)) (wrap64 (acc + ((m.drop i).map (absd x)).sum + r)) := by
  refine down ?_ ?_
  · intro acc ha
    refine Ev.succ ?_
    simp only [spec_msPairs.l1, nlt (Nat.le_refl m.length), if_false, List.drop_length, List.map_nil, List.sum_nil, Int.add_zero]
    exact hk acc ha
  · intro i hi ih acc ha
    have b := hm _ (List.getElem_mem hi)
    refine Ev.succ ?_
    simp only [spec_msPairs.l1, ilt hi, inn, if_true, rd_lt hi, wnext hi (by omega : m.length ≤ 4611686018427387904), spec_l1Abs_e, Option.bind_some]
    rw [drop_cons hi, List.map_cons, List.sum_cons, ← Int.add_assoc]
    refine (ih _ (inR_wrap _)).eqv ?_
    rw [Int.add_assoc, wrap_add]
    unfold absd
    congr 1
    rw [w64 (x := x - m[i]) (by omega) (by omega), w64 (x := -(x - m[i])) (by omega) (by omega)]
    omega
theorem spec_msPairs_l0 (l : List Int) (hl : l.length ≤ 1048576) (hb : ∀ x ∈ l, 0 ≤ x ∧ x ≤ 60) : ∀ i, i ≤ l.length → ∀ acc, InR acc → Ev (fun k => spec_msPairs.l0 k l acc l (l.length : Int) (i : Int)) (wrap64 (acc + pairsFrom l i)) := by
  refine down ?_ ?_
  · intro acc ha
    refine Ev.succ ?_
    simp only [spec_msPairs.l0, nlt (Nat.le_refl l.length), if_false, pairsFrom, List.drop_length, Nat.sub_self, pairsGo, Int.add_zero, wR ha]
    exact Ev.now _
  · intro i hi ih acc ha
    refine Ev.succ ?_
    simp only [spec_msPairs.l0, ilt hi, inn, if_true, rd_lt hi, ile (Nat.le_of_lt hi), Int.toNat_natCast]
    refine (spec_msPairs_l1 l hl hb l[i] (hb _ (List.getElem_mem hi)) i (pairsFrom l (i + 1)) (l.take i) (fun y hy => hb y (List.mem_of_mem_take hy)) (by simp; omega) (fun acc ha => ?_) 0 (Nat.zero_le _) acc ha).eqv ?_
    · rw [wnext hi (by omega)]
      exact ih acc ha
    · rw [List.drop_zero, pairsFrom_step hi, Int.add_assoc]
theorem spec_msPairs_ev (l : List Int) (h : Lst l) : Ev (fun k => spec_msPairs.f k l) (pairsSum l) := by
  have := spec_msPairs_l0 l (by have := h.2.1; omega) h.2.2 0 (Nat.zero_le _) 0 inR_0
  rw [Int.zero_add] at this
  have hb := pairsSum_bound h
  simp only [spec_msPairs.f]
  exact this.eqv (w64 (by have := hb.1; unfold pairsSum at this; omega) (by have := hb.2; unfold pairsSum at this; omega))

theorem spec_msExcess_l {l : List Int} (h : Lst l) : ∀ i, i ≤ l.length → ∀ acc : Int, 0 ≤ acc → acc ≤ 4611686018427387904 - 4000 * ((l.length - i : Nat) : Int) → Ev (fun k => spec_msExcess.l0 k l acc l (l.length : Int) (i : Int)) (acc + ((l.drop i).map fun x => max 0 (l.length * x - l.sum)).sum) := by
  have hn := h.2.1
  refine down ?_ ?_
  · intro acc ha hb
    refine Ev.succ ?_
    simp only [spec_msExcess.l0, nlt (Nat.le_refl l.length), if_false, List.drop_length, List.map_nil, List.sum_nil, Int.add_zero]
    exact Ev.now _
  · intro i hi ih acc ha hb
    have b := h.get hi
    have s := h.sum
    have hx : 0 ≤ (l.length : Int) * l[i] ∧ (l.length : Int) * l[i] ≤ 480 := by
      have h1 : (l.length : Int) * l[i] ≤ 8 * 60 := Int.mul_le_mul (by omega) b.2 b.1 (by omega)
      exact ⟨Int.mul_nonneg (by omega) b.1, h1⟩
    refine Ev.succ ?_
    simp only [spec_msExcess.l0, ilt hi, inn, if_true, rd_lt hi, wnext hi (by omega : l.length ≤ 4611686018427387904)]
    refine Ev.bind (spec_liSum_good h) ?_
    simp only [spec_l1Most_e, Option.bind_some]
    rw [drop_cons hi, List.map_cons, List.sum_cons, ← Int.add_assoc, w64 (x := (l.length : Int) * l[i]) (by omega) (by omega), w64 (x := (l.length : Int) * l[i] - l.sum) (by omega) (by omega), w64 (x := acc + _) (by omega) (by omega)]
    exact ih _ (by omega) (by omega)
theorem spec_msExcess_ev {l : List Int} (h : Lst l) : Ev (fun k => spec_msExcess.f k l) (excessOf l) := by
  have := spec_msExcess_l h 0 (Nat.zero_le _) 0 (by omega) (by have := h.2.1; omega)
  simpa only [spec_msExcess.f, List.drop_zero, Int.zero_add, Int.natCast_zero, excessOf] using this

theorem spec_l1Own_e (l : List Int) (hl : l.length < 17592186044416) : spec_l1Own.f l = some l := by
  simp only [spec_l1Own.f, Option.bind_some, List.nil_append, List.length_nil, Nat.zero_add, hl, if_true]

theorem spec_liRank_l1 (l : List Int) (x : Int) (i : Nat) (r : List Int) (hr : r.length ≤ 1048576) (hl : l.length ≤ 1048576) (hi : i < l.length) (v : List Int)
    (ih : Ev (fun k => spec_liRank.l0 k (insD x r) l (l.length : Int) ((i + 1 : Nat) : Int)) v) : ∀ p, p ≤ r.length → insD x r = r.take p ++ insD x (r.drop p) → Ev (fun k => spec_liRank.l1 k r x (p : Int) l (l.length : Int) (i : Int)) v := by
  refine down ?_ ?_
  · intro e
    rw [List.take_length, List.drop_length] at e
    refine Ev.succ ?_
    have e2 : (r ++ [x]).length < 17592186044416 := by rw [List.length_append, List.length_singleton]; omega
    have e3 : r.length + 1 < 17592186044416 := by omega
    simp only [spec_liRank.l1, nlt (Nat.le_refl r.length), if_false, inn, ile (Nat.le_refl r.length), if_true, Int.toNat_natCast, List.take_length, List.drop_length, spec_l1Own_e r (by omega), Option.bind_some, List.length_singleton, List.length_append, List.length_nil, Nat.add_zero, e3, List.append_nil, wnext hi (by omega : l.length ≤ 4611686018427387904)]
    have e' : insD x r = r ++ [x] := e
    rw [← e']; exact ih
  · intro p hp ihp e
    refine Ev.succ ?_
    have e1 : r.drop p = r[p] :: r.drop (p + 1) := drop_cons hp
    by_cases c : r[p] ≥ x
    · simp only [spec_liRank.l1, ilt hp, inn, if_true, rd_lt hp, c, wnext hp (by omega : r.length ≤ 4611686018427387904)]
      refine ihp ?_
      rw [e, e1]
      simp only [insD, c, if_true]
      rw [List.take_succ_eq_append_getElem hp, List.append_assoc, List.singleton_append]
    · have h1 : (r.take p).length = p := by rw [List.length_take]; omega
      have h2 : (r.drop p).length = r.length - p := List.length_drop
      have e2 : p + 1 < 17592186044416 := by omega
      have e3 : p + 1 + (r.length - p) < 17592186044416 := by omega
      simp only [spec_liRank.l1, ilt hp, ile (Nat.le_of_lt hp), inn, if_true, rd_lt hp, c, if_false, Int.toNat_natCast, spec_l1Own_e (r.take p) (by omega), Option.bind_some, List.length_singleton, List.length_append, h1, h2, e2, e3, wnext hi (by omega : l.length ≤ 4611686018427387904)]
      have e' : insD x r = r.take p ++ [x] ++ r.drop p := by
        rw [e, e1]
        simp only [insD, c, if_false]
        rw [List.append_assoc, List.singleton_append]
      rw [← e']; exact ih
theorem spec_liRank_l0 (l : List Int) (hl : l.length ≤ 1048576) : ∀ i, i ≤ l.length → ∀ r : List Int, r.length = i → Ev (fun k => spec_liRank.l0 k r l (l.length : Int) (i : Int)) (rankFrom r (l.drop i)) := by
  refine down ?_ ?_
  · intro r hr
    refine Ev.succ ?_
    simp only [spec_liRank.l0, nlt (Nat.le_refl l.length), if_false, List.drop_length]
    exact Ev.now _
  · intro i hi ih r hr
    refine Ev.succ ?_
    simp only [spec_liRank.l0, ilt hi, inn, if_true, rd_lt hi]
    rw [drop_cons hi]
    exact spec_liRank_l1 l l[i] i r (by omega) hl hi _ (ih (insD l[i] r) (by rw [insD_length, hr])) 0 (Nat.zero_le _) (by rw [List.take_zero, List.drop_zero, List.nil_append])
theorem spec_liRank_ev (l : List Int) (hl : l.length ≤ 1048576) : Ev (fun k => spec_liRank.f k l) (rankD l) := by
  have := spec_liRank_l0 l hl 0 (Nat.zero_le _) [] rfl
  rwa [List.drop_zero] at this

theorem spec_msRange_ev {l : List Int} (h : Lst l) : Ev (fun k => spec_msRange.f k l) (mostOf l - lowOf l) := by
  simp only [spec_msRange.f]
  have h1 := h.1
  have h2 := h.2.1
  refine Ev.bind (spec_liRank_ev l (by omega)) ?_
  have a := h.2.2 _ (mostOf_mem (by omega : 0 < l.length))
  have b := h.2.2 _ (lowOf_mem (by omega : 0 < l.length))
  have e0 : wrap64 ((l.length : Int) - 1) = ((l.length - 1 : Nat) : Int) := by rw [w64 (by omega) (by omega)]; omega
  have e1 : rd (rankD l) 0 = mostOf l := (rd_get _ 0).trans (rankD_first (by omega))
  simp only [rankD_length, e0, e1, rd_get, rankD_last (by omega : 0 < l.length), inn, ilt (by omega : l.length - 1 < l.length), if_true, eq_true (by omega : 0 < (l.length : Int)), w64 (by omega : -9223372036854775808 ≤ mostOf l - lowOf l) (by omega)]
  exact Ev.now _

theorem spec_GiftEffects_ev (l : List Int) (i j : Int) (hl : l.length ≤ 1048576) : Ev (fun k => spec_GiftEffects.f k l i j) (giftE l i j) := by
  simp only [spec_GiftEffects.f]
  have off : giftB l i j = false → Ev (fun k => spec_GiftEffects.j0 k l i j true) (giftE l i j) := by
    intro h
    have e : giftE l i j = ([], false) := by unfold giftE; rw [h]; rfl
    rw [e]
    refine Ev.succ ?_
    simp only [spec_GiftEffects.j0, if_true]
    exact Ev.now _
  refine Ev.bind (spec_liGood_ev l (by omega)) ?_
  cases h1 : goodB l with
  | false => simp only [Bool.false_eq_true, if_false]; exact off (by unfold giftB; rw [h1]; rfl)
  | true =>
    have la := goodB_iff.1 h1
    have l8 := la.2.1
    have w1 : wrap64 ((l.length : Int) - 1) = (l.length : Int) - 1 := w64 (by omega) (by omega)
    simp only [if_true, spec_l1In_e, Option.bind_some, w1]
    cases h2 : wth i 0 ((l.length : Int) - 1) with
    | false => simp only [Bool.false_eq_true, if_false]; exact off (by unfold giftB; rw [h1, h2]; rfl)
    | true =>
      simp only [if_true]
      cases h3 : wth j 0 ((l.length : Int) - 1) with
      | false => simp only [Bool.false_eq_true, if_false]; exact off (by unfold giftB; rw [h1, h2, h3]; rfl)
      | true =>
        simp only [if_true]
        have b2 := wth_iff.1 h2
        have b3 := wth_iff.1 h3
        obtain ⟨p, rfl⟩ := Int.eq_ofNat_of_zero_le b2.1
        obtain ⟨q, rfl⟩ := Int.eq_ofNat_of_zero_le b3.1
        have hp : p < l.length := by omega
        have hq : q < l.length := by omega
        by_cases e : p = q
        · have e2 : ((p : Nat) : Int) = ((q : Nat) : Int) := by rw [e]
          simp only [e2, if_true]
          have := off (by
            unfold giftB
            rw [h1, h2, h3, e2]
            simp)
          rw [e2] at this
          exact this
        · have e2 : ¬ ((p : Nat) : Int) = ((q : Nat) : Int) := by omega
          have ep : l.getD p 0 = l[p] := by simp [List.getD_eq_getElem?_getD, hp]
          have eq : l.getD q 0 = l[q] := by simp [List.getD_eq_getElem?_getD, hq]
          have bp := la.get hp
          have bq := la.get hq
          simp only [e2, if_false, inn, ilt hp, ilt hq, if_true, rd_get, w64 (x := l.getD q 0 + 2) (by omega) (by omega)]
          by_cases c : l.getD p 0 < l.getD q 0 + 2
          · simp only [decide_eq_true c]
            refine off ?_
            unfold giftB
            rw [h1, h2, h3, Int.toNat_natCast, Int.toNat_natCast, decide_eq_false (by omega)]
            rfl
          · have hg : l.getD p 0 - l.getD q 0 ≥ 2 := by omega
            have hb : giftB l (p : Int) (q : Int) = true := by
              unfold giftB
              rw [h1, h2, h3, Int.toNat_natCast, Int.toNat_natCast, decide_eq_true hg]
              rfl
            have ev : giftE l (p : Int) (q : Int) = (giftV l p q, true) := by unfold giftE; rw [hb]; rfl
            have lb := gave_lst la hp hq hg
            rw [ev]
            simp only [decide_eq_false c]
            refine Ev.succ ?_
            simp only [spec_GiftEffects.j0, Bool.false_eq_true, if_false, spec_l1Own_e l (by omega), Option.bind_some, inn, ilt hp, ilt hq, if_true, rd_get, Int.toNat_natCast, gave_made la hp hq e]
            refine Ev.bind (spec_msSpread_ev lb) ?_
            refine Ev.bind (spec_msSpread_ev la) ?_
            refine Ev.bind (spec_msPairs_ev _ lb) ?_
            refine Ev.bind (spec_msPairs_ev _ la) ?_
            refine Ev.bind (spec_msRange_ev lb) ?_
            refine Ev.bind (spec_msRange_ev la) ?_
            refine Ev.bind (spec_msExcess_ev lb) ?_
            refine Ev.bind (spec_msExcess_ev la) ?_
            exact Ev.now _

theorem impl_isGift_yes {l : List Int} (h : Lst l) {p q : Nat} (hp : p < l.length) (hq : q < l.length) (hpq : p ≠ q) : impl_isGift.f l (p : Int) (q : Int) 1 = some true := by
  have h8 := h.2.1
  have w1 : wrap64 ((l.length : Int) - 1) = (l.length : Int) - 1 := w64 (by omega) (by omega)
  have e1 : wth (p : Int) 0 ((l.length : Int) - 1) = true := wth_iff.2 (by omega)
  have e2 : wth (q : Int) 0 ((l.length : Int) - 1) = true := wth_iff.2 (by omega)
  have e3 : ¬ ((p : Int) = (q : Int)) := by omega
  simp only [impl_isGift.f, w1, impl_within_e, Option.bind_some, e1, e2, if_true, e3, if_false]
  rfl

theorem impl_canGive_yes {l : List Int} (h : Lst l) {p q : Nat} (hp : p < l.length) (hq : q < l.length) (hg : l.getD p 0 - l.getD q 0 ≥ 2) : impl_canGive.f l (p : Int) (q : Int) 1 = some true := by
  have ep : l.getD p 0 = l[p] := by simp [List.getD_eq_getElem?_getD, hp]
  have eq : l.getD q 0 = l[q] := by simp [List.getD_eq_getElem?_getD, hq]
  have bp := h.get hp
  have bq := h.get hq
  have hpq : p ≠ q := by rintro rfl; omega
  have c : (1 : Int) ≤ l.getD p 0 := by omega
  have d : (1 : Int) ≤ 60 - l.getD q 0 := by omega
  simp only [impl_canGive.f, impl_isGift_yes h hp hq hpq, Option.bind_some, if_true, inn, ilt hp, ilt hq, rd_get, Int.toNat_natCast, c, w64 (x := 60 - l.getD q 0) (by omega) (by omega), d, decide_true]

theorem impl_DoGift_yes {l : List Int} (h : Lst l) {p q : Nat} (hp : p < l.length) (hq : q < l.length) (hg : l.getD p 0 - l.getD q 0 ≥ 2) : Ev (fun k => impl_DoGift.f k l (p : Int) (q : Int) 1) (gave l p q, true) := by
  have hpq : p ≠ q := by rintro rfl; omega
  have h8 := h.2.1
  simp only [impl_DoGift.f, impl_canGive_yes h hp hq hg, impl_given_e h hp hq hpq, Option.bind_some, if_true]
  refine Ev.bind (impl_IsList_ev l (by omega)) ?_
  rw [goodB_iff.2 h]
  simp only [if_true]
  exact Ev.now _

theorem map_set (f : Int → Int) : ∀ (l : List Int) (i : Nat) (v : Int), i < l.length → ((l.set i v).map f).sum = (l.map f).sum - f (l.getD i 0) + f v
  | [], _, _, h => absurd h (by simp)
  | x :: l, 0, v, _ => by simp only [List.set_cons_zero, List.map_cons, List.sum_cons, List.getD_cons_zero]; omega
  | x :: l, i + 1, v, h => by
    have := map_set f l i v (by simpa using h)
    simp only [List.set_cons_succ, List.map_cons, List.sum_cons, List.getD_cons_succ]; omega
theorem map_gave (f : Int → Int) {l : List Int} {p q : Nat} (hp : p < l.length) (hq : q < l.length) (hpq : p ≠ q) : ((gave l p q).map f).sum = (l.map f).sum - f (l.getD p 0) - f (l.getD q 0) + f (l.getD p 0 - 1) + f (l.getD q 0 + 1) := by
  unfold gave
  rw [map_set f _ q _ (by rw [List.length_set]; exact hq), map_set f l p _ hp, set_getD_ne hpq]
  omega
theorem gave_sum {l : List Int} {p q : Nat} (hp : p < l.length) (hq : q < l.length) (hpq : p ≠ q) : (gave l p q).sum = l.sum := by
  have := map_gave id hp hq hpq
  simp only [List.map_id, id] at this
  omega
theorem dot_sq : ∀ l : List Int, dot l l = (l.map fun x => x * x).sum
  | [] => rfl
  | x :: l => by rw [dot_cons, dot_sq l]; rfl
theorem gave_dot {l : List Int} {p q : Nat} (hp : p < l.length) (hq : q < l.length) (hpq : p ≠ q) (hg : l.getD p 0 - l.getD q 0 ≥ 2) : dot (gave l p q) (gave l p q) ≤ dot l l - 2 := by
  rw [dot_sq, dot_sq, map_gave _ hp hq hpq]
  have e1 : (l.getD p 0 - 1) * (l.getD p 0 - 1) = l.getD p 0 * l.getD p 0 - 2 * l.getD p 0 + 1 := by rw [Int.sub_mul, Int.mul_sub]; omega
  have e2 : (l.getD q 0 + 1) * (l.getD q 0 + 1) = l.getD q 0 * l.getD q 0 + 2 * l.getD q 0 + 1 := by rw [Int.add_mul, Int.mul_add]; omega
  rw [e1, e2]
  omega
theorem spreadOf_is {l : List Int} (h : Lst l) : spreadOf l = (l.length : Int) * dot l l - l.sum * l.sum := by
  have d := dot_self_bound l h.2.2
  have s := h.sum
  have h1 := h.2.1
  have p1 : l.sum * l.sum ≤ 480 * 480 := Int.mul_le_mul s.2 s.2 s.1 (by omega)
  have p0 : 0 ≤ l.sum * l.sum := Int.mul_nonneg s.1 s.1
  have q1 : (l.length : Int) * dot l l ≤ 8 * 28800 := Int.mul_le_mul (by omega) (by omega) d.1 (by omega)
  have q0 : 0 ≤ (l.length : Int) * dot l l := Int.mul_nonneg (by omega) d.1
  unfold spreadOf
  rw [w64 (x := dot l l) (by omega) (by omega), w64 (x := l.sum * l.sum) (by omega) (by omega), w64 (x := (l.length : Int) * dot l l) (by omega) (by omega), w64 (by omega) (by omega)]
theorem gave_spread {l : List Int} (h : Lst l) {p q : Nat} (hp : p < l.length) (hq : q < l.length) (hg : l.getD p 0 - l.getD q 0 ≥ 2) : spreadOf (gave l p q) < spreadOf l := by
  have hpq : p ≠ q := by rintro rfl; omega
  rw [spreadOf_is h, spreadOf_is (gave_lst h hp hq hg), gave_len, gave_sum hp hq hpq]
  have := Int.mul_le_mul_of_nonneg_left (gave_dot hp hq hpq hg) (by omega : 0 ≤ (l.length : Int))
  rw [Int.mul_sub] at this
  have := h.1
  omega
theorem sum_le_sum {f g : Int → Int} : ∀ {l : List Int}, (∀ x ∈ l, f x ≤ g x) → (l.map f).sum ≤ (l.map g).sum
  | [], _ => by simp
  | x :: l, h => by
    have := sum_le_sum (l := l) fun y hy => h y (List.mem_cons_of_mem _ hy)
    have := h x (List.mem_cons_self ..)
    simp only [List.map_cons, List.sum_cons]; omega
theorem gave_exc {l : List Int} {p q : Nat} (hp : p < l.length) (hq : q < l.length) (hg : l.getD p 0 - l.getD q 0 ≥ 2) (t : Int) : exc (gave l p q) t ≤ exc l t := by
  have hpq : p ≠ q := by rintro rfl; omega
  unfold exc
  rw [map_gave _ hp hq hpq]
  omega
theorem gave_maj {l : List Int} (h : Lst l) {p q : Nat} (hp : p < l.length) (hq : q < l.length) (hg : l.getD p 0 - l.getD q 0 ≥ 2) : majB (gave l p q) l = true := by
  have hpq : p ≠ q := by rintro rfl; omega
  unfold majB
  rw [Bool.and_eq_true, Bool.and_eq_true, decide_eq_true_eq, decide_eq_true_eq, subB_exc h (gave_len l p q)]
  exact ⟨gave_len l p q, gave_sum hp hq hpq, fun t _ => gave_exc hp hq hg t⟩
theorem gave_excess {l : List Int} {p q : Nat} (hp : p < l.length) (hq : q < l.length) (hg : l.getD p 0 - l.getD q 0 ≥ 2) : excessOf (gave l p q) ≤ excessOf l := by
  have hpq : p ≠ q := by rintro rfl; omega
  unfold excessOf
  rw [map_gave _ hp hq hpq, gave_len, gave_sum hp hq hpq, Int.mul_sub, Int.mul_add, Int.mul_one]
  have := Int.mul_le_mul_of_nonneg_left (by omega : l.getD q 0 + 2 ≤ l.getD p 0) (by omega : 0 ≤ (l.length : Int))
  rw [Int.mul_add] at this
  generalize (l.length : Int) * l.getD p 0 = X at *
  generalize (l.length : Int) * l.getD q 0 = Y at *
  omega
theorem gave_mem {l : List Int} {p q : Nat} {x : Int} (hx : x ∈ gave l p q) : x ∈ l ∨ x = l.getD p 0 - 1 ∨ x = l.getD q 0 + 1 := by
  unfold gave at hx
  rcases List.mem_or_eq_of_mem_set hx with hx | e
  · rcases List.mem_or_eq_of_mem_set hx with hx | e
    · exact .inl hx
    · exact .inr (.inl e)
  · exact .inr (.inr e)
theorem getD_mem {l : List Int} {p : Nat} (hp : p < l.length) : l.getD p 0 ∈ l := by
  rw [List.getD_eq_getElem?_getD, List.getElem?_eq_getElem hp]; exact List.getElem_mem hp
theorem gave_range {l : List Int} (h : Lst l) {p q : Nat} (hp : p < l.length) (hq : q < l.length) (hg : l.getD p 0 - l.getD q 0 ≥ 2) : mostOf (gave l p q) - lowOf (gave l p q) ≤ mostOf l - lowOf l := by
  have h0 : 0 < l.length := by omega
  have g0 : 0 < (gave l p q).length := by rw [gave_len]; exact h0
  have a1 := mostOf_le h0 (getD_mem hp)
  have a2 := lowOf_le h0 (getD_mem hq)
  have b1 : mostOf (gave l p q) ≤ mostOf l := by
    rcases gave_mem (mostOf_mem g0) with e | e | e
    · exact mostOf_le h0 e
    · omega
    · omega
  have b2 : lowOf l ≤ lowOf (gave l p q) := by
    rcases gave_mem (lowOf_mem g0) with e | e | e
    · exact lowOf_le h0 e
    · omega
    · omega
  omega
/-- All differences, each pair twice. -/
def alld (l m : List Int) : Int := (l.map fun x => (m.map (absd x)).sum).sum
theorem alld_nil (m : List Int) : alld [] m = 0 := rfl
theorem alld_cons (x : Int) (l m : List Int) : alld (x :: l) m = (m.map (absd x)).sum + alld l m := rfl
theorem absd_comm (x y : Int) : absd x y = absd y x := by unfold absd; omega
theorem alld_right (y : Int) : ∀ l m : List Int, alld l (y :: m) = (l.map (absd y)).sum + alld l m
  | [], _ => rfl
  | x :: l, m => by
    rw [alld_cons, alld_cons, alld_right y l m]
    simp only [List.map_cons, List.sum_cons]
    rw [absd_comm x y]
    omega
theorem pairsGo_app (x : Int) (l : List Int) : ∀ d i, i + d ≤ l.length → pairsGo (l ++ [x]) i d = pairsGo l i d
  | 0, _, _ => rfl
  | d + 1, i, h => by
    have hi : i < l.length := by omega
    have e : (l ++ [x]).getD i 0 = l.getD i 0 := by rw [List.getD_eq_getElem?_getD, List.getD_eq_getElem?_getD, List.getElem?_append_left hi]
    rw [pairsGo, pairsGo, pairsGo_app x l d (i + 1) (by omega), List.take_append_of_le_length (by omega), e]
theorem pairsGo_last (l : List Int) : ∀ d i, pairsGo l i (d + 1) = pairsGo l i d + ((l.take (i + d)).map (absd (l.getD (i + d) 0))).sum
  | 0, i => by simp [pairsGo]
  | d + 1, i => by
    rw [pairsGo, pairsGo_last l d (i + 1), pairsGo, show i + 1 + d = i + (d + 1) by omega]
    omega
theorem pairsSum_app (x : Int) (l : List Int) : pairsSum (l ++ [x]) = pairsSum l + (l.map (absd x)).sum := by
  unfold pairsSum pairsFrom
  rw [Nat.sub_zero, Nat.sub_zero, List.length_append, List.length_singleton, pairsGo_last, pairsGo_app x l _ _ (by omega), Nat.zero_add, List.take_left', List.getD_eq_getElem?_getD]
  · simp
  · rfl
theorem alld_app (x : Int) : ∀ l m : List Int, alld (l ++ [x]) m = alld l m + (m.map (absd x)).sum
  | [], m => by simp [alld]
  | y :: l, m => by
    rw [List.cons_append, alld_cons, alld_cons, alld_app x l m]; omega
theorem alld_rapp (x : Int) : ∀ l m : List Int, alld l (m ++ [x]) = alld l m + (l.map (absd x)).sum
  | [], m => by simp [alld]
  | y :: l, m => by
    rw [alld_cons, alld_cons, alld_rapp x l m]
    simp only [List.map_cons, List.sum_cons, List.map_append, List.sum_append, List.map_nil, List.sum_nil]
    rw [absd_comm x y]
    omega
theorem pairs_twice (l : List Int) : ∀ n, n ≤ l.length → 2 * pairsSum (l.take n) = alld (l.take n) (l.take n)
  | 0, _ => by simp [alld, pairsSum, pairsFrom, pairsGo]
  | n + 1, h => by
    have ih := pairs_twice l n (by omega)
    rw [List.take_succ_eq_append_getElem (by omega), pairsSum_app, alld_app, alld_rapp]
    simp only [List.map_append, List.sum_append, List.map_cons, List.sum_cons, List.map_nil, List.sum_nil]
    have : absd l[n] l[n] = 0 := by unfold absd; omega
    omega
theorem pairs_two (l : List Int) : 2 * pairsSum l = alld l l := by
  have := pairs_twice l l.length (Nat.le_refl _)
  rwa [List.take_length] at this
theorem alld_comm : ∀ l m : List Int, alld l m = alld m l
  | [], m => by
    rw [alld_nil]
    induction m with
    | nil => rfl
    | cons y m ih => rw [alld_cons, ← ih]; rfl
  | x :: l, m => by rw [alld_cons, alld_right, alld_comm l m]
theorem gave_far {l : List Int} {p q : Nat} (hp : p < l.length) (hq : q < l.length) (hpq : p ≠ q) (hg : l.getD p 0 - l.getD q 0 ≥ 2) (z : Int) : ((gave l p q).map (absd z)).sum ≤ (l.map (absd z)).sum := by
  rw [map_gave _ hp hq hpq]
  unfold absd
  omega
theorem alld_le {m m' : List Int} (h : ∀ z, (m'.map (absd z)).sum ≤ (m.map (absd z)).sum) (l : List Int) : alld l m' ≤ alld l m := sum_le_sum fun x _ => h x
theorem gave_pairs {l : List Int} {p q : Nat} (hp : p < l.length) (hq : q < l.length) (hg : l.getD p 0 - l.getD q 0 ≥ 2) : pairsSum (gave l p q) < pairsSum l := by
  have hpq : p ≠ q := by rintro rfl; omega
  have h1 := alld_le (gave_far hp hq hpq hg) l
  rw [alld_comm l] at h1
  have h2 : alld (gave l p q) (gave l p q) < alld (gave l p q) l := by
    unfold alld
    have e := map_gave (fun x => ((gave l p q).map (absd x)).sum) hp hq hpq
    have e' := map_gave (fun x => (l.map (absd x)).sum) hp hq hpq
    have : ∀ x, ((gave l p q).map (absd x)).sum + (absd x (l.getD p 0) + absd x (l.getD q 0) - absd x (l.getD p 0 - 1) - absd x (l.getD q 0 + 1)) = (l.map (absd x)).sum := fun x => by rw [map_gave _ hp hq hpq]; omega
    have hm : l.getD q 0 + 1 ∈ gave l p q := by
      unfold gave
      exact List.mem_iff_getElem.2 ⟨q, by simpa using hq, by simp⟩
    obtain ⟨s, t, hst⟩ := List.append_of_mem hm
    rw [hst] at this ⊢
    simp only [List.map_append, List.sum_append, List.map_cons, List.sum_cons] at this ⊢
    have a1 : ∀ r : List Int, (r.map fun x => (s.map (absd x)).sum + (absd x (l.getD q 0 + 1) + (t.map (absd x)).sum)).sum ≤ (r.map fun x => (l.map (absd x)).sum).sum := fun r => sum_le_sum fun x _ => by
      have := this x
      unfold absd at this ⊢
      omega
    have b1 := a1 s
    have b2 := a1 t
    have b3 := this (l.getD q 0 + 1)
    have b4 : absd (l.getD q 0 + 1) (l.getD p 0) + absd (l.getD q 0 + 1) (l.getD q 0) - absd (l.getD q 0 + 1) (l.getD p 0 - 1) - absd (l.getD q 0 + 1) (l.getD q 0 + 1) = 2 := by unfold absd; omega
    omega
  have e1 := pairs_two l
  have e2 := pairs_two (gave l p q)
  omega
theorem FnGiftEffects_l (x : List Int) (hx : x.length = 4) (hn : ∀ i, i < 4 → x.getD i 0 ≤ 0) (h0 : x.getD 0 0 < 0) (h1 : x.getD 1 0 < 0) (u v : Int) (he : x.getD 0 0 = wrap64 (v - u)) : ∀ i, i ≤ x.length → Ev (fun k => laws_FnGiftEffects.l0 k x true true true u true v true x (x.length : Int) (i : Int)) true := by
  refine down ?_ ?_
  · refine Ev.succ ?_
    have r0 : rd x 0 = x.getD 0 0 := rd_get x 0
    have r1 : rd x 1 = x.getD 1 0 := rd_get x 1
    simp only [laws_FnGiftEffects.l0, nlt (Nat.le_refl x.length), if_false, if_true, r0, r1, ← he, h0, h1, decide_true, eq_true (by omega : (0 : Int) < (x.length : Int)), eq_true (by omega : (1 : Int) < (x.length : Int))]
    exact Ev.now _
  · intro i hi ih
    refine Ev.succ ?_
    have c : ¬ (x.getD i 0 > 0) := by have := hn i (by omega); omega
    simp only [laws_FnGiftEffects.l0, ilt hi, inn, if_true, rd_get, Int.toNat_natCast, c, if_false, wnext hi (by omega : x.length ≤ 4611686018427387904)]
    exact ih
theorem FnGiftEffects : laws_FnGiftEffects.Pure := by
  intro a b hma hsa hwa hmb hsb hwb
  refine Ev.rounds ?_
  have hc := Bts.of hsa hwa
  have hd := Bts.of hsb hwb
  simp only [laws_FnGiftEffects.f]
  obtain ⟨t, ht⟩ := laws_big_x a b
  rw [ht]
  simp only [Option.bind_some]
  by_cases h0 : t = true
  · simp only [h0, if_true]; exact Ev.now _
  · simp only [h0, if_false]
    refine Ex.ev (spec_DrawGiftEffects_x hc) fun r hr => ?_
    obtain ⟨x, i, j⟩ := r
    have hx : x.length ≤ 1048576 := by have := hr; show x.length ≤ _; simp only at this; omega
    simp only
    refine Ev.bind (impl_GiftEffects_ev x i j hx) ?_
    refine Ev.bind (spec_GiftEffects_ev x i j hx) ?_
    simp only [bne_self_eq_false, Bool.false_eq_true, if_false]
    have hl := giftE_len x i j
    refine Ev.bind (laws_ySame_ev _ _ (by omega)) ?_
    simp only [decide_true, Bool.not_true]
    refine Ev.succ ?_
    simp only [laws_FnGiftEffects.j0, Bool.false_eq_true, if_false]
    cases hb : giftB x i j with
    | false =>
      have e : giftE x i j = ([], false) := by unfold giftE; rw [hb]; rfl
      rw [e]
      simp only [Bool.false_eq_true, if_false]
      exact Ev.now _
    | true =>
      obtain ⟨p, q, rfl, rfl, la, hp, hq, hpq, hg⟩ := giftB_parts hb
      have e : giftE x (p : Int) (q : Int) = (giftV x p q, true) := by unfold giftE; rw [hb]; rfl
      rw [e]
      have lb := gave_lst la hp hq hg
      have b8 := lb.2.1
      simp only [if_true]
      refine Ev.bind (impl_DoGift_yes la hp hq hg) ?_
      refine Ev.bind (impl_IsMajorized_ev (gave x p q) x (by omega) hx) ?_
      refine Ev.bind (impl_SpreadOf_ev x (by omega)) ?_
      refine Ev.bind (impl_SpreadOf_ev (gave x p q) (by omega)) ?_
      rw [goodB_iff.2 la, goodB_iff.2 lb, gave_maj la hp hq hg]
      simp only [Bool.and_self, if_true]
      have s0 := gave_spread la hp hq hg
      have s1 := spreadOf_bound la
      have s2 := spreadOf_bound lb
      have p0 := gave_pairs hp hq hg
      have p1 := pairsSum_bound la
      have p2 := pairsSum_bound lb
      have r0 := gave_range la hp hq hg
      have m1 := la.most
      have m2 := lb.most
      have n1 := la.low
      have n2 := lb.low
      have x0 := gave_excess hp hq hg
      have x1 := excessOf_bound la
      have x2 := excessOf_bound lb
      have v0 : (giftV x p q).getD 0 0 = spreadOf (gave x p q) - spreadOf x := w64 (by omega) (by omega)
      have v1 : (giftV x p q).getD 1 0 = pairsSum (gave x p q) - pairsSum x := w64 (by omega) (by omega)
      have v2 : (giftV x p q).getD 2 0 = (mostOf (gave x p q) - lowOf (gave x p q)) - (mostOf x - lowOf x) := w64 (by omega) (by omega)
      have v3 : (giftV x p q).getD 3 0 = excessOf (gave x p q) - excessOf x := w64 (by omega) (by omega)
      refine FnGiftEffects_l (giftV x p q) rfl (fun i hi => ?_) (by omega) (by omega) _ _ (by rfl) 0 (Nat.zero_le _)
      match i, hi with
      | 0, _ => omega
      | 1, _ => omega
      | 2, _ => omega
      | 3, _ => omega

end Go.Proofs.Ytclnfaclfplpmaa.Pure
