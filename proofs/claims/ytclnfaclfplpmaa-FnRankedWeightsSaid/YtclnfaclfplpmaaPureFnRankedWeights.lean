/- Weighted rankings do not rise with gifts, and a list that is not more even has weights that refuse it; the printed functions' own bounds on lengths are the only conditions. -/
import Derived.Test.YtclnfaclfplpmaaPFnRankedWeightsx12
import Derived.Test.YtclnfaclfplpmaaMathFnRankedWeights
namespace Go.Proofs.Ytclnfaclfplpmaa.Pure
open Go.RowKit Go.Proofs.Ytclnfaclfplpmaa.PFnRankedWeights Go.Proofs.YtclnfaclfplpmaaW.PrintWords Go.Proofs.YtclnfaclfplpmaaW.PrintLast Go.Proofs.YtclnfaclfplpmaaW.PrintMore Go.Proofs.Ytclnfaclfplpmaa.Math
set_option linter.unusedVariables false
set_option linter.unusedSimpArgs false
set_option linter.unusedSectionVars false

theorem laws_big_x (a b : List Int) : ∃ t, laws_big.f a b = some t := by
  unfold laws_big.f
  by_cases c : (a.length : Int) > 1048576
  · rw [if_pos c]; exact ⟨_, rfl⟩
  · rw [if_neg c]; exact ⟨_, rfl⟩

theorem laws_ySame_l (l m : List Int) (he : m.length = l.length) (hl : l.length ≤ 4611686018427387904) : ∀ i, i ≤ l.length → Ev (fun k => laws_ySame.l0 k l m (l.length : Int) (i : Int)) (decide (l.drop i = m.drop i)) := by
  refine down ?_ ?_
  · refine Ev.succ ?_
    simp only [laws_ySame.l0, nlt (Nat.le_refl l.length), if_false, List.drop_length]
    rw [← he, List.drop_length]
    exact Ev.now _
  · intro i hi ih
    refine Ev.succ ?_
    simp only [laws_ySame.l0, ilt hi, inn, if_true, he, rd_lt hi, rd_lt (he ▸ hi : i < m.length), wnext hi hl]
    rw [drop_cons hi, drop_cons (he ▸ hi : i < m.length)]
    by_cases hx : l[i] = m[i]
    · simp only [hx, if_true, List.cons.injEq, true_and]
      exact ih
    · simp only [hx, if_false, List.cons.injEq, false_and, decide_false]
      exact Ev.now _
theorem laws_ySame_ev (l m : List Int) (hl : l.length ≤ 4611686018427387904) : Ev (fun k => laws_ySame.f k l m) (decide (l = m)) := by
  simp only [laws_ySame.f]
  by_cases he : (l.length : Int) = (m.length : Int)
  · simp only [he, if_true]
    have := laws_ySame_l l m (by omega) hl 0 (Nat.zero_le _)
    rw [he] at this
    exact this
  · simp only [he, if_false]
    rw [decide_eq_false (fun h => he (by rw [h]))]
    exact Ev.now _

theorem impl_within_e (a b c : Int) : impl_within.f a b c = some (wth a b c) := wth_opt a b c

theorem impl_allWithin_l (l : List Int) (lo hi : Int) (hl : l.length ≤ 4611686018427387904) : ∀ i, i ≤ l.length → Ev (fun k => impl_allWithin.l0 k lo hi l (l.length : Int) (i : Int)) (allW (l.drop i) lo hi) := by
  refine down ?_ ?_
  · refine Ev.succ ?_
    simp only [impl_allWithin.l0, nlt (Nat.le_refl l.length), if_false, List.drop_length]
    exact Ev.now _
  · intro i hi ih
    refine Ev.succ ?_
    simp only [impl_allWithin.l0, ilt hi, inn, if_true, impl_within_e, Option.bind_some, rd_lt hi, wnext hi hl]
    rw [drop_cons hi]
    exact Ev.andS fun _ => ih
theorem impl_allWithin_ev (l : List Int) (lo hi : Int) (hl : l.length ≤ 4611686018427387904) : Ev (fun k => impl_allWithin.f k l lo hi) (allW l lo hi) := by
  have := impl_allWithin_l l lo hi hl 0 (Nat.zero_le _)
  simpa only [impl_allWithin.f, List.drop_zero, Int.natCast_zero] using this

theorem impl_IsList_ev (l : List Int) (hl : l.length ≤ 4611686018427387904) : Ev (fun k => impl_IsList.f k l) (goodB l) := by
  simp only [impl_IsList.f, impl_within_e, Option.bind_some, goodB]
  exact Ev.andS fun _ => Ev.ret (f := fun t => t) (impl_allWithin_ev l 0 60 hl)

theorem impl_areLists_ev (a b : List Int) (ha : a.length ≤ 1048576) (hb : b.length ≤ 1048576) : Ev (fun k => impl_areLists.f k a b) (goodB a && goodB b) := by
  simp only [impl_areLists.f]
  exact Ev.and (impl_IsList_ev a (by omega)) fun h => Ev.ret (f := fun t => t) (impl_IsList_ev b (by omega))

theorem slices_Clone_int_int_e (l : List Int) (hl : l.length < 17592186044416) : slices_Clone_int_int.f l = some l := by
  simp only [slices_Clone_int_int.f, Option.bind_some, List.nil_append, List.length_nil, Nat.zero_add, hl, if_true]

theorem impl_ranking_1_e (x y : Int) : impl_ranking_1.f x y = some (wrap64 (y - x)) := rfl

def Bnd (l : List Int) : Prop := ∀ x ∈ l, -1000000 ≤ x ∧ x ≤ 1000000
theorem slices_insertionSortCmpFunc_int_l1 (x : Int) (hx : -1000000 ≤ x ∧ x ≤ 1000000) (R : List Int) (n i : Nat) (v : List Int) : ∀ (m : Nat) (P Q : List Int), P.length = m → m ≤ 1048576 → Bnd P → Desc (P ++ Q) → (∀ y ∈ Q, y < x) →
    Ev (fun k => slices_insertionSortCmpFunc_int.l0 k (insD x (P ++ Q) ++ R) 0 (n : Int) (wrap64 ((i : Int) + 1))) v → Ev (fun k => slices_insertionSortCmpFunc_int.l1 k (P ++ x :: (Q ++ R)) 0 (n : Int) (i : Int) (m : Int)) v
  | 0, P, Q, hP, _, _, _, hQ, hv => by
    have e : P = [] := List.eq_nil_of_length_eq_zero hP
    subst e
    refine Ev.succ ?_
    have c : ¬ ((0 : Nat) : Int) > 0 := by omega
    rw [insD_split x [] Q (fun y hy => absurd hy List.not_mem_nil) hQ] at hv
    simp only [slices_insertionSortCmpFunc_int.l1, c, if_false]
    exact hv
  | m + 1, P, Q, hP, hm, hb, hd, hQ, hv => by
    have hne : P ≠ [] := fun e => by rw [e] at hP; simp at hP
    have ep : P = P.dropLast ++ [P.getLast hne] := (List.dropLast_concat_getLast hne).symm
    generalize hP' : P.dropLast = P' at ep
    generalize hp : P.getLast hne = p at ep
    have hpb := hb p (by rw [ep]; simp)
    clear hP' hp
    subst ep
    have hl : P'.length = m := by rw [List.length_append, List.length_singleton] at hP; omega
    refine Ev.succ ?_
    have c : ((m + 1 : Nat) : Int) > 0 := by omega
    have c1 : m < ((P' ++ [p]) ++ x :: (Q ++ R)).length := by rw [List.length_append, hP, List.length_cons]; omega
    have c2 : m + 1 < ((P' ++ [p]) ++ x :: (Q ++ R)).length := by rw [List.length_append, hP, List.length_cons]; omega
    have r1 : rd ((P' ++ [p]) ++ x :: (Q ++ R)) ((m + 1 : Nat) : Int) = x := rd_mid _ _ _ _ hP
    have r2 : rd ((P' ++ [p]) ++ x :: (Q ++ R)) (m : Int) = p := by rw [List.append_assoc]; exact rd_mid _ _ _ _ hl
    simp only [slices_insertionSortCmpFunc_int.l1, eq_true c, inn, ilt c1, ilt c2, if_true, wprev (by omega : m ≤ 4611686018427387904), r1, r2, impl_ranking_1_e, Option.bind_some, Int.toNat_natCast, w64 (x := p - x) (by omega) (by omega)]
    by_cases d : p - x < 0
    · simp only [eq_true d, if_true]
      have e1 : ((((P' ++ [p]) ++ x :: (Q ++ R)).set (m + 1) p).set m x) = P' ++ x :: ((p :: Q) ++ R) := by
        rw [set_mid _ _ _ _ _ hP, List.append_assoc, List.singleton_append, set_mid _ _ _ _ _ hl, List.cons_append]
      rw [e1]
      refine slices_insertionSortCmpFunc_int_l1 x hx R n i v m P' (p :: Q) hl (by omega) (fun y hy => hb y (List.mem_append_left _ hy)) (by rw [List.append_assoc, List.singleton_append] at hd; exact hd) (fun y hy => ?_) ?_
      · rcases List.mem_cons.1 hy with e | e
        · omega
        · exact hQ y e
      · rw [List.append_assoc, List.singleton_append] at hv
        exact hv
    · simp only [eq_false d, if_false]
      rw [insD_split x (P' ++ [p]) Q (fun y hy => ?_) hQ, List.append_assoc, List.cons_append] at hv
      · exact hv
      · rcases List.mem_append.1 hy with e | e
        · have := desc_split ((List.pairwise_append.1 hd).1) e (List.mem_singleton.2 rfl); omega
        · have := List.mem_singleton.1 e; omega
theorem slices_insertionSortCmpFunc_int_l0 (l : List Int) (hl : l.length ≤ 1048576) (hb : Bnd l) : ∀ i, i ≤ l.length → ∀ S : List Int, S.length = i → Bnd S → Desc S →
    Ev (fun k => slices_insertionSortCmpFunc_int.l0 k (S ++ l.drop i) 0 (l.length : Int) (i : Int)) (rankFrom S (l.drop i)) := by
  refine down ?_ ?_
  · intro S hS hB hD
    refine Ev.succ ?_
    simp only [slices_insertionSortCmpFunc_int.l0, nlt (Nat.le_refl l.length), if_false, List.drop_length, List.append_nil]
    exact Ev.now _
  · intro i hi ih S hS hB hD
    have hx := hb _ (List.getElem_mem hi)
    refine Ev.succ ?_
    simp only [slices_insertionSortCmpFunc_int.l0, ilt hi, if_true]
    rw [drop_cons hi]
    refine slices_insertionSortCmpFunc_int_l1 l[i] hx (l.drop (i + 1)) l.length i _ i S [] hS (by omega) hB (by rw [List.append_nil]; exact hD) (fun y hy => absurd hy List.not_mem_nil) ?_
    rw [List.append_nil, wnext hi (by omega)]
    refine ih (insD l[i] S) (by rw [insD_length, hS]) (fun y hy => ?_) (insD_desc _ _ hD)
    rcases List.mem_cons.1 ((insD_perm l[i] S).mem_iff.1 hy) with e | e
    · rw [e]; exact hx
    · exact hB y e
theorem slices_insertionSortCmpFunc_int_ev (l : List Int) (h0 : 0 < l.length) (hl : l.length ≤ 1048576) (hb : Bnd l) (a : Int) : Ev (fun k => slices_insertionSortCmpFunc_int.f k l 0 (l.length : Int) a) (rankD l) := by
  cases l with
  | nil => exact absurd h0 (by simp)
  | cons x t =>
    have := slices_insertionSortCmpFunc_int_l0 (x :: t) hl hb 1 (by rw [List.length_cons]; omega) [x] rfl (fun y hy => hb y (by rw [List.mem_singleton.1 hy]; exact List.mem_cons_self ..)) (List.pairwise_singleton _ _)
    have e : wrap64 (0 + 1) = ((1 : Nat) : Int) := by rw [w64 (by omega) (by omega)]; rfl
    simp only [slices_insertionSortCmpFunc_int.f, e]
    exact this

theorem slices_pdqsortCmpFunc_int_ev (l : List Int) (h0 : 0 < l.length) (hl : l.length ≤ 12) (hb : Bnd l) (a b : Int) : Ev (fun k => slices_pdqsortCmpFunc_int.f k l 0 (l.length : Int) a b) (rankD l) := by
  refine Ev.succ ?_
  simp only [slices_pdqsortCmpFunc_int.f]
  refine Ev.succ ?_
  simp only [slices_pdqsortCmpFunc_int.l0, Int.sub_zero, w64 (by omega : -9223372036854775808 ≤ (l.length : Int)) (by omega), eq_true (by omega : (l.length : Int) ≤ 12), if_true]
  exact Ev.ret (f := fun t => t) (slices_insertionSortCmpFunc_int_ev l h0 (by omega) hb b)

theorem bits_Len_e (n : Nat) (h : n ≤ 8) : ∃ r, bits_Len.f (IntKind.u64.wrap (n : Int)) = some r := by
  unfold bits_Len.f
  rw [IntKind.wrap_u64, if_pos (by omega)]
  exact ⟨_, rfl⟩

theorem slices_SortFunc_int_int_ev (l : List Int) (h0 : 0 < l.length) (hl : l.length ≤ 8) (hb : Bnd l) (a : Int) : Ev (fun k => slices_SortFunc_int_int.f k l a) (rankD l) := by
  obtain ⟨q, hq⟩ := bits_Len_e l.length hl
  simp only [slices_SortFunc_int_int.f, hq, Option.bind_some]
  exact Ev.ret (f := fun t => t) (slices_pdqsortCmpFunc_int_ev l h0 (by omega) hb q a)

theorem impl_ranking_ev {l : List Int} (h : Lst l) : Ev (fun k => impl_ranking.f k l) (rankD l) := by
  have h1 := h.1
  have h2 := h.2.1
  simp only [impl_ranking.f, slices_Clone_int_int_e l (by omega), Option.bind_some]
  exact Ev.ret (f := fun t => t) (slices_SortFunc_int_int_ev l (by omega) h2 (fun x hx => by have := h.2.2 x hx; omega) 0)

theorem impl_partial_l (l : List Int) (hl : l.length ≤ 8) (hb : ∀ x ∈ l, 0 ≤ x ∧ x ≤ 60) : ∀ i, i ≤ l.length → ∀ (out : List Int) (s : Int), out.length = i → 0 ≤ s ∧ s ≤ 60 * i → Ev (fun k => impl_partial.l0 k out s l (l.length : Int) (i : Int)) (out ++ psums s (l.drop i)) := by
  refine down ?_ ?_
  · intro out s ho hs
    refine Ev.succ ?_
    simp only [impl_partial.l0, nlt (Nat.le_refl l.length), if_false, List.drop_length, psums, List.append_nil]
    exact Ev.now _
  · intro i hi ih out s ho hs
    have b := hb _ (List.getElem_mem hi)
    have c : out.length < 17592186044416 := by omega
    refine Ev.succ ?_
    simp only [impl_partial.l0, ilt hi, inn, if_true, rd_lt hi, c, w64 (x := s + l[i]) (by omega) (by omega), wnext hi (by omega : l.length ≤ 4611686018427387904)]
    rw [drop_cons hi, psums]
    exact (ih (out ++ [s + l[i]]) (s + l[i]) (by simp [ho]) (by omega)).eqv (by simp)
theorem impl_partial_ev {l : List Int} (h : Lst l) : Ev (fun k => impl_partial.f k l) (partOf l) := by
  have hr := rankD_lst h
  simp only [impl_partial.f]
  refine Ev.bind (impl_ranking_ev h) ?_
  have := impl_partial_l (rankD l) hr.2.1 hr.2.2 0 (Nat.zero_le _) [] 0 rfl (by omega)
  rw [List.drop_zero, List.nil_append] at this
  exact this

theorem impl_refused_l (p q : List Int) (hp : p.length ≤ 1048576) (hq : p.length ≤ q.length) : ∀ i, i ≤ p.length → Ev (fun k => impl_refused.l0 k q p (p.length : Int) (i : Int)) (refGo i (p.drop i) (q.drop i)) := by
  refine down ?_ ?_
  · refine Ev.succ ?_
    simp only [impl_refused.l0, nlt (Nat.le_refl p.length), if_false, List.drop_length, refGo]
    exact Ev.now _
  · intro i hi ih
    have h2 : i < q.length := by omega
    refine Ev.succ ?_
    simp only [impl_refused.l0, ilt hi, ilt h2, inn, if_true, rd_lt hi, rd_lt h2, wnext hi (by omega : p.length ≤ 4611686018427387904)]
    rw [drop_cons hi, drop_cons h2, refGo]
    by_cases c : p[i] > q[i]
    · simp only [c, if_true]; exact Ev.now _
    · simp only [c, if_false]; exact ih
theorem impl_refused_ev {a b : List Int} (ha : Lst a) (hb : Lst b) (hl : a.length = b.length) : Ev (fun k => impl_refused.f k a b) (refGo 0 (partOf a) (partOf b)) := by
  have h2 := ha.2.1
  simp only [impl_refused.f]
  refine Ev.bind (impl_partial_ev hb) ?_
  refine Ev.bind (impl_partial_ev ha) ?_
  exact impl_refused_l (partOf a) (partOf b) (by rw [partOf_length]; omega) (by rw [partOf_length, partOf_length]; omega) 0 (Nat.zero_le _)

theorem impl_total_l (l : List Int) (hl : l.length ≤ 4611686018427387904) : ∀ i, i ≤ l.length → ∀ acc, InR acc → Ev (fun k => impl_total.l0 k acc l (l.length : Int) (i : Int)) (wrap64 (acc + (l.drop i).sum)) := by
  refine down ?_ ?_
  · intro acc ha
    refine Ev.succ ?_
    simp only [impl_total.l0, nlt (Nat.le_refl l.length), if_false, List.drop_length, List.sum_nil, Int.add_zero, wR ha]
    exact Ev.now _
  · intro i hi ih acc ha
    refine Ev.succ ?_
    simp only [impl_total.l0, ilt hi, inn, if_true, rd_lt hi, wnext hi hl]
    rw [drop_cons hi, List.sum_cons, ← Int.add_assoc]
    exact (ih _ (inR_wrap _)).eqv (wrap_add _ _)
theorem impl_total_ev (l : List Int) (hl : l.length ≤ 4611686018427387904) : Ev (fun k => impl_total.f k l) (wrap64 l.sum) := by
  have := impl_total_l l hl 0 (Nat.zero_le _) 0 inR_0
  simpa only [impl_total.f, List.drop_zero, Int.zero_add, Int.natCast_zero] using this
theorem impl_total_good {l : List Int} (h : Lst l) : Ev (fun k => impl_total.f k l) l.sum :=
  (impl_total_ev l (by have := h.2.1; omega)).eqv (w64 (by have := h.sum; omega) (by have := h.sum; omega))

theorem impl_doFit_ev {a b : List Int} (ha : Lst a) (hb : Lst b) : Ev (fun k => impl_doFit.f k a b) (decide (a.length = b.length) && decide (a.sum = b.sum)) := by
  simp only [impl_doFit.f]
  by_cases h : a.length = b.length
  · have h2 : (a.length : Int) = (b.length : Int) := by omega
    simp only [h2, if_true, h, decide_true, Bool.true_and]
    refine Ev.bind (impl_total_good ha) ?_
    exact Ev.ret (f := fun t => a.sum == t) (impl_total_good hb)
  · have h2 : ¬ (a.length : Int) = (b.length : Int) := by omega
    simp only [h2, if_false, h, decide_false, Bool.false_and]
    exact Ev.now _

theorem impl_isMajorized_ev {a b : List Int} (ha : Lst a) (hb : Lst b) : Ev (fun k => impl_isMajorized.f k a b) ((decide (a.length = b.length) && decide (a.sum = b.sum)) && leAll (partOf a) (partOf b)) := by
  simp only [impl_isMajorized.f]
  refine (Ev.and (impl_doFit_ev ha hb) fun h => ?_)
  simp only [Bool.and_eq_true, decide_eq_true_eq] at h
  exact (Ev.ret (f := fun t => t == 0) (impl_refused_ev ha hb h.1)).eqv (refGo_zero 0 _ _)

theorem impl_IsMajorized_ev (a b : List Int) (ha : a.length ≤ 1048576) (hb : b.length ≤ 1048576) : Ev (fun k => impl_IsMajorized.f k a b) (if goodB a && goodB b then (majB a b, true) else (false, false)) := by
  simp only [impl_IsMajorized.f]
  refine Ev.bind (impl_areLists_ev a b ha hb) ?_
  cases h : goodB a && goodB b with
  | false => simp only [Bool.false_eq_true, if_false]; exact Ev.now _
  | true =>
    simp only [if_true]
    rw [Bool.and_eq_true, goodB_iff, goodB_iff] at h
    exact (Ev.ret (f := fun t => (t, true)) (impl_isMajorized_ev h.1 h.2)).eqv (by rw [Bool.and_assoc]; rfl)

theorem spec_l1Cur_next_x {c : List Int} (hc : Bts c) (a s b : Int) (ha : At a b) (hb : b ≤ 4611686018427387904) : ∃ r : Int × Int × Int, spec_l1Cur_next.f c a s = some r ∧ 0 ≤ r.1 ∧ r.1 ≤ 255 ∧ At r.2.1 (b + 1) := by
  have h0 := ha.1
  have h1 := ha.2
  have e : wrap64 (a + 1) = a + 1 := w64 (by omega) (by omega)
  have a1 : At (a + 1) (b + 1) := ⟨by omega, by omega⟩
  have u : ∀ z : Int, 0 ≤ wrap64 (Go.bits .and .u64 (IntKind.u64.wrap z / 1099511627776) 255) ∧ wrap64 (Go.bits .and .u64 (IntKind.u64.wrap z / 1099511627776) 255) ≤ 255 := fun z => and255 _ (by rw [wrapU64]; omega) (by rw [wrapU64]; omega)
  unfold spec_l1Cur_next.f
  by_cases c1 : a < (c.length : Int)
  · have r := rd_code hc h0 c1
    simp only [c1, h0, if_true, e]
    by_cases c2 : a + 1 ≤ (c.length : Int)
    · simp only [c2, if_true]
      refine ⟨_, rfl, ?_, ?_, a1⟩
      · show 0 ≤ wrap64 _
        rw [w64 (by omega) (by omega)]; exact r.1
      · show wrap64 _ ≤ 255
        rw [w64 (by omega) (by omega)]; exact r.2
    · simp only [c2, if_false]
      exact ⟨_, rfl, (u _).1, (u _).2, a1⟩
  · simp only [c1, if_false, e]
    by_cases c2 : a + 1 ≤ (c.length : Int)
    · simp only [c2, if_true]
      exact ⟨_, rfl, by show (0 : Int) ≤ 0; omega, by show (0 : Int) ≤ 255; omega, a1⟩
    · simp only [c2, if_false]
      exact ⟨_, rfl, (u _).1, (u _).2, a1⟩

theorem spec_l1Cur_pick_x {c : List Int} (hc : Bts c) (a s b n : Int) (ha : At a b) (hb : b ≤ 1073741824) : Ex (fun _ => spec_l1Cur_pick.f c a s n) (fun r => 0 ≤ r.1 ∧ (1 ≤ n → r.1 < n) ∧ At r.2.1 (b + 2)) := by
  have h0 := ha.1
  have h1 := ha.2
  unfold spec_l1Cur_pick.f
  by_cases c1 : n ≤ 1
  · simp only [c1, if_true]
    exact Ex.now ⟨by show (0 : Int) ≤ 0; omega, fun h => by show (0 : Int) < n; omega, by omega, by show a ≤ b + 2; omega⟩
  · simp only [c1, if_false]
    obtain ⟨r, hr, r0, r1, r2⟩ := spec_l1Cur_next_x hc a s b ha (by omega)
    rw [hr]
    simp only [Option.bind_some]
    have n0 : ¬ n = 0 := by omega
    by_cases c2 : n > 200
    · simp only [c2, if_true]
      obtain ⟨q, hq, q0, q1, q2⟩ := spec_l1Cur_next_x hc r.2.1 r.2.2 (b + 1) r2 (by omega)
      rw [hq]
      simp only [Option.bind_some, n0, if_false]
      have e : wrap64 (wrap64 (r.1 * 256) + q.1) = r.1 * 256 + q.1 := by rw [w64 (x := r.1 * 256) (by omega) (by omega), w64 (by omega) (by omega)]
      rw [e]
      refine Ex.now ⟨Int.tmod_nonneg _ (by omega), fun _ => Int.tmod_lt_of_pos _ (by omega), q2.1, ?_⟩
      have := q2.2
      show q.2.1 ≤ b + 2
      omega
    · simp only [c2, if_false, n0]
      refine Ex.now ⟨Int.tmod_nonneg _ (by omega), fun _ => Int.tmod_lt_of_pos _ (by omega), r2.1, ?_⟩
      have := r2.2
      show r.2.1 ≤ b + 2
      omega

theorem spec_l1Cur_one_x {c : List Int} (hc : Bts c) (a s b n : Int) (ha : At a b) (hb : b ≤ 1073741824) : Ex (fun _ => spec_l1Cur_one.f c a s n) (fun r => At r.2.1 (b + 2)) := by
  unfold spec_l1Cur_one.f
  refine Ex.bind (spec_l1Cur_pick_x hc a s b n ha hb) fun r hr => ?_
  exact Ex.now hr.2.2

theorem spec_l1Cur_among_x {c : List Int} (hc : Bts c) (a s b : Int) (l : List Int) (hl : 1 ≤ l.length) (ha : At a b) (hb : b ≤ 1073741824) : Ex (fun _ => spec_l1Cur_among.f c a s l) (fun r => r.1 ∈ l ∧ At r.2.1 (b + 2)) := by
  unfold spec_l1Cur_among.f
  refine Ex.bind (spec_l1Cur_pick_x hc a s b _ ha hb) fun r hr => ?_
  have h0 := hr.1
  have h1 := hr.2.1 (by omega)
  simp only [h0, h1, if_true]
  refine Ex.now ⟨?_, hr.2.2⟩
  have hi : r.1.toNat < l.length := by omega
  show rd l r.1 ∈ l
  unfold rd
  rw [List.getD_eq_getElem?_getD, List.getElem?_eq_getElem hi, Option.getD_some]
  exact List.getElem_mem hi

theorem spec_l1Cur_list_l {c : List Int} (hc : Bts c) (m : Int) : ∀ (n : Nat) (x : List Int) (a s b : Int), At a b → b + 2 * n ≤ 1073741824 → x.length + n ≤ 1048576 → Ex (fun k => spec_l1Cur_list.l0 k m x (n : Int) c a s) (fun r => r.1.length = x.length + n ∧ At r.2.1 (b + 2 * n))
  | 0, x, a, s, b, ha, hb, hx => by
    refine Ex.succ ?_
    simp only [spec_l1Cur_list.l0, show ¬ (((0 : Nat) : Int) > 0) by omega, if_false]
    exact Ex.now ⟨rfl, by simpa using ha⟩
  | n + 1, x, a, s, b, ha, hb, hx => by
    refine Ex.succ ?_
    simp only [spec_l1Cur_list.l0, show (((n + 1 : Nat) : Int) > 0) by omega, if_true]
    refine Ex.bind (spec_l1Cur_pick_x hc a s b _ ha (by omega)) fun r hr => ?_
    have hl : x.length < 17592186044416 := by omega
    simp only [hl, if_true, w64 (x := ((n + 1 : Nat) : Int) - 1) (by omega) (by omega)]
    rw [show ((n + 1 : Nat) : Int) - 1 = (n : Int) by omega]
    refine (spec_l1Cur_list_l hc m n (x ++ [r.1]) r.2.1 r.2.2 (b + 2) hr.2.2 (by omega) (by rw [List.length_append, List.length_singleton]; omega)).mono fun q hq => ?_
    rw [List.length_append, List.length_singleton] at hq
    exact ⟨by omega, hq.2.1, by have := hq.2.2; omega⟩
theorem spec_l1Cur_list_x {c : List Int} (hc : Bts c) (a s b m : Int) (ha : At a b) (hb : b ≤ 536870912) : Ex (fun k => spec_l1Cur_list.f k c a s m) (fun r => 1 ≤ r.1.length ∧ r.1.length ≤ 6 ∧ At r.2.1 (b + 14)) := by
  simp only [spec_l1Cur_list.f]
  refine Ex.bind (spec_l1Cur_pick_x hc a s b 6 ha (by omega)) fun r hr => ?_
  have h0 := hr.1
  have h1 := hr.2.1 (by omega)
  obtain ⟨n, hn⟩ := Int.eq_ofNat_of_zero_le h0
  rw [w64 (by omega) (by omega), show 1 + r.1 = ((n + 1 : Nat) : Int) by omega]
  refine (spec_l1Cur_list_l hc m (n + 1) [] r.2.1 r.2.2 (b + 2) hr.2.2 (by omega) (by simp; omega)).mono fun q hq => ?_
  rw [List.length_nil] at hq
  exact ⟨by omega, by omega, hq.2.1, by have := hq.2.2; omega⟩

theorem spec_l1Cur_anyList_l {c : List Int} (hc : Bts c) : ∀ (d : Nat) (x : List Int) (a s b : Int), x.length + d = 10 → At a b → b + 4 * d + 4 ≤ 1073741824 → Ex (fun k => spec_l1Cur_anyList.l0 k x c a s) (fun r => r.1.length ≤ 10 ∧ At r.2.1 (b + 4 * d + 4))
  | 0, x, a, s, b, hx, ha, hb => by
    refine Ex.succ ?_
    simp only [spec_l1Cur_anyList.l0]
    refine Ex.bind (spec_l1Cur_pick_x hc a s b 2 ha (by omega)) fun r hr => ?_
    have h0 := hr.1
    have h1 := hr.2.1 (by omega)
    have c1 : ¬ ((x.length : Int) < wrap64 (8 + r.1)) := by rw [w64 (by omega) (by omega)]; omega
    simp only [c1, if_false]
    exact Ex.now ⟨by show x.length ≤ 10; omega, hr.2.2.1, by have := hr.2.2.2; show r.2.1 ≤ _; omega⟩
  | d + 1, x, a, s, b, hx, ha, hb => by
    refine Ex.succ ?_
    simp only [spec_l1Cur_anyList.l0]
    refine Ex.bind (spec_l1Cur_pick_x hc a s b 2 ha (by omega)) fun r hr => ?_
    by_cases c1 : (x.length : Int) < wrap64 (8 + r.1)
    · simp only [c1, if_true]
      refine Ex.bind (spec_l1Cur_pick_x hc _ _ (b + 2) 9 hr.2.2 (by omega)) fun q hq => ?_
      have hl : x.length < 17592186044416 := by omega
      simp only [hl, if_true]
      refine (spec_l1Cur_anyList_l hc d (x ++ [q.1]) _ _ (b + 2 + 2) (by rw [List.length_append, List.length_singleton]; omega) hq.2.2 (by omega)).mono fun z hz => ?_
      exact ⟨hz.1, hz.2.1, by have := hz.2.2; omega⟩
    · simp only [c1, if_false]
      exact Ex.now ⟨by show x.length ≤ 10; omega, hr.2.2.1, by have := hr.2.2.2; show r.2.1 ≤ _; omega⟩
theorem spec_l1Cur_anyList_x {c : List Int} (hc : Bts c) (a s b m : Int) (ha : At a b) (hb : b ≤ 268435456) : Ex (fun k => spec_l1Cur_anyList.f k c a s m) (fun r => r.1.length ≤ 10 ∧ At r.2.1 (b + 64)) := by
  simp only [spec_l1Cur_anyList.f]
  refine Ex.bind (spec_l1Cur_list_x hc a s b m ha (by omega)) fun r hr => ?_
  refine Ex.bind (spec_l1Cur_pick_x hc _ _ (b + 14) 14 hr.2.2 (by omega)) fun q hq => ?_
  have q2 := hq.2.2.2
  by_cases c1 : q.1 = 0
  · simp only [c1, if_true]
    refine Ex.bind (spec_l1Cur_among_x hc _ _ (b + 14 + 2) _ (by simp) hq.2.2 (by omega)) fun z hz => ?_
    have hl : r.1.length < 17592186044416 := by omega
    simp only [hl, if_true]
    exact Ex.now ⟨by show (r.1 ++ [z.1]).length ≤ 10; rw [List.length_append, List.length_singleton]; omega, hz.2.1, by have := hz.2.2; show z.2.1 ≤ _; omega⟩
  · simp only [c1, if_false]
    by_cases c2 : q.1 = 1
    · simp only [c2, if_true]
      refine (spec_l1Cur_anyList_l hc (10 - r.1.length) r.1 _ _ (b + 14 + 2) (by omega) hq.2.2 (by omega)).mono fun z hz => ?_
      exact ⟨hz.1, hz.2.1, by have := hz.2.2; omega⟩
    · simp only [c2, if_false]
      by_cases c3 : q.1 = 2
      · simp only [c3, if_true]
        exact Ex.now ⟨by show ([] : List Int).length ≤ 10; simp, hq.2.2.1, by show q.2.1 ≤ _; omega⟩
      · simp only [c3, if_false]
        exact Ex.now ⟨by show r.1.length ≤ 10; omega, hq.2.2.1, by show q.2.1 ≤ _; omega⟩

theorem spec_l1Own_e (l : List Int) (hl : l.length < 17592186044416) : spec_l1Own.f l = some l := by
  simp only [spec_l1Own.f, Option.bind_some, List.nil_append, List.length_nil, Nat.zero_add, hl, if_true]

theorem spec_l1Cur_fitting_l {c : List Int} (hc : Bts c) (x : List Int) (hx : x.length ≤ 10) : ∀ (n : Nat) (y : List Int) (a s b : Int), y.length ≤ 10 → At a b → b + 8 * n + 8 ≤ 1073741824 → Ex (fun k => spec_l1Cur_fitting.l0 k x y (n : Int) c a s) (fun r => r.1.length ≤ 10 ∧ r.2.1.length ≤ 10 ∧ At r.2.2.1 (b + 8 * n + 8))
  | n, y, a, s, b, hy, ha, hb => by
    have hb0 := ha.1
    have hb1 := ha.2
    have off : Ex (fun k => spec_l1Cur_fitting.j1 k x y (n : Int) false c a s) (fun r => r.1.length ≤ 10 ∧ r.2.1.length ≤ 10 ∧ At r.2.2.1 (b + 8 * n + 8)) := by
      refine Ex.succ ?_
      simp only [spec_l1Cur_fitting.j1, Bool.false_eq_true, if_false]
      refine Ex.bind (spec_l1Cur_one_x hc a s b 5 ha (by omega)) fun r hr => ?_
      have h2 := hr.2
      by_cases c1 : r.1 = true
      · simp only [c1, if_true]
        exact Ex.now ⟨hx, hy, hr.1, by show r.2.1 ≤ _; omega⟩
      · simp only [c1, if_false]
        exact Ex.now ⟨hy, hx, hr.1, by show r.2.1 ≤ _; omega⟩
    refine Ex.succ ?_
    simp only [spec_l1Cur_fitting.l0]
    by_cases c0 : (n : Int) > 0
    · simp only [c0, if_true]
      by_cases c1 : (y.length : Int) > 1
      · simp only [c1, decide_true]
        obtain ⟨m, rfl⟩ : ∃ m, n = m + 1 := ⟨n - 1, by omega⟩
        have ew : wrap64 (((m + 1 : Nat) : Int) - 1) = (m : Int) := by rw [w64 (by omega) (by omega)]; omega
        refine Ex.succ ?_
        simp only [spec_l1Cur_fitting.j1, if_true, ew]
        refine Ex.bind (spec_l1Cur_pick_x hc a s b _ ha (by omega)) fun r hr => ?_
        refine Ex.bind (spec_l1Cur_pick_x hc _ _ (b + 2) _ hr.2.2 (by omega)) fun q hq => ?_
        have r0 := hr.1
        have r1 := hr.2.1 (by omega)
        have q0 := hq.1
        have q1 := hq.2.1 (by omega)
        simp only [r0, r1, q0, q1, if_true]
        have go : ∀ (z : List Int) (a' s' b' : Int), z.length = y.length → At a' b' → b' ≤ b + 8 → Ex (fun k => spec_l1Cur_fitting.l0 k x z (m : Int) c a' s') (fun r => r.1.length ≤ 10 ∧ r.2.1.length ≤ 10 ∧ At r.2.2.1 (b + 8 * ((m + 1 : Nat) : Int) + 8)) := by
          intro z a' s' b' hz ha' hb'
          refine (spec_l1Cur_fitting_l hc x hx m z a' s' b' (by omega) ha' (by omega)).mono fun t ht => ⟨ht.1, ht.2.1, ht.2.2.1, by have := ht.2.2.2; omega⟩
        by_cases c2 : rd y r.1 > 0
        · simp only [c2, if_true]
          by_cases c3 : rd y r.1 > rd y q.1
          · simp only [c3, if_true, Option.bind_some]
            exact go _ _ _ _ (by simp) hq.2.2 (by omega)
          · simp only [c3, if_false]
            refine Ex.bind (spec_l1Cur_one_x hc _ _ (b + 2 + 2) 4 hq.2.2 (by omega)) fun t ht => ?_
            by_cases c4 : t.1 = true
            · simp only [c4, if_true, Option.bind_some]
              exact go _ _ _ _ (by simp) ht (by omega)
            · simp only [c4, if_false]
              exact go _ _ _ _ rfl ht (by omega)
        · simp only [c2, if_false]
          exact go _ _ _ _ rfl hq.2.2 (by omega)
      · simp only [c1, decide_false]
        exact off
    · simp only [c0, if_false]
      exact off
theorem spec_l1Cur_fitting_x {c : List Int} (hc : Bts c) (a s b m : Int) (ha : At a b) (hb : b ≤ 134217728) : Ex (fun k => spec_l1Cur_fitting.f k c a s m) (fun r => r.1.length ≤ 10 ∧ r.2.1.length ≤ 10 ∧ At r.2.2.1 (b + 256)) := by
  simp only [spec_l1Cur_fitting.f]
  refine Ex.bind (spec_l1Cur_anyList_x hc a s b m ha (by omega)) fun r hr => ?_
  refine Ex.bind (spec_l1Cur_one_x hc _ _ (b + 64) 5 hr.2 (by omega)) fun q hq => ?_
  by_cases c1 : q.1 = true
  · simp only [c1, if_true]
    refine Ex.bind (spec_l1Cur_anyList_x hc _ _ (b + 64 + 2) m hq (by omega)) fun z hz => ?_
    exact Ex.now ⟨hz.1, hr.1, hz.2.1, by have := hz.2.2; show z.2.1 ≤ _; omega⟩
  · simp only [c1, if_false, spec_l1Own_e r.1 (by omega), Option.bind_some]
    refine Ex.bind (spec_l1Cur_pick_x hc _ _ (b + 64 + 2) 12 hq (by omega)) fun z hz => ?_
    have z0 := hz.1
    have z1 := hz.2.1 (by omega)
    obtain ⟨n, hn⟩ := Int.eq_ofNat_of_zero_le z0
    rw [hn] at z1 ⊢
    refine (spec_l1Cur_fitting_l hc r.1 hr.1 n r.1 _ _ (b + 64 + 2 + 2) hr.1 hz.2.2 (by omega)).mono fun t ht => ⟨ht.1, ht.2.1, ht.2.2.1, by have := ht.2.2.2; omega⟩

theorem spec_DrawIsLorenzAbove_x {c : List Int} (hc : Bts c) : Ex (fun k => spec_DrawIsLorenzAbove.f k c) (fun r => r.1.length ≤ 10 ∧ r.2.length ≤ 10) := by
  simp only [spec_DrawIsLorenzAbove.f]
  refine Ex.bind (spec_l1Cur_fitting_x hc 0 0 0 8 ⟨by omega, by omega⟩ (by omega)) fun r hr => ?_
  exact Ex.now ⟨hr.1, hr.2.1⟩

theorem spec_DrawRefusingWeights_x {c : List Int} (hc : Bts c) : Ex (fun k => spec_DrawRefusingWeights.f k c) (fun r => r.1.length ≤ 10 ∧ r.2.length ≤ 10) := by
  simp only [spec_DrawRefusingWeights.f]
  refine Ex.bind (spec_DrawIsLorenzAbove_x hc) fun r hr => ?_
  exact Ex.now hr

theorem impl_RefusalOf_ev (a b : List Int) (ha : a.length ≤ 1048576) (hb : b.length ≤ 1048576) : Ev (fun k => impl_RefusalOf.f k a b) (if fits a b then (refK a b, decide (refK a b > 0)) else (0, false)) := by
  simp only [impl_RefusalOf.f]
  refine Ev.bind (impl_areLists_ev a b ha hb) ?_
  cases h : goodB a && goodB b with
  | false =>
    have hf : fits a b = false := by unfold fits; rw [← Bool.and_assoc, h]; rfl
    simp only [hf, Bool.false_eq_true, if_false]; exact Ev.now _
  | true =>
    have h' := h
    rw [Bool.and_eq_true, goodB_iff, goodB_iff] at h'
    simp only [if_true]
    refine Ev.bind (impl_doFit_ev h'.1 h'.2) ?_
    have hf : fits a b = (decide (a.length = b.length) && decide (a.sum = b.sum)) := by unfold fits; rw [← Bool.and_assoc, h]; rfl
    rw [← hf]
    cases h2 : fits a b with
    | false => simp only [Bool.false_eq_true, if_false]; exact Ev.now _
    | true =>
      simp only [if_true]
      exact Ev.ret (f := fun t => (t, decide (t > 0))) (impl_refused_ev h'.1 h'.2 (fits_iff.1 h2).2.2.1)

-- (nothing: its function is unfolded where it is called)

def refW (a b : List Int) : List Int × Bool := if fits a b then (if refK a b > 0 then (onesN a.length (refK a b).toNat, true) else ([], false)) else ([], false)
theorem impl_RefusingWeights_ev (a b : List Int) (ha : a.length ≤ 1048576) (hb : b.length ≤ 1048576) : Ev (fun k => impl_RefusingWeights.f k a b) (refW a b) := by
  simp only [impl_RefusingWeights.f]
  refine Ev.bind (impl_RefusalOf_ev a b ha hb) ?_
  cases h : fits a b with
  | false =>
    have e : refW a b = ([], false) := by unfold refW; rw [h]; rfl
    rw [e]
    simp only [Bool.false_eq_true, if_false]; exact Ev.now _
  | true =>
    have la := (fits_iff.1 h).1
    have l8 := la.2.1
    have kb := refK_bound a b
    simp only [if_true]
    by_cases c : refK a b > 0
    · have e : refW a b = (onesN a.length (refK a b).toNat, true) := by unfold refW; rw [h]; simp only [if_true]; rw [if_pos c]
      rw [e]
      have c1 : 1 ≤ refK a b := by omega
      have c2 : refK a b ≤ 8 := by omega
      have w : wrap64 ((a.length : Int) - refK a b) = ((a.length - (refK a b).toNat : Nat) : Int) := by rw [w64 (by omega) (by omega)]; omega
      have c3 : (0 : Int) ≤ ((a.length - (refK a b).toNat : Nat) : Int) := by omega
      simp only [decide_eq_true c, if_true, slices_Repeat_int_int.f, List.length_singleton, c1, c2, Option.bind_some, w, c3, List.length_replicate, Int.toNat_natCast]
      rw [if_pos (by omega)]
      exact Ev.now _
    · have e : refW a b = ([], false) := by unfold refW; rw [h]; simp only [if_true]; rw [if_neg c]
      rw [e]
      simp only [decide_eq_false c, Bool.false_eq_true, if_false]
      exact Ev.now _

theorem spec_l1In_e (a b c : Int) : spec_l1In.f a b c = some (wth a b c) := wth_opt a b c

theorem spec_l1All_l (l : List Int) (lo hi : Int) (hl : l.length ≤ 4611686018427387904) : ∀ i, i ≤ l.length → Ev (fun k => spec_l1All.l0 k lo hi l (l.length : Int) (i : Int)) (allW (l.drop i) lo hi) := by
  refine down ?_ ?_
  · refine Ev.succ ?_
    simp only [spec_l1All.l0, nlt (Nat.le_refl l.length), if_false, List.drop_length]
    exact Ev.now _
  · intro i hi ih
    refine Ev.succ ?_
    simp only [spec_l1All.l0, ilt hi, inn, if_true, spec_l1In_e, Option.bind_some, rd_lt hi, wnext hi hl]
    rw [drop_cons hi]
    exact Ev.andS fun _ => ih
theorem spec_l1All_ev (l : List Int) (lo hi : Int) (hl : l.length ≤ 4611686018427387904) : Ev (fun k => spec_l1All.f k l lo hi) (allW l lo hi) := by
  have := spec_l1All_l l lo hi hl 0 (Nat.zero_le _)
  simpa only [spec_l1All.f, List.drop_zero, Int.natCast_zero] using this

theorem spec_liGood_ev (l : List Int) (hl : l.length ≤ 4611686018427387904) : Ev (fun k => spec_liGood.f k l) (goodB l) := by
  simp only [spec_liGood.f, spec_l1In_e, Option.bind_some, goodB]
  exact Ev.andS fun _ => Ev.ret (f := fun t => t) (spec_l1All_ev l 0 60 hl)

theorem spec_liSum_l (l : List Int) (hl : l.length ≤ 4611686018427387904) : ∀ i, i ≤ l.length → ∀ acc, InR acc → Ev (fun k => spec_liSum.l0 k acc l (l.length : Int) (i : Int)) (wrap64 (acc + (l.drop i).sum)) := by
  refine down ?_ ?_
  · intro acc ha
    refine Ev.succ ?_
    simp only [spec_liSum.l0, nlt (Nat.le_refl l.length), if_false, List.drop_length, List.sum_nil, Int.add_zero, wR ha]
    exact Ev.now _
  · intro i hi ih acc ha
    refine Ev.succ ?_
    simp only [spec_liSum.l0, ilt hi, inn, if_true, rd_lt hi, wnext hi hl]
    rw [drop_cons hi, List.sum_cons, ← Int.add_assoc]
    exact (ih _ (inR_wrap _)).eqv (wrap_add _ _)
theorem spec_liSum_ev (l : List Int) (hl : l.length ≤ 4611686018427387904) : Ev (fun k => spec_liSum.f k l) (wrap64 l.sum) := by
  have := spec_liSum_l l hl 0 (Nat.zero_le _) 0 inR_0
  simpa only [spec_liSum.f, List.drop_zero, Int.zero_add, Int.natCast_zero] using this
theorem spec_liSum_good {l : List Int} (h : Lst l) : Ev (fun k => spec_liSum.f k l) l.sum :=
  (spec_liSum_ev l (by have := h.2.1; omega)).eqv (w64 (by have := h.sum; omega) (by have := h.sum; omega))

theorem spec_liFit_ev {a b : List Int} (ha : Lst a) (hb : Lst b) : Ev (fun k => spec_liFit.f k a b) (decide (a.length = b.length) && decide (a.sum = b.sum)) := by
  simp only [spec_liFit.f]
  by_cases h : a.length = b.length
  · have h2 : (a.length : Int) = (b.length : Int) := by omega
    simp only [h2, if_true, h, decide_true, Bool.true_and]
    refine Ev.bind (spec_liSum_good ha) ?_
    exact Ev.ret (f := fun t => a.sum == t) (spec_liSum_good hb)
  · have h2 : ¬ (a.length : Int) = (b.length : Int) := by omega
    simp only [h2, if_false, h, decide_false, Bool.false_and]
    exact Ev.now _

theorem spec_liRank_l1 (l : List Int) (x : Int) (i : Nat) (r : List Int) (hr : r.length ≤ 1048576) (hl : l.length ≤ 1048576) (hi : i < l.length) (v : List Int)
    (ih : Ev (fun k => spec_liRank.l0 k (insD x r) l (l.length : Int) ((i + 1 : Nat) : Int)) v) : ∀ p, p ≤ r.length → insD x r = r.take p ++ insD x (r.drop p) → Ev (fun k => spec_liRank.l1 k r x (p : Int) l (l.length : Int) (i : Int)) v := by
  refine down ?_ ?_
  · intro e
    rw [List.take_length, List.drop_length] at e
    refine Ev.succ ?_
    have e2 : (r ++ [x]).length < 17592186044416 := by rw [List.length_append, List.length_singleton]; omega
    have e3 : r.length + 1 < 17592186044416 := by omega
    simp only [spec_liRank.l1, nlt (Nat.le_refl r.length), if_false, inn, ile (Nat.le_refl r.length), if_true, Int.toNat_natCast, List.take_length, List.drop_length, spec_l1Own_e r (by omega), Option.bind_some, List.length_singleton, List.length_append, List.length_nil, Nat.add_zero, e3, List.append_nil, wnext hi (by omega : l.length ≤ 4611686018427387904)]
    have e' : insD x r = r ++ [x] := e
    rw [← e']; exact ih
  · intro p hp ihp e
    refine Ev.succ ?_
    have e1 : r.drop p = r[p] :: r.drop (p + 1) := drop_cons hp
    by_cases c : r[p] ≥ x
    · simp only [spec_liRank.l1, ilt hp, inn, if_true, rd_lt hp, c, wnext hp (by omega : r.length ≤ 4611686018427387904)]
      refine ihp ?_
      rw [e, e1]
      simp only [insD, c, if_true]
      rw [List.take_succ_eq_append_getElem hp, List.append_assoc, List.singleton_append]
    · have h1 : (r.take p).length = p := by rw [List.length_take]; omega
      have h2 : (r.drop p).length = r.length - p := List.length_drop
      have e2 : p + 1 < 17592186044416 := by omega
      have e3 : p + 1 + (r.length - p) < 17592186044416 := by omega
      simp only [spec_liRank.l1, ilt hp, ile (Nat.le_of_lt hp), inn, if_true, rd_lt hp, c, if_false, Int.toNat_natCast, spec_l1Own_e (r.take p) (by omega), Option.bind_some, List.length_singleton, List.length_append, h1, h2, e2, e3, wnext hi (by omega : l.length ≤ 4611686018427387904)]
      have e' : insD x r = r.take p ++ [x] ++ r.drop p := by
        rw [e, e1]
        simp only [insD, c, if_false]
        rw [List.append_assoc, List.singleton_append]
      rw [← e']; exact ih
theorem spec_liRank_l0 (l : List Int) (hl : l.length ≤ 1048576) : ∀ i, i ≤ l.length → ∀ r : List Int, r.length = i → Ev (fun k => spec_liRank.l0 k r l (l.length : Int) (i : Int)) (rankFrom r (l.drop i)) := by
  refine down ?_ ?_
  · intro r hr
    refine Ev.succ ?_
    simp only [spec_liRank.l0, nlt (Nat.le_refl l.length), if_false, List.drop_length]
    exact Ev.now _
  · intro i hi ih r hr
    refine Ev.succ ?_
    simp only [spec_liRank.l0, ilt hi, inn, if_true, rd_lt hi]
    rw [drop_cons hi]
    exact spec_liRank_l1 l l[i] i r (by omega) hl hi _ (ih (insD l[i] r) (by rw [insD_length, hr])) 0 (Nat.zero_le _) (by rw [List.take_zero, List.drop_zero, List.nil_append])
theorem spec_liRank_ev (l : List Int) (hl : l.length ≤ 1048576) : Ev (fun k => spec_liRank.f k l) (rankD l) := by
  have := spec_liRank_l0 l hl 0 (Nat.zero_le _) [] rfl
  rwa [List.drop_zero] at this

theorem spec_msRankSum_l (l m : List Int) (hl : l.length ≤ 1048576) (hm : l.length ≤ m.length) : ∀ i, i ≤ l.length → ∀ acc, InR acc → Ev (fun k => spec_msRankSum.l0 k m acc l (l.length : Int) (i : Int)) (wrap64 (acc + dot (l.drop i) (m.drop i))) := by
  refine down ?_ ?_
  · intro acc ha
    refine Ev.succ ?_
    simp only [spec_msRankSum.l0, nlt (Nat.le_refl l.length), if_false, List.drop_length, dot_nil, Int.add_zero, wR ha]
    exact Ev.now _
  · intro i hi ih acc ha
    have h2 : i < m.length := by omega
    refine Ev.succ ?_
    simp only [spec_msRankSum.l0, ilt hi, ilt h2, inn, if_true, rd_lt hi, rd_lt h2, wnext hi (by omega : l.length ≤ 4611686018427387904)]
    rw [drop_cons hi, drop_cons h2, dot_cons, ← Int.add_assoc]
    refine (ih _ (inR_wrap _)).eqv ?_
    rw [wrap_add, Int.add_right_comm, wrap_add', Int.add_right_comm]
theorem spec_msRankSum_ev (l m : List Int) (hl : l.length ≤ 1048576) (hm : l.length ≤ m.length) : Ev (fun k => spec_msRankSum.f k l m) (wrap64 (dot (rankD l) m)) := by
  simp only [spec_msRankSum.f]
  refine Ev.bind (spec_liRank_ev l hl) ?_
  have := spec_msRankSum_l (rankD l) m (by rw [rankD_length]; exact hl) (by rw [rankD_length]; exact hm) 0 (Nat.zero_le _) 0 inR_0
  simpa only [List.drop_zero, Int.zero_add, Int.natCast_zero] using this

theorem spec_RefusingWeights_l {a b : List Int} (ha : Lst a) (hb : Lst b) (hl : a.length = b.length) : ∀ i, i ≤ a.length → Ev (fun k => spec_RefusingWeights.l0 k a b (onesN a.length i) (a.length : Int) (i : Int)) (if refGo i ((partOf a).drop i) ((partOf b).drop i) > 0 then (onesN a.length (refGo i ((partOf a).drop i) ((partOf b).drop i)).toNat, true) else ([], false)) := by
  have h8 := ha.2.1
  refine down ?_ ?_
  · refine Ev.succ ?_
    rw [show (partOf a).drop a.length = [] from List.drop_eq_nil_of_le (by rw [partOf_length]; omega)]
    simp only [spec_RefusingWeights.l0, nlt (Nat.le_refl a.length), if_false, refGo]
    exact Ev.now _
  · intro i hi ih
    have pa : i < (partOf a).length := by rw [partOf_length]; exact hi
    have pb : i < (partOf b).length := by rw [partOf_length]; omega
    have c1 : (i : Int) < ((onesN a.length i).length : Int) := by rw [onesN_length (by omega)]; omega
    refine Ev.succ ?_
    simp only [spec_RefusingWeights.l0, ilt hi, c1, inn, if_true, Option.bind_some, Int.toNat_natCast, onesN_succ hi, wnext hi (by omega : a.length ≤ 4611686018427387904)]
    refine Ev.bind (spec_msRankSum_ev a (onesN a.length (i + 1)) (by omega) (by rw [onesN_length (by omega)]; omega)) ?_
    refine Ev.bind (spec_msRankSum_ev b (onesN a.length (i + 1)) (by omega) (by rw [onesN_length (by omega)]; omega)) ?_
    have e1 := rank_ones (a := a) (n := a.length) (k := i + 1) rfl (by omega) (by omega)
    have e2 := rank_ones (a := b) (n := a.length) (k := i + 1) hl.symm (by omega) (by omega)
    rw [Nat.add_sub_cancel] at e1 e2
    have q1 : (partOf a).getD i 0 = (partOf a)[i] := getD_lt pa
    have q2 : (partOf b).getD i 0 = (partOf b)[i] := getD_lt pb
    have b1 := psums_bound (s := 0) (lo := 0) (hi := 480) (l := rankD a) (rankD_lst ha).2.2 (by omega) (by rw [rankD_length]; omega) _ (List.getElem_mem pa)
    have b2 := psums_bound (s := 0) (lo := 0) (hi := 480) (l := rankD b) (rankD_lst hb).2.2 (by omega) (by rw [rankD_length]; omega) _ (List.getElem_mem pb)
    have b1' : 0 ≤ (partOf a)[i] ∧ (partOf a)[i] ≤ 480 := b1
    have b2' : 0 ≤ (partOf b)[i] ∧ (partOf b)[i] ≤ 480 := b2
    rw [e1, e2, q1, q2, w64 (x := (partOf a)[i]) (by omega) (by omega), w64 (x := (partOf b)[i]) (by omega) (by omega), drop_cons pa, drop_cons pb, refGo]
    by_cases c : (partOf a)[i] > (partOf b)[i]
    · simp only [c, if_true]
      have z : ((i + 1 : Nat) : Int) > 0 := by omega
      rw [if_pos z, Int.toNat_natCast]
      exact Ev.now _
    · simp only [c, if_false]
      exact ih
theorem spec_RefusingWeights_ev (a b : List Int) (ha : a.length ≤ 1048576) (hb : b.length ≤ 1048576) : Ev (fun k => spec_RefusingWeights.f k a b) (refW a b) := by
  simp only [spec_RefusingWeights.f]
  have off : fits a b = false → Ev (fun k => spec_RefusingWeights.j0 k a b true) (refW a b) := by
    intro h
    have e : refW a b = ([], false) := by unfold refW; rw [h]; rfl
    rw [e]
    refine Ev.succ ?_
    simp only [spec_RefusingWeights.j0, if_true]
    exact Ev.now _
  refine Ev.bind (spec_liGood_ev a (by omega)) ?_
  cases h : goodB a with
  | false => simp only [Bool.false_eq_true, if_false]; exact off (by simp [fits, h])
  | true =>
    simp only [if_true]
    refine Ev.bind (spec_liGood_ev b (by omega)) ?_
    cases h2 : goodB b with
    | false => simp only [Bool.false_eq_true, if_false]; exact off (by simp [fits, h2])
    | true =>
      simp only [if_true]
      have la := goodB_iff.1 h
      have lb := goodB_iff.1 h2
      refine Ev.bind (spec_liFit_ev la lb) ?_
      have hf : fits a b = (decide (a.length = b.length) && decide (a.sum = b.sum)) := by simp [fits, h, h2]
      rw [← hf]
      cases h3 : fits a b with
      | false => simp only [Bool.not_false]; exact off h3
      | true =>
        have l8 := la.2.1
        simp only [Bool.not_true]
        refine Ev.succ ?_
        have c0 : a.length ≤ 35184372088832 := by omega
        simp only [spec_RefusingWeights.j0, Bool.false_eq_true, if_false, inn, if_true, Option.bind_some, Int.toNat_natCast, List.length_replicate, c0]
        have := spec_RefusingWeights_l la lb (fits_iff.1 h3).2.2.1 0 (Nat.zero_le _)
        rw [List.drop_zero, List.drop_zero] at this
        refine this.eqv ?_
        unfold refW
        rw [h3]
        rfl

theorem impl_arranged_l (l m : List Int) (hl : l.length ≤ 1048576) (hm : l.length ≤ m.length) : ∀ i, i ≤ l.length → ∀ acc, InR acc → Ev (fun k => impl_arranged.l0 k m acc l (l.length : Int) (i : Int)) (wrap64 (acc + dot (l.drop i) (m.drop i))) := by
  refine down ?_ ?_
  · intro acc ha
    refine Ev.succ ?_
    simp only [impl_arranged.l0, nlt (Nat.le_refl l.length), if_false, List.drop_length, dot_nil, Int.add_zero, wR ha]
    exact Ev.now _
  · intro i hi ih acc ha
    have h2 : i < m.length := by omega
    refine Ev.succ ?_
    simp only [impl_arranged.l0, ilt hi, ilt h2, inn, if_true, rd_lt hi, rd_lt h2, wnext hi (by omega : l.length ≤ 4611686018427387904)]
    rw [drop_cons hi, drop_cons h2, dot_cons, ← Int.add_assoc]
    refine (ih _ (inR_wrap _)).eqv ?_
    rw [wrap_add, Int.add_right_comm, wrap_add', Int.add_right_comm]
theorem impl_arranged_ev (l m : List Int) (hl : l.length ≤ 1048576) (hm : l.length ≤ m.length) : Ev (fun k => impl_arranged.f k l m) (wrap64 (dot l m)) := by
  have := impl_arranged_l l m hl hm 0 (Nat.zero_le _) 0 inR_0
  simpa only [impl_arranged.f, List.drop_zero, Int.zero_add, Int.natCast_zero] using this

theorem impl_RankSum_l {a : List Int} (ha : Lst a) (b : List Int) (hb : b.length = a.length) : ∀ i, i ≤ b.length - 1 → Ev (fun k => impl_RankSum.l0 k a b ((i + 1 : Nat) : Int)) (if adj noInc (b.drop i) then (wrap64 (dot (rankD a) b), true) else (0, false)) := by
  have h2 := ha.2.1
  refine down ?_ ?_
  · refine Ev.succ ?_
    simp only [impl_RankSum.l0, nlt (by omega : b.length ≤ b.length - 1 + 1), if_false]
    rw [adj_short (by rw [List.length_drop]; omega)]
    simp only [if_true]
    refine Ev.bind (impl_ranking_ev ha) ?_
    exact Ev.ret (f := fun t => (t, true)) (impl_arranged_ev (rankD a) b (by rw [rankD_length]; omega) (by rw [rankD_length]; omega))
  · intro i hi ih
    have h0 : i < b.length := by omega
    have h1 : i + 1 < b.length := by omega
    refine Ev.succ ?_
    simp only [impl_RankSum.l0, ilt h1, inn, if_true, wprev (by omega : i ≤ 4611686018427387904), ilt h0, rd_lt h0, rd_lt h1, wnext h1 (by omega)]
    have e : adj noInc (b.drop i) = (noInc b[i] b[i + 1] && adj noInc (b.drop (i + 1))) := by rw [drop_cons h0, drop_cons h1, adj, ← drop_cons h1]
    rw [e]
    by_cases c : b[i + 1] > b[i]
    · have d : noInc b[i] b[i + 1] = false := decide_eq_false (by omega)
      simp only [c, if_true, d, Bool.false_and, Bool.false_eq_true, if_false]
      exact Ev.now _
    · have d : noInc b[i] b[i + 1] = true := decide_eq_true (by omega)
      simp only [c, if_false, d, Bool.true_and]
      exact ih
theorem impl_RankSum_ev (a b : List Int) (ha : a.length ≤ 1048576) (hb : b.length ≤ 1048576) : Ev (fun k => impl_RankSum.f k a b) (if goodB a && weightsB b a.length then (wrap64 (dot (rankD a) b), true) else (0, false)) := by
  simp only [impl_RankSum.f]
  have off : Ev (fun k => impl_RankSum.j0 k a b true) ((0, false) : Int × Bool) := by
    refine Ev.succ ?_
    simp only [impl_RankSum.j0, if_true]
    exact Ev.now _
  refine Ev.bind (impl_IsList_ev a (by omega)) ?_
  cases h : goodB a with
  | false => simp only [Bool.false_and, Bool.false_eq_true, if_false]; exact off
  | true =>
    simp only [if_true, Bool.true_and]
    have h' := goodB_iff.1 h
    by_cases c : (b.length : Int) = (a.length : Int)
    · simp only [c, if_true]
      refine Ev.bind (impl_allWithin_ev b _ _ (by omega)) ?_
      cases h2 : allW b (-1000) 1000 with
      | false =>
        have e : weightsB b a.length = false := by unfold weightsB; rw [h2, Bool.and_false, Bool.and_false]
        simp only [Bool.not_false, e, Bool.false_eq_true, if_false]; exact off
      | true =>
        have e : weightsB b a.length = adj noInc b := by unfold weightsB; rw [h2, Bool.and_true, decide_eq_true c, Bool.and_true]
        simp only [Bool.not_true, e]
        refine Ev.succ ?_
        simp only [impl_RankSum.j0, Bool.false_eq_true, if_false]
        exact impl_RankSum_l h' b (by omega) 0 (Nat.zero_le _)
    · have e : weightsB b a.length = false := by unfold weightsB; rw [decide_eq_false c, Bool.false_and, Bool.and_false]
      simp only [c, if_false, e, Bool.false_eq_true]; exact off

theorem spec_DrawRankSum_l {c : List Int} (hc : Bts c) (x : List Int) (hx : x.length ≤ 10) : ∀ (d i : Nat) (y : List Int) (v a s b : Int), i + d = x.length → y.length = i → At a b → b + 4 * d + 16 ≤ 1073741824 → Ex (fun k => spec_DrawRankSum.l0 k x y v (x.length : Int) (i : Int) c a s) (fun r => r.1.length ≤ 10 ∧ r.2.length ≤ 11)
  | 0, i, y, v, a, s, b, hi, hy, ha, hb => by
    have hl : y.length < 17592186044416 := by omega
    refine Ex.succ ?_
    simp only [spec_DrawRankSum.l0, nlt (by omega : x.length ≤ i), if_false]
    refine Ex.bind (spec_l1Cur_pick_x hc a s b 12 ha (by omega)) fun r hr => ?_
    by_cases c1 : r.1 = 0
    · simp only [c1, if_true]
      refine Ex.bind (spec_l1Cur_among_x hc _ _ (b + 2) _ (by simp) hr.2.2 (by omega)) fun q hq => ?_
      simp only [hl, if_true]
      exact Ex.now ⟨hx, by show (y ++ [q.1]).length ≤ 11; rw [List.length_append, List.length_singleton]; omega⟩
    · simp only [c1, if_false]
      by_cases c2 : r.1 = 1
      · simp only [c2, if_true]
        by_cases c3 : (y.length : Int) > 0
        · simp only [c3, if_true]
          refine Ex.bind (spec_l1Cur_among_x hc _ _ (b + 2) _ (by simp) hr.2.2 (by omega)) fun q hq => ?_
          have c4 : (0 : Int) < (y.length : Int) := by omega
          try simp only [c4, if_true]
          exact Ex.now ⟨hx, by show (y.set _ _).length ≤ 11; rw [List.length_set]; omega⟩
        · simp only [c3, if_false]
          exact Ex.now ⟨hx, by show y.length ≤ 11; omega⟩
      · simp only [c2, if_false]
        exact Ex.now ⟨hx, by show y.length ≤ 11; omega⟩
  | d + 1, i, y, v, a, s, b, hi, hy, ha, hb => by
    have hl : y.length < 17592186044416 := by omega
    refine Ex.succ ?_
    simp only [spec_DrawRankSum.l0, ilt (by omega : i < x.length), if_true, hl, wnext (by omega : i < x.length) (by omega : x.length ≤ 4611686018427387904)]
    refine Ex.bind (spec_l1Cur_pick_x hc a s b 5 ha (by omega)) fun r hr => ?_
    exact spec_DrawRankSum_l hc x hx d (i + 1) _ _ _ _ (b + 2) (by omega) (by rw [List.length_append, List.length_singleton]; omega) hr.2.2 (by omega)
theorem spec_DrawRankSum_x {c : List Int} (hc : Bts c) : Ex (fun k => spec_DrawRankSum.f k c) (fun r => r.1.length ≤ 10 ∧ r.2.length ≤ 11) := by
  simp only [spec_DrawRankSum.f]
  refine Ex.bind (spec_l1Cur_anyList_x hc 0 0 0 9 ⟨by omega, by omega⟩ (by omega)) fun r hr => ?_
  refine Ex.bind (spec_l1Cur_pick_x hc _ _ (0 + 64) 20 hr.2 (by omega)) fun q hq => ?_
  exact spec_DrawRankSum_l hc r.1 hr.1 r.1.length 0 [] _ _ _ (0 + 64 + 2) (by omega) rfl hq.2.2 (by have := hr.1; omega)

theorem spec_msWeights_l (l : List Int) (n : Int) (hl : l.length ≤ 1048576) : ∀ i, i ≤ l.length - 1 → Ev (fun k => spec_msWeights.l0 k l n ((i + 1 : Nat) : Int)) (adj noInc (l.drop i) && (decide ((l.length : Int) = n) && allW l (-1000) 1000)) := by
  refine down ?_ ?_
  · refine Ev.succ ?_
    simp only [spec_msWeights.l0, nlt (by omega : l.length ≤ l.length - 1 + 1), if_false]
    rw [adj_short (by rw [List.length_drop]; omega), Bool.true_and]
    by_cases h : (l.length : Int) = n
    · simp only [h, if_true, decide_true, Bool.true_and]
      exact Ev.ret (f := fun t => t) (spec_l1All_ev l _ _ (by omega))
    · simp only [h, if_false, decide_false, Bool.false_and]
      exact Ev.now _
  · intro i hi ih
    have h0 : i < l.length := by omega
    have h1 : i + 1 < l.length := by omega
    refine Ev.succ ?_
    simp only [spec_msWeights.l0, ilt h1, inn, if_true, wprev (by omega : i ≤ 4611686018427387904), ilt h0, rd_lt h0, rd_lt h1, wnext h1 (by omega)]
    rw [drop_cons h0, drop_cons h1, adj, ← drop_cons h1]
    by_cases c : l[i + 1] > l[i]
    · have d : noInc l[i] l[i + 1] = false := decide_eq_false (by omega)
      simp only [c, if_true, d, Bool.false_and]
      exact Ev.now _
    · have d : noInc l[i] l[i + 1] = true := decide_eq_true (by omega)
      simp only [c, if_false, d, Bool.true_and]
      exact ih
theorem spec_msWeights_ev (l : List Int) (n : Int) (hl : l.length ≤ 1048576) : Ev (fun k => spec_msWeights.f k l n) (weightsB l n) := by
  simp only [spec_msWeights.f]
  exact spec_msWeights_l l n hl 0 (Nat.zero_le _)

theorem spec_RankSum_ev (a b : List Int) (ha : a.length ≤ 1048576) (hb : b.length ≤ 1048576) : Ev (fun k => spec_RankSum.f k a b) (if goodB a && weightsB b a.length then (wrap64 (dot (rankD a) b), true) else (0, false)) := by
  simp only [spec_RankSum.f]
  refine Ev.bind (spec_liGood_ev a (by omega)) ?_
  cases h : goodB a with
  | false => simp only [Bool.false_and, Bool.false_eq_true, if_false]; exact Ev.now _
  | true =>
    simp only [if_true, Bool.true_and]
    refine Ev.bind (spec_msWeights_ev b a.length hb) ?_
    cases h2 : weightsB b a.length with
    | false => simp only [Bool.false_eq_true, if_false]; exact Ev.now _
    | true =>
      have hl : a.length ≤ b.length := by
        unfold weightsB at h2
        simp only [Bool.and_eq_true, decide_eq_true_eq] at h2
        omega
      simp only [if_true]
      exact Ev.ret (f := fun t => (t, true)) (spec_msRankSum_ev a b ha hl)

theorem FnRankedWeights_j2 {b x y : List Int} (hd : Bts b) (hx : x.length ≤ 1048576) (hy : y.length ≤ 1048576) (is one : Bool) (h : one = true → is = true → goodB x = true ∧ goodB y = true ∧ majB x y = true) : Ev (fun k => laws_FnRankedWeights.j2 k b x y is one) true := by
  refine Ev.succ ?_
  simp only [laws_FnRankedWeights.j2]
  refine Ex.ev (spec_DrawRankSum_x hd) fun r hr => ?_
  obtain ⟨a, w⟩ := r
  have ha : a.length ≤ 1048576 := by have := hr.1; show a.length ≤ _; simp only at this; omega
  have hw : w.length ≤ 1048576 := by have := hr.2; show w.length ≤ _; simp only at this; omega
  simp only
  refine Ev.bind (impl_RankSum_ev a w ha hw) ?_
  refine Ev.bind (spec_RankSum_ev a w ha hw) ?_
  simp only [bne_self_eq_false, Bool.false_eq_true, if_false]
  refine Ev.succ ?_
  simp only [laws_FnRankedWeights.j3, Bool.false_eq_true, if_false]
  have off : Ev (fun k => laws_FnRankedWeights.j4 k x y w false) true := by
    refine Ev.succ ?_
    simp only [laws_FnRankedWeights.j4, Bool.false_eq_true, if_false]
    exact Ev.now _
  cases one with
  | false => simp only [Bool.false_eq_true, if_false]; exact off
  | true =>
    simp only [if_true]
    cases is with
    | false => simp only [Bool.false_eq_true, if_false]; exact off
    | true =>
      obtain ⟨gx, gy, hm⟩ := h rfl rfl
      simp only [if_true]
      cases hl : ((x.length : Int) == (w.length : Int)) with
      | false => exact off
      | true =>
        have hl : x.length = w.length := by have := beq_iff_eq.1 hl; omega
        refine Ev.succ ?_
        simp only [laws_FnRankedWeights.j4, if_true]
        refine Ev.bind (impl_RankSum_ev x w hx hw) ?_
        refine Ev.bind (impl_RankSum_ev y w hy hw) ?_
        have lx := goodB_iff.1 gx
        have ly := goodB_iff.1 gy
        have hxy : x.length = y.length := by
          unfold majB at hm
          rw [Bool.and_eq_true, decide_eq_true_eq] at hm
          exact hm.1
        cases hwb : weightsB w x.length with
        | false => rw [gx]; simp only [Bool.and_false, Bool.false_eq_true, if_false]; exact Ev.now _
        | true =>
          have hwy : weightsB w y.length = true := by rw [← hxy]; exact hwb
          rw [gx, gy, hwy]
          simp only [Bool.and_self, if_true]
          unfold weightsB at hwb
          rw [Bool.and_eq_true, Bool.and_eq_true, allW_iff] at hwb
          have m := rankSum_mono hwb.1 (by have := lx.1; omega) hl hm
          have bd : ∀ l : List Int, Lst l → l.length = w.length → wrap64 (dot (rankD l) w) = dot (rankD l) w := by
            intro l hl hlw
            have := dot_w_bound (rankD l) w (rankD_lst hl).2.2 hwb.2.2
            have h8 := hl.2.1
            rw [rankD_length] at this
            exact w64 (by omega) (by omega)
          rw [bd x lx hl, bd y ly (by omega)]
          have c : ¬ (dot (rankD x) w > dot (rankD y) w) := by omega
          simp only [c, if_false]
          exact Ev.now _
theorem FnRankedWeights_l0 {b x y w : List Int} (is one : Bool) (k p q : Int) (hw : w.length ≤ 1048576) (hb : ∀ z ∈ w, 0 ≤ z ∧ z ≤ 1) (hk : w.sum = k) (hpq : ¬ p ≤ q) (hj : Ev (fun k => laws_FnRankedWeights.j2 k b x y is one) true) : ∀ i, i ≤ w.length → ∀ acc : Int, acc = (w.take i).sum → Ev (fun n => laws_FnRankedWeights.l0 n b x y is one k p true q true acc w (w.length : Int) (i : Int)) true := by
  refine down ?_ ?_
  · intro acc ha
    refine Ev.succ ?_
    rw [List.take_length] at ha
    simp only [laws_FnRankedWeights.l0, nlt (Nat.le_refl w.length), if_false, if_true, hpq, ha, hk]
    exact hj
  · intro i hi ih acc ha
    have hz := hb _ (List.getElem_mem hi)
    have hs := sum_bound (l := w.take i) (lo := 0) (hi := 1) (fun z h => hb z (List.mem_of_mem_take h))
    rw [List.length_take] at hs
    refine Ev.succ ?_
    simp only [laws_FnRankedWeights.l0, ilt hi, inn, if_true, rd_lt hi, wnext hi (by omega : w.length ≤ 4611686018427387904), w64 (x := acc + w[i]) (by omega) (by omega)]
    refine ih _ ?_
    rw [List.take_succ_eq_append_getElem hi, List.sum_append, ha]
    simp
theorem FnRankedWeights : laws_FnRankedWeights.Pure := by
  intro a b hma hsa hwa hmb hsb hwb
  refine Ev.rounds ?_
  have hc := Bts.of hsa hwa
  have hd := Bts.of hsb hwb
  simp only [laws_FnRankedWeights.f]
  obtain ⟨t, ht⟩ := laws_big_x a b
  rw [ht]
  simp only [Option.bind_some]
  by_cases h0 : t = true
  · simp only [h0, if_true]; exact Ev.now _
  · simp only [h0, if_false]
    refine Ex.ev (spec_DrawRefusingWeights_x hc) fun r hr => ?_
    obtain ⟨x, y⟩ := r
    have hx : x.length ≤ 1048576 := by have := hr.1; show x.length ≤ _; simp only at this; omega
    have hy : y.length ≤ 1048576 := by have := hr.2; show y.length ≤ _; simp only at this; omega
    simp only
    refine Ev.bind (impl_RefusingWeights_ev x y hx hy) ?_
    refine Ev.bind (spec_RefusingWeights_ev x y hx hy) ?_
    refine Ev.bind (impl_IsMajorized_ev x y hx hy) ?_
    refine Ev.bind (impl_RefusalOf_ev x y hx hy) ?_
    have hrl : (refW x y).1.length ≤ 1048576 := by
      unfold refW
      have kb := refK_bound x y
      split
      · split
        · rw [onesN_length (by omega)]; exact hx
        · simp
      · simp
    simp only [bne_self_eq_false, Bool.false_eq_true, if_false]
    refine Ev.bind (laws_ySame_ev _ _ (by omega)) ?_
    simp only [decide_true, if_true]
    have last : ∀ v : Bool × Bool, v = (if goodB x && goodB y then (majB x y, true) else (false, false)) → Ev (fun k => laws_FnRankedWeights.j2 k b x y v.1 v.2) true := by
      intro v hv
      refine FnRankedWeights_j2 hd hx hy v.1 v.2 fun h1 h2 => ?_
      cases hg : goodB x && goodB y with
      | false => rw [hg] at hv; rw [hv] at h1; exact absurd h1 (by simp)
      | true =>
        rw [hg] at hv
        rw [Bool.and_eq_true] at hg
        rw [hv] at h2
        exact ⟨hg.1, hg.2, h2⟩
    obtain ⟨v, hv⟩ : ∃ v, v = (if goodB x && goodB y then (majB x y, true) else (false, false)) := ⟨_, rfl⟩
    rw [← hv]
    have hlast := last v hv
    cases hf : fits x y with
    | false =>
      have e : refW x y = ([], false) := by unfold refW; rw [hf]; rfl
      rw [e]
      simp only [Bool.false_eq_true, if_false, bne_self_eq_false]
      refine Ev.succ ?_
      simp only [laws_FnRankedWeights.j0, Bool.false_eq_true, if_false]
      exact hlast
    | true =>
      obtain ⟨lx, ly, e1, e2⟩ := fits_iff.1 hf
      have kb := refK_bound x y
      have hv2 : v = (subB x y, true) := by rw [hv, goodB_iff.2 lx, goodB_iff.2 ly]; simp [majB, e1, e2]
      have hz : subB x y = (refK x y == 0) := (refGo_zero 0 _ _).symm
      simp only [if_true]
      by_cases c : refK x y > 0
      · have e : refW x y = (onesN x.length (refK x y).toNat, true) := by unfold refW; rw [hf]; simp only [if_true]; rw [if_pos c]
        have hs : subB x y = false := by rw [hz]; exact beq_eq_false_iff_ne.2 (by omega)
        have hv3 : v = (false, true) := by rw [hv2, hs]
        rw [hv3] at hlast ⊢
        rw [e]
        simp only [decide_eq_true c, bne_self_eq_false, Bool.false_eq_true, if_false, if_true]
        refine Ev.succ ?_
        simp only [laws_FnRankedWeights.j0, Bool.false_eq_true, if_false, if_true]
        obtain ⟨k, hk⟩ : ∃ k : Nat, refK x y = ((k + 1 : Nat) : Int) := ⟨(refK x y).toNat - 1, by omega⟩
        have hkn : k + 1 ≤ x.length := by omega
        have hto : (refK x y).toNat = k + 1 := by omega
        rw [hto]
        have hln := onesN_length hkn
        refine Ev.bind (impl_RankSum_ev x (onesN x.length (k + 1)) hx (by rw [hln]; exact hx)) ?_
        refine Ev.bind (impl_RankSum_ev y (onesN x.length (k + 1)) hy (by rw [hln]; exact hx)) ?_
        have w1 := onesN_weights hkn
        have w2 : weightsB (onesN x.length (k + 1)) y.length = true := by rw [← e1]; exact w1
        rw [goodB_iff.2 lx, goodB_iff.2 ly, w1, w2]
        simp only [Bool.and_self, if_true]
        have at_ := refGo_at 0 (partOf x) (partOf y) k (by rw [show refGo 0 (partOf x) (partOf y) = refK x y from rfl, hk]; omega)
        have r1 := rank_ones (a := x) (n := x.length) (k := k + 1) rfl (by omega) hkn
        have r2 := rank_ones (a := y) (n := x.length) (k := k + 1) e1.symm (by omega) hkn
        rw [Nat.add_sub_cancel] at r1 r2
        have hmem : ∀ z ∈ onesN x.length (k + 1), 0 ≤ z ∧ z ≤ 1 := by
          intro z hz
          unfold onesN at hz
          rcases List.mem_append.1 hz with h | h
          · have := List.eq_of_mem_replicate h; omega
          · have := List.eq_of_mem_replicate h; omega
        have bd : ∀ l : List Int, Lst l → wrap64 (dot (rankD l) (onesN x.length (k + 1))) = dot (rankD l) (onesN x.length (k + 1)) := by
          intro l hl
          have := dot_w_bound (rankD l) (onesN x.length (k + 1)) (rankD_lst hl).2.2 (fun z hz => by have := hmem z hz; omega)
          have h8 := hl.2.1
          rw [rankD_length] at this
          exact w64 (by omega) (by omega)
        rw [bd x lx, bd y ly]
        refine FnRankedWeights_l0 false true _ _ _ (by rw [hln]; exact hx) hmem (by rw [onesN_sum, hk]) (by rw [r1, r2]; have := at_.2; omega) hlast 0 (Nat.zero_le _) 0 (by simp)
      · have e : refW x y = ([], false) := by unfold refW; rw [hf]; simp only [if_true]; rw [if_neg c]
        rw [e]
        simp only [decide_eq_false c, bne_self_eq_false, Bool.false_eq_true, if_false]
        refine Ev.succ ?_
        simp only [laws_FnRankedWeights.j0, Bool.false_eq_true, if_false]
        exact hlast

end Go.Proofs.Ytclnfaclfplpmaa.Pure
