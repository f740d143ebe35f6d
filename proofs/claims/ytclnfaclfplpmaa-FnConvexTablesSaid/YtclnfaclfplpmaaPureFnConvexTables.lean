/- Sums over a convex table do not fall with the order of lists, and a convex table that does not fall is made of thresholds; the printed functions' own bounds on lengths are the only conditions. -/
import Derived.Test.YtclnfaclfplpmaaPFnConvexTablesx13
import Derived.Test.YtclnfaclfplpmaaTFnConvexTablesMathL
namespace Go.Proofs.Ytclnfaclfplpmaa.Pure
open Go.RowKit Go.Proofs.Ytclnfaclfplpmaa.PFnConvexTables Go.Proofs.YtclnfaclfplpmaaW.PrintWords Go.Proofs.YtclnfaclfplpmaaW.PrintLast Go.Proofs.YtclnfaclfplpmaaW.PrintMore Go.Proofs.Ytclnfaclfplpmaa.Math
set_option linter.unusedVariables false
set_option linter.unusedSimpArgs false
set_option linter.unusedSectionVars false

theorem laws_big_x (a b : List Int) : ∃ t, laws_big.f a b = some t := by
  unfold laws_big.f
  by_cases c : (a.length : Int) > 1048576
  · rw [if_pos c]; exact ⟨_, rfl⟩
  · rw [if_neg c]; exact ⟨_, rfl⟩

theorem impl_within_e (a b c : Int) : impl_within.f a b c = some (wth a b c) := wth_opt a b c

theorem impl_allWithin_l (l : List Int) (lo hi : Int) (hl : l.length ≤ 4611686018427387904) : ∀ i, i ≤ l.length → Ev (fun k => impl_allWithin.l0 k lo hi l (l.length : Int) (i : Int)) (allW (l.drop i) lo hi) := by
  refine down ?_ ?_
  · refine Ev.succ ?_
    simp only [impl_allWithin.l0, nlt (Nat.le_refl l.length), if_false, List.drop_length]
    exact Ev.now _
  · intro i hi ih
    refine Ev.succ ?_
    simp only [impl_allWithin.l0, ilt hi, inn, if_true, impl_within_e, Option.bind_some, rd_lt hi, wnext hi hl]
    rw [drop_cons hi]
    exact Ev.andS fun _ => ih
theorem impl_allWithin_ev (l : List Int) (lo hi : Int) (hl : l.length ≤ 4611686018427387904) : Ev (fun k => impl_allWithin.f k l lo hi) (allW l lo hi) := by
  have := impl_allWithin_l l lo hi hl 0 (Nat.zero_le _)
  simpa only [impl_allWithin.f, List.drop_zero, Int.natCast_zero] using this

theorem impl_IsList_ev (l : List Int) (hl : l.length ≤ 4611686018427387904) : Ev (fun k => impl_IsList.f k l) (goodB l) := by
  simp only [impl_IsList.f, impl_within_e, Option.bind_some, goodB]
  exact Ev.andS fun _ => Ev.ret (f := fun t => t) (impl_allWithin_ev l 0 60 hl)

theorem impl_areLists_ev (a b : List Int) (ha : a.length ≤ 1048576) (hb : b.length ≤ 1048576) : Ev (fun k => impl_areLists.f k a b) (goodB a && goodB b) := by
  simp only [impl_areLists.f]
  exact Ev.and (impl_IsList_ev a (by omega)) fun h => Ev.ret (f := fun t => t) (impl_IsList_ev b (by omega))

theorem slices_Clone_int_int_e (l : List Int) (hl : l.length < 17592186044416) : slices_Clone_int_int.f l = some l := by
  simp only [slices_Clone_int_int.f, Option.bind_some, List.nil_append, List.length_nil, Nat.zero_add, hl, if_true]

theorem impl_ranking_1_e (x y : Int) : impl_ranking_1.f x y = some (wrap64 (y - x)) := rfl

def Bnd (l : List Int) : Prop := ∀ x ∈ l, -1000000 ≤ x ∧ x ≤ 1000000
theorem slices_insertionSortCmpFunc_int_l1 (x : Int) (hx : -1000000 ≤ x ∧ x ≤ 1000000) (R : List Int) (n i : Nat) (v : List Int) : ∀ (m : Nat) (P Q : List Int), P.length = m → m ≤ 1048576 → Bnd P → Desc (P ++ Q) → (∀ y ∈ Q, y < x) →
    Ev (fun k => slices_insertionSortCmpFunc_int.l0 k (insD x (P ++ Q) ++ R) 0 (n : Int) (wrap64 ((i : Int) + 1))) v → Ev (fun k => slices_insertionSortCmpFunc_int.l1 k (P ++ x :: (Q ++ R)) 0 (n : Int) (i : Int) (m : Int)) v
  | 0, P, Q, hP, _, _, _, hQ, hv => by
    have e : P = [] := List.eq_nil_of_length_eq_zero hP
    subst e
    refine Ev.succ ?_
    have c : ¬ ((0 : Nat) : Int) > 0 := by omega
    rw [insD_split x [] Q (fun y hy => absurd hy List.not_mem_nil) hQ] at hv
    simp only [slices_insertionSortCmpFunc_int.l1, c, if_false]
    exact hv
  | m + 1, P, Q, hP, hm, hb, hd, hQ, hv => by
    have hne : P ≠ [] := fun e => by rw [e] at hP; simp at hP
    have ep : P = P.dropLast ++ [P.getLast hne] := (List.dropLast_concat_getLast hne).symm
    generalize hP' : P.dropLast = P' at ep
    generalize hp : P.getLast hne = p at ep
    have hpb := hb p (by rw [ep]; simp)
    clear hP' hp
    subst ep
    have hl : P'.length = m := by rw [List.length_append, List.length_singleton] at hP; omega
    refine Ev.succ ?_
    have c : ((m + 1 : Nat) : Int) > 0 := by omega
    have c1 : m < ((P' ++ [p]) ++ x :: (Q ++ R)).length := by rw [List.length_append, hP, List.length_cons]; omega
    have c2 : m + 1 < ((P' ++ [p]) ++ x :: (Q ++ R)).length := by rw [List.length_append, hP, List.length_cons]; omega
    have r1 : rd ((P' ++ [p]) ++ x :: (Q ++ R)) ((m + 1 : Nat) : Int) = x := rd_mid _ _ _ _ hP
    have r2 : rd ((P' ++ [p]) ++ x :: (Q ++ R)) (m : Int) = p := by rw [List.append_assoc]; exact rd_mid _ _ _ _ hl
    simp only [slices_insertionSortCmpFunc_int.l1, eq_true c, inn, ilt c1, ilt c2, if_true, wprev (by omega : m ≤ 4611686018427387904), r1, r2, impl_ranking_1_e, Option.bind_some, Int.toNat_natCast, w64 (x := p - x) (by omega) (by omega)]
    by_cases d : p - x < 0
    · simp only [eq_true d, if_true]
      have e1 : ((((P' ++ [p]) ++ x :: (Q ++ R)).set (m + 1) p).set m x) = P' ++ x :: ((p :: Q) ++ R) := by
        rw [set_mid _ _ _ _ _ hP, List.append_assoc, List.singleton_append, set_mid _ _ _ _ _ hl, List.cons_append]
      rw [e1]
      refine slices_insertionSortCmpFunc_int_l1 x hx R n i v m P' (p :: Q) hl (by omega) (fun y hy => hb y (List.mem_append_left _ hy)) (by rw [List.append_assoc, List.singleton_append] at hd; exact hd) (fun y hy => ?_) ?_
      · rcases List.mem_cons.1 hy with e | e
        · omega
        · exact hQ y e
      · rw [List.append_assoc, List.singleton_append] at hv
        exact hv
    · simp only [eq_false d, if_false]
      rw [insD_split x (P' ++ [p]) Q (fun y hy => ?_) hQ, List.append_assoc, List.cons_append] at hv
      · exact hv
      · rcases List.mem_append.1 hy with e | e
        · have := desc_split ((List.pairwise_append.1 hd).1) e (List.mem_singleton.2 rfl); omega
        · have := List.mem_singleton.1 e; omega
theorem slices_insertionSortCmpFunc_int_l0 (l : List Int) (hl : l.length ≤ 1048576) (hb : Bnd l) : ∀ i, i ≤ l.length → ∀ S : List Int, S.length = i → Bnd S → Desc S →
    Ev (fun k => slices_insertionSortCmpFunc_int.l0 k (S ++ l.drop i) 0 (l.length : Int) (i : Int)) (rankFrom S (l.drop i)) := by
  refine down ?_ ?_
  · intro S hS hB hD
    refine Ev.succ ?_
    simp only [slices_insertionSortCmpFunc_int.l0, nlt (Nat.le_refl l.length), if_false, List.drop_length, List.append_nil]
    exact Ev.now _
  · intro i hi ih S hS hB hD
    have hx := hb _ (List.getElem_mem hi)
    refine Ev.succ ?_
    simp only [slices_insertionSortCmpFunc_int.l0, ilt hi, if_true]
    rw [drop_cons hi]
    refine slices_insertionSortCmpFunc_int_l1 l[i] hx (l.drop (i + 1)) l.length i _ i S [] hS (by omega) hB (by rw [List.append_nil]; exact hD) (fun y hy => absurd hy List.not_mem_nil) ?_
    rw [List.append_nil, wnext hi (by omega)]
    refine ih (insD l[i] S) (by rw [insD_length, hS]) (fun y hy => ?_) (insD_desc _ _ hD)
    rcases List.mem_cons.1 ((insD_perm l[i] S).mem_iff.1 hy) with e | e
    · rw [e]; exact hx
    · exact hB y e
theorem slices_insertionSortCmpFunc_int_ev (l : List Int) (h0 : 0 < l.length) (hl : l.length ≤ 1048576) (hb : Bnd l) (a : Int) : Ev (fun k => slices_insertionSortCmpFunc_int.f k l 0 (l.length : Int) a) (rankD l) := by
  cases l with
  | nil => exact absurd h0 (by simp)
  | cons x t =>
    have := slices_insertionSortCmpFunc_int_l0 (x :: t) hl hb 1 (by rw [List.length_cons]; omega) [x] rfl (fun y hy => hb y (by rw [List.mem_singleton.1 hy]; exact List.mem_cons_self ..)) (List.pairwise_singleton _ _)
    have e : wrap64 (0 + 1) = ((1 : Nat) : Int) := by rw [w64 (by omega) (by omega)]; rfl
    simp only [slices_insertionSortCmpFunc_int.f, e]
    exact this

theorem slices_pdqsortCmpFunc_int_ev (l : List Int) (h0 : 0 < l.length) (hl : l.length ≤ 12) (hb : Bnd l) (a b : Int) : Ev (fun k => slices_pdqsortCmpFunc_int.f k l 0 (l.length : Int) a b) (rankD l) := by
  refine Ev.succ ?_
  simp only [slices_pdqsortCmpFunc_int.f]
  refine Ev.succ ?_
  simp only [slices_pdqsortCmpFunc_int.l0, Int.sub_zero, w64 (by omega : -9223372036854775808 ≤ (l.length : Int)) (by omega), eq_true (by omega : (l.length : Int) ≤ 12), if_true]
  exact Ev.ret (f := fun t => t) (slices_insertionSortCmpFunc_int_ev l h0 (by omega) hb b)

theorem bits_Len_e (n : Nat) (h : n ≤ 8) : ∃ r, bits_Len.f (IntKind.u64.wrap (n : Int)) = some r := by
  unfold bits_Len.f
  rw [IntKind.wrap_u64, if_pos (by omega)]
  exact ⟨_, rfl⟩

theorem slices_SortFunc_int_int_ev (l : List Int) (h0 : 0 < l.length) (hl : l.length ≤ 8) (hb : Bnd l) (a : Int) : Ev (fun k => slices_SortFunc_int_int.f k l a) (rankD l) := by
  obtain ⟨q, hq⟩ := bits_Len_e l.length hl
  simp only [slices_SortFunc_int_int.f, hq, Option.bind_some]
  exact Ev.ret (f := fun t => t) (slices_pdqsortCmpFunc_int_ev l h0 (by omega) hb q a)

theorem impl_ranking_ev {l : List Int} (h : Lst l) : Ev (fun k => impl_ranking.f k l) (rankD l) := by
  have h1 := h.1
  have h2 := h.2.1
  simp only [impl_ranking.f, slices_Clone_int_int_e l (by omega), Option.bind_some]
  exact Ev.ret (f := fun t => t) (slices_SortFunc_int_int_ev l (by omega) h2 (fun x hx => by have := h.2.2 x hx; omega) 0)

theorem impl_partial_l (l : List Int) (hl : l.length ≤ 8) (hb : ∀ x ∈ l, 0 ≤ x ∧ x ≤ 60) : ∀ i, i ≤ l.length → ∀ (out : List Int) (s : Int), out.length = i → 0 ≤ s ∧ s ≤ 60 * i → Ev (fun k => impl_partial.l0 k out s l (l.length : Int) (i : Int)) (out ++ psums s (l.drop i)) := by
  refine down ?_ ?_
  · intro out s ho hs
    refine Ev.succ ?_
    simp only [impl_partial.l0, nlt (Nat.le_refl l.length), if_false, List.drop_length, psums, List.append_nil]
    exact Ev.now _
  · intro i hi ih out s ho hs
    have b := hb _ (List.getElem_mem hi)
    have c : out.length < 17592186044416 := by omega
    refine Ev.succ ?_
    simp only [impl_partial.l0, ilt hi, inn, if_true, rd_lt hi, c, w64 (x := s + l[i]) (by omega) (by omega), wnext hi (by omega : l.length ≤ 4611686018427387904)]
    rw [drop_cons hi, psums]
    exact (ih (out ++ [s + l[i]]) (s + l[i]) (by simp [ho]) (by omega)).eqv (by simp)
theorem impl_partial_ev {l : List Int} (h : Lst l) : Ev (fun k => impl_partial.f k l) (partOf l) := by
  have hr := rankD_lst h
  simp only [impl_partial.f]
  refine Ev.bind (impl_ranking_ev h) ?_
  have := impl_partial_l (rankD l) hr.2.1 hr.2.2 0 (Nat.zero_le _) [] 0 rfl (by omega)
  rw [List.drop_zero, List.nil_append] at this
  exact this

theorem impl_refused_l (p q : List Int) (hp : p.length ≤ 1048576) (hq : p.length ≤ q.length) : ∀ i, i ≤ p.length → Ev (fun k => impl_refused.l0 k q p (p.length : Int) (i : Int)) (refGo i (p.drop i) (q.drop i)) := by
  refine down ?_ ?_
  · refine Ev.succ ?_
    simp only [impl_refused.l0, nlt (Nat.le_refl p.length), if_false, List.drop_length, refGo]
    exact Ev.now _
  · intro i hi ih
    have h2 : i < q.length := by omega
    refine Ev.succ ?_
    simp only [impl_refused.l0, ilt hi, ilt h2, inn, if_true, rd_lt hi, rd_lt h2, wnext hi (by omega : p.length ≤ 4611686018427387904)]
    rw [drop_cons hi, drop_cons h2, refGo]
    by_cases c : p[i] > q[i]
    · simp only [c, if_true]; exact Ev.now _
    · simp only [c, if_false]; exact ih
theorem impl_refused_ev {a b : List Int} (ha : Lst a) (hb : Lst b) (hl : a.length = b.length) : Ev (fun k => impl_refused.f k a b) (refGo 0 (partOf a) (partOf b)) := by
  have h2 := ha.2.1
  simp only [impl_refused.f]
  refine Ev.bind (impl_partial_ev hb) ?_
  refine Ev.bind (impl_partial_ev ha) ?_
  exact impl_refused_l (partOf a) (partOf b) (by rw [partOf_length]; omega) (by rw [partOf_length, partOf_length]; omega) 0 (Nat.zero_le _)

theorem impl_total_l (l : List Int) (hl : l.length ≤ 4611686018427387904) : ∀ i, i ≤ l.length → ∀ acc, InR acc → Ev (fun k => impl_total.l0 k acc l (l.length : Int) (i : Int)) (wrap64 (acc + (l.drop i).sum)) := by
  refine down ?_ ?_
  · intro acc ha
    refine Ev.succ ?_
    simp only [impl_total.l0, nlt (Nat.le_refl l.length), if_false, List.drop_length, List.sum_nil, Int.add_zero, wR ha]
    exact Ev.now _
  · intro i hi ih acc ha
    refine Ev.succ ?_
    simp only [impl_total.l0, ilt hi, inn, if_true, rd_lt hi, wnext hi hl]
    rw [drop_cons hi, List.sum_cons, ← Int.add_assoc]
    exact (ih _ (inR_wrap _)).eqv (wr_add _ _)
theorem impl_total_ev (l : List Int) (hl : l.length ≤ 4611686018427387904) : Ev (fun k => impl_total.f k l) (wrap64 l.sum) := by
  have := impl_total_l l hl 0 (Nat.zero_le _) 0 inR_0
  simpa only [impl_total.f, List.drop_zero, Int.zero_add, Int.natCast_zero] using this
theorem impl_total_good {l : List Int} (h : Lst l) : Ev (fun k => impl_total.f k l) l.sum :=
  (impl_total_ev l (by have := h.2.1; omega)).eqv (w64 (by have := h.sum; omega) (by have := h.sum; omega))

theorem impl_doFit_ev {a b : List Int} (ha : Lst a) (hb : Lst b) : Ev (fun k => impl_doFit.f k a b) (decide (a.length = b.length) && decide (a.sum = b.sum)) := by
  simp only [impl_doFit.f]
  by_cases h : a.length = b.length
  · have h2 : (a.length : Int) = (b.length : Int) := by omega
    simp only [h2, if_true, h, decide_true, Bool.true_and]
    refine Ev.bind (impl_total_good ha) ?_
    exact Ev.ret (f := fun t => a.sum == t) (impl_total_good hb)
  · have h2 : ¬ (a.length : Int) = (b.length : Int) := by omega
    simp only [h2, if_false, h, decide_false, Bool.false_and]
    exact Ev.now _

theorem impl_isMajorized_ev {a b : List Int} (ha : Lst a) (hb : Lst b) : Ev (fun k => impl_isMajorized.f k a b) ((decide (a.length = b.length) && decide (a.sum = b.sum)) && leAll (partOf a) (partOf b)) := by
  simp only [impl_isMajorized.f]
  refine (Ev.and (impl_doFit_ev ha hb) fun h => ?_)
  simp only [Bool.and_eq_true, decide_eq_true_eq] at h
  exact (Ev.ret (f := fun t => t == 0) (impl_refused_ev ha hb h.1)).eqv (refGo_zero 0 _ _)

theorem impl_IsMajorized_ev (a b : List Int) (ha : a.length ≤ 1048576) (hb : b.length ≤ 1048576) : Ev (fun k => impl_IsMajorized.f k a b) (if goodB a && goodB b then (majB a b, true) else (false, false)) := by
  simp only [impl_IsMajorized.f]
  refine Ev.bind (impl_areLists_ev a b ha hb) ?_
  cases h : goodB a && goodB b with
  | false => simp only [Bool.false_eq_true, if_false]; exact Ev.now _
  | true =>
    simp only [if_true]
    rw [Bool.and_eq_true, goodB_iff, goodB_iff] at h
    exact (Ev.ret (f := fun t => (t, true)) (impl_isMajorized_ev h.1 h.2)).eqv (by rw [Bool.and_assoc]; rfl)

theorem laws_pBelow_ev (a b : List Int) (ha : a.length ≤ 1048576) (hb : b.length ≤ 1048576) : Ev (fun k => laws_pBelow.f k a b) (goodB a && goodB b && majB a b) := by
  simp only [laws_pBelow.f]
  refine Ev.bind (impl_IsMajorized_ev a b ha hb) ?_
  cases h : goodB a && goodB b with
  | false => simp only [Bool.false_eq_true, if_false, Bool.false_and]; exact Ev.now _
  | true => simp only [if_true, Bool.true_and]; exact Ev.now _

theorem spec_l1Cur_next_x {c : List Int} (hc : Bts c) (a s b : Int) (ha : At a b) (hb : b ≤ 4611686018427387904) : ∃ r : Int × Int × Int, spec_l1Cur_next.f c a s = some r ∧ 0 ≤ r.1 ∧ r.1 ≤ 255 ∧ At r.2.1 (b + 1) := by
  have h0 := ha.1
  have h1 := ha.2
  have e : wrap64 (a + 1) = a + 1 := w64 (by omega) (by omega)
  have a1 : At (a + 1) (b + 1) := ⟨by omega, by omega⟩
  have u : ∀ z : Int, 0 ≤ wrap64 (Go.bits .and .u64 (IntKind.u64.wrap z / 1099511627776) 255) ∧ wrap64 (Go.bits .and .u64 (IntKind.u64.wrap z / 1099511627776) 255) ≤ 255 := fun z => and255 _ (by rw [wrapU64]; omega) (by rw [wrapU64]; omega)
  unfold spec_l1Cur_next.f
  by_cases c1 : a < (c.length : Int)
  · have r := rd_code hc h0 c1
    simp only [c1, h0, if_true, e]
    by_cases c2 : a + 1 ≤ (c.length : Int)
    · simp only [c2, if_true]
      refine ⟨_, rfl, ?_, ?_, a1⟩
      · show 0 ≤ wrap64 _
        rw [w64 (by omega) (by omega)]; exact r.1
      · show wrap64 _ ≤ 255
        rw [w64 (by omega) (by omega)]; exact r.2
    · simp only [c2, if_false]
      exact ⟨_, rfl, (u _).1, (u _).2, a1⟩
  · simp only [c1, if_false, e]
    by_cases c2 : a + 1 ≤ (c.length : Int)
    · simp only [c2, if_true]
      exact ⟨_, rfl, by show (0 : Int) ≤ 0; omega, by show (0 : Int) ≤ 255; omega, a1⟩
    · simp only [c2, if_false]
      exact ⟨_, rfl, (u _).1, (u _).2, a1⟩

theorem spec_l1Cur_pick_x {c : List Int} (hc : Bts c) (a s b n : Int) (ha : At a b) (hb : b ≤ 1073741824) : Ex (fun _ => spec_l1Cur_pick.f c a s n) (fun r => 0 ≤ r.1 ∧ (1 ≤ n → r.1 < n) ∧ At r.2.1 (b + 2)) := by
  have h0 := ha.1
  have h1 := ha.2
  unfold spec_l1Cur_pick.f
  by_cases c1 : n ≤ 1
  · simp only [c1, if_true]
    exact Ex.now ⟨by show (0 : Int) ≤ 0; omega, fun h => by show (0 : Int) < n; omega, by omega, by show a ≤ b + 2; omega⟩
  · simp only [c1, if_false]
    obtain ⟨r, hr, r0, r1, r2⟩ := spec_l1Cur_next_x hc a s b ha (by omega)
    rw [hr]
    simp only [Option.bind_some]
    have n0 : ¬ n = 0 := by omega
    by_cases c2 : n > 200
    · simp only [c2, if_true]
      obtain ⟨q, hq, q0, q1, q2⟩ := spec_l1Cur_next_x hc r.2.1 r.2.2 (b + 1) r2 (by omega)
      rw [hq]
      simp only [Option.bind_some, n0, if_false]
      have e : wrap64 (wrap64 (r.1 * 256) + q.1) = r.1 * 256 + q.1 := by rw [w64 (x := r.1 * 256) (by omega) (by omega), w64 (by omega) (by omega)]
      rw [e]
      refine Ex.now ⟨Int.tmod_nonneg _ (by omega), fun _ => Int.tmod_lt_of_pos _ (by omega), q2.1, ?_⟩
      have := q2.2
      show q.2.1 ≤ b + 2
      omega
    · simp only [c2, if_false, n0]
      refine Ex.now ⟨Int.tmod_nonneg _ (by omega), fun _ => Int.tmod_lt_of_pos _ (by omega), r2.1, ?_⟩
      have := r2.2
      show r.2.1 ≤ b + 2
      omega

theorem spec_l1Cur_among_x {c : List Int} (hc : Bts c) (a s b : Int) (l : List Int) (hl : 1 ≤ l.length) (ha : At a b) (hb : b ≤ 1073741824) : Ex (fun _ => spec_l1Cur_among.f c a s l) (fun r => r.1 ∈ l ∧ At r.2.1 (b + 2)) := by
  unfold spec_l1Cur_among.f
  refine Ex.bind (spec_l1Cur_pick_x hc a s b _ ha hb) fun r hr => ?_
  have h0 := hr.1
  have h1 := hr.2.1 (by omega)
  simp only [h0, h1, if_true]
  refine Ex.now ⟨?_, hr.2.2⟩
  have hi : r.1.toNat < l.length := by omega
  show rd l r.1 ∈ l
  unfold rd
  rw [List.getD_eq_getElem?_getD, List.getElem?_eq_getElem hi, Option.getD_some]
  exact List.getElem_mem hi

theorem spec_l1Cur_list_l {c : List Int} (hc : Bts c) (m : Int) : ∀ (n : Nat) (x : List Int) (a s b : Int), At a b → b + 2 * n ≤ 1073741824 → x.length + n ≤ 1048576 → Ex (fun k => spec_l1Cur_list.l0 k m x (n : Int) c a s) (fun r => r.1.length = x.length + n ∧ At r.2.1 (b + 2 * n))
  | 0, x, a, s, b, ha, hb, hx => by
    refine Ex.succ ?_
    simp only [spec_l1Cur_list.l0, show ¬ (((0 : Nat) : Int) > 0) by omega, if_false]
    exact Ex.now ⟨rfl, by simpa using ha⟩
  | n + 1, x, a, s, b, ha, hb, hx => by
    refine Ex.succ ?_
    simp only [spec_l1Cur_list.l0, show (((n + 1 : Nat) : Int) > 0) by omega, if_true]
    refine Ex.bind (spec_l1Cur_pick_x hc a s b _ ha (by omega)) fun r hr => ?_
    have hl : x.length < 17592186044416 := by omega
    simp only [hl, if_true, w64 (x := ((n + 1 : Nat) : Int) - 1) (by omega) (by omega)]
    rw [show ((n + 1 : Nat) : Int) - 1 = (n : Int) by omega]
    refine (spec_l1Cur_list_l hc m n (x ++ [r.1]) r.2.1 r.2.2 (b + 2) hr.2.2 (by omega) (by rw [List.length_append, List.length_singleton]; omega)).mono fun q hq => ?_
    rw [List.length_append, List.length_singleton] at hq
    exact ⟨by omega, hq.2.1, by have := hq.2.2; omega⟩
theorem spec_l1Cur_list_x {c : List Int} (hc : Bts c) (a s b m : Int) (ha : At a b) (hb : b ≤ 536870912) : Ex (fun k => spec_l1Cur_list.f k c a s m) (fun r => 1 ≤ r.1.length ∧ r.1.length ≤ 6 ∧ At r.2.1 (b + 14)) := by
  simp only [spec_l1Cur_list.f]
  refine Ex.bind (spec_l1Cur_pick_x hc a s b 6 ha (by omega)) fun r hr => ?_
  have h0 := hr.1
  have h1 := hr.2.1 (by omega)
  obtain ⟨n, hn⟩ := Int.eq_ofNat_of_zero_le h0
  rw [w64 (by omega) (by omega), show 1 + r.1 = ((n + 1 : Nat) : Int) by omega]
  refine (spec_l1Cur_list_l hc m (n + 1) [] r.2.1 r.2.2 (b + 2) hr.2.2 (by omega) (by simp; omega)).mono fun q hq => ?_
  rw [List.length_nil] at hq
  exact ⟨by omega, by omega, hq.2.1, by have := hq.2.2; omega⟩

theorem spec_l1Cur_anyList_l {c : List Int} (hc : Bts c) : ∀ (d : Nat) (x : List Int) (a s b : Int), x.length + d = 10 → At a b → b + 4 * d + 4 ≤ 1073741824 → Ex (fun k => spec_l1Cur_anyList.l0 k x c a s) (fun r => r.1.length ≤ 10 ∧ At r.2.1 (b + 4 * d + 4))
  | 0, x, a, s, b, hx, ha, hb => by
    refine Ex.succ ?_
    simp only [spec_l1Cur_anyList.l0]
    refine Ex.bind (spec_l1Cur_pick_x hc a s b 2 ha (by omega)) fun r hr => ?_
    have h0 := hr.1
    have h1 := hr.2.1 (by omega)
    have c1 : ¬ ((x.length : Int) < wrap64 (8 + r.1)) := by rw [w64 (by omega) (by omega)]; omega
    simp only [c1, if_false]
    exact Ex.now ⟨by show x.length ≤ 10; omega, hr.2.2.1, by have := hr.2.2.2; show r.2.1 ≤ _; omega⟩
  | d + 1, x, a, s, b, hx, ha, hb => by
    refine Ex.succ ?_
    simp only [spec_l1Cur_anyList.l0]
    refine Ex.bind (spec_l1Cur_pick_x hc a s b 2 ha (by omega)) fun r hr => ?_
    by_cases c1 : (x.length : Int) < wrap64 (8 + r.1)
    · simp only [c1, if_true]
      refine Ex.bind (spec_l1Cur_pick_x hc _ _ (b + 2) 9 hr.2.2 (by omega)) fun q hq => ?_
      have hl : x.length < 17592186044416 := by omega
      simp only [hl, if_true]
      refine (spec_l1Cur_anyList_l hc d (x ++ [q.1]) _ _ (b + 2 + 2) (by rw [List.length_append, List.length_singleton]; omega) hq.2.2 (by omega)).mono fun z hz => ?_
      exact ⟨hz.1, hz.2.1, by have := hz.2.2; omega⟩
    · simp only [c1, if_false]
      exact Ex.now ⟨by show x.length ≤ 10; omega, hr.2.2.1, by have := hr.2.2.2; show r.2.1 ≤ _; omega⟩
theorem spec_l1Cur_anyList_x {c : List Int} (hc : Bts c) (a s b m : Int) (ha : At a b) (hb : b ≤ 268435456) : Ex (fun k => spec_l1Cur_anyList.f k c a s m) (fun r => r.1.length ≤ 10 ∧ At r.2.1 (b + 64)) := by
  simp only [spec_l1Cur_anyList.f]
  refine Ex.bind (spec_l1Cur_list_x hc a s b m ha (by omega)) fun r hr => ?_
  refine Ex.bind (spec_l1Cur_pick_x hc _ _ (b + 14) 14 hr.2.2 (by omega)) fun q hq => ?_
  have q2 := hq.2.2.2
  by_cases c1 : q.1 = 0
  · simp only [c1, if_true]
    refine Ex.bind (spec_l1Cur_among_x hc _ _ (b + 14 + 2) _ (by simp) hq.2.2 (by omega)) fun z hz => ?_
    have hl : r.1.length < 17592186044416 := by omega
    simp only [hl, if_true]
    exact Ex.now ⟨by show (r.1 ++ [z.1]).length ≤ 10; rw [List.length_append, List.length_singleton]; omega, hz.2.1, by have := hz.2.2; show z.2.1 ≤ _; omega⟩
  · simp only [c1, if_false]
    by_cases c2 : q.1 = 1
    · simp only [c2, if_true]
      refine (spec_l1Cur_anyList_l hc (10 - r.1.length) r.1 _ _ (b + 14 + 2) (by omega) hq.2.2 (by omega)).mono fun z hz => ?_
      exact ⟨hz.1, hz.2.1, by have := hz.2.2; omega⟩
    · simp only [c2, if_false]
      by_cases c3 : q.1 = 2
      · simp only [c3, if_true]
        exact Ex.now ⟨by show ([] : List Int).length ≤ 10; simp, hq.2.2.1, by show q.2.1 ≤ _; omega⟩
      · simp only [c3, if_false]
        exact Ex.now ⟨by show r.1.length ≤ 10; omega, hq.2.2.1, by show q.2.1 ≤ _; omega⟩

theorem spec_l1Cur_one_x {c : List Int} (hc : Bts c) (a s b n : Int) (ha : At a b) (hb : b ≤ 1073741824) : Ex (fun _ => spec_l1Cur_one.f c a s n) (fun r => At r.2.1 (b + 2)) := by
  unfold spec_l1Cur_one.f
  refine Ex.bind (spec_l1Cur_pick_x hc a s b n ha hb) fun r hr => ?_
  exact Ex.now hr.2.2

theorem spec_l1Cur_convex_l {c : List Int} (hc : Bts c) : ∀ (d : Nat) (x : List Int) (p q a s b : Int), x.length + d = 61 → At a b → b + 4 * d + 16 ≤ 1073741824 → Ex (fun k => spec_l1Cur_convex.l0 k x p q c a s) (fun r => r.1.length ≤ 62 ∧ At r.2.1 (b + 4 * d + 16))
  | 0, x, p, q, a, s, b, hx, ha, hb => by
    refine Ex.succ ?_
    have c0 : ¬ ((x.length : Int) ≤ 60) := by omega
    have hl : x.length < 17592186044416 := by omega
    simp only [spec_l1Cur_convex.l0, c0, if_false]
    refine Ex.bind (spec_l1Cur_pick_x hc a s b 8 ha (by omega)) fun r hr => ?_
    by_cases c1 : r.1 = 0
    · simp only [c1, if_true]
      refine Ex.bind (spec_l1Cur_pick_x hc _ _ (b + 2) _ hr.2.2 (by omega)) fun t ht => ?_
      have t0 := ht.1
      have t1 := ht.2.1 (by omega)
      simp only [t0, t1, if_true]
      refine Ex.bind (spec_l1Cur_pick_x hc _ _ (b + 2 + 2) 5 ht.2.2 (by omega)) fun u hu => ?_
      exact Ex.now ⟨by show (x.set _ _).length ≤ 62; rw [List.length_set]; omega, hu.2.2.1, by have := hu.2.2.2; show u.2.1 ≤ _; omega⟩
    · simp only [c1, if_false]
      by_cases c2 : r.1 = 1
      · simp only [c2, if_true]
        refine Ex.bind (spec_l1Cur_one_x hc _ _ (b + 2) 2 hr.2.2 (by omega)) fun t ht => ?_
        by_cases c3 : t.1 = true
        · simp only [c3, if_true, hl]
          exact Ex.now ⟨by show (x ++ [0]).length ≤ 62; rw [List.length_append, List.length_singleton]; omega, ht.1, by have := ht.2; show t.2.1 ≤ _; omega⟩
        · simp only [c3, if_false]
          refine Ex.bind (spec_l1Cur_pick_x hc _ _ (b + 2 + 2) _ ht (by omega)) fun u hu => ?_
          refine Ex.bind (spec_l1Cur_among_x hc _ _ (b + 2 + 2 + 2) _ (by simp) hu.2.2 (by omega)) fun v hv => ?_
          have u0 := hu.1
          have u1 := hu.2.1 (by omega)
          simp only [u0, u1, if_true]
          exact Ex.now ⟨by show (x.set _ _).length ≤ 62; rw [List.length_set]; omega, hv.2.1, by have := hv.2.2; show v.2.1 ≤ _; omega⟩
      · simp only [c2, if_false]
        exact Ex.now ⟨by show x.length ≤ 62; omega, hr.2.2.1, by have := hr.2.2.2; show r.2.1 ≤ _; omega⟩
  | d + 1, x, p, q, a, s, b, hx, ha, hb => by
    refine Ex.succ ?_
    have c0 : (x.length : Int) ≤ 60 := by omega
    have hl : x.length < 17592186044416 := by omega
    simp only [spec_l1Cur_convex.l0, c0, if_true, hl, Option.bind_some]
    refine Ex.bind (spec_l1Cur_one_x hc a s b 4 ha (by omega)) fun r hr => ?_
    have hx' : ∀ z : Int, (x ++ [z]).length + d = 61 := fun z => by rw [List.length_append, List.length_singleton]; omega
    by_cases c1 : r.1 = true
    · simp only [c1, if_true]
      refine Ex.bind (spec_l1Cur_pick_x hc _ _ (b + 2) 4 hr (by omega)) fun t ht => ?_
      exact (spec_l1Cur_convex_l hc d _ _ _ _ _ (b + 2 + 2) (hx' _) ht.2.2 (by omega)).mono fun z hz => ⟨hz.1, hz.2.1, by have := hz.2.2; omega⟩
    · simp only [c1, if_false]
      exact (spec_l1Cur_convex_l hc d _ _ _ _ _ (b + 2) (hx' _) hr (by omega)).mono fun z hz => ⟨hz.1, hz.2.1, by have := hz.2.2; omega⟩
theorem spec_l1Cur_convex_x {c : List Int} (hc : Bts c) (a s b : Int) (ha : At a b) (hb : b ≤ 134217728) : Ex (fun k => spec_l1Cur_convex.f k c a s) (fun r => r.1.length ≤ 62 ∧ At r.2.1 (b + 512)) := by
  simp only [spec_l1Cur_convex.f]
  refine Ex.bind (spec_l1Cur_pick_x hc a s b 40 ha (by omega)) fun r hr => ?_
  refine Ex.bind (spec_l1Cur_pick_x hc _ _ (b + 2) 9 hr.2.2 (by omega)) fun q hq => ?_
  refine Ex.bind (spec_l1Cur_one_x hc _ _ (b + 2 + 2) 2 hq.2.2 (by omega)) fun t ht => ?_
  have go : ∀ (p v a' s' : Int), At a' (b + 8) → Ex (fun k => spec_l1Cur_convex.j0 k [] p v c a' s') (fun r => r.1.length ≤ 62 ∧ At r.2.1 (b + 512)) := by
    intro p v a' s' ha'
    refine Ex.succ ?_
    simp only [spec_l1Cur_convex.j0]
    exact (spec_l1Cur_convex_l hc 61 [] p v a' s' (b + 8) rfl ha' (by omega)).mono fun z hz => ⟨hz.1, hz.2.1, by have := hz.2.2; omega⟩
  by_cases c1 : t.1 = true
  · simp only [c1, if_true]
    refine Ex.bind (spec_l1Cur_pick_x hc _ _ (b + 2 + 2 + 2) 4 ht (by omega)) fun u hu => ?_
    exact go _ _ _ _ ⟨hu.2.2.1, by have := hu.2.2.2; omega⟩
  · simp only [c1, if_false]
    exact go _ _ _ _ ⟨ht.1, by have := ht.2; omega⟩

theorem spec_DrawConvexSum_x {c : List Int} (hc : Bts c) : Ex (fun k => spec_DrawConvexSum.f k c) (fun r => r.1.length ≤ 62 ∧ r.2.length ≤ 10) := by
  simp only [spec_DrawConvexSum.f]
  refine Ex.bind (spec_l1Cur_convex_x hc 0 0 0 ⟨by omega, by omega⟩ (by omega)) fun r hr => ?_
  refine Ex.bind (spec_l1Cur_anyList_x hc _ _ (0 + 512) 60 hr.2 (by omega)) fun q hq => ?_
  exact Ex.now ⟨hr.1, hq.1⟩

theorem impl_isTable_ev (l : List Int) (hl : l.length ≤ 1048576) : Ev (fun k => impl_isTable.f k l) (tableB l) := by
  simp only [impl_isTable.f, tableB]
  by_cases h : (l.length : Int) = 61
  · simp only [h, if_true, decide_true, Bool.true_and]
    exact Ev.ret (f := fun t => t) (impl_allWithin_ev l _ _ (by omega))
  · simp only [h, if_false, decide_false, Bool.false_and]
    exact Ev.now _

theorem impl_ConvexSum_l {f a : List Int} (hf : tableB f = true) (ha : Lst a) : ∀ i, i ≤ a.length → ∀ acc, InR acc → Ev (fun k => impl_ConvexSum.l0 k f acc a (a.length : Int) (i : Int)) (wrap64 (acc + over (fun n => f.getD n 0) (a.drop i)), true) := by
  have h8 := ha.2.1
  have hfl : (f.length : Int) = 61 := by unfold tableB at hf; rw [Bool.and_eq_true, decide_eq_true_eq] at hf; exact hf.1
  refine down ?_ ?_
  · intro acc hacc
    refine Ev.succ ?_
    simp only [impl_ConvexSum.l0, nlt (Nat.le_refl a.length), if_false, List.drop_length]
    rw [show over (fun n => f.getD n 0) [] = 0 from rfl, Int.add_zero, wR hacc]
    exact Ev.now _
  · intro i hi ih acc hacc
    have b := ha.get hi
    have b0 : 0 ≤ a[i] := b.1
    have b1 : a[i] < (f.length : Int) := by omega
    refine Ev.succ ?_
    simp only [impl_ConvexSum.l0, ilt hi, inn, if_true, rd_lt hi, b0, b1, wnext hi (by omega : a.length ≤ 4611686018427387904)]
    have e : over (fun n => f.getD n 0) (a.drop i) = rd f a[i] + over (fun n => f.getD n 0) (a.drop (i + 1)) := by rw [drop_cons hi]; rfl
    rw [e, ← Int.add_assoc]
    exact (ih _ (inR_wrap _)).eqv (by rw [wr_add])
theorem impl_ConvexSum_ev (f a : List Int) (hf : f.length ≤ 1048576) (ha : a.length ≤ 1048576) : Ev (fun k => impl_ConvexSum.f k f a) (if tableB f && goodB a then (over (fun n => f.getD n 0) a, true) else (0, false)) := by
  simp only [impl_ConvexSum.f]
  refine Ev.bind (impl_isTable_ev f hf) ?_
  cases h : tableB f with
  | false =>
    simp only [Bool.false_and, Bool.false_eq_true, if_false]
    refine Ev.succ ?_
    simp only [impl_ConvexSum.j0, if_true]
    exact Ev.now _
  | true =>
    simp only [if_true, Bool.true_and]
    refine Ev.bind (impl_IsList_ev a (by omega)) ?_
    cases h2 : goodB a with
    | false =>
      simp only [Bool.not_false, Bool.false_eq_true, if_false]
      refine Ev.succ ?_
      simp only [impl_ConvexSum.j0, if_true]
      exact Ev.now _
    | true =>
      simp only [Bool.not_true, if_true]
      refine Ev.succ ?_
      simp only [impl_ConvexSum.j0, Bool.false_eq_true, if_false]
      refine (impl_ConvexSum_l h (goodB_iff.1 h2) 0 (Nat.zero_le _) 0 inR_0).eqv ?_
      rw [List.drop_zero, Int.zero_add, over_w h (goodB_iff.1 h2)]

theorem spec_l1In_e (a b c : Int) : spec_l1In.f a b c = some (wth a b c) := wth_opt a b c

theorem spec_l1All_l (l : List Int) (lo hi : Int) (hl : l.length ≤ 4611686018427387904) : ∀ i, i ≤ l.length → Ev (fun k => spec_l1All.l0 k lo hi l (l.length : Int) (i : Int)) (allW (l.drop i) lo hi) := by
  refine down ?_ ?_
  · refine Ev.succ ?_
    simp only [spec_l1All.l0, nlt (Nat.le_refl l.length), if_false, List.drop_length]
    exact Ev.now _
  · intro i hi ih
    refine Ev.succ ?_
    simp only [spec_l1All.l0, ilt hi, inn, if_true, spec_l1In_e, Option.bind_some, rd_lt hi, wnext hi hl]
    rw [drop_cons hi]
    exact Ev.andS fun _ => ih
theorem spec_l1All_ev (l : List Int) (lo hi : Int) (hl : l.length ≤ 4611686018427387904) : Ev (fun k => spec_l1All.f k l lo hi) (allW l lo hi) := by
  have := spec_l1All_l l lo hi hl 0 (Nat.zero_le _)
  simpa only [spec_l1All.f, List.drop_zero, Int.natCast_zero] using this

theorem spec_liGood_ev (l : List Int) (hl : l.length ≤ 4611686018427387904) : Ev (fun k => spec_liGood.f k l) (goodB l) := by
  simp only [spec_liGood.f, spec_l1In_e, Option.bind_some, goodB]
  exact Ev.andS fun _ => Ev.ret (f := fun t => t) (spec_l1All_ev l 0 60 hl)

theorem spec_syTable_ev (l : List Int) (hl : l.length ≤ 1048576) : Ev (fun k => spec_syTable.f k l) (tableB l) := by
  simp only [spec_syTable.f, tableB]
  by_cases h : (l.length : Int) = 61
  · simp only [h, if_true, decide_true, Bool.true_and]
    exact Ev.ret (f := fun t => t) (spec_l1All_ev l _ _ (by omega))
  · simp only [h, if_false, decide_false, Bool.false_and]
    exact Ev.now _

theorem spec_ConvexSum_l {f a : List Int} (hf : tableB f = true) (ha : Lst a) : ∀ i, i ≤ a.length → ∀ acc, InR acc → Ev (fun k => spec_ConvexSum.l0 k f acc a (a.length : Int) (i : Int)) (wrap64 (acc + over (fun n => f.getD n 0) (a.drop i)), true) := by
  have h8 := ha.2.1
  have hfl : (f.length : Int) = 61 := by unfold tableB at hf; rw [Bool.and_eq_true, decide_eq_true_eq] at hf; exact hf.1
  refine down ?_ ?_
  · intro acc hacc
    refine Ev.succ ?_
    simp only [spec_ConvexSum.l0, nlt (Nat.le_refl a.length), if_false, List.drop_length]
    rw [show over (fun n => f.getD n 0) [] = 0 from rfl, Int.add_zero, wR hacc]
    exact Ev.now _
  · intro i hi ih acc hacc
    have b := ha.get hi
    have b0 : 0 ≤ a[i] := b.1
    have b1 : a[i] < (f.length : Int) := by omega
    refine Ev.succ ?_
    simp only [spec_ConvexSum.l0, ilt hi, inn, if_true, rd_lt hi, b0, b1, wnext hi (by omega : a.length ≤ 4611686018427387904)]
    have e : over (fun n => f.getD n 0) (a.drop i) = rd f a[i] + over (fun n => f.getD n 0) (a.drop (i + 1)) := by rw [drop_cons hi]; rfl
    rw [e, ← Int.add_assoc]
    exact (ih _ (inR_wrap _)).eqv (by rw [wr_add])
theorem spec_ConvexSum_ev (f a : List Int) (hf : f.length ≤ 1048576) (ha : a.length ≤ 1048576) : Ev (fun k => spec_ConvexSum.f k f a) (if tableB f && goodB a then (over (fun n => f.getD n 0) a, true) else (0, false)) := by
  simp only [spec_ConvexSum.f]
  refine Ev.bind (spec_syTable_ev f hf) ?_
  cases h : tableB f with
  | false =>
    simp only [Bool.false_and, Bool.false_eq_true, if_false]
    refine Ev.succ ?_
    simp only [spec_ConvexSum.j0, if_true]
    exact Ev.now _
  | true =>
    simp only [if_true, Bool.true_and]
    refine Ev.bind (spec_liGood_ev a (by omega)) ?_
    cases h2 : goodB a with
    | false =>
      simp only [Bool.not_false, Bool.false_eq_true, if_false]
      refine Ev.succ ?_
      simp only [spec_ConvexSum.j0, if_true]
      exact Ev.now _
    | true =>
      simp only [Bool.not_true, if_true]
      refine Ev.succ ?_
      simp only [spec_ConvexSum.j0, Bool.false_eq_true, if_false]
      refine (spec_ConvexSum_l h (goodB_iff.1 h2) 0 (Nat.zero_le _) 0 inR_0).eqv ?_
      rw [List.drop_zero, Int.zero_add, over_w h (goodB_iff.1 h2)]

theorem spec_DrawWeightsOf_x {c : List Int} (hc : Bts c) : Ex (fun k => spec_DrawWeightsOf.f k c) (fun r => r.length ≤ 62) := by
  simp only [spec_DrawWeightsOf.f]
  refine Ex.bind (spec_l1Cur_convex_x hc 0 0 0 ⟨by omega, by omega⟩ (by omega)) fun r hr => ?_
  exact Ex.now hr.1

theorem impl_isConvex_l (l : List Int) (hl : l.length = 61) (hb : ∀ x ∈ l, -1000000 ≤ x ∧ x ≤ 1000000) : ∀ i, i ≤ 59 → Ev (fun k => impl_isConvex.l0 k l ((i + 1 : Nat) : Int)) (conv3 (l.drop i)) := by
  refine down ?_ ?_
  · refine Ev.succ ?_
    simp only [impl_isConvex.l0, (by decide : ¬ (((59 + 1 : Nat) : Int) < 60)), if_false]
    rw [conv3_short (by simp; omega)]
    exact Ev.now _
  · intro i hi ih
    have h0 : i < l.length := by omega
    have h1 : i + 1 < l.length := by omega
    have h2 : i + 1 + 1 < l.length := by omega
    have b0 := hb _ (List.getElem_mem h0)
    have b1 := hb _ (List.getElem_mem h1)
    have b2 := hb _ (List.getElem_mem h2)
    have c : ((i + 1 : Nat) : Int) < 60 := by omega
    refine Ev.succ ?_
    simp only [impl_isConvex.l0, c, ilt h1, inn, if_true, wprev (by omega : i ≤ 4611686018427387904), wnext h1 (by omega), ilt h0, ilt h2, rd_lt h0, rd_lt h1, rd_lt h2]
    rw [drop_cons h0, drop_cons h1, drop_cons h2, conv3, ← drop_cons h2, ← drop_cons h1, w64 (by omega) (by omega), w64 (by omega) (by omega)]
    by_cases hc : 2 * l[i + 1] ≤ l[i] + l[i + 1 + 1]
    · have c2 : ¬ 2 * l[i + 1] > l[i] + l[i + 1 + 1] := by omega
      simp only [decide_eq_true hc, Bool.true_and, c2, if_false]
      exact ih
    · have c2 : 2 * l[i + 1] > l[i] + l[i + 1 + 1] := by omega
      simp only [decide_eq_false hc, Bool.false_and, c2, if_true]
      exact Ev.now _
theorem impl_isConvex_ev (l : List Int) (hl : l.length = 61) (hb : ∀ x ∈ l, -1000000 ≤ x ∧ x ≤ 1000000) : Ev (fun k => impl_isConvex.f k l) (conv3 l) := by
  simp only [impl_isConvex.f]
  exact impl_isConvex_l l hl hb 0 (Nat.zero_le _)

theorem impl_IsConvexTable_ev (l : List Int) (hl : l.length ≤ 1048576) : Ev (fun k => impl_IsConvexTable.f k l) (tableB l && conv3 l, tableB l) := by
  simp only [impl_IsConvexTable.f]
  refine Ev.bind (impl_isTable_ev l hl) ?_
  cases h : tableB l with
  | false => simp only [Bool.false_eq_true, if_false, Bool.false_and]; exact Ev.now _
  | true =>
    simp only [if_true, Bool.true_and]
    have h2 := h
    rw [tableB, Bool.and_eq_true, decide_eq_true_eq, allW_iff] at h2
    exact Ev.ret (f := fun t => (t, true)) (impl_isConvex_ev l (by omega) h2.2)

theorem spec_syConvex_l (l : List Int) (hl : l.length = 61) (hb : ∀ x ∈ l, -1000000 ≤ x ∧ x ≤ 1000000) : ∀ i, i ≤ 59 → Ev (fun k => spec_syConvex.l0 k l ((i + 1 : Nat) : Int)) (conv3 (l.drop i)) := by
  refine down ?_ ?_
  · refine Ev.succ ?_
    simp only [spec_syConvex.l0, (by decide : ¬ (((59 + 1 : Nat) : Int) < 60)), if_false]
    rw [conv3_short (by simp; omega)]
    exact Ev.now _
  · intro i hi ih
    have h0 : i < l.length := by omega
    have h1 : i + 1 < l.length := by omega
    have h2 : i + 1 + 1 < l.length := by omega
    have b0 := hb _ (List.getElem_mem h0)
    have b1 := hb _ (List.getElem_mem h1)
    have b2 := hb _ (List.getElem_mem h2)
    have c : ((i + 1 : Nat) : Int) < 60 := by omega
    refine Ev.succ ?_
    simp only [spec_syConvex.l0, c, ilt h1, inn, if_true, wprev (by omega : i ≤ 4611686018427387904), wnext h1 (by omega), ilt h0, ilt h2, rd_lt h0, rd_lt h1, rd_lt h2]
    rw [drop_cons h0, drop_cons h1, drop_cons h2, conv3, ← drop_cons h2, ← drop_cons h1, w64 (by omega) (by omega), w64 (by omega) (by omega)]
    by_cases hc : 2 * l[i + 1] ≤ l[i] + l[i + 1 + 1]
    · have c2 : ¬ 2 * l[i + 1] > l[i] + l[i + 1 + 1] := by omega
      simp only [decide_eq_true hc, Bool.true_and, c2, if_false]
      exact ih
    · have c2 : 2 * l[i + 1] > l[i] + l[i + 1 + 1] := by omega
      simp only [decide_eq_false hc, Bool.false_and, c2, if_true]
      exact Ev.now _
theorem spec_syConvex_ev (l : List Int) (hl : l.length = 61) (hb : ∀ x ∈ l, -1000000 ≤ x ∧ x ≤ 1000000) : Ev (fun k => spec_syConvex.f k l) (conv3 l) := by
  simp only [spec_syConvex.f]
  exact spec_syConvex_l l hl hb 0 (Nat.zero_le _)

theorem spec_IsConvexTable_ev (l : List Int) (hl : l.length ≤ 1048576) : Ev (fun k => spec_IsConvexTable.f k l) (tableB l && conv3 l, tableB l) := by
  simp only [spec_IsConvexTable.f]
  refine Ev.bind (spec_syTable_ev l hl) ?_
  cases h : tableB l with
  | false => simp only [Bool.false_eq_true, if_false, Bool.false_and]; exact Ev.now _
  | true =>
    simp only [if_true, Bool.true_and]
    have h2 := h
    rw [tableB, Bool.and_eq_true, decide_eq_true_eq, allW_iff] at h2
    exact Ev.ret (f := fun t => (t, true)) (spec_syConvex_ev l (by omega) h2.2)

theorem impl_WeightsOf_l (l : List Int) (hl : l.length = 61) (hb : ∀ x ∈ l, -1000000 ≤ x ∧ x ≤ 1000000) : ∀ i, i ≤ 59 → ∀ out : List Int, out.length = i + 1 → Ev (fun k => impl_WeightsOf.l0 k l out ((i + 1 : Nat) : Int)) (out ++ sd3 (l.drop i), true) := by
  refine down ?_ ?_
  · intro out ho
    refine Ev.succ ?_
    simp only [impl_WeightsOf.l0, (by decide : ¬ (((59 + 1 : Nat) : Int) < 60)), if_false]
    rw [sd3_short (by simp; omega), List.append_nil]
    exact Ev.now _
  · intro i hi ih out ho
    have h0 : i < l.length := by omega
    have h1 : i + 1 < l.length := by omega
    have h2 : i + 1 + 1 < l.length := by omega
    have b0 := hb _ (List.getElem_mem h0)
    have b1 := hb _ (List.getElem_mem h1)
    have b2 := hb _ (List.getElem_mem h2)
    have c : ((i + 1 : Nat) : Int) < 60 := by omega
    have c2 : out.length < 17592186044416 := by omega
    refine Ev.succ ?_
    simp only [impl_WeightsOf.l0, c, c2, ilt h1, inn, if_true, wprev (by omega : i ≤ 4611686018427387904), wnext h1 (by omega), ilt h0, ilt h2, rd_lt h0, rd_lt h1, rd_lt h2]
    rw [drop_cons h0, drop_cons h1, drop_cons h2, sd3, ← drop_cons h2, ← drop_cons h1, w64 (x := 2 * l[i + 1]) (by omega) (by omega), w64 (x := l[i] - 2 * l[i + 1]) (by omega) (by omega), w64 (x := l[i] - 2 * l[i + 1] + l[i + 1 + 1]) (by omega) (by omega), show l[i] - 2 * l[i + 1] + l[i + 1 + 1] = l[i + 1 + 1] - 2 * l[i + 1] + l[i] by omega]
    exact (ih _ (by simp [ho])).eqv (by simp)
theorem impl_WeightsOf_ev (l : List Int) (hl : l.length ≤ 1048576) : Ev (fun k => impl_WeightsOf.f k l) (if wtsB l then (wts l, true) else ([], false)) := by
  simp only [impl_WeightsOf.f]
  have off : Ev (fun k => impl_WeightsOf.j0 k l true) ([], false) := by
    refine Ev.succ ?_
    simp only [impl_WeightsOf.j0, if_true]
    exact Ev.now _
  refine Ev.bind (impl_isTable_ev l hl) ?_
  cases h : tableB l with
  | false =>
    have hf : wtsB l = false := by simp [wtsB, h]
    simp only [hf, Bool.false_eq_true, if_false]; exact off
  | true =>
    simp only [if_true]
    have h2 := h
    rw [tableB, Bool.and_eq_true, decide_eq_true_eq, allW_iff] at h2
    have hl2 : l.length = 61 := by omega
    refine Ev.bind (impl_isConvex_ev l hl2 h2.2) ?_
    cases h3 : conv3 l with
    | false =>
      have hf : wtsB l = false := by simp [wtsB, h3]
      simp only [hf, Bool.false_eq_true, if_false]; exact off
    | true =>
      have e0 : rd l 0 = l.getD 0 0 := by simp [rd]
      have e1 : rd l 1 = l.getD 1 0 := by simp [rd]
      have hf : wtsB l = (decide (l.getD 0 0 = 0) && decide (0 ≤ l.getD 1 0)) := by rw [wtsB, h, h3, Bool.true_and, Bool.true_and]
      simp only [if_true, hl2, (by decide : (0 : Int) < ((61 : Nat) : Int)), (by decide : (1 : Int) < ((61 : Nat) : Int)), e0, e1]
      by_cases c0 : l.getD 0 0 = 0
      · rw [decide_eq_true c0, Bool.true_and] at hf
        simp only [c0, if_true]
        by_cases c1 : 0 ≤ l.getD 1 0
        · rw [decide_eq_true c1] at hf
          have hd : decide (l.getD 1 0 < 0) = false := decide_eq_false (by omega)
          simp only [hf, if_true, hd]
          refine Ev.succ ?_
          simp only [impl_WeightsOf.j0, Bool.false_eq_true, if_false, hl2, (by decide : (1 : Int) < ((61 : Nat) : Int)), if_true, e1]
          exact impl_WeightsOf_l l hl2 h2.2 0 (Nat.zero_le _) [l.getD 1 0] rfl
        · rw [decide_eq_false c1] at hf
          have hd : decide (l.getD 1 0 < 0) = true := decide_eq_true (by omega)
          simp only [hf, Bool.false_eq_true, if_false, hd]
          exact off
      · rw [decide_eq_false c0, Bool.false_and] at hf
        simp only [c0, if_false, hf, Bool.false_eq_true]
        exact off

theorem spec_WeightsOf_l (l : List Int) (hl : l.length = 61) (hb : ∀ x ∈ l, -1000000 ≤ x ∧ x ≤ 1000000) : ∀ i, i ≤ 59 → ∀ out : List Int, out.length = i + 1 → Ev (fun k => spec_WeightsOf.l0 k l out ((i + 1 : Nat) : Int)) (out ++ sd3 (l.drop i), true) := by
  refine down ?_ ?_
  · intro out ho
    refine Ev.succ ?_
    simp only [spec_WeightsOf.l0, (by decide : ¬ (((59 + 1 : Nat) : Int) < 60)), if_false]
    rw [sd3_short (by simp; omega), List.append_nil]
    exact Ev.now _
  · intro i hi ih out ho
    have h0 : i < l.length := by omega
    have h1 : i + 1 < l.length := by omega
    have h2 : i + 1 + 1 < l.length := by omega
    have b0 := hb _ (List.getElem_mem h0)
    have b1 := hb _ (List.getElem_mem h1)
    have b2 := hb _ (List.getElem_mem h2)
    have c : ((i + 1 : Nat) : Int) < 60 := by omega
    have c2 : out.length < 17592186044416 := by omega
    refine Ev.succ ?_
    simp only [spec_WeightsOf.l0, c, c2, ilt h1, inn, if_true, wprev (by omega : i ≤ 4611686018427387904), wnext h1 (by omega), ilt h0, ilt h2, rd_lt h0, rd_lt h1, rd_lt h2]
    rw [drop_cons h0, drop_cons h1, drop_cons h2, sd3, ← drop_cons h2, ← drop_cons h1, w64 (x := 2 * l[i + 1]) (by omega) (by omega), w64 (x := l[i + 1 + 1] - 2 * l[i + 1]) (by omega) (by omega), w64 (x := l[i + 1 + 1] - 2 * l[i + 1] + l[i]) (by omega) (by omega)]
    exact (ih _ (by simp [ho])).eqv (by simp)
theorem spec_WeightsOf_ev (l : List Int) (hl : l.length ≤ 1048576) : Ev (fun k => spec_WeightsOf.f k l) (if wtsB l then (wts l, true) else ([], false)) := by
  simp only [spec_WeightsOf.f]
  have off : Ev (fun k => spec_WeightsOf.j0 k l true) ([], false) := by
    refine Ev.succ ?_
    simp only [spec_WeightsOf.j0, if_true]
    exact Ev.now _
  refine Ev.bind (spec_syTable_ev l hl) ?_
  cases h : tableB l with
  | false =>
    have hf : wtsB l = false := by simp [wtsB, h]
    simp only [hf, Bool.false_eq_true, if_false]; exact off
  | true =>
    simp only [if_true]
    have h2 := h
    rw [tableB, Bool.and_eq_true, decide_eq_true_eq, allW_iff] at h2
    have hl2 : l.length = 61 := by omega
    refine Ev.bind (spec_syConvex_ev l hl2 h2.2) ?_
    cases h3 : conv3 l with
    | false =>
      have hf : wtsB l = false := by simp [wtsB, h3]
      simp only [hf, Bool.false_eq_true, if_false]; exact off
    | true =>
      have e0 : rd l 0 = l.getD 0 0 := by simp [rd]
      have e1 : rd l 1 = l.getD 1 0 := by simp [rd]
      have hf : wtsB l = (decide (l.getD 0 0 = 0) && decide (0 ≤ l.getD 1 0)) := by rw [wtsB, h, h3, Bool.true_and, Bool.true_and]
      simp only [if_true, hl2, (by decide : (0 : Int) < ((61 : Nat) : Int)), (by decide : (1 : Int) < ((61 : Nat) : Int)), e0, e1]
      by_cases c0 : l.getD 0 0 = 0
      · rw [decide_eq_true c0, Bool.true_and] at hf
        simp only [c0, if_true]
        by_cases c1 : 0 ≤ l.getD 1 0
        · rw [decide_eq_true c1] at hf
          have hd : decide (l.getD 1 0 < 0) = false := decide_eq_false (by omega)
          simp only [hf, if_true, hd]
          refine Ev.succ ?_
          simp only [spec_WeightsOf.j0, Bool.false_eq_true, if_false, hl2, (by decide : (1 : Int) < ((61 : Nat) : Int)), if_true, e1]
          exact spec_WeightsOf_l l hl2 h2.2 0 (Nat.zero_le _) [l.getD 1 0] rfl
        · rw [decide_eq_false c1] at hf
          have hd : decide (l.getD 1 0 < 0) = true := decide_eq_true (by omega)
          simp only [hf, Bool.false_eq_true, if_false, hd]
          exact off
      · rw [decide_eq_false c0, Bool.false_and] at hf
        simp only [c0, if_false, hf, Bool.false_eq_true]
        exact off

theorem laws_pSame_l (l m : List Int) (he : m.length = l.length) (hl : l.length ≤ 4611686018427387904) : ∀ i, i ≤ l.length → Ev (fun k => laws_pSame.l0 k l m (l.length : Int) (i : Int)) (decide (l.drop i = m.drop i)) := by
  refine down ?_ ?_
  · refine Ev.succ ?_
    simp only [laws_pSame.l0, nlt (Nat.le_refl l.length), if_false, List.drop_length]
    rw [← he, List.drop_length]
    exact Ev.now _
  · intro i hi ih
    refine Ev.succ ?_
    simp only [laws_pSame.l0, ilt hi, inn, if_true, he, rd_lt hi, rd_lt (he ▸ hi : i < m.length), wnext hi hl]
    rw [drop_cons hi, drop_cons (he ▸ hi : i < m.length)]
    by_cases hx : l[i] = m[i]
    · simp only [hx, if_true, List.cons.injEq, true_and]
      exact ih
    · simp only [hx, if_false, List.cons.injEq, false_and, decide_false]
      exact Ev.now _
theorem laws_pSame_ev (l m : List Int) (hl : l.length ≤ 4611686018427387904) : Ev (fun k => laws_pSame.f k l m) (decide (l = m)) := by
  simp only [laws_pSame.f]
  by_cases he : (l.length : Int) = (m.length : Int)
  · simp only [he, if_true]
    have := laws_pSame_l l m (by omega) hl 0 (Nat.zero_le _)
    rw [he] at this
    exact this
  · simp only [he, if_false]
    rw [decide_eq_false (fun h => he (by rw [h]))]
    exact Ev.now _

theorem impl_TableOfThresholds_l1 (w : List Int) (hl : w.length = 60) (out : List Int) (n : Nat) (hn : n ≤ 60) (r : List Int × Bool) (m : List Int) (hm : m = w.take n)
    (hk : ∀ v, v = wrap64 (thrGo w n 0) → Ev (fun k => if out.length < 17592186044416 then impl_TableOfThresholds.l0 k w (out ++ [v]) (wrap64 ((n : Int) + 1)) else none) r) :
    ∀ i, i ≤ m.length → ∀ acc, InR acc → wrap64 (acc + thrI (m.drop i) n i) = wrap64 (thrGo w n 0) → Ev (fun k => impl_TableOfThresholds.l1 k w out (n : Int) acc (n : Int) m (m.length : Int) (i : Int)) r := by
  have hml : m.length ≤ 60 := by rw [hm, List.length_take]; omega
  refine down ?_ ?_
  · intro acc ha h
    refine Ev.succ ?_
    simp only [impl_TableOfThresholds.l1, nlt (Nat.le_refl m.length), if_false]
    refine hk acc ?_
    rw [List.drop_length, thrI, Int.add_zero, wR ha] at h
    exact h
  · intro i hi ih acc ha h
    refine Ev.succ ?_
    simp only [impl_TableOfThresholds.l1, ilt hi, inn, if_true, rd_lt hi, wnext hi (by omega : m.length ≤ 4611686018427387904), w64 (x := (n : Int) - (i : Int)) (by omega) (by omega)]
    refine ih _ (inR_wrap _) ?_
    rw [← h, drop_cons hi, thrI, wr_add, Int.add_right_comm, wr_add', Int.add_right_comm, Int.add_assoc]
theorem impl_TableOfThresholds_l0 (w : List Int) (hl : w.length = 60) (hb : ∀ x ∈ w, 0 ≤ x ∧ x ≤ 500) : ∀ n, n ≤ 61 → ∀ out : List Int, out.length = n → out ++ tabFrom w n (61 - n) = tabFrom w 0 61 → Ev (fun k => impl_TableOfThresholds.l0 k w out (n : Int)) (tabFrom w 0 61, true) := by
  refine down ?_ ?_
  · intro out ho h
    refine Ev.succ ?_
    rw [Nat.sub_self, show tabFrom w 61 0 = [] from rfl, List.append_nil] at h
    simp only [impl_TableOfThresholds.l0, (by decide : ¬ (((61 : Nat) : Int) < 61)), if_false, h]
    exact Ev.now _
  · intro n hn ih out ho h
    have c : (n : Int) < 61 := by omega
    have lim : out.length < 17592186044416 := by omega
    refine Ev.succ ?_
    simp only [impl_TableOfThresholds.l0, c, inn, if_true, ile (by omega : n ≤ w.length), Int.toNat_natCast]
    refine impl_TableOfThresholds_l1 w hl out n (by omega) _ _ rfl ?_ 0 (Nat.zero_le _) 0 inR_0 (by rw [Int.zero_add, List.drop_zero, thrI_take w n 0, Nat.sub_zero])
    intro v hv
    simp only [lim, if_true, wnext hn (by omega)]
    refine ih _ (by simp [ho]) ?_
    rw [show 61 - n = 61 - (n + 1) + 1 by omega, tabFrom] at h
    rw [hv, thr_wrap hb (by omega), ← h, List.append_assoc]
    rfl
theorem impl_TableOfThresholds_ev (w : List Int) (hl : w.length ≤ 1048576) : Ev (fun k => impl_TableOfThresholds.f k w) (if thrB w then (tabFrom w 0 61, true) else ([], false)) := by
  simp only [impl_TableOfThresholds.f]
  have off : Ev (fun k => impl_TableOfThresholds.j0 k w true) ([], false) := by
    refine Ev.succ ?_
    simp only [impl_TableOfThresholds.j0, if_true]
    exact Ev.now _
  by_cases h : (w.length : Int) = 60
  · simp only [h, if_true]
    refine Ev.bind (impl_allWithin_ev w _ _ (by omega)) ?_
    cases h2 : allW w 0 500 with
    | false =>
      have hf : thrB w = false := by simp [thrB, h2]
      simp only [hf, Bool.not_false, Bool.false_eq_true, if_false]
      exact off
    | true =>
      have hf : thrB w = true := by simp [thrB, h2, h]
      simp only [hf, Bool.not_true, if_true]
      refine Ev.succ ?_
      simp only [impl_TableOfThresholds.j0, Bool.false_eq_true, if_false]
      exact impl_TableOfThresholds_l0 w (by omega) (allW_iff.1 h2) 0 (by omega) [] rfl rfl
  · have hf : thrB w = false := by simp [thrB, h]
    simp only [h, if_false, hf, Bool.false_eq_true]
    exact off

theorem spec_DrawTableOfThresholds_l1 : ∀ (d : Nat) (x : List Int) (i : Nat), i + d = x.length → x.length ≤ 1048576 → Ex (fun k => spec_DrawTableOfThresholds.l1 k x (x.length : Int) (i : Int)) (fun r => r.length = x.length)
  | 0, x, i, h, hx => by
    refine Ex.succ ?_
    simp only [spec_DrawTableOfThresholds.l1, nlt (by omega : x.length ≤ i), if_false]
    exact Ex.now rfl
  | d + 1, x, i, h, hx => by
    have hi : i < x.length := by omega
    refine Ex.succ ?_
    simp only [spec_DrawTableOfThresholds.l1, ilt hi, inn, if_true, wnext hi (by omega : x.length ≤ 4611686018427387904)]
    have := spec_DrawTableOfThresholds_l1 d (x.set (i : Int).toNat 500) (i + 1) (by rw [List.length_set]; omega) (by rw [List.length_set]; omega)
    rw [List.length_set] at this
    exact this
theorem spec_DrawTableOfThresholds_l {c : List Int} (hc : Bts c) : ∀ (d : Nat) (x : List Int) (a s b : Int), x.length + d = 60 → At a b → b + 4 * d + 16 ≤ 1073741824 → Ex (fun k => spec_DrawTableOfThresholds.l0 k x c a s) (fun r => r.length ≤ 61)
  | 0, x, a, s, b, hx, ha, hb => by
    refine Ex.succ ?_
    have c0 : ¬ ((x.length : Int) < 60) := by omega
    have hl : x.length < 17592186044416 := by omega
    simp only [spec_DrawTableOfThresholds.l0, c0, if_false]
    refine Ex.bind (spec_l1Cur_pick_x hc a s b 10 ha (by omega)) fun r hr => ?_
    by_cases c1 : r.1 = 0
    · simp only [c1, if_true]
      refine Ex.bind (spec_l1Cur_pick_x hc _ _ (b + 2) _ hr.2.2 (by omega)) fun t ht => ?_
      refine Ex.bind (spec_l1Cur_among_x hc _ _ (b + 2 + 2) _ (by simp) ht.2.2 (by omega)) fun u hu => ?_
      have t0 := ht.1
      have t1 := ht.2.1 (by omega)
      simp only [t0, t1, if_true]
      exact Ex.now (by show (x.set _ _).length ≤ 61; rw [List.length_set]; omega)
    · simp only [c1, if_false]
      by_cases c2 : r.1 = 1
      · simp only [c2, if_true]
        exact (spec_DrawTableOfThresholds_l1 x.length x 0 (by omega) (by omega)).mono fun z hz => by omega
      · simp only [c2, if_false]
        by_cases c3 : r.1 = 2
        · simp only [c3, if_true, hl]
          exact Ex.now (by show (x ++ [0]).length ≤ 61; rw [List.length_append, List.length_singleton]; omega)
        · simp only [c3, if_false]
          exact Ex.now (by show x.length ≤ 61; omega)
  | d + 1, x, a, s, b, hx, ha, hb => by
    refine Ex.succ ?_
    have c0 : (x.length : Int) < 60 := by omega
    have hl : x.length < 17592186044416 := by omega
    simp only [spec_DrawTableOfThresholds.l0, c0, if_true]
    refine Ex.bind (spec_l1Cur_pick_x hc a s b 12 ha (by omega)) fun r hr => ?_
    refine Ex.bind (spec_l1Cur_pick_x hc _ _ (b + 2) 9 hr.2.2 (by omega)) fun t ht => ?_
    simp only [hl, if_true]
    exact spec_DrawTableOfThresholds_l hc d _ _ _ (b + 2 + 2) (by rw [List.length_append, List.length_singleton]; omega) ht.2.2 (by omega)
theorem spec_DrawTableOfThresholds_x {c : List Int} (hc : Bts c) : Ex (fun k => spec_DrawTableOfThresholds.f k c) (fun r => r.length ≤ 61) := by
  simp only [spec_DrawTableOfThresholds.f]
  exact spec_DrawTableOfThresholds_l hc 60 [] 0 0 0 rfl ⟨by omega, by omega⟩ (by omega)

theorem spec_l1Most_e (a b : Int) : spec_l1Most.f a b = some (max a b) := by
  unfold spec_l1Most.f
  by_cases h : a > b
  · rw [if_pos h]; congr 1; omega
  · rw [if_neg h]; congr 1; omega

theorem spec_TableOfThresholds_l1 (w : List Int) (hl : w.length = 60) (out : List Int) (n : Nat) (hn : n ≤ 60) (r : List Int × Bool)
    (hk : ∀ v, v = wrap64 (thrGo w n 0) → Ev (fun k => if out.length < 17592186044416 then spec_TableOfThresholds.l0 k w (out ++ [v]) (wrap64 ((n : Int) + 1)) else none) r) :
    ∀ i, i ≤ w.length → ∀ acc, InR acc → wrap64 (acc + thrGo (w.drop i) n i) = wrap64 (thrGo w n 0) → Ev (fun k => spec_TableOfThresholds.l1 k w out (n : Int) acc w (w.length : Int) (i : Int)) r := by
  refine down ?_ ?_
  · intro acc ha h
    refine Ev.succ ?_
    simp only [spec_TableOfThresholds.l1, nlt (Nat.le_refl w.length), if_false]
    refine hk acc ?_
    rw [List.drop_length, thrGo, Int.add_zero, wR ha] at h
    exact h
  · intro i hi ih acc ha h
    refine Ev.succ ?_
    simp only [spec_TableOfThresholds.l1, ilt hi, inn, if_true, rd_lt hi, spec_l1Most_e, Option.bind_some, wnext hi (by omega : w.length ≤ 4611686018427387904), w64 (x := (n : Int) - (i : Int)) (by omega) (by omega)]
    refine ih _ (inR_wrap _) ?_
    rw [← h, drop_cons hi, thrGo, wr_add, Int.add_right_comm, wr_add', Int.add_right_comm, Int.add_assoc]
theorem spec_TableOfThresholds_l0 (w : List Int) (hl : w.length = 60) (hb : ∀ x ∈ w, 0 ≤ x ∧ x ≤ 500) : ∀ n, n ≤ 61 → ∀ out : List Int, out.length = n → out ++ tabFrom w n (61 - n) = tabFrom w 0 61 → Ev (fun k => spec_TableOfThresholds.l0 k w out (n : Int)) (tabFrom w 0 61, true) := by
  refine down ?_ ?_
  · intro out ho h
    refine Ev.succ ?_
    rw [Nat.sub_self, show tabFrom w 61 0 = [] from rfl, List.append_nil] at h
    simp only [spec_TableOfThresholds.l0, (by decide : ¬ (((61 : Nat) : Int) ≤ 60)), if_false, h]
    refine Ev.bind (spec_syTable_ev _ (by rw [tabFrom_len]; omega)) ?_
    simp only [tab_ok hb, if_true]
    exact Ev.now _
  · intro n hn ih out ho h
    have c : (n : Int) ≤ 60 := by omega
    have lim : out.length < 17592186044416 := by omega
    refine Ev.succ ?_
    simp only [spec_TableOfThresholds.l0, c, if_true]
    refine spec_TableOfThresholds_l1 w hl out n (by omega) _ ?_ 0 (Nat.zero_le _) 0 inR_0 (by rw [Int.zero_add, List.drop_zero])
    intro v hv
    simp only [lim, if_true, wnext hn (by omega)]
    refine ih _ (by simp [ho]) ?_
    rw [show 61 - n = 61 - (n + 1) + 1 by omega, tabFrom] at h
    rw [hv, thr_wrap hb (by omega), ← h, List.append_assoc]
    rfl
theorem spec_TableOfThresholds_ev (w : List Int) (hl : w.length ≤ 1048576) : Ev (fun k => spec_TableOfThresholds.f k w) (if thrB w then (tabFrom w 0 61, true) else ([], false)) := by
  simp only [spec_TableOfThresholds.f]
  have off : Ev (fun k => spec_TableOfThresholds.j0 k w true) ([], false) := by
    refine Ev.succ ?_
    simp only [spec_TableOfThresholds.j0, if_true]
    exact Ev.now _
  by_cases h : (w.length : Int) = 60
  · simp only [h, if_true]
    refine Ev.bind (spec_l1All_ev w _ _ (by omega)) ?_
    cases h2 : allW w 0 500 with
    | false =>
      have hf : thrB w = false := by simp [thrB, h2]
      simp only [hf, Bool.not_false, Bool.false_eq_true, if_false]
      exact off
    | true =>
      have hf : thrB w = true := by simp [thrB, h2, h]
      simp only [hf, Bool.not_true, if_true]
      refine Ev.succ ?_
      simp only [spec_TableOfThresholds.j0, Bool.false_eq_true, if_false]
      exact spec_TableOfThresholds_l0 w (by omega) (allW_iff.1 h2) 0 (by omega) [] rfl rfl
  · have hf : thrB w = false := by simp [thrB, h]
    simp only [h, if_false, hf, Bool.false_eq_true]
    exact off

theorem spec_l1Own_e (l : List Int) (hl : l.length < 17592186044416) : spec_l1Own.f l = some l := by
  simp only [spec_l1Own.f, Option.bind_some, List.nil_append, List.length_nil, Nat.zero_add, hl, if_true]

theorem spec_l1Cur_fitting_l {c : List Int} (hc : Bts c) (x : List Int) (hx : x.length ≤ 10) : ∀ (n : Nat) (y : List Int) (a s b : Int), y.length ≤ 10 → At a b → b + 8 * n + 8 ≤ 1073741824 → Ex (fun k => spec_l1Cur_fitting.l0 k x y (n : Int) c a s) (fun r => r.1.length ≤ 10 ∧ r.2.1.length ≤ 10 ∧ At r.2.2.1 (b + 8 * n + 8))
  | n, y, a, s, b, hy, ha, hb => by
    have hb0 := ha.1
    have hb1 := ha.2
    have off : Ex (fun k => spec_l1Cur_fitting.j1 k x y (n : Int) false c a s) (fun r => r.1.length ≤ 10 ∧ r.2.1.length ≤ 10 ∧ At r.2.2.1 (b + 8 * n + 8)) := by
      refine Ex.succ ?_
      simp only [spec_l1Cur_fitting.j1, Bool.false_eq_true, if_false]
      refine Ex.bind (spec_l1Cur_one_x hc a s b 5 ha (by omega)) fun r hr => ?_
      have h2 := hr.2
      by_cases c1 : r.1 = true
      · simp only [c1, if_true]
        exact Ex.now ⟨hx, hy, hr.1, by show r.2.1 ≤ _; omega⟩
      · simp only [c1, if_false]
        exact Ex.now ⟨hy, hx, hr.1, by show r.2.1 ≤ _; omega⟩
    refine Ex.succ ?_
    simp only [spec_l1Cur_fitting.l0]
    by_cases c0 : (n : Int) > 0
    · simp only [c0, if_true]
      by_cases c1 : (y.length : Int) > 1
      · simp only [c1, decide_true]
        obtain ⟨m, rfl⟩ : ∃ m, n = m + 1 := ⟨n - 1, by omega⟩
        have ew : wrap64 (((m + 1 : Nat) : Int) - 1) = (m : Int) := by rw [w64 (by omega) (by omega)]; omega
        refine Ex.succ ?_
        simp only [spec_l1Cur_fitting.j1, if_true, ew]
        refine Ex.bind (spec_l1Cur_pick_x hc a s b _ ha (by omega)) fun r hr => ?_
        refine Ex.bind (spec_l1Cur_pick_x hc _ _ (b + 2) _ hr.2.2 (by omega)) fun q hq => ?_
        have r0 := hr.1
        have r1 := hr.2.1 (by omega)
        have q0 := hq.1
        have q1 := hq.2.1 (by omega)
        simp only [r0, r1, q0, q1, if_true]
        have go : ∀ (z : List Int) (a' s' b' : Int), z.length = y.length → At a' b' → b' ≤ b + 8 → Ex (fun k => spec_l1Cur_fitting.l0 k x z (m : Int) c a' s') (fun r => r.1.length ≤ 10 ∧ r.2.1.length ≤ 10 ∧ At r.2.2.1 (b + 8 * ((m + 1 : Nat) : Int) + 8)) := by
          intro z a' s' b' hz ha' hb'
          refine (spec_l1Cur_fitting_l hc x hx m z a' s' b' (by omega) ha' (by omega)).mono fun t ht => ⟨ht.1, ht.2.1, ht.2.2.1, by have := ht.2.2.2; omega⟩
        by_cases c2 : rd y r.1 > 0
        · simp only [c2, if_true]
          by_cases c3 : rd y r.1 > rd y q.1
          · simp only [c3, if_true, Option.bind_some]
            exact go _ _ _ _ (by simp) hq.2.2 (by omega)
          · simp only [c3, if_false]
            refine Ex.bind (spec_l1Cur_one_x hc _ _ (b + 2 + 2) 4 hq.2.2 (by omega)) fun t ht => ?_
            by_cases c4 : t.1 = true
            · simp only [c4, if_true, Option.bind_some]
              exact go _ _ _ _ (by simp) ht (by omega)
            · simp only [c4, if_false]
              exact go _ _ _ _ rfl ht (by omega)
        · simp only [c2, if_false]
          exact go _ _ _ _ rfl hq.2.2 (by omega)
      · simp only [c1, decide_false]
        exact off
    · simp only [c0, if_false]
      exact off
theorem spec_l1Cur_fitting_x {c : List Int} (hc : Bts c) (a s b m : Int) (ha : At a b) (hb : b ≤ 134217728) : Ex (fun k => spec_l1Cur_fitting.f k c a s m) (fun r => r.1.length ≤ 10 ∧ r.2.1.length ≤ 10 ∧ At r.2.2.1 (b + 256)) := by
  simp only [spec_l1Cur_fitting.f]
  refine Ex.bind (spec_l1Cur_anyList_x hc a s b m ha (by omega)) fun r hr => ?_
  refine Ex.bind (spec_l1Cur_one_x hc _ _ (b + 64) 5 hr.2 (by omega)) fun q hq => ?_
  by_cases c1 : q.1 = true
  · simp only [c1, if_true]
    refine Ex.bind (spec_l1Cur_anyList_x hc _ _ (b + 64 + 2) m hq (by omega)) fun z hz => ?_
    exact Ex.now ⟨hz.1, hr.1, hz.2.1, by have := hz.2.2; show z.2.1 ≤ _; omega⟩
  · simp only [c1, if_false, spec_l1Own_e r.1 (by omega), Option.bind_some]
    refine Ex.bind (spec_l1Cur_pick_x hc _ _ (b + 64 + 2) 12 hq (by omega)) fun z hz => ?_
    have z0 := hz.1
    have z1 := hz.2.1 (by omega)
    obtain ⟨n, hn⟩ := Int.eq_ofNat_of_zero_le z0
    rw [hn] at z1 ⊢
    refine (spec_l1Cur_fitting_l hc r.1 hr.1 n r.1 _ _ (b + 64 + 2 + 2) hr.1 hz.2.2 (by omega)).mono fun t ht => ⟨ht.1, ht.2.1, ht.2.2.1, by have := ht.2.2.2; omega⟩

theorem spec_DrawIsMajorized_x {c : List Int} (hc : Bts c) : Ex (fun k => spec_DrawIsMajorized.f k c) (fun r => r.1.length ≤ 10 ∧ r.2.length ≤ 10) := by
  simp only [spec_DrawIsMajorized.f]
  refine Ex.bind (spec_l1Cur_fitting_x hc 0 0 0 9 ⟨by omega, by omega⟩ (by omega)) fun r hr => ?_
  exact Ex.now ⟨hr.1, hr.2.1⟩

theorem FnConvexTables_j5 {g x y : List Int} (hg : tableB g = true) (hc : conv3 g = true) (hx : x.length ≤ 1048576) (hy : y.length ≤ 1048576) : Ev (fun k => laws_FnConvexTables.j5 k g x y (!(goodB x && goodB y && majB x y))) true := by
  have hgl : g.length ≤ 1048576 := by unfold tableB at hg; rw [Bool.and_eq_true, decide_eq_true_eq] at hg; omega
  refine Ev.succ ?_
  cases h : goodB x && goodB y && majB x y with
  | false => simp only [laws_FnConvexTables.j5, Bool.not_false, if_true]; exact Ev.now _
  | true =>
    rw [Bool.and_eq_true, Bool.and_eq_true] at h
    obtain ⟨⟨h1, h2⟩, h3⟩ := h
    simp only [laws_FnConvexTables.j5, Bool.not_true, Bool.false_eq_true, if_false]
    refine Ev.bind (impl_ConvexSum_ev g x hgl hx) ?_
    refine Ev.bind (impl_ConvexSum_ev g y hgl hy) ?_
    rw [hg, h1, h2]
    simp only [Bool.and_self, if_true]
    rw [decide_eq_true (karamata (table_sd hg hc) (goodB_iff.1 h1) (goodB_iff.1 h2) h3)]
    exact Ev.now _
theorem FnConvexTables_j4 {b g : List Int} (hd : Bts b) : Ev (fun k => laws_FnConvexTables.j4 k b g (tableB g && conv3 g) (tableB g)) true := by
  refine Ev.succ ?_
  simp only [laws_FnConvexTables.j4]
  refine Ex.ev (spec_DrawIsMajorized_x hd) fun r hr => ?_
  obtain ⟨x, y⟩ := r
  have hx : x.length ≤ 1048576 := by have := hr.1; show x.length ≤ _; simp only at this; omega
  have hy : y.length ≤ 1048576 := by have := hr.2; show y.length ≤ _; simp only at this; omega
  have off : Ev (fun k => laws_FnConvexTables.j5 k g x y true) true := by
    refine Ev.succ ?_
    simp only [laws_FnConvexTables.j5, if_true]
    exact Ev.now _
  cases h1 : tableB g with
  | false => simp only [Bool.false_eq_true, if_false]; exact off
  | true =>
    simp only [if_true, Bool.true_and]
    cases h2 : conv3 g with
    | false => simp only [Bool.false_eq_true, if_false]; exact off
    | true =>
      simp only [if_true]
      refine Ev.bind (laws_pBelow_ev x y hx hy) ?_
      exact FnConvexTables_j5 h1 h2 hx hy
theorem FnConvexTables_j2 {a b g : List Int} (hc : Bts a) (hd : Bts b) : Ev (fun k => laws_FnConvexTables.j2 k a b g (tableB g && conv3 g) (tableB g)) true := by
  refine Ev.succ ?_
  simp only [laws_FnConvexTables.j2]
  refine Ex.ev (spec_DrawTableOfThresholds_x hc) fun w hw => ?_
  refine Ev.bind (impl_TableOfThresholds_ev w (by omega)) ?_
  refine Ev.bind (spec_TableOfThresholds_ev w (by omega)) ?_
  simp only [bne_self_eq_false, Bool.false_eq_true, if_false]
  have hl := tab_len w
  refine Ev.bind (laws_pSame_ev _ _ (by omega)) ?_
  simp only [decide_true, Bool.not_true]
  refine Ev.succ ?_
  simp only [laws_FnConvexTables.j3, Bool.false_eq_true, if_false]
  cases h : thrB w with
  | false => simp only [Bool.false_eq_true, if_false]; exact FnConvexTables_j4 hd
  | true =>
    simp only [if_true]
    obtain ⟨e1, e2⟩ := wts_tab h
    refine Ev.bind (impl_WeightsOf_ev (tabFrom w 0 61) (by rw [tabFrom_len]; omega)) ?_
    rw [e1]
    simp only [if_true, e2]
    refine Ev.bind (laws_pSame_ev w w (by omega)) ?_
    simp only [decide_true, if_true]
    exact FnConvexTables_j4 hd
theorem FnConvexTables : laws_FnConvexTables.Pure := by
  intro a b hma hsa hwa hmb hsb hwb
  refine Ev.rounds ?_
  have hc := Bts.of hsa hwa
  have hd := Bts.of hsb hwb
  simp only [laws_FnConvexTables.f]
  obtain ⟨t, ht⟩ := laws_big_x a b
  rw [ht]
  simp only [Option.bind_some]
  by_cases h0 : t = true
  · simp only [h0, if_true]; exact Ev.now _
  · simp only [h0, if_false]
    refine Ex.ev (spec_DrawConvexSum_x hc) fun r hr => ?_
    obtain ⟨f, c⟩ := r
    have hf : f.length ≤ 1048576 := by have := hr.1; show f.length ≤ _; simp only at this; omega
    have hcl : c.length ≤ 1048576 := by have := hr.2; show c.length ≤ _; simp only at this; omega
    simp only
    refine Ev.bind (impl_ConvexSum_ev f c hf hcl) ?_
    refine Ev.bind (spec_ConvexSum_ev f c hf hcl) ?_
    simp only [bne_self_eq_false, Bool.false_eq_true, if_false]
    refine Ev.succ ?_
    simp only [laws_FnConvexTables.j0, Bool.false_eq_true, if_false]
    refine Ex.ev (spec_DrawWeightsOf_x hd) fun g hg => ?_
    refine Ev.bind (impl_IsConvexTable_ev g (by omega)) ?_
    refine Ev.bind (spec_IsConvexTable_ev g (by omega)) ?_
    refine Ev.bind (impl_WeightsOf_ev g (by omega)) ?_
    refine Ev.bind (spec_WeightsOf_ev g (by omega)) ?_
    simp only [bne_self_eq_false, Bool.false_eq_true, if_false]
    have hl := wts_len g
    refine Ev.bind (laws_pSame_ev _ _ (by omega)) ?_
    simp only [decide_true, if_true]
    cases h : wtsB g with
    | false =>
      simp only [Bool.false_eq_true, if_false]
      refine Ev.succ ?_
      simp only [laws_FnConvexTables.j1, Bool.false_eq_true, if_false]
      exact FnConvexTables_j2 hc hd
    | true =>
      have e : (tableB g && conv3 g) = true := by
        unfold wtsB at h
        rw [Bool.and_eq_true, Bool.and_eq_true] at h
        rw [h.1, h.2.1]; rfl
      simp only [if_true]
      refine Ev.succ ?_
      simp only [laws_FnConvexTables.j1, e, Bool.not_true, Bool.false_eq_true, if_false, if_true]
      have hgl : g.length = 61 := by
        rw [Bool.and_eq_true] at e
        have := e.1
        unfold tableB at this
        rw [Bool.and_eq_true, decide_eq_true_eq] at this
        omega
      refine Ev.bind (impl_TableOfThresholds_ev (wts g) (by unfold wts; rw [List.length_cons, sd3_length]; omega)) ?_
      have := FnConvexTables_j2 (g := g) hc hd
      rw [e] at this
      cases h3 : thrB (wts g) with
      | false => simp only [Bool.false_eq_true, if_false]; exact this
      | true =>
        simp only [if_true]
        refine Ev.bind (laws_pSame_ev _ _ (by rw [tabFrom_len]; omega)) ?_
        rw [tab_wts h]
        simp only [decide_true, if_true]
        exact this

end Go.Proofs.Ytclnfaclfplpmaa.Pure
