/- Greatest and least shares are what is left of each other, and Lorenz sums decide what is more even; the printed functions' own bounds on lengths are the only conditions. -/
import Derived.Test.YtclnfaclfplpmaaPFnSharesx11
import Derived.Test.YtclnfaclfplpmaaTFnSharesMathL
namespace Go.Proofs.Ytclnfaclfplpmaa.Pure
open Go.RowKit Go.Proofs.Ytclnfaclfplpmaa.PFnShares Go.Proofs.YtclnfaclfplpmaaW.PrintWords Go.Proofs.YtclnfaclfplpmaaW.PrintLast Go.Proofs.YtclnfaclfplpmaaW.PrintMore Go.Proofs.Ytclnfaclfplpmaa.Math
set_option linter.unusedVariables false
set_option linter.unusedSimpArgs false
set_option linter.unusedSectionVars false

theorem laws_big_x (a b : List Int) : ∃ t, laws_big.f a b = some t := by
  unfold laws_big.f
  by_cases c : (a.length : Int) > 1048576
  · rw [if_pos c]; exact ⟨_, rfl⟩
  · rw [if_neg c]; exact ⟨_, rfl⟩

theorem impl_within_e (a b c : Int) : impl_within.f a b c = some (wth a b c) := wth_opt a b c

theorem impl_allWithin_l (l : List Int) (lo hi : Int) (hl : l.length ≤ 4611686018427387904) : ∀ i, i ≤ l.length → Ev (fun k => impl_allWithin.l0 k lo hi l (l.length : Int) (i : Int)) (allW (l.drop i) lo hi) := by
  refine down ?_ ?_
  · refine Ev.succ ?_
    simp only [impl_allWithin.l0, nlt (Nat.le_refl l.length), if_false, List.drop_length]
    exact Ev.now _
  · intro i hi ih
    refine Ev.succ ?_
    simp only [impl_allWithin.l0, ilt hi, inn, if_true, impl_within_e, Option.bind_some, rd_lt hi, wnext hi hl]
    rw [drop_cons hi]
    exact Ev.andS fun _ => ih
theorem impl_allWithin_ev (l : List Int) (lo hi : Int) (hl : l.length ≤ 4611686018427387904) : Ev (fun k => impl_allWithin.f k l lo hi) (allW l lo hi) := by
  have := impl_allWithin_l l lo hi hl 0 (Nat.zero_le _)
  simpa only [impl_allWithin.f, List.drop_zero, Int.natCast_zero] using this

theorem impl_IsList_ev (l : List Int) (hl : l.length ≤ 4611686018427387904) : Ev (fun k => impl_IsList.f k l) (goodB l) := by
  simp only [impl_IsList.f, impl_within_e, Option.bind_some, goodB]
  exact Ev.andS fun _ => Ev.ret (f := fun t => t) (impl_allWithin_ev l 0 60 hl)

theorem impl_areLists_ev (a b : List Int) (ha : a.length ≤ 1048576) (hb : b.length ≤ 1048576) : Ev (fun k => impl_areLists.f k a b) (goodB a && goodB b) := by
  simp only [impl_areLists.f]
  exact Ev.and (impl_IsList_ev a (by omega)) fun h => Ev.ret (f := fun t => t) (impl_IsList_ev b (by omega))

theorem slices_Clone_int_int_e (l : List Int) (hl : l.length < 17592186044416) : slices_Clone_int_int.f l = some l := by
  simp only [slices_Clone_int_int.f, Option.bind_some, List.nil_append, List.length_nil, Nat.zero_add, hl, if_true]

theorem impl_ranking_1_e (x y : Int) : impl_ranking_1.f x y = some (wrap64 (y - x)) := rfl

def Bnd (l : List Int) : Prop := ∀ x ∈ l, -1000000 ≤ x ∧ x ≤ 1000000
theorem slices_insertionSortCmpFunc_int_l1 (x : Int) (hx : -1000000 ≤ x ∧ x ≤ 1000000) (R : List Int) (n i : Nat) (v : List Int) : ∀ (m : Nat) (P Q : List Int), P.length = m → m ≤ 1048576 → Bnd P → Desc (P ++ Q) → (∀ y ∈ Q, y < x) →
    Ev (fun k => slices_insertionSortCmpFunc_int.l0 k (insD x (P ++ Q) ++ R) 0 (n : Int) (wrap64 ((i : Int) + 1))) v → Ev (fun k => slices_insertionSortCmpFunc_int.l1 k (P ++ x :: (Q ++ R)) 0 (n : Int) (i : Int) (m : Int)) v
  | 0, P, Q, hP, _, _, _, hQ, hv => by
    have e : P = [] := List.eq_nil_of_length_eq_zero hP
    subst e
    refine Ev.succ ?_
    have c : ¬ ((0 : Nat) : Int) > 0 := by omega
    rw [insD_split x [] Q (fun y hy => absurd hy List.not_mem_nil) hQ] at hv
    simp only [slices_insertionSortCmpFunc_int.l1, c, if_false]
    exact hv
  | m + 1, P, Q, hP, hm, hb, hd, hQ, hv => by
    have hne : P ≠ [] := fun e => by rw [e] at hP; simp at hP
    have ep : P = P.dropLast ++ [P.getLast hne] := (List.dropLast_concat_getLast hne).symm
    generalize hP' : P.dropLast = P' at ep
    generalize hp : P.getLast hne = p at ep
    have hpb := hb p (by rw [ep]; simp)
    clear hP' hp
    subst ep
    have hl : P'.length = m := by rw [List.length_append, List.length_singleton] at hP; omega
    refine Ev.succ ?_
    have c : ((m + 1 : Nat) : Int) > 0 := by omega
    have c1 : m < ((P' ++ [p]) ++ x :: (Q ++ R)).length := by rw [List.length_append, hP, List.length_cons]; omega
    have c2 : m + 1 < ((P' ++ [p]) ++ x :: (Q ++ R)).length := by rw [List.length_append, hP, List.length_cons]; omega
    have r1 : rd ((P' ++ [p]) ++ x :: (Q ++ R)) ((m + 1 : Nat) : Int) = x := rd_mid _ _ _ _ hP
    have r2 : rd ((P' ++ [p]) ++ x :: (Q ++ R)) (m : Int) = p := by rw [List.append_assoc]; exact rd_mid _ _ _ _ hl
    simp only [slices_insertionSortCmpFunc_int.l1, eq_true c, inn, ilt c1, ilt c2, if_true, wprev (by omega : m ≤ 4611686018427387904), r1, r2, impl_ranking_1_e, Option.bind_some, Int.toNat_natCast, w64 (x := p - x) (by omega) (by omega)]
    by_cases d : p - x < 0
    · simp only [eq_true d, if_true]
      have e1 : ((((P' ++ [p]) ++ x :: (Q ++ R)).set (m + 1) p).set m x) = P' ++ x :: ((p :: Q) ++ R) := by
        rw [set_mid _ _ _ _ _ hP, List.append_assoc, List.singleton_append, set_mid _ _ _ _ _ hl, List.cons_append]
      rw [e1]
      refine slices_insertionSortCmpFunc_int_l1 x hx R n i v m P' (p :: Q) hl (by omega) (fun y hy => hb y (List.mem_append_left _ hy)) (by rw [List.append_assoc, List.singleton_append] at hd; exact hd) (fun y hy => ?_) ?_
      · rcases List.mem_cons.1 hy with e | e
        · omega
        · exact hQ y e
      · rw [List.append_assoc, List.singleton_append] at hv
        exact hv
    · simp only [eq_false d, if_false]
      rw [insD_split x (P' ++ [p]) Q (fun y hy => ?_) hQ, List.append_assoc, List.cons_append] at hv
      · exact hv
      · rcases List.mem_append.1 hy with e | e
        · have := desc_split ((List.pairwise_append.1 hd).1) e (List.mem_singleton.2 rfl); omega
        · have := List.mem_singleton.1 e; omega
theorem slices_insertionSortCmpFunc_int_l0 (l : List Int) (hl : l.length ≤ 1048576) (hb : Bnd l) : ∀ i, i ≤ l.length → ∀ S : List Int, S.length = i → Bnd S → Desc S →
    Ev (fun k => slices_insertionSortCmpFunc_int.l0 k (S ++ l.drop i) 0 (l.length : Int) (i : Int)) (rankFrom S (l.drop i)) := by
  refine down ?_ ?_
  · intro S hS hB hD
    refine Ev.succ ?_
    simp only [slices_insertionSortCmpFunc_int.l0, nlt (Nat.le_refl l.length), if_false, List.drop_length, List.append_nil]
    exact Ev.now _
  · intro i hi ih S hS hB hD
    have hx := hb _ (List.getElem_mem hi)
    refine Ev.succ ?_
    simp only [slices_insertionSortCmpFunc_int.l0, ilt hi, if_true]
    rw [drop_cons hi]
    refine slices_insertionSortCmpFunc_int_l1 l[i] hx (l.drop (i + 1)) l.length i _ i S [] hS (by omega) hB (by rw [List.append_nil]; exact hD) (fun y hy => absurd hy List.not_mem_nil) ?_
    rw [List.append_nil, wnext hi (by omega)]
    refine ih (insD l[i] S) (by rw [insD_length, hS]) (fun y hy => ?_) (insD_desc _ _ hD)
    rcases List.mem_cons.1 ((insD_perm l[i] S).mem_iff.1 hy) with e | e
    · rw [e]; exact hx
    · exact hB y e
theorem slices_insertionSortCmpFunc_int_ev (l : List Int) (h0 : 0 < l.length) (hl : l.length ≤ 1048576) (hb : Bnd l) (a : Int) : Ev (fun k => slices_insertionSortCmpFunc_int.f k l 0 (l.length : Int) a) (rankD l) := by
  cases l with
  | nil => exact absurd h0 (by simp)
  | cons x t =>
    have := slices_insertionSortCmpFunc_int_l0 (x :: t) hl hb 1 (by rw [List.length_cons]; omega) [x] rfl (fun y hy => hb y (by rw [List.mem_singleton.1 hy]; exact List.mem_cons_self ..)) (List.pairwise_singleton _ _)
    have e : wrap64 (0 + 1) = ((1 : Nat) : Int) := by rw [w64 (by omega) (by omega)]; rfl
    simp only [slices_insertionSortCmpFunc_int.f, e]
    exact this

theorem slices_pdqsortCmpFunc_int_ev (l : List Int) (h0 : 0 < l.length) (hl : l.length ≤ 12) (hb : Bnd l) (a b : Int) : Ev (fun k => slices_pdqsortCmpFunc_int.f k l 0 (l.length : Int) a b) (rankD l) := by
  refine Ev.succ ?_
  simp only [slices_pdqsortCmpFunc_int.f]
  refine Ev.succ ?_
  simp only [slices_pdqsortCmpFunc_int.l0, Int.sub_zero, w64 (by omega : -9223372036854775808 ≤ (l.length : Int)) (by omega), eq_true (by omega : (l.length : Int) ≤ 12), if_true]
  exact Ev.ret (f := fun t => t) (slices_insertionSortCmpFunc_int_ev l h0 (by omega) hb b)

theorem bits_Len_e (n : Nat) (h : n ≤ 8) : ∃ r, bits_Len.f (IntKind.u64.wrap (n : Int)) = some r := by
  unfold bits_Len.f
  rw [IntKind.wrap_u64, if_pos (by omega)]
  exact ⟨_, rfl⟩

theorem slices_SortFunc_int_int_ev (l : List Int) (h0 : 0 < l.length) (hl : l.length ≤ 8) (hb : Bnd l) (a : Int) : Ev (fun k => slices_SortFunc_int_int.f k l a) (rankD l) := by
  obtain ⟨q, hq⟩ := bits_Len_e l.length hl
  simp only [slices_SortFunc_int_int.f, hq, Option.bind_some]
  exact Ev.ret (f := fun t => t) (slices_pdqsortCmpFunc_int_ev l h0 (by omega) hb q a)

theorem impl_ranking_ev {l : List Int} (h : Lst l) : Ev (fun k => impl_ranking.f k l) (rankD l) := by
  have h1 := h.1
  have h2 := h.2.1
  simp only [impl_ranking.f, slices_Clone_int_int_e l (by omega), Option.bind_some]
  exact Ev.ret (f := fun t => t) (slices_SortFunc_int_int_ev l (by omega) h2 (fun x hx => by have := h.2.2 x hx; omega) 0)

theorem impl_partial_l (l : List Int) (hl : l.length ≤ 8) (hb : ∀ x ∈ l, 0 ≤ x ∧ x ≤ 60) : ∀ i, i ≤ l.length → ∀ (out : List Int) (s : Int), out.length = i → 0 ≤ s ∧ s ≤ 60 * i → Ev (fun k => impl_partial.l0 k out s l (l.length : Int) (i : Int)) (out ++ psums s (l.drop i)) := by
  refine down ?_ ?_
  · intro out s ho hs
    refine Ev.succ ?_
    simp only [impl_partial.l0, nlt (Nat.le_refl l.length), if_false, List.drop_length, psums, List.append_nil]
    exact Ev.now _
  · intro i hi ih out s ho hs
    have b := hb _ (List.getElem_mem hi)
    have c : out.length < 17592186044416 := by omega
    refine Ev.succ ?_
    simp only [impl_partial.l0, ilt hi, inn, if_true, rd_lt hi, c, w64 (x := s + l[i]) (by omega) (by omega), wnext hi (by omega : l.length ≤ 4611686018427387904)]
    rw [drop_cons hi, psums]
    exact (ih (out ++ [s + l[i]]) (s + l[i]) (by simp [ho]) (by omega)).eqv (by simp)
theorem impl_partial_ev {l : List Int} (h : Lst l) : Ev (fun k => impl_partial.f k l) (partOf l) := by
  have hr := rankD_lst h
  simp only [impl_partial.f]
  refine Ev.bind (impl_ranking_ev h) ?_
  have := impl_partial_l (rankD l) hr.2.1 hr.2.2 0 (Nat.zero_le _) [] 0 rfl (by omega)
  rw [List.drop_zero, List.nil_append] at this
  exact this

theorem impl_refused_l (p q : List Int) (hp : p.length ≤ 1048576) (hq : p.length ≤ q.length) : ∀ i, i ≤ p.length → Ev (fun k => impl_refused.l0 k q p (p.length : Int) (i : Int)) (refGo i (p.drop i) (q.drop i)) := by
  refine down ?_ ?_
  · refine Ev.succ ?_
    simp only [impl_refused.l0, nlt (Nat.le_refl p.length), if_false, List.drop_length, refGo]
    exact Ev.now _
  · intro i hi ih
    have h2 : i < q.length := by omega
    refine Ev.succ ?_
    simp only [impl_refused.l0, ilt hi, ilt h2, inn, if_true, rd_lt hi, rd_lt h2, wnext hi (by omega : p.length ≤ 4611686018427387904)]
    rw [drop_cons hi, drop_cons h2, refGo]
    by_cases c : p[i] > q[i]
    · simp only [c, if_true]; exact Ev.now _
    · simp only [c, if_false]; exact ih
theorem impl_refused_ev {a b : List Int} (ha : Lst a) (hb : Lst b) (hl : a.length = b.length) : Ev (fun k => impl_refused.f k a b) (refGo 0 (partOf a) (partOf b)) := by
  have h2 := ha.2.1
  simp only [impl_refused.f]
  refine Ev.bind (impl_partial_ev hb) ?_
  refine Ev.bind (impl_partial_ev ha) ?_
  exact impl_refused_l (partOf a) (partOf b) (by rw [partOf_length]; omega) (by rw [partOf_length, partOf_length]; omega) 0 (Nat.zero_le _)

theorem impl_total_l (l : List Int) (hl : l.length ≤ 4611686018427387904) : ∀ i, i ≤ l.length → ∀ acc, InR acc → Ev (fun k => impl_total.l0 k acc l (l.length : Int) (i : Int)) (wrap64 (acc + (l.drop i).sum)) := by
  refine down ?_ ?_
  · intro acc ha
    refine Ev.succ ?_
    simp only [impl_total.l0, nlt (Nat.le_refl l.length), if_false, List.drop_length, List.sum_nil, Int.add_zero, wR ha]
    exact Ev.now _
  · intro i hi ih acc ha
    refine Ev.succ ?_
    simp only [impl_total.l0, ilt hi, inn, if_true, rd_lt hi, wnext hi hl]
    rw [drop_cons hi, List.sum_cons, ← Int.add_assoc]
    exact (ih _ (inR_wrap _)).eqv (wr_add _ _)
theorem impl_total_ev (l : List Int) (hl : l.length ≤ 4611686018427387904) : Ev (fun k => impl_total.f k l) (wrap64 l.sum) := by
  have := impl_total_l l hl 0 (Nat.zero_le _) 0 inR_0
  simpa only [impl_total.f, List.drop_zero, Int.zero_add, Int.natCast_zero] using this
theorem impl_total_good {l : List Int} (h : Lst l) : Ev (fun k => impl_total.f k l) l.sum :=
  (impl_total_ev l (by have := h.2.1; omega)).eqv (w64 (by have := h.sum; omega) (by have := h.sum; omega))

theorem impl_doFit_ev {a b : List Int} (ha : Lst a) (hb : Lst b) : Ev (fun k => impl_doFit.f k a b) (decide (a.length = b.length) && decide (a.sum = b.sum)) := by
  simp only [impl_doFit.f]
  by_cases h : a.length = b.length
  · have h2 : (a.length : Int) = (b.length : Int) := by omega
    simp only [h2, if_true, h, decide_true, Bool.true_and]
    refine Ev.bind (impl_total_good ha) ?_
    exact Ev.ret (f := fun t => a.sum == t) (impl_total_good hb)
  · have h2 : ¬ (a.length : Int) = (b.length : Int) := by omega
    simp only [h2, if_false, h, decide_false, Bool.false_and]
    exact Ev.now _

theorem impl_isMajorized_ev {a b : List Int} (ha : Lst a) (hb : Lst b) : Ev (fun k => impl_isMajorized.f k a b) ((decide (a.length = b.length) && decide (a.sum = b.sum)) && leAll (partOf a) (partOf b)) := by
  simp only [impl_isMajorized.f]
  refine (Ev.and (impl_doFit_ev ha hb) fun h => ?_)
  simp only [Bool.and_eq_true, decide_eq_true_eq] at h
  exact (Ev.ret (f := fun t => t == 0) (impl_refused_ev ha hb h.1)).eqv (refGo_zero 0 _ _)

theorem impl_IsMajorized_ev (a b : List Int) (ha : a.length ≤ 1048576) (hb : b.length ≤ 1048576) : Ev (fun k => impl_IsMajorized.f k a b) (if goodB a && goodB b then (majB a b, true) else (false, false)) := by
  simp only [impl_IsMajorized.f]
  refine Ev.bind (impl_areLists_ev a b ha hb) ?_
  cases h : goodB a && goodB b with
  | false => simp only [Bool.false_eq_true, if_false]; exact Ev.now _
  | true =>
    simp only [if_true]
    rw [Bool.and_eq_true, goodB_iff, goodB_iff] at h
    exact (Ev.ret (f := fun t => (t, true)) (impl_isMajorized_ev h.1 h.2)).eqv (by rw [Bool.and_assoc]; rfl)

theorem spec_l1Cur_next_x {c : List Int} (hc : Bts c) (a s b : Int) (ha : At a b) (hb : b ≤ 4611686018427387904) : ∃ r : Int × Int × Int, spec_l1Cur_next.f c a s = some r ∧ 0 ≤ r.1 ∧ r.1 ≤ 255 ∧ At r.2.1 (b + 1) := by
  have h0 := ha.1
  have h1 := ha.2
  have e : wrap64 (a + 1) = a + 1 := w64 (by omega) (by omega)
  have a1 : At (a + 1) (b + 1) := ⟨by omega, by omega⟩
  have u : ∀ z : Int, 0 ≤ wrap64 (Go.bits .and .u64 (IntKind.u64.wrap z / 1099511627776) 255) ∧ wrap64 (Go.bits .and .u64 (IntKind.u64.wrap z / 1099511627776) 255) ≤ 255 := fun z => and255 _ (by rw [wrapU64]; omega) (by rw [wrapU64]; omega)
  unfold spec_l1Cur_next.f
  by_cases c1 : a < (c.length : Int)
  · have r := rd_code hc h0 c1
    simp only [c1, h0, if_true, e]
    by_cases c2 : a + 1 ≤ (c.length : Int)
    · simp only [c2, if_true]
      refine ⟨_, rfl, ?_, ?_, a1⟩
      · show 0 ≤ wrap64 _
        rw [w64 (by omega) (by omega)]; exact r.1
      · show wrap64 _ ≤ 255
        rw [w64 (by omega) (by omega)]; exact r.2
    · simp only [c2, if_false]
      exact ⟨_, rfl, (u _).1, (u _).2, a1⟩
  · simp only [c1, if_false, e]
    by_cases c2 : a + 1 ≤ (c.length : Int)
    · simp only [c2, if_true]
      exact ⟨_, rfl, by show (0 : Int) ≤ 0; omega, by show (0 : Int) ≤ 255; omega, a1⟩
    · simp only [c2, if_false]
      exact ⟨_, rfl, (u _).1, (u _).2, a1⟩

theorem spec_l1Cur_pick_x {c : List Int} (hc : Bts c) (a s b n : Int) (ha : At a b) (hb : b ≤ 1073741824) : Ex (fun _ => spec_l1Cur_pick.f c a s n) (fun r => 0 ≤ r.1 ∧ (1 ≤ n → r.1 < n) ∧ At r.2.1 (b + 2)) := by
  have h0 := ha.1
  have h1 := ha.2
  unfold spec_l1Cur_pick.f
  by_cases c1 : n ≤ 1
  · simp only [c1, if_true]
    exact Ex.now ⟨by show (0 : Int) ≤ 0; omega, fun h => by show (0 : Int) < n; omega, by omega, by show a ≤ b + 2; omega⟩
  · simp only [c1, if_false]
    obtain ⟨r, hr, r0, r1, r2⟩ := spec_l1Cur_next_x hc a s b ha (by omega)
    rw [hr]
    simp only [Option.bind_some]
    have n0 : ¬ n = 0 := by omega
    by_cases c2 : n > 200
    · simp only [c2, if_true]
      obtain ⟨q, hq, q0, q1, q2⟩ := spec_l1Cur_next_x hc r.2.1 r.2.2 (b + 1) r2 (by omega)
      rw [hq]
      simp only [Option.bind_some, n0, if_false]
      have e : wrap64 (wrap64 (r.1 * 256) + q.1) = r.1 * 256 + q.1 := by rw [w64 (x := r.1 * 256) (by omega) (by omega), w64 (by omega) (by omega)]
      rw [e]
      refine Ex.now ⟨Int.tmod_nonneg _ (by omega), fun _ => Int.tmod_lt_of_pos _ (by omega), q2.1, ?_⟩
      have := q2.2
      show q.2.1 ≤ b + 2
      omega
    · simp only [c2, if_false, n0]
      refine Ex.now ⟨Int.tmod_nonneg _ (by omega), fun _ => Int.tmod_lt_of_pos _ (by omega), r2.1, ?_⟩
      have := r2.2
      show r.2.1 ≤ b + 2
      omega

theorem spec_l1Cur_among_x {c : List Int} (hc : Bts c) (a s b : Int) (l : List Int) (hl : 1 ≤ l.length) (ha : At a b) (hb : b ≤ 1073741824) : Ex (fun _ => spec_l1Cur_among.f c a s l) (fun r => r.1 ∈ l ∧ At r.2.1 (b + 2)) := by
  unfold spec_l1Cur_among.f
  refine Ex.bind (spec_l1Cur_pick_x hc a s b _ ha hb) fun r hr => ?_
  have h0 := hr.1
  have h1 := hr.2.1 (by omega)
  simp only [h0, h1, if_true]
  refine Ex.now ⟨?_, hr.2.2⟩
  have hi : r.1.toNat < l.length := by omega
  show rd l r.1 ∈ l
  unfold rd
  rw [List.getD_eq_getElem?_getD, List.getElem?_eq_getElem hi, Option.getD_some]
  exact List.getElem_mem hi

theorem spec_l1Cur_list_l {c : List Int} (hc : Bts c) (m : Int) : ∀ (n : Nat) (x : List Int) (a s b : Int), At a b → b + 2 * n ≤ 1073741824 → x.length + n ≤ 1048576 → Ex (fun k => spec_l1Cur_list.l0 k m x (n : Int) c a s) (fun r => r.1.length = x.length + n ∧ At r.2.1 (b + 2 * n))
  | 0, x, a, s, b, ha, hb, hx => by
    refine Ex.succ ?_
    simp only [spec_l1Cur_list.l0, show ¬ (((0 : Nat) : Int) > 0) by omega, if_false]
    exact Ex.now ⟨rfl, by simpa using ha⟩
  | n + 1, x, a, s, b, ha, hb, hx => by
    refine Ex.succ ?_
    simp only [spec_l1Cur_list.l0, show (((n + 1 : Nat) : Int) > 0) by omega, if_true]
    refine Ex.bind (spec_l1Cur_pick_x hc a s b _ ha (by omega)) fun r hr => ?_
    have hl : x.length < 17592186044416 := by omega
    simp only [hl, if_true, w64 (x := ((n + 1 : Nat) : Int) - 1) (by omega) (by omega)]
    rw [show ((n + 1 : Nat) : Int) - 1 = (n : Int) by omega]
    refine (spec_l1Cur_list_l hc m n (x ++ [r.1]) r.2.1 r.2.2 (b + 2) hr.2.2 (by omega) (by rw [List.length_append, List.length_singleton]; omega)).mono fun q hq => ?_
    rw [List.length_append, List.length_singleton] at hq
    exact ⟨by omega, hq.2.1, by have := hq.2.2; omega⟩
theorem spec_l1Cur_list_x {c : List Int} (hc : Bts c) (a s b m : Int) (ha : At a b) (hb : b ≤ 536870912) : Ex (fun k => spec_l1Cur_list.f k c a s m) (fun r => 1 ≤ r.1.length ∧ r.1.length ≤ 6 ∧ At r.2.1 (b + 14)) := by
  simp only [spec_l1Cur_list.f]
  refine Ex.bind (spec_l1Cur_pick_x hc a s b 6 ha (by omega)) fun r hr => ?_
  have h0 := hr.1
  have h1 := hr.2.1 (by omega)
  obtain ⟨n, hn⟩ := Int.eq_ofNat_of_zero_le h0
  rw [w64 (by omega) (by omega), show 1 + r.1 = ((n + 1 : Nat) : Int) by omega]
  refine (spec_l1Cur_list_l hc m (n + 1) [] r.2.1 r.2.2 (b + 2) hr.2.2 (by omega) (by simp; omega)).mono fun q hq => ?_
  rw [List.length_nil] at hq
  exact ⟨by omega, by omega, hq.2.1, by have := hq.2.2; omega⟩

theorem spec_l1Cur_anyList_l {c : List Int} (hc : Bts c) : ∀ (d : Nat) (x : List Int) (a s b : Int), x.length + d = 10 → At a b → b + 4 * d + 4 ≤ 1073741824 → Ex (fun k => spec_l1Cur_anyList.l0 k x c a s) (fun r => r.1.length ≤ 10 ∧ At r.2.1 (b + 4 * d + 4))
  | 0, x, a, s, b, hx, ha, hb => by
    refine Ex.succ ?_
    simp only [spec_l1Cur_anyList.l0]
    refine Ex.bind (spec_l1Cur_pick_x hc a s b 2 ha (by omega)) fun r hr => ?_
    have h0 := hr.1
    have h1 := hr.2.1 (by omega)
    have c1 : ¬ ((x.length : Int) < wrap64 (8 + r.1)) := by rw [w64 (by omega) (by omega)]; omega
    simp only [c1, if_false]
    exact Ex.now ⟨by show x.length ≤ 10; omega, hr.2.2.1, by have := hr.2.2.2; show r.2.1 ≤ _; omega⟩
  | d + 1, x, a, s, b, hx, ha, hb => by
    refine Ex.succ ?_
    simp only [spec_l1Cur_anyList.l0]
    refine Ex.bind (spec_l1Cur_pick_x hc a s b 2 ha (by omega)) fun r hr => ?_
    by_cases c1 : (x.length : Int) < wrap64 (8 + r.1)
    · simp only [c1, if_true]
      refine Ex.bind (spec_l1Cur_pick_x hc _ _ (b + 2) 9 hr.2.2 (by omega)) fun q hq => ?_
      have hl : x.length < 17592186044416 := by omega
      simp only [hl, if_true]
      refine (spec_l1Cur_anyList_l hc d (x ++ [q.1]) _ _ (b + 2 + 2) (by rw [List.length_append, List.length_singleton]; omega) hq.2.2 (by omega)).mono fun z hz => ?_
      exact ⟨hz.1, hz.2.1, by have := hz.2.2; omega⟩
    · simp only [c1, if_false]
      exact Ex.now ⟨by show x.length ≤ 10; omega, hr.2.2.1, by have := hr.2.2.2; show r.2.1 ≤ _; omega⟩
theorem spec_l1Cur_anyList_x {c : List Int} (hc : Bts c) (a s b m : Int) (ha : At a b) (hb : b ≤ 268435456) : Ex (fun k => spec_l1Cur_anyList.f k c a s m) (fun r => r.1.length ≤ 10 ∧ At r.2.1 (b + 64)) := by
  simp only [spec_l1Cur_anyList.f]
  refine Ex.bind (spec_l1Cur_list_x hc a s b m ha (by omega)) fun r hr => ?_
  refine Ex.bind (spec_l1Cur_pick_x hc _ _ (b + 14) 14 hr.2.2 (by omega)) fun q hq => ?_
  have q2 := hq.2.2.2
  by_cases c1 : q.1 = 0
  · simp only [c1, if_true]
    refine Ex.bind (spec_l1Cur_among_x hc _ _ (b + 14 + 2) _ (by simp) hq.2.2 (by omega)) fun z hz => ?_
    have hl : r.1.length < 17592186044416 := by omega
    simp only [hl, if_true]
    exact Ex.now ⟨by show (r.1 ++ [z.1]).length ≤ 10; rw [List.length_append, List.length_singleton]; omega, hz.2.1, by have := hz.2.2; show z.2.1 ≤ _; omega⟩
  · simp only [c1, if_false]
    by_cases c2 : q.1 = 1
    · simp only [c2, if_true]
      refine (spec_l1Cur_anyList_l hc (10 - r.1.length) r.1 _ _ (b + 14 + 2) (by omega) hq.2.2 (by omega)).mono fun z hz => ?_
      exact ⟨hz.1, hz.2.1, by have := hz.2.2; omega⟩
    · simp only [c2, if_false]
      by_cases c3 : q.1 = 2
      · simp only [c3, if_true]
        exact Ex.now ⟨by show ([] : List Int).length ≤ 10; simp, hq.2.2.1, by show q.2.1 ≤ _; omega⟩
      · simp only [c3, if_false]
        exact Ex.now ⟨by show r.1.length ≤ 10; omega, hq.2.2.1, by show q.2.1 ≤ _; omega⟩

theorem spec_DrawTopShare_x {c : List Int} (hc : Bts c) : Ex (fun k => spec_DrawTopShare.f k c) (fun r => r.1.length ≤ 10) := by
  simp only [spec_DrawTopShare.f]
  refine Ex.bind (spec_l1Cur_anyList_x hc 0 0 0 9 ⟨by omega, by omega⟩ (by omega)) fun r hr => ?_
  refine Ex.bind (spec_l1Cur_among_x hc _ _ (0 + 64) _ (by simp) hr.2 (by omega)) fun q hq => ?_
  exact Ex.now hr.1

theorem impl_isPositive_ev (l : List Int) (hl : l.length ≤ 1048576) : Ev (fun k => impl_isPositive.f k l) (goodB l && decide (l.sum > 0)) := by
  simp only [impl_isPositive.f]
  exact Ev.and (impl_IsList_ev l (by omega)) fun h => Ev.ret (f := fun t => decide (t > 0)) (impl_total_good (goodB_iff.1 h))

theorem impl_TopShare_ev (a : List Int) (n : Int) (ha : a.length ≤ 1048576) : Ev (fun k => impl_TopShare.f k a n) (if goodB a && decide (a.sum > 0) && wth n 1 a.length then (((rankD a).take n.toNat).sum, a.sum, true) else (0, 0, false)) := by
  simp only [impl_TopShare.f]
  have off : Ev (fun k => impl_TopShare.j0 k a n true) ((0, 0, false) : Int × Int × Bool) := by
    refine Ev.succ ?_
    simp only [impl_TopShare.j0, if_true]
    exact Ev.now _
  refine Ev.bind (impl_isPositive_ev a ha) ?_
  cases h : goodB a && decide (a.sum > 0) with
  | false => simp only [Bool.false_and, Bool.false_eq_true, if_false]; exact off
  | true =>
    have hh := h
    rw [Bool.and_eq_true] at hh
    have la := goodB_iff.1 hh.1
    have l8 := la.2.1
    simp only [if_true, Bool.true_and, impl_within_e, Option.bind_some]
    cases h2 : wth n 1 a.length with
    | false => simp only [Bool.not_false, Bool.false_eq_true, if_false]; exact off
    | true =>
      have hn := wth_iff.1 h2
      simp only [Bool.not_true, if_true]
      refine Ev.succ ?_
      simp only [impl_TopShare.j0, Bool.false_eq_true, if_false]
      refine Ev.bind (impl_partial_ev la) ?_
      have e0 : wrap64 (n - 1) = ((n.toNat - 1 : Nat) : Int) := by rw [w64 (by omega) (by omega)]; omega
      have hi : n.toNat - 1 < (partOf a).length := by rw [partOf_length]; omega
      have e1 : rd (partOf a) ((n.toNat - 1 : Nat) : Int) = ((rankD a).take n.toNat).sum := by
        rw [rd_lt hi]
        have e2 := psums_get 0 (rankD a) (n.toNat - 1) hi
        rw [show n.toNat - 1 + 1 = n.toNat by omega, Int.zero_add] at e2
        exact e2
      simp only [e0, inn, ilt hi, if_true, e1]
      exact Ev.ret (f := fun t => (((rankD a).take n.toNat).sum, t, true)) (impl_total_good la)

theorem spec_l1In_e (a b c : Int) : spec_l1In.f a b c = some (wth a b c) := wth_opt a b c

theorem spec_l1All_l (l : List Int) (lo hi : Int) (hl : l.length ≤ 4611686018427387904) : ∀ i, i ≤ l.length → Ev (fun k => spec_l1All.l0 k lo hi l (l.length : Int) (i : Int)) (allW (l.drop i) lo hi) := by
  refine down ?_ ?_
  · refine Ev.succ ?_
    simp only [spec_l1All.l0, nlt (Nat.le_refl l.length), if_false, List.drop_length]
    exact Ev.now _
  · intro i hi ih
    refine Ev.succ ?_
    simp only [spec_l1All.l0, ilt hi, inn, if_true, spec_l1In_e, Option.bind_some, rd_lt hi, wnext hi hl]
    rw [drop_cons hi]
    exact Ev.andS fun _ => ih
theorem spec_l1All_ev (l : List Int) (lo hi : Int) (hl : l.length ≤ 4611686018427387904) : Ev (fun k => spec_l1All.f k l lo hi) (allW l lo hi) := by
  have := spec_l1All_l l lo hi hl 0 (Nat.zero_le _)
  simpa only [spec_l1All.f, List.drop_zero, Int.natCast_zero] using this

theorem spec_liGood_ev (l : List Int) (hl : l.length ≤ 4611686018427387904) : Ev (fun k => spec_liGood.f k l) (goodB l) := by
  simp only [spec_liGood.f, spec_l1In_e, Option.bind_some, goodB]
  exact Ev.andS fun _ => Ev.ret (f := fun t => t) (spec_l1All_ev l 0 60 hl)

theorem spec_l1Own_e (l : List Int) (hl : l.length < 17592186044416) : spec_l1Own.f l = some l := by
  simp only [spec_l1Own.f, Option.bind_some, List.nil_append, List.length_nil, Nat.zero_add, hl, if_true]

theorem spec_liRank_l1 (l : List Int) (x : Int) (i : Nat) (r : List Int) (hr : r.length ≤ 1048576) (hl : l.length ≤ 1048576) (hi : i < l.length) (v : List Int)
    (ih : Ev (fun k => spec_liRank.l0 k (insD x r) l (l.length : Int) ((i + 1 : Nat) : Int)) v) : ∀ p, p ≤ r.length → insD x r = r.take p ++ insD x (r.drop p) → Ev (fun k => spec_liRank.l1 k r x (p : Int) l (l.length : Int) (i : Int)) v := by
  refine down ?_ ?_
  · intro e
    rw [List.take_length, List.drop_length] at e
    refine Ev.succ ?_
    have e2 : (r ++ [x]).length < 17592186044416 := by rw [List.length_append, List.length_singleton]; omega
    have e3 : r.length + 1 < 17592186044416 := by omega
    simp only [spec_liRank.l1, nlt (Nat.le_refl r.length), if_false, inn, ile (Nat.le_refl r.length), if_true, Int.toNat_natCast, List.take_length, List.drop_length, spec_l1Own_e r (by omega), Option.bind_some, List.length_singleton, List.length_append, List.length_nil, Nat.add_zero, e3, List.append_nil, wnext hi (by omega : l.length ≤ 4611686018427387904)]
    have e' : insD x r = r ++ [x] := e
    rw [← e']; exact ih
  · intro p hp ihp e
    refine Ev.succ ?_
    have e1 : r.drop p = r[p] :: r.drop (p + 1) := drop_cons hp
    by_cases c : r[p] ≥ x
    · simp only [spec_liRank.l1, ilt hp, inn, if_true, rd_lt hp, c, wnext hp (by omega : r.length ≤ 4611686018427387904)]
      refine ihp ?_
      rw [e, e1]
      simp only [insD, c, if_true]
      rw [List.take_succ_eq_append_getElem hp, List.append_assoc, List.singleton_append]
    · have h1 : (r.take p).length = p := by rw [List.length_take]; omega
      have h2 : (r.drop p).length = r.length - p := List.length_drop
      have e2 : p + 1 < 17592186044416 := by omega
      have e3 : p + 1 + (r.length - p) < 17592186044416 := by omega
      simp only [spec_liRank.l1, ilt hp, ile (Nat.le_of_lt hp), inn, if_true, rd_lt hp, c, if_false, Int.toNat_natCast, spec_l1Own_e (r.take p) (by omega), Option.bind_some, List.length_singleton, List.length_append, h1, h2, e2, e3, wnext hi (by omega : l.length ≤ 4611686018427387904)]
      have e' : insD x r = r.take p ++ [x] ++ r.drop p := by
        rw [e, e1]
        simp only [insD, c, if_false]
        rw [List.append_assoc, List.singleton_append]
      rw [← e']; exact ih
theorem spec_liRank_l0 (l : List Int) (hl : l.length ≤ 1048576) : ∀ i, i ≤ l.length → ∀ r : List Int, r.length = i → Ev (fun k => spec_liRank.l0 k r l (l.length : Int) (i : Int)) (rankFrom r (l.drop i)) := by
  refine down ?_ ?_
  · intro r hr
    refine Ev.succ ?_
    simp only [spec_liRank.l0, nlt (Nat.le_refl l.length), if_false, List.drop_length]
    exact Ev.now _
  · intro i hi ih r hr
    refine Ev.succ ?_
    simp only [spec_liRank.l0, ilt hi, inn, if_true, rd_lt hi]
    rw [drop_cons hi]
    exact spec_liRank_l1 l l[i] i r (by omega) hl hi _ (ih (insD l[i] r) (by rw [insD_length, hr])) 0 (Nat.zero_le _) (by rw [List.take_zero, List.drop_zero, List.nil_append])
theorem spec_liRank_ev (l : List Int) (hl : l.length ≤ 1048576) : Ev (fun k => spec_liRank.f k l) (rankD l) := by
  have := spec_liRank_l0 l hl 0 (Nat.zero_le _) [] rfl
  rwa [List.drop_zero] at this

theorem spec_liSum_l (l : List Int) (hl : l.length ≤ 4611686018427387904) : ∀ i, i ≤ l.length → ∀ acc, InR acc → Ev (fun k => spec_liSum.l0 k acc l (l.length : Int) (i : Int)) (wrap64 (acc + (l.drop i).sum)) := by
  refine down ?_ ?_
  · intro acc ha
    refine Ev.succ ?_
    simp only [spec_liSum.l0, nlt (Nat.le_refl l.length), if_false, List.drop_length, List.sum_nil, Int.add_zero, wR ha]
    exact Ev.now _
  · intro i hi ih acc ha
    refine Ev.succ ?_
    simp only [spec_liSum.l0, ilt hi, inn, if_true, rd_lt hi, wnext hi hl]
    rw [drop_cons hi, List.sum_cons, ← Int.add_assoc]
    exact (ih _ (inR_wrap _)).eqv (wr_add _ _)
theorem spec_liSum_ev (l : List Int) (hl : l.length ≤ 4611686018427387904) : Ev (fun k => spec_liSum.f k l) (wrap64 l.sum) := by
  have := spec_liSum_l l hl 0 (Nat.zero_le _) 0 inR_0
  simpa only [spec_liSum.f, List.drop_zero, Int.zero_add, Int.natCast_zero] using this
theorem spec_liSum_good {l : List Int} (h : Lst l) : Ev (fun k => spec_liSum.f k l) l.sum :=
  (spec_liSum_ev l (by have := h.2.1; omega)).eqv (w64 (by have := h.sum; omega) (by have := h.sum; omega))

theorem spec_TopShare_ev (a : List Int) (n : Int) (ha : a.length ≤ 1048576) : Ev (fun k => spec_TopShare.f k a n) (if goodB a && decide (a.sum > 0) && wth n 1 a.length then (((rankD a).take n.toNat).sum, a.sum, true) else (0, 0, false)) := by
  simp only [spec_TopShare.f]
  have off : Ev (fun k => spec_TopShare.j0 k a n true) ((0, 0, false) : Int × Int × Bool) := by
    refine Ev.succ ?_
    simp only [spec_TopShare.j0, if_true]
    exact Ev.now _
  refine Ev.bind (spec_liGood_ev a (by omega)) ?_
  cases h : goodB a with
  | false => simp only [Bool.false_and, Bool.false_eq_true, if_false]; exact off
  | true =>
    have la := goodB_iff.1 h
    have l8 := la.2.1
    have hs := la.sum
    simp only [if_true, Bool.true_and, spec_l1In_e, Option.bind_some]
    cases h2 : wth n 1 a.length with
    | false => simp only [Bool.and_false, Bool.false_eq_true, if_false]; exact off
    | true =>
      have hn := wth_iff.1 h2
      simp only [Bool.and_true, if_true]
      refine Ev.bind (spec_liSum_good la) ?_
      cases h3 : decide (a.sum > 0) with
      | false =>
        have := of_decide_eq_false h3
        have e : (a.sum == 0) = true := beq_iff_eq.2 (by omega)
        simp only [e, Bool.false_eq_true, if_false]; exact off
      | true =>
        have := of_decide_eq_true h3
        have e : (a.sum == 0) = false := beq_eq_false_iff_ne.2 (by omega)
        simp only [e, if_true]
        refine Ev.succ ?_
        simp only [spec_TopShare.j0, Bool.false_eq_true, if_false]
        refine Ev.bind (spec_liRank_ev a ha) ?_
        simp only [rankD_length, eq_true (by omega : 0 ≤ n), eq_true hn.2, if_true]
        have tb := sum_bound (l := (rankD a).take n.toNat) (lo := 0) (hi := 60) (fun x hx => (rankD_lst la).2.2 x (List.mem_of_mem_take hx))
        have tl : ((rankD a).take n.toNat).length ≤ 8 := by rw [List.length_take, rankD_length]; omega
        refine Ev.bind ((spec_liSum_ev ((rankD a).take n.toNat) (by omega)).eqv (w64 (by omega) (by omega))) ?_
        exact Ev.ret (f := fun t => (((rankD a).take n.toNat).sum, t, true)) (spec_liSum_good la)

theorem rev_sorted (l : List Int) : (l.mergeSort fun x y => decide (x ≤ y)) = (rankD l).reverse := by
  have hp : List.Perm (l.mergeSort fun x y => decide (x ≤ y)).reverse (rankD l) := (List.reverse_perm _).trans ((List.mergeSort_perm _ _).trans (rankD_perm l).symm)
  have hd : Desc (l.mergeSort fun x y => decide (x ≤ y)).reverse := by
    unfold Desc
    rw [List.pairwise_reverse]
    refine (List.pairwise_mergeSort (le := fun x y : Int => decide (x ≤ y)) ?_ ?_ l).imp (fun h => of_decide_eq_true h)
    · intro a b c h1 h2
      have h1 := of_decide_eq_true h1
      have h2 := of_decide_eq_true h2
      exact decide_eq_true (by omega)
    · intro a b
      rw [Bool.or_eq_true, decide_eq_true_eq, decide_eq_true_eq]
      omega
  have := desc_unique hp hd (rankD_desc l)
  rw [← this, List.reverse_reverse]
theorem slices_Sorted_int_e (l : List Int) (hl : l.length ≤ 1048576) : slices_Sorted_int.f l = some (rankD l).reverse := by
  rw [slices_Sorted_int.f, if_pos hl, rev_sorted]

theorem impl_lorenz_l (l : List Int) (hl : l.length ≤ 8) (hb : ∀ x ∈ l, 0 ≤ x ∧ x ≤ 60) : ∀ i, i ≤ l.length → ∀ (out : List Int) (s : Int), out.length = i + 1 → 0 ≤ s ∧ s ≤ 60 * i → Ev (fun k => impl_lorenz.l0 k out s l (l.length : Int) (i : Int)) (out ++ psums s (l.drop i)) := by
  refine down ?_ ?_
  · intro out s ho hs
    refine Ev.succ ?_
    simp only [impl_lorenz.l0, nlt (Nat.le_refl l.length), if_false, List.drop_length, psums, List.append_nil]
    exact Ev.now _
  · intro i hi ih out s ho hs
    have b := hb _ (List.getElem_mem hi)
    have c : out.length < 17592186044416 := by omega
    refine Ev.succ ?_
    simp only [impl_lorenz.l0, ilt hi, inn, if_true, rd_lt hi, c, w64 (x := s + l[i]) (by omega) (by omega), wnext hi (by omega : l.length ≤ 4611686018427387904)]
    rw [drop_cons hi, psums]
    exact (ih (out ++ [s + l[i]]) (s + l[i]) (by simp [ho]) (by omega)).eqv (by simp)
theorem impl_lorenz_ev {l : List Int} (h : Lst l) : Ev (fun k => impl_lorenz.f k l) (lorOf l) := by
  have hr := rankD_lst h
  have h8 := h.2.1
  simp only [impl_lorenz.f, slices_Sorted_int_e l (by omega), Option.bind_some]
  have := impl_lorenz_l (rankD l).reverse (by rw [List.length_reverse]; exact hr.2.1) (fun x hx => hr.2.2 x (List.mem_reverse.1 hx)) 0 (Nat.zero_le _) [0] 0 rfl (by omega)
  rw [List.drop_zero] at this
  exact this

theorem impl_PoorestSum_ev (a : List Int) (n : Int) (ha : a.length ≤ 1048576) : Ev (fun k => impl_PoorestSum.f k a n) (if goodB a && wth n 1 a.length then ((lorOf a).getD n.toNat 0, true) else (0, false)) := by
  simp only [impl_PoorestSum.f]
  refine Ev.bind (impl_IsList_ev a (by omega)) ?_
  cases h : goodB a with
  | false => simp only [Bool.false_and, Bool.false_eq_true, if_false]; exact Ev.now _
  | true =>
    simp only [if_true, Bool.true_and, impl_within_e, Option.bind_some]
    cases h2 : wth n 1 a.length with
    | false => simp only [Bool.false_eq_true, if_false]; exact Ev.now _
    | true =>
      have hn := wth_iff.1 h2
      simp only [if_true]
      refine Ev.bind (impl_lorenz_ev (goodB_iff.1 h)) ?_
      obtain ⟨i, rfl⟩ := Int.eq_ofNat_of_zero_le (by omega : 0 ≤ n)
      have hi : i < (lorOf a).length := by rw [lorOf_length]; omega
      simp only [inn, ilt hi, if_true, rd_get, Int.toNat_natCast]
      exact Ev.now _

theorem spec_msLorenz_l (r : List Int) (hr : r.length ≤ 8) (hb : ∀ x ∈ r, 0 ≤ x ∧ x ≤ 60) : ∀ (j : Nat), j ≤ r.length → ∀ (acc : List Int) (s : Int), 0 < acc.length → acc.length + j ≤ 9 → acc.getD (acc.length - 1) 0 = s → 0 ≤ s → s + 60 * j ≤ 480 → Ev (fun k => spec_msLorenz.l0 k r acc ((j : Int) - 1)) (acc ++ psums s (r.take j).reverse)
  | 0, _, acc, s, _, _, _, _, _ => by
    refine Ev.succ ?_
    simp only [spec_msLorenz.l0, (by omega : ¬ (((0 : Nat) : Int) - 1) ≥ 0), if_false, List.take_zero, List.reverse_nil, psums, List.append_nil]
    exact Ev.now _
  | j + 1, hj, acc, s, h0, h9, hl, hs0, hs => by
    have hj' : j < r.length := by omega
    have b := hb _ (List.getElem_mem hj')
    have e : (((j + 1 : Nat) : Int) - 1) = (j : Int) := by omega
    have e1 : wrap64 ((acc.length : Int) - 1) = ((acc.length - 1 : Nat) : Int) := by rw [w64 (by omega) (by omega)]; omega
    have c : acc.length < 17592186044416 := by omega
    have e2 : wrap64 ((j : Int) - 1) = (j : Int) - 1 := w64 (by omega) (by omega)
    rw [e]
    refine Ev.succ ?_
    simp only [spec_msLorenz.l0, (by omega : (j : Int) ≥ 0), e1, e2, inn, if_true, ilt (by omega : acc.length - 1 < acc.length), ilt hj', rd_get, hl, c]
    have er : r.getD j 0 = r[j] := by simp [List.getD_eq_getElem?_getD, hj']
    rw [er, w64 (x := s + r[j]) (by omega) (by omega), List.take_succ_eq_append_getElem hj', List.reverse_append, List.reverse_singleton, List.singleton_append, psums]
    refine (spec_msLorenz_l r hr hb j (by omega) (acc ++ [s + r[j]]) (s + r[j]) (by simp) (by rw [List.length_append, List.length_singleton]; omega) (by simp [List.getD_eq_getElem?_getD]) (by omega) (by omega)).eqv ?_
    rw [List.append_assoc, List.singleton_append]
theorem spec_msLorenz_ev {l : List Int} (h : Lst l) : Ev (fun k => spec_msLorenz.f k l) (lorOf l) := by
  have hr := rankD_lst h
  have h1 := h.1
  have h2 := h.2.1
  simp only [spec_msLorenz.f]
  refine Ev.bind (spec_liRank_ev l (by omega)) ?_
  have e : wrap64 (((rankD l).length : Int) - 1) = ((rankD l).length : Int) - 1 := w64 (by rw [rankD_length]; omega) (by rw [rankD_length]; omega)
  rw [e]
  have := spec_msLorenz_l (rankD l) hr.2.1 hr.2.2 (rankD l).length (Nat.le_refl _) [0] 0 (by simp) (by rw [rankD_length, List.length_singleton]; omega) rfl (by omega) (by rw [rankD_length]; omega)
  rw [List.take_length] at this
  exact this

theorem spec_PoorestSum_ev (a : List Int) (n : Int) (ha : a.length ≤ 1048576) : Ev (fun k => spec_PoorestSum.f k a n) (if goodB a && wth n 1 a.length then ((lorOf a).getD n.toNat 0, true) else (0, false)) := by
  simp only [spec_PoorestSum.f]
  refine Ev.bind (spec_liGood_ev a (by omega)) ?_
  cases h : goodB a with
  | false => simp only [Bool.false_and, Bool.false_eq_true, if_false]; exact Ev.now _
  | true =>
    simp only [if_true, Bool.true_and, spec_l1In_e, Option.bind_some]
    cases h2 : wth n 1 a.length with
    | false => simp only [Bool.false_eq_true, if_false]; exact Ev.now _
    | true =>
      have hn := wth_iff.1 h2
      simp only [if_true]
      refine Ev.bind (spec_msLorenz_ev (goodB_iff.1 h)) ?_
      obtain ⟨i, rfl⟩ := Int.eq_ofNat_of_zero_le (by omega : 0 ≤ n)
      have hi : i < (lorOf a).length := by rw [lorOf_length]; omega
      simp only [inn, ilt hi, if_true, rd_get, Int.toNat_natCast]
      exact Ev.now _

theorem impl_LorenzOf_ev (a : List Int) (ha : a.length ≤ 1048576) : Ev (fun k => impl_LorenzOf.f k a) (if goodB a then (lorOf a, true) else (([] : List Int), false)) := by
  simp only [impl_LorenzOf.f]
  refine Ev.bind (impl_IsList_ev a (by omega)) ?_
  cases h : goodB a with
  | false => simp only [Bool.false_eq_true, if_false]; exact Ev.now _
  | true =>
    simp only [if_true]
    exact Ev.ret (f := fun t => (t, true)) (impl_lorenz_ev (goodB_iff.1 h))

theorem spec_l1Cur_one_x {c : List Int} (hc : Bts c) (a s b n : Int) (ha : At a b) (hb : b ≤ 1073741824) : Ex (fun _ => spec_l1Cur_one.f c a s n) (fun r => At r.2.1 (b + 2)) := by
  unfold spec_l1Cur_one.f
  refine Ex.bind (spec_l1Cur_pick_x hc a s b n ha hb) fun r hr => ?_
  exact Ex.now hr.2.2

theorem spec_l1Cur_fitting_l {c : List Int} (hc : Bts c) (x : List Int) (hx : x.length ≤ 10) : ∀ (n : Nat) (y : List Int) (a s b : Int), y.length ≤ 10 → At a b → b + 8 * n + 8 ≤ 1073741824 → Ex (fun k => spec_l1Cur_fitting.l0 k x y (n : Int) c a s) (fun r => r.1.length ≤ 10 ∧ r.2.1.length ≤ 10 ∧ At r.2.2.1 (b + 8 * n + 8))
  | n, y, a, s, b, hy, ha, hb => by
    have hb0 := ha.1
    have hb1 := ha.2
    have off : Ex (fun k => spec_l1Cur_fitting.j1 k x y (n : Int) false c a s) (fun r => r.1.length ≤ 10 ∧ r.2.1.length ≤ 10 ∧ At r.2.2.1 (b + 8 * n + 8)) := by
      refine Ex.succ ?_
      simp only [spec_l1Cur_fitting.j1, Bool.false_eq_true, if_false]
      refine Ex.bind (spec_l1Cur_one_x hc a s b 5 ha (by omega)) fun r hr => ?_
      have h2 := hr.2
      by_cases c1 : r.1 = true
      · simp only [c1, if_true]
        exact Ex.now ⟨hx, hy, hr.1, by show r.2.1 ≤ _; omega⟩
      · simp only [c1, if_false]
        exact Ex.now ⟨hy, hx, hr.1, by show r.2.1 ≤ _; omega⟩
    refine Ex.succ ?_
    simp only [spec_l1Cur_fitting.l0]
    by_cases c0 : (n : Int) > 0
    · simp only [c0, if_true]
      by_cases c1 : (y.length : Int) > 1
      · simp only [c1, decide_true]
        obtain ⟨m, rfl⟩ : ∃ m, n = m + 1 := ⟨n - 1, by omega⟩
        have ew : wrap64 (((m + 1 : Nat) : Int) - 1) = (m : Int) := by rw [w64 (by omega) (by omega)]; omega
        refine Ex.succ ?_
        simp only [spec_l1Cur_fitting.j1, if_true, ew]
        refine Ex.bind (spec_l1Cur_pick_x hc a s b _ ha (by omega)) fun r hr => ?_
        refine Ex.bind (spec_l1Cur_pick_x hc _ _ (b + 2) _ hr.2.2 (by omega)) fun q hq => ?_
        have r0 := hr.1
        have r1 := hr.2.1 (by omega)
        have q0 := hq.1
        have q1 := hq.2.1 (by omega)
        simp only [r0, r1, q0, q1, if_true]
        have go : ∀ (z : List Int) (a' s' b' : Int), z.length = y.length → At a' b' → b' ≤ b + 8 → Ex (fun k => spec_l1Cur_fitting.l0 k x z (m : Int) c a' s') (fun r => r.1.length ≤ 10 ∧ r.2.1.length ≤ 10 ∧ At r.2.2.1 (b + 8 * ((m + 1 : Nat) : Int) + 8)) := by
          intro z a' s' b' hz ha' hb'
          refine (spec_l1Cur_fitting_l hc x hx m z a' s' b' (by omega) ha' (by omega)).mono fun t ht => ⟨ht.1, ht.2.1, ht.2.2.1, by have := ht.2.2.2; omega⟩
        by_cases c2 : rd y r.1 > 0
        · simp only [c2, if_true]
          by_cases c3 : rd y r.1 > rd y q.1
          · simp only [c3, if_true, Option.bind_some]
            exact go _ _ _ _ (by simp) hq.2.2 (by omega)
          · simp only [c3, if_false]
            refine Ex.bind (spec_l1Cur_one_x hc _ _ (b + 2 + 2) 4 hq.2.2 (by omega)) fun t ht => ?_
            by_cases c4 : t.1 = true
            · simp only [c4, if_true, Option.bind_some]
              exact go _ _ _ _ (by simp) ht (by omega)
            · simp only [c4, if_false]
              exact go _ _ _ _ rfl ht (by omega)
        · simp only [c2, if_false]
          exact go _ _ _ _ rfl hq.2.2 (by omega)
      · simp only [c1, decide_false]
        exact off
    · simp only [c0, if_false]
      exact off
theorem spec_l1Cur_fitting_x {c : List Int} (hc : Bts c) (a s b m : Int) (ha : At a b) (hb : b ≤ 134217728) : Ex (fun k => spec_l1Cur_fitting.f k c a s m) (fun r => r.1.length ≤ 10 ∧ r.2.1.length ≤ 10 ∧ At r.2.2.1 (b + 256)) := by
  simp only [spec_l1Cur_fitting.f]
  refine Ex.bind (spec_l1Cur_anyList_x hc a s b m ha (by omega)) fun r hr => ?_
  refine Ex.bind (spec_l1Cur_one_x hc _ _ (b + 64) 5 hr.2 (by omega)) fun q hq => ?_
  by_cases c1 : q.1 = true
  · simp only [c1, if_true]
    refine Ex.bind (spec_l1Cur_anyList_x hc _ _ (b + 64 + 2) m hq (by omega)) fun z hz => ?_
    exact Ex.now ⟨hz.1, hr.1, hz.2.1, by have := hz.2.2; show z.2.1 ≤ _; omega⟩
  · simp only [c1, if_false, spec_l1Own_e r.1 (by omega), Option.bind_some]
    refine Ex.bind (spec_l1Cur_pick_x hc _ _ (b + 64 + 2) 12 hq (by omega)) fun z hz => ?_
    have z0 := hz.1
    have z1 := hz.2.1 (by omega)
    obtain ⟨n, hn⟩ := Int.eq_ofNat_of_zero_le z0
    rw [hn] at z1 ⊢
    refine (spec_l1Cur_fitting_l hc r.1 hr.1 n r.1 _ _ (b + 64 + 2 + 2) hr.1 hz.2.2 (by omega)).mono fun t ht => ⟨ht.1, ht.2.1, ht.2.2.1, by have := ht.2.2.2; omega⟩

theorem spec_DrawIsLorenzAbove_x {c : List Int} (hc : Bts c) : Ex (fun k => spec_DrawIsLorenzAbove.f k c) (fun r => r.1.length ≤ 10 ∧ r.2.length ≤ 10) := by
  simp only [spec_DrawIsLorenzAbove.f]
  refine Ex.bind (spec_l1Cur_fitting_x hc 0 0 0 8 ⟨by omega, by omega⟩ (by omega)) fun r hr => ?_
  exact Ex.now ⟨hr.1, hr.2.1⟩

theorem impl_IsLorenzAbove_ev (a b : List Int) (ha : a.length ≤ 1048576) (hb : b.length ≤ 1048576) : Ev (fun k => impl_IsLorenzAbove.f k a b) (if goodB a && goodB b then ((decide (a.length = b.length) && decide (a.sum = b.sum)) && leAll (partOf a) (partOf b), true) else (false, false)) := by
  simp only [impl_IsLorenzAbove.f]
  refine Ev.bind (impl_areLists_ev a b ha hb) ?_
  cases h : goodB a && goodB b with
  | false => simp only [Bool.false_eq_true, if_false]; exact Ev.now _
  | true =>
    simp only [if_true]
    rw [Bool.and_eq_true, goodB_iff, goodB_iff] at h
    exact Ev.ret (f := fun t => (t, true)) (impl_isMajorized_ev h.1 h.2)

theorem spec_liFit_ev {a b : List Int} (ha : Lst a) (hb : Lst b) : Ev (fun k => spec_liFit.f k a b) (decide (a.length = b.length) && decide (a.sum = b.sum)) := by
  simp only [spec_liFit.f]
  by_cases h : a.length = b.length
  · have h2 : (a.length : Int) = (b.length : Int) := by omega
    simp only [h2, if_true, h, decide_true, Bool.true_and]
    refine Ev.bind (spec_liSum_good ha) ?_
    exact Ev.ret (f := fun t => a.sum == t) (spec_liSum_good hb)
  · have h2 : ¬ (a.length : Int) = (b.length : Int) := by omega
    simp only [h2, if_false, h, decide_false, Bool.false_and]
    exact Ev.now _

theorem spec_IsLorenzAbove_l (p q : List Int) (hp : p.length ≤ 1048576) (hq : p.length ≤ q.length) : ∀ i, i ≤ p.length → Ev (fun k => spec_IsLorenzAbove.l0 k q p (p.length : Int) (i : Int)) (leAll (q.drop i) (p.drop i), true) := by
  refine down ?_ ?_
  · refine Ev.succ ?_
    simp only [spec_IsLorenzAbove.l0, nlt (Nat.le_refl p.length), if_false, List.drop_length]
    rw [show leAll (q.drop p.length) [] = true by cases q.drop p.length <;> rfl]
    exact Ev.now _
  · intro i hi ih
    have h2 : i < q.length := by omega
    refine Ev.succ ?_
    simp only [spec_IsLorenzAbove.l0, ilt hi, ilt h2, inn, if_true, rd_lt hi, rd_lt h2, wnext hi (by omega : p.length ≤ 4611686018427387904)]
    have e : leAll (q.drop i) (p.drop i) = (decide (q[i] ≤ p[i]) && leAll (q.drop (i + 1)) (p.drop (i + 1))) := by rw [drop_cons hi, drop_cons h2, leAll]
    rw [e]
    by_cases c : p[i] < q[i]
    · rw [decide_eq_false (by omega : ¬ q[i] ≤ p[i]), Bool.false_and]
      simp only [c, if_true]; exact Ev.now _
    · rw [decide_eq_true (by omega : q[i] ≤ p[i]), Bool.true_and]
      simp only [c, if_false]; exact ih
theorem spec_IsLorenzAbove_ev (a b : List Int) (ha : a.length ≤ 1048576) (hb : b.length ≤ 1048576) : Ev (fun k => spec_IsLorenzAbove.f k a b) (if goodB a && goodB b then ((decide (a.length = b.length) && decide (a.sum = b.sum)) && leAll (partOf a) (partOf b), true) else (false, false)) := by
  simp only [spec_IsLorenzAbove.f]
  have off : Ev (fun k => spec_IsLorenzAbove.j0 k a b true) ((false, false) : Bool × Bool) := by
    refine Ev.succ ?_
    simp only [spec_IsLorenzAbove.j0, if_true]
    exact Ev.now _
  refine Ev.bind (spec_liGood_ev a (by omega)) ?_
  cases h : goodB a with
  | false => simp only [Bool.false_and, Bool.false_eq_true, if_false]; exact off
  | true =>
    simp only [if_true, Bool.true_and]
    refine Ev.bind (spec_liGood_ev b (by omega)) ?_
    cases h2 : goodB b with
    | false => simp only [Bool.not_false, Bool.false_eq_true, if_false]; exact off
    | true =>
      have la := goodB_iff.1 h
      have lb := goodB_iff.1 h2
      have l8 := la.2.1
      simp only [Bool.not_true, if_true]
      refine Ev.succ ?_
      simp only [spec_IsLorenzAbove.j0, Bool.false_eq_true, if_false]
      refine Ev.bind (spec_liFit_ev la lb) ?_
      cases h3 : (decide (a.length = b.length) && decide (a.sum = b.sum)) with
      | false => simp only [Bool.false_eq_true, if_false, Bool.false_and]; exact Ev.now _
      | true =>
        simp only [Bool.and_eq_true, decide_eq_true_eq] at h3
        simp only [if_true, Bool.true_and]
        refine Ev.bind (spec_msLorenz_ev lb) ?_
        refine Ev.bind (spec_msLorenz_ev la) ?_
        refine (spec_IsLorenzAbove_l (lorOf a) (lorOf b) (by rw [lorOf_length]; omega) (by rw [lorOf_length, lorOf_length]; omega) 0 (Nat.zero_le _)).eqv ?_
        rw [List.drop_zero, List.drop_zero, lorOf, lorOf, leAll_lorenz (rankD a) (rankD b) (by rw [rankD_length, rankD_length]; exact h3.1) (by rw [rankD_sum, rankD_sum]; exact h3.2)]
        rfl

theorem lor_get (a : List Int) (m : Nat) (h : m ≤ a.length) : (lorOf a).getD m 0 = ((rankD a).reverse.take m).sum := by
  cases m with
  | zero => simp [lorOf]
  | succ j =>
    have hj : j < (psums 0 (rankD a).reverse).length := by rw [psums_length, List.length_reverse, rankD_length]; omega
    have := psums_get 0 (rankD a).reverse j hj
    unfold lorOf
    rw [List.getD_cons_succ, List.getD_eq_getElem?_getD, List.getElem?_eq_getElem hj, Option.getD_some, this, Int.zero_add]
theorem lor_step (a : List Int) (m : Nat) (h : m < (rankD a).reverse.length) : (lorOf a).getD (m + 1) 0 = (lorOf a).getD m 0 + (rankD a).reverse[m] := by
  have hl : m < a.length := by rw [List.length_reverse, rankD_length] at h; exact h
  rw [lor_get a (m + 1) (by omega), lor_get a m (by omega), List.take_succ_eq_append_getElem h, List.sum_append, List.sum_singleton]
theorem lor_lst {a : List Int} (h : Lst a) (m : Nat) (hm : m ≤ a.length) : 0 ≤ (lorOf a).getD m 0 ∧ (lorOf a).getD m 0 ≤ 480 := by
  rw [lor_get a m hm]
  have := sum_bound (l := (rankD a).reverse.take m) (lo := 0) (hi := 60) (fun x hx => (rankD_lst h).2.2 x (List.mem_reverse.1 (List.mem_of_mem_take hx)))
  have hl : ((rankD a).reverse.take m).length ≤ 8 := by rw [List.length_take, List.length_reverse, rankD_length]; have := h.2.1; omega
  omega
theorem rev_asc (a : List Int) (j : Nat) (h : j + 1 < (rankD a).reverse.length) : (rankD a).reverse[j] ≤ (rankD a).reverse[j + 1] := by
  have hl : j + 1 < (rankD a).length := by rw [List.length_reverse] at h; exact h
  rw [List.getElem_reverse, List.getElem_reverse]
  exact desc_le (rankD_desc a) (by omega) (by omega)
theorem lor_all (a : List Int) : (lorOf a).getD a.length 0 = a.sum := by
  rw [lor_get a _ (Nat.le_refl _), List.take_of_length_le (by rw [List.length_reverse, rankD_length]; exact Nat.le_refl _), List.sum_reverse, rankD_sum]
theorem lor_top (a : List Int) (k : Nat) (hk : k ≤ a.length) : ((rankD a).take k).sum = a.sum - (lorOf a).getD (a.length - k) 0 := by
  have e : (rankD a).reverse.take (a.length - k) = ((rankD a).drop k).reverse := by
    rw [List.take_reverse, rankD_length, show a.length - (a.length - k) = k by omega]
  rw [lor_get a _ (by omega), e, List.sum_reverse]
  have := rankD_sum a
  rw [← List.take_append_drop k (rankD a), List.sum_append] at this
  omega
theorem FnShares_j3 {c : List Int} (hc : Bts c) : Ev (fun k => laws_FnShares.j3 k c) true := by
  refine Ev.succ ?_
  simp only [laws_FnShares.j3]
  refine Ex.ev (spec_DrawIsLorenzAbove_x hc) fun r hr => ?_
  obtain ⟨x, y⟩ := r
  have hx : x.length ≤ 1048576 := by have := hr.1; show x.length ≤ _; simp only at this; omega
  have hy : y.length ≤ 1048576 := by have := hr.2; show y.length ≤ _; simp only at this; omega
  simp only
  refine Ev.bind (impl_IsLorenzAbove_ev x y hx hy) ?_
  refine Ev.bind (spec_IsLorenzAbove_ev x y hx hy) ?_
  refine Ev.bind (impl_IsMajorized_ev x y hx hy) ?_
  have e : (if goodB x && goodB y then ((decide (x.length = y.length) && decide (x.sum = y.sum)) && leAll (partOf x) (partOf y), true) else (false, false)) = (if goodB x && goodB y then (majB x y, true) else (false, false)) := by rw [Bool.and_assoc]; rfl
  rw [e]
  simp only [beq_self_eq_true, if_true]
  exact Ev.now _
theorem FnShares_l {c a : List Int} (hc : Bts c) (h : Lst a) : ∀ (d j : Nat), j + d + 1 = a.length → Ev (fun k => laws_FnShares.l0 k c (lorOf a) (a.length : Int) ((j + 2 : Nat) : Int)) true
  | 0, j, hj => by
    have c1 : ¬ ((j + 2 : Nat) : Int) ≤ (a.length : Int) := by omega
    refine Ev.succ ?_
    simp only [laws_FnShares.l0, c1, if_false]
    exact FnShares_j3 hc
  | d + 1, j, hj => by
    have hl := lorOf_length a
    have hr : (rankD a).reverse.length = a.length := by rw [List.length_reverse, rankD_length]
    have s1 : (lorOf a).getD (j + 2) 0 = (lorOf a).getD (j + 1) 0 + (rankD a).reverse[j + 1] := lor_step a (j + 1) (by omega)
    have s0 := lor_step a j (by omega)
    have ha2 := rev_asc a j (by omega)
    have b0 := lor_lst h j (by omega)
    have b1 := lor_lst h (j + 1) (by omega)
    have b2 := lor_lst h (j + 2) (by omega)
    have e1 : wrap64 (((j + 2 : Nat) : Int) - 1) = ((j + 1 : Nat) : Int) := by have := h.2.1; rw [w64 (by omega) (by omega)]; omega
    have e2 : wrap64 (((j + 2 : Nat) : Int) - 2) = (j : Int) := by have := h.2.1; rw [w64 (by omega) (by omega)]; omega
    have c1 : ((j + 2 : Nat) : Int) ≤ (a.length : Int) := by omega
    have c2 : ¬ ((lorOf a).getD (j + 2) 0 - (lorOf a).getD (j + 1) 0 < (lorOf a).getD (j + 1) 0 - (lorOf a).getD j 0) := by omega
    refine Ev.succ ?_
    simp only [laws_FnShares.l0, c1, if_true, e1, e2, inn, ilt (by omega : j + 2 < (lorOf a).length), ilt (by omega : j + 1 < (lorOf a).length), ilt (by omega : j < (lorOf a).length), rd_get, Int.toNat_natCast, w64 (x := (lorOf a).getD (j + 2) 0 - (lorOf a).getD (j + 1) 0) (by omega) (by omega), w64 (x := (lorOf a).getD (j + 1) 0 - (lorOf a).getD j 0) (by omega) (by omega), c2, if_false, wnext (by omega : j + 2 < a.length + 1) (by have := h.2.1; omega)]
    exact FnShares_l hc h d (j + 1) (by omega)
theorem FnShares_j0 {c a : List Int} (hc : Bts c) (h : Lst a) (q : Nat) (h1 : 1 ≤ q) (h2 : q ≤ a.length) (u v : Int) (ok : Bool) (hok : ok = true → u = ((rankD a).take q).sum ∧ v = a.sum) : Ev (fun k => laws_FnShares.j0 k c a (q : Int) u v ok ((lorOf a).getD q 0) true (lorOf a) false) true := by
  have hl := lorOf_length a
  have h8 := h.2.1
  have r0 : rd (lorOf a) 0 = 0 := rfl
  have go : Ev (fun k => laws_FnShares.j1 k c (lorOf a) (a.length : Int) false) true := by
    refine Ev.succ ?_
    simp only [laws_FnShares.j1, Bool.false_eq_true, if_false]
    exact FnShares_l hc h (a.length - 1) 0 (by omega)
  have e0 : wrap64 ((a.length : Int) + 1) = ((lorOf a).length : Int) := by rw [w64 (by omega) (by omega)]; omega
  refine Ev.succ ?_
  simp only [laws_FnShares.j0, Bool.false_eq_true, if_false, if_true, e0, eq_true (by omega : (0 : Int) < ((lorOf a).length : Int)), r0, inn, ilt (by omega : q < (lorOf a).length), rd_get, Int.toNat_natCast]
  cases ok with
  | false => simp only [Bool.false_eq_true, if_false]; exact go
  | true =>
    obtain ⟨rfl, rfl⟩ := hok rfl
    have e1 : wrap64 ((a.length : Int) - (q : Int)) = ((a.length - q : Nat) : Int) := by rw [w64 (by omega) (by omega)]; omega
    have b := lor_lst h (a.length - q) (by omega)
    have s := h.sum
    simp only [if_true, ilt (by omega : a.length < (lorOf a).length), lor_all a, e1, inn, ilt (by omega : a.length - q < (lorOf a).length), rd_get, Int.toNat_natCast, w64 (x := a.sum - (lorOf a).getD (a.length - q) 0) (by omega) (by omega), lor_top a q h2, bne_self_eq_false]
    exact go
theorem FnShares : laws_FnShares.Pure := by
  intro a b hma hsa hwa hmb hsb hwb
  refine Ev.rounds ?_
  have hc := Bts.of hsa hwa
  have hd := Bts.of hsb hwb
  simp only [laws_FnShares.f]
  obtain ⟨t, ht⟩ := laws_big_x a b
  rw [ht]
  simp only [Option.bind_some]
  by_cases h0 : t = true
  · simp only [h0, if_true]; exact Ev.now _
  · simp only [h0, if_false]
    refine Ex.ev (spec_DrawTopShare_x hc) fun r hr => ?_
    obtain ⟨x, n⟩ := r
    have hx : x.length ≤ 1048576 := by have := hr; show x.length ≤ _; simp only at this; omega
    simp only
    refine Ev.bind (impl_TopShare_ev x n hx) ?_
    refine Ev.bind (spec_TopShare_ev x n hx) ?_
    refine Ev.bind (impl_PoorestSum_ev x n hx) ?_
    refine Ev.bind (spec_PoorestSum_ev x n hx) ?_
    refine Ev.bind (impl_LorenzOf_ev x hx) ?_
    simp only [bne_self_eq_false, Bool.false_eq_true, if_false, if_true]
    refine Ev.bind (impl_IsList_ev x (by omega)) ?_
    cases hg : goodB x with
    | false =>
      simp only [Bool.false_and, Bool.false_eq_true, if_false, bne_self_eq_false]
      refine Ev.succ ?_
      simp only [laws_FnShares.j0, Bool.false_eq_true, if_false]
      exact FnShares_j3 hd
    | true =>
      have la := goodB_iff.1 hg
      simp only [Bool.true_and, if_true, bne_self_eq_false]
      cases hw : wth n 1 x.length with
      | false =>
        simp only [Bool.and_false, Bool.false_eq_true, if_false]
        refine Ev.succ ?_
        simp only [laws_FnShares.j0, Bool.false_eq_true, if_false]
        exact FnShares_j3 hd
      | true =>
        have hn := wth_iff.1 hw
        obtain ⟨q, rfl⟩ := Int.eq_ofNat_of_zero_le (by omega : 0 ≤ n)
        simp only [Bool.and_true, if_true, Int.toNat_natCast]
        by_cases hs : x.sum > 0
        · simp only [decide_eq_true hs, if_true]
          exact FnShares_j0 hd la q (by omega) (by omega) _ _ true (fun _ => ⟨rfl, rfl⟩)
        · simp only [decide_eq_false hs, Bool.false_eq_true, if_false]
          exact FnShares_j0 hd la q (by omega) (by omega) _ _ false (fun h => absurd h (by simp))

end Go.Proofs.Ytclnfaclfplpmaa.Pure
