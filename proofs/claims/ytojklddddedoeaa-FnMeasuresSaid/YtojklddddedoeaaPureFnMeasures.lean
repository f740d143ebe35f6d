/- The pairs are told by the ranking, spread by the squares of the pairs, and no measure rises from a list to a more even one; the printed functions' own bounds on lengths are the only conditions. -/
import Derived.Test.YtojklddddedoeaaPFnMeasuresx13
import Derived.Test.YtojklddddedoeaaTFnMeasuresMathL
namespace Go.Proofs.Ytojklddddedoeaa.Pure
open Go.RowKit Go.Proofs.Ytojklddddedoeaa.PFnMeasures Go.Proofs.YtojklddddedoeaaW.PrintWords Go.Proofs.YtojklddddedoeaaW.PrintLast Go.Proofs.YtojklddddedoeaaW.PrintMore Go.Proofs.Ytojklddddedoeaa.Math
set_option linter.unusedVariables false
set_option linter.unusedSimpArgs false
set_option linter.unusedSectionVars false

theorem laws_big_x (a b : List Int) : ∃ t, laws_big.f a b = some t := by
  unfold laws_big.f
  by_cases c : (a.length : Int) > 1048576
  · rw [if_pos c]; exact ⟨_, rfl⟩
  · rw [if_neg c]; exact ⟨_, rfl⟩

theorem impl_within_e (a b c : Int) : impl_within.f a b c = some (wth a b c) := wth_opt a b c

theorem impl_allWithin_l (l : List Int) (lo hi : Int) (hl : l.length ≤ 4611686018427387904) : ∀ i, i ≤ l.length → Ev (fun k => impl_allWithin.l0 k lo hi l (l.length : Int) (i : Int)) (allW (l.drop i) lo hi) := by
  refine down ?_ ?_
  · refine Ev.succ ?_
    simp only [impl_allWithin.l0, nlt (Nat.le_refl l.length), if_false, List.drop_length]
    exact Ev.now _
  · intro i hi ih
    refine Ev.succ ?_
    simp only [impl_allWithin.l0, ilt hi, inn, if_true, impl_within_e, Option.bind_some, rd_lt hi, wnext hi hl]
    rw [drop_cons hi]
    exact Ev.andS fun _ => ih
theorem impl_allWithin_ev (l : List Int) (lo hi : Int) (hl : l.length ≤ 4611686018427387904) : Ev (fun k => impl_allWithin.f k l lo hi) (allW l lo hi) := by
  have := impl_allWithin_l l lo hi hl 0 (Nat.zero_le _)
  simpa only [impl_allWithin.f, List.drop_zero, Int.natCast_zero] using this

theorem impl_IsList_ev (l : List Int) (hl : l.length ≤ 4611686018427387904) : Ev (fun k => impl_IsList.f k l) (goodB l) := by
  simp only [impl_IsList.f, impl_within_e, Option.bind_some, goodB]
  exact Ev.andS fun _ => Ev.ret (f := fun t => t) (impl_allWithin_ev l 0 60 hl)

theorem spec_l1Cur_next_x {c : List Int} (hc : Bts c) (a s b : Int) (ha : At a b) (hb : b ≤ 4611686018427387904) : ∃ r : Int × Int × Int, spec_l1Cur_next.f c a s = some r ∧ 0 ≤ r.1 ∧ r.1 ≤ 255 ∧ At r.2.1 (b + 1) := by
  have h0 := ha.1
  have h1 := ha.2
  have e : wrap64 (a + 1) = a + 1 := w64 (by omega) (by omega)
  have a1 : At (a + 1) (b + 1) := ⟨by omega, by omega⟩
  have u : ∀ z : Int, 0 ≤ wrap64 (Go.bits .and .u64 (IntKind.u64.wrap z / 1099511627776) 255) ∧ wrap64 (Go.bits .and .u64 (IntKind.u64.wrap z / 1099511627776) 255) ≤ 255 := fun z => and255 _ (by rw [wrapU64]; omega) (by rw [wrapU64]; omega)
  unfold spec_l1Cur_next.f
  by_cases c1 : a < (c.length : Int)
  · have r := rd_code hc h0 c1
    simp only [c1, h0, if_true, e]
    by_cases c2 : a + 1 ≤ (c.length : Int)
    · simp only [c2, if_true]
      refine ⟨_, rfl, ?_, ?_, a1⟩
      · show 0 ≤ wrap64 _
        rw [w64 (by omega) (by omega)]; exact r.1
      · show wrap64 _ ≤ 255
        rw [w64 (by omega) (by omega)]; exact r.2
    · simp only [c2, if_false]
      exact ⟨_, rfl, (u _).1, (u _).2, a1⟩
  · simp only [c1, if_false, e]
    by_cases c2 : a + 1 ≤ (c.length : Int)
    · simp only [c2, if_true]
      exact ⟨_, rfl, by show (0 : Int) ≤ 0; omega, by show (0 : Int) ≤ 255; omega, a1⟩
    · simp only [c2, if_false]
      exact ⟨_, rfl, (u _).1, (u _).2, a1⟩

theorem spec_l1Cur_pick_x {c : List Int} (hc : Bts c) (a s b n : Int) (ha : At a b) (hb : b ≤ 1073741824) : Ex (fun _ => spec_l1Cur_pick.f c a s n) (fun r => 0 ≤ r.1 ∧ (1 ≤ n → r.1 < n) ∧ At r.2.1 (b + 2)) := by
  have h0 := ha.1
  have h1 := ha.2
  unfold spec_l1Cur_pick.f
  by_cases c1 : n ≤ 1
  · simp only [c1, if_true]
    exact Ex.now ⟨by show (0 : Int) ≤ 0; omega, fun h => by show (0 : Int) < n; omega, by omega, by show a ≤ b + 2; omega⟩
  · simp only [c1, if_false]
    obtain ⟨r, hr, r0, r1, r2⟩ := spec_l1Cur_next_x hc a s b ha (by omega)
    rw [hr]
    simp only [Option.bind_some]
    have n0 : ¬ n = 0 := by omega
    by_cases c2 : n > 200
    · simp only [c2, if_true]
      obtain ⟨q, hq, q0, q1, q2⟩ := spec_l1Cur_next_x hc r.2.1 r.2.2 (b + 1) r2 (by omega)
      rw [hq]
      simp only [Option.bind_some, n0, if_false]
      have e : wrap64 (wrap64 (r.1 * 256) + q.1) = r.1 * 256 + q.1 := by rw [w64 (x := r.1 * 256) (by omega) (by omega), w64 (by omega) (by omega)]
      rw [e]
      refine Ex.now ⟨Int.tmod_nonneg _ (by omega), fun _ => Int.tmod_lt_of_pos _ (by omega), q2.1, ?_⟩
      have := q2.2
      show q.2.1 ≤ b + 2
      omega
    · simp only [c2, if_false, n0]
      refine Ex.now ⟨Int.tmod_nonneg _ (by omega), fun _ => Int.tmod_lt_of_pos _ (by omega), r2.1, ?_⟩
      have := r2.2
      show r.2.1 ≤ b + 2
      omega

theorem spec_l1Cur_among_x {c : List Int} (hc : Bts c) (a s b : Int) (l : List Int) (hl : 1 ≤ l.length) (ha : At a b) (hb : b ≤ 1073741824) : Ex (fun _ => spec_l1Cur_among.f c a s l) (fun r => r.1 ∈ l ∧ At r.2.1 (b + 2)) := by
  unfold spec_l1Cur_among.f
  refine Ex.bind (spec_l1Cur_pick_x hc a s b _ ha hb) fun r hr => ?_
  have h0 := hr.1
  have h1 := hr.2.1 (by omega)
  simp only [h0, h1, if_true]
  refine Ex.now ⟨?_, hr.2.2⟩
  have hi : r.1.toNat < l.length := by omega
  show rd l r.1 ∈ l
  unfold rd
  rw [List.getD_eq_getElem?_getD, List.getElem?_eq_getElem hi, Option.getD_some]
  exact List.getElem_mem hi

theorem spec_l1Cur_list_l {c : List Int} (hc : Bts c) (m : Int) : ∀ (n : Nat) (x : List Int) (a s b : Int), At a b → b + 2 * n ≤ 1073741824 → x.length + n ≤ 1048576 → Ex (fun k => spec_l1Cur_list.l0 k m x (n : Int) c a s) (fun r => r.1.length = x.length + n ∧ At r.2.1 (b + 2 * n))
  | 0, x, a, s, b, ha, hb, hx => by
    refine Ex.succ ?_
    simp only [spec_l1Cur_list.l0, show ¬ (((0 : Nat) : Int) > 0) by omega, if_false]
    exact Ex.now ⟨rfl, by simpa using ha⟩
  | n + 1, x, a, s, b, ha, hb, hx => by
    refine Ex.succ ?_
    simp only [spec_l1Cur_list.l0, show (((n + 1 : Nat) : Int) > 0) by omega, if_true]
    refine Ex.bind (spec_l1Cur_pick_x hc a s b _ ha (by omega)) fun r hr => ?_
    have hl : x.length < 17592186044416 := by omega
    simp only [hl, if_true, w64 (x := ((n + 1 : Nat) : Int) - 1) (by omega) (by omega)]
    rw [show ((n + 1 : Nat) : Int) - 1 = (n : Int) by omega]
    refine (spec_l1Cur_list_l hc m n (x ++ [r.1]) r.2.1 r.2.2 (b + 2) hr.2.2 (by omega) (by rw [List.length_append, List.length_singleton]; omega)).mono fun q hq => ?_
    rw [List.length_append, List.length_singleton] at hq
    exact ⟨by omega, hq.2.1, by have := hq.2.2; omega⟩
theorem spec_l1Cur_list_x {c : List Int} (hc : Bts c) (a s b m : Int) (ha : At a b) (hb : b ≤ 536870912) : Ex (fun k => spec_l1Cur_list.f k c a s m) (fun r => 1 ≤ r.1.length ∧ r.1.length ≤ 6 ∧ At r.2.1 (b + 14)) := by
  simp only [spec_l1Cur_list.f]
  refine Ex.bind (spec_l1Cur_pick_x hc a s b 6 ha (by omega)) fun r hr => ?_
  have h0 := hr.1
  have h1 := hr.2.1 (by omega)
  obtain ⟨n, hn⟩ := Int.eq_ofNat_of_zero_le h0
  rw [w64 (by omega) (by omega), show 1 + r.1 = ((n + 1 : Nat) : Int) by omega]
  refine (spec_l1Cur_list_l hc m (n + 1) [] r.2.1 r.2.2 (b + 2) hr.2.2 (by omega) (by simp; omega)).mono fun q hq => ?_
  rw [List.length_nil] at hq
  exact ⟨by omega, by omega, hq.2.1, by have := hq.2.2; omega⟩

theorem spec_l1Cur_anyList_l {c : List Int} (hc : Bts c) : ∀ (d : Nat) (x : List Int) (a s b : Int), x.length + d = 10 → At a b → b + 4 * d + 4 ≤ 1073741824 → Ex (fun k => spec_l1Cur_anyList.l0 k x c a s) (fun r => r.1.length ≤ 10 ∧ At r.2.1 (b + 4 * d + 4))
  | 0, x, a, s, b, hx, ha, hb => by
    refine Ex.succ ?_
    simp only [spec_l1Cur_anyList.l0]
    refine Ex.bind (spec_l1Cur_pick_x hc a s b 2 ha (by omega)) fun r hr => ?_
    have h0 := hr.1
    have h1 := hr.2.1 (by omega)
    have c1 : ¬ ((x.length : Int) < wrap64 (8 + r.1)) := by rw [w64 (by omega) (by omega)]; omega
    simp only [c1, if_false]
    exact Ex.now ⟨by show x.length ≤ 10; omega, hr.2.2.1, by have := hr.2.2.2; show r.2.1 ≤ _; omega⟩
  | d + 1, x, a, s, b, hx, ha, hb => by
    refine Ex.succ ?_
    simp only [spec_l1Cur_anyList.l0]
    refine Ex.bind (spec_l1Cur_pick_x hc a s b 2 ha (by omega)) fun r hr => ?_
    by_cases c1 : (x.length : Int) < wrap64 (8 + r.1)
    · simp only [c1, if_true]
      refine Ex.bind (spec_l1Cur_pick_x hc _ _ (b + 2) 9 hr.2.2 (by omega)) fun q hq => ?_
      have hl : x.length < 17592186044416 := by omega
      simp only [hl, if_true]
      refine (spec_l1Cur_anyList_l hc d (x ++ [q.1]) _ _ (b + 2 + 2) (by rw [List.length_append, List.length_singleton]; omega) hq.2.2 (by omega)).mono fun z hz => ?_
      exact ⟨hz.1, hz.2.1, by have := hz.2.2; omega⟩
    · simp only [c1, if_false]
      exact Ex.now ⟨by show x.length ≤ 10; omega, hr.2.2.1, by have := hr.2.2.2; show r.2.1 ≤ _; omega⟩
theorem spec_l1Cur_anyList_x {c : List Int} (hc : Bts c) (a s b m : Int) (ha : At a b) (hb : b ≤ 268435456) : Ex (fun k => spec_l1Cur_anyList.f k c a s m) (fun r => r.1.length ≤ 10 ∧ At r.2.1 (b + 64)) := by
  simp only [spec_l1Cur_anyList.f]
  refine Ex.bind (spec_l1Cur_list_x hc a s b m ha (by omega)) fun r hr => ?_
  refine Ex.bind (spec_l1Cur_pick_x hc _ _ (b + 14) 14 hr.2.2 (by omega)) fun q hq => ?_
  have q2 := hq.2.2.2
  by_cases c1 : q.1 = 0
  · simp only [c1, if_true]
    refine Ex.bind (spec_l1Cur_among_x hc _ _ (b + 14 + 2) _ (by simp) hq.2.2 (by omega)) fun z hz => ?_
    have hl : r.1.length < 17592186044416 := by omega
    simp only [hl, if_true]
    exact Ex.now ⟨by show (r.1 ++ [z.1]).length ≤ 10; rw [List.length_append, List.length_singleton]; omega, hz.2.1, by have := hz.2.2; show z.2.1 ≤ _; omega⟩
  · simp only [c1, if_false]
    by_cases c2 : q.1 = 1
    · simp only [c2, if_true]
      refine (spec_l1Cur_anyList_l hc (10 - r.1.length) r.1 _ _ (b + 14 + 2) (by omega) hq.2.2 (by omega)).mono fun z hz => ?_
      exact ⟨hz.1, hz.2.1, by have := hz.2.2; omega⟩
    · simp only [c2, if_false]
      by_cases c3 : q.1 = 2
      · simp only [c3, if_true]
        exact Ex.now ⟨by show ([] : List Int).length ≤ 10; simp, hq.2.2.1, by show q.2.1 ≤ _; omega⟩
      · simp only [c3, if_false]
        exact Ex.now ⟨by show r.1.length ≤ 10; omega, hq.2.2.1, by show q.2.1 ≤ _; omega⟩

theorem spec_DrawSpreadOf_x {c : List Int} (hc : Bts c) : Ex (fun k => spec_DrawSpreadOf.f k c) (fun r => r.length ≤ 10) := by
  simp only [spec_DrawSpreadOf.f]
  refine Ex.bind (spec_l1Cur_among_x hc 0 0 0 _ (by simp) ⟨by omega, by omega⟩ (by omega)) fun r hr => ?_
  refine Ex.bind (spec_l1Cur_anyList_x hc _ _ (0 + 2) _ hr.2 (by omega)) fun q hq => ?_
  exact Ex.now hq.1

theorem impl_total_l (l : List Int) (hl : l.length ≤ 4611686018427387904) : ∀ i, i ≤ l.length → ∀ acc, InR acc → Ev (fun k => impl_total.l0 k acc l (l.length : Int) (i : Int)) (wrap64 (acc + (l.drop i).sum)) := by
  refine down ?_ ?_
  · intro acc ha
    refine Ev.succ ?_
    simp only [impl_total.l0, nlt (Nat.le_refl l.length), if_false, List.drop_length, List.sum_nil, Int.add_zero, wR ha]
    exact Ev.now _
  · intro i hi ih acc ha
    refine Ev.succ ?_
    simp only [impl_total.l0, ilt hi, inn, if_true, rd_lt hi, wnext hi hl]
    rw [drop_cons hi, List.sum_cons, ← Int.add_assoc]
    exact (ih _ (inR_wrap _)).eqv (wr_add _ _)
theorem impl_total_ev (l : List Int) (hl : l.length ≤ 4611686018427387904) : Ev (fun k => impl_total.f k l) (wrap64 l.sum) := by
  have := impl_total_l l hl 0 (Nat.zero_le _) 0 inR_0
  simpa only [impl_total.f, List.drop_zero, Int.zero_add, Int.natCast_zero] using this
theorem impl_total_good {l : List Int} (h : Lst l) : Ev (fun k => impl_total.f k l) l.sum :=
  (impl_total_ev l (by have := h.2.1; omega)).eqv (w64 (by have := h.sum; omega) (by have := h.sum; omega))

theorem impl_arranged_l (l m : List Int) (hl : l.length ≤ 1048576) (hm : l.length ≤ m.length) : ∀ i, i ≤ l.length → ∀ acc, InR acc → Ev (fun k => impl_arranged.l0 k m acc l (l.length : Int) (i : Int)) (wrap64 (acc + dot (l.drop i) (m.drop i))) := by
  refine down ?_ ?_
  · intro acc ha
    refine Ev.succ ?_
    simp only [impl_arranged.l0, nlt (Nat.le_refl l.length), if_false, List.drop_length, dot_nil, Int.add_zero, wR ha]
    exact Ev.now _
  · intro i hi ih acc ha
    have h2 : i < m.length := by omega
    refine Ev.succ ?_
    simp only [impl_arranged.l0, ilt hi, ilt h2, inn, if_true, rd_lt hi, rd_lt h2, wnext hi (by omega : l.length ≤ 4611686018427387904)]
    rw [drop_cons hi, drop_cons h2, dot_cons, ← Int.add_assoc]
    refine (ih _ (inR_wrap _)).eqv ?_
    rw [wr_add, Int.add_right_comm, wr_add', Int.add_right_comm]
theorem impl_arranged_ev (l m : List Int) (hl : l.length ≤ 1048576) (hm : l.length ≤ m.length) : Ev (fun k => impl_arranged.f k l m) (wrap64 (dot l m)) := by
  have := impl_arranged_l l m hl hm 0 (Nat.zero_le _) 0 inR_0
  simpa only [impl_arranged.f, List.drop_zero, Int.zero_add, Int.natCast_zero] using this

theorem impl_squares_ev (l : List Int) (hl : l.length ≤ 1048576) : Ev (fun k => impl_squares.f k l) (wrap64 (dot l l)) := by
  simp only [impl_squares.f]
  exact Ev.ret (f := fun t => t) (impl_arranged_ev l l hl (Nat.le_refl _))

theorem impl_spread_ev {l : List Int} (h : Lst l) : Ev (fun k => impl_spread.f k l) (spreadOf l) := by
  simp only [impl_spread.f]
  refine Ev.bind (impl_squares_ev l (by have := h.2.1; omega)) ?_
  refine Ev.bind (impl_total_good h) ?_
  exact Ev.ret (f := fun t => wrap64 (wrap64 ((l.length : Int) * wrap64 (dot l l)) - wrap64 (l.sum * t))) (impl_total_good h)

theorem impl_SpreadOf_ev (l : List Int) (hl : l.length ≤ 1048576) : Ev (fun k => impl_SpreadOf.f k l) (if goodB l then (spreadOf l, true) else (0, false)) := by
  simp only [impl_SpreadOf.f]
  refine Ev.bind (impl_IsList_ev l (by omega)) ?_
  cases h : goodB l with
  | false => simp only [Bool.false_eq_true, if_false]; exact Ev.now _
  | true =>
    simp only [if_true]
    exact Ev.ret (f := fun t => (t, true)) (impl_spread_ev (goodB_iff.1 h))

theorem spec_l1In_e (a b c : Int) : spec_l1In.f a b c = some (wth a b c) := wth_opt a b c

theorem spec_l1All_l (l : List Int) (lo hi : Int) (hl : l.length ≤ 4611686018427387904) : ∀ i, i ≤ l.length → Ev (fun k => spec_l1All.l0 k lo hi l (l.length : Int) (i : Int)) (allW (l.drop i) lo hi) := by
  refine down ?_ ?_
  · refine Ev.succ ?_
    simp only [spec_l1All.l0, nlt (Nat.le_refl l.length), if_false, List.drop_length]
    exact Ev.now _
  · intro i hi ih
    refine Ev.succ ?_
    simp only [spec_l1All.l0, ilt hi, inn, if_true, spec_l1In_e, Option.bind_some, rd_lt hi, wnext hi hl]
    rw [drop_cons hi]
    exact Ev.andS fun _ => ih
theorem spec_l1All_ev (l : List Int) (lo hi : Int) (hl : l.length ≤ 4611686018427387904) : Ev (fun k => spec_l1All.f k l lo hi) (allW l lo hi) := by
  have := spec_l1All_l l lo hi hl 0 (Nat.zero_le _)
  simpa only [spec_l1All.f, List.drop_zero, Int.natCast_zero] using this

theorem spec_liGood_ev (l : List Int) (hl : l.length ≤ 4611686018427387904) : Ev (fun k => spec_liGood.f k l) (goodB l) := by
  simp only [spec_liGood.f, spec_l1In_e, Option.bind_some, goodB]
  exact Ev.andS fun _ => Ev.ret (f := fun t => t) (spec_l1All_ev l 0 60 hl)

theorem spec_liSum_l (l : List Int) (hl : l.length ≤ 4611686018427387904) : ∀ i, i ≤ l.length → ∀ acc, InR acc → Ev (fun k => spec_liSum.l0 k acc l (l.length : Int) (i : Int)) (wrap64 (acc + (l.drop i).sum)) := by
  refine down ?_ ?_
  · intro acc ha
    refine Ev.succ ?_
    simp only [spec_liSum.l0, nlt (Nat.le_refl l.length), if_false, List.drop_length, List.sum_nil, Int.add_zero, wR ha]
    exact Ev.now _
  · intro i hi ih acc ha
    refine Ev.succ ?_
    simp only [spec_liSum.l0, ilt hi, inn, if_true, rd_lt hi, wnext hi hl]
    rw [drop_cons hi, List.sum_cons, ← Int.add_assoc]
    exact (ih _ (inR_wrap _)).eqv (wr_add _ _)
theorem spec_liSum_ev (l : List Int) (hl : l.length ≤ 4611686018427387904) : Ev (fun k => spec_liSum.f k l) (wrap64 l.sum) := by
  have := spec_liSum_l l hl 0 (Nat.zero_le _) 0 inR_0
  simpa only [spec_liSum.f, List.drop_zero, Int.zero_add, Int.natCast_zero] using this
theorem spec_liSum_good {l : List Int} (h : Lst l) : Ev (fun k => spec_liSum.f k l) l.sum :=
  (spec_liSum_ev l (by have := h.2.1; omega)).eqv (w64 (by have := h.sum; omega) (by have := h.sum; omega))

theorem spec_msSquares_l (l : List Int) (hl : l.length ≤ 1048576) : ∀ i, i ≤ l.length → ∀ acc, InR acc → Ev (fun k => spec_msSquares.l0 k acc l (l.length : Int) (i : Int)) (wrap64 (acc + dot (l.drop i) (l.drop i))) := by
  refine down ?_ ?_
  · intro acc ha
    refine Ev.succ ?_
    simp only [spec_msSquares.l0, nlt (Nat.le_refl l.length), if_false, List.drop_length, dot_nil, Int.add_zero, wR ha]
    exact Ev.now _
  · intro i hi ih acc ha
    refine Ev.succ ?_
    simp only [spec_msSquares.l0, ilt hi, inn, if_true, rd_lt hi, wnext hi (by omega : l.length ≤ 4611686018427387904)]
    rw [drop_cons hi, dot_cons, ← Int.add_assoc]
    refine (ih _ (inR_wrap _)).eqv ?_
    rw [wr_add, Int.add_right_comm, wr_add', Int.add_right_comm]
theorem spec_msSquares_ev (l : List Int) (hl : l.length ≤ 1048576) : Ev (fun k => spec_msSquares.f k l) (wrap64 (dot l l)) := by
  have := spec_msSquares_l l hl 0 (Nat.zero_le _) 0 inR_0
  simpa only [spec_msSquares.f, List.drop_zero, Int.zero_add, Int.natCast_zero] using this

theorem spec_msSpread_ev {l : List Int} (h : Lst l) : Ev (fun k => spec_msSpread.f k l) (spreadOf l) := by
  simp only [spec_msSpread.f]
  refine Ev.bind (spec_msSquares_ev l (by have := h.2.1; omega)) ?_
  refine Ev.bind (spec_liSum_good h) ?_
  exact Ev.ret (f := fun t => wrap64 (wrap64 ((l.length : Int) * wrap64 (dot l l)) - wrap64 (l.sum * t))) (spec_liSum_good h)

theorem spec_SpreadOf_ev (l : List Int) (hl : l.length ≤ 1048576) : Ev (fun k => spec_SpreadOf.f k l) (if goodB l then (spreadOf l, true) else (0, false)) := by
  simp only [spec_SpreadOf.f]
  refine Ev.bind (spec_liGood_ev l (by omega)) ?_
  cases h : goodB l with
  | false => simp only [Bool.false_eq_true, if_false]; exact Ev.now _
  | true =>
    simp only [if_true]
    exact Ev.ret (f := fun t => (t, true)) (spec_msSpread_ev (goodB_iff.1 h))

theorem impl_pairs_l1 (l : List Int) (hl : l.length ≤ 1048576) (hb : ∀ x ∈ l, 0 ≤ x ∧ x ≤ 60) (x : Int) (hx : 0 ≤ x ∧ x ≤ 60) (o : Nat) (r : Int) (m : List Int) (hm : ∀ y ∈ m, 0 ≤ y ∧ y ≤ 60) (hml : m.length ≤ 1048576)
    (hk : ∀ acc, InR acc → Ev (fun k => impl_pairs.l0 k l acc l (l.length : Int) (wrap64 ((o : Int) + 1))) (wrap64 (acc + r))) :
    ∀ i, i ≤ m.length → ∀ acc, InR acc → Ev (fun k => impl_pairs.l1 k l acc x l (l.length : Int) (o : Int) m (m.length : Int) (i : Int)) (wrap64 (acc + ((m.drop i).map (absd x)).sum + r)) := by
  refine down ?_ ?_
  · intro acc ha
    refine Ev.succ ?_
    simp only [impl_pairs.l1, nlt (Nat.le_refl m.length), if_false, List.drop_length, List.map_nil, List.sum_nil, Int.add_zero]
    exact hk acc ha
  · intro i hi ih acc ha
    have b := hm _ (List.getElem_mem hi)
    refine Ev.succ ?_
    simp only [impl_pairs.l1, ilt hi, inn, if_true, rd_lt hi, wnext hi (by omega : m.length ≤ 4611686018427387904), mx_eq]
    rw [drop_cons hi, List.map_cons, List.sum_cons, ← Int.add_assoc]
    refine (ih _ (inR_wrap _)).eqv ?_
    rw [Int.add_assoc, wr_add]
    unfold absd
    congr 1
    rw [w64 (x := x - m[i]) (by omega) (by omega), w64 (x := m[i] - x) (by omega) (by omega)]
    omega
theorem impl_pairs_l0 (l : List Int) (hl : l.length ≤ 1048576) (hb : ∀ x ∈ l, 0 ≤ x ∧ x ≤ 60) : ∀ i, i ≤ l.length → ∀ acc, InR acc → Ev (fun k => impl_pairs.l0 k l acc l (l.length : Int) (i : Int)) (wrap64 (acc + pairsFrom l i)) := by
  refine down ?_ ?_
  · intro acc ha
    refine Ev.succ ?_
    simp only [impl_pairs.l0, nlt (Nat.le_refl l.length), if_false, pairsFrom, List.drop_length, Nat.sub_self, pairsGo, Int.add_zero, wR ha]
    exact Ev.now _
  · intro i hi ih acc ha
    refine Ev.succ ?_
    simp only [impl_pairs.l0, ilt hi, inn, if_true, rd_lt hi, ile (Nat.le_of_lt hi), Int.toNat_natCast]
    refine (impl_pairs_l1 l hl hb l[i] (hb _ (List.getElem_mem hi)) i (pairsFrom l (i + 1)) (l.take i) (fun y hy => hb y (List.mem_of_mem_take hy)) (by simp; omega) (fun acc ha => ?_) 0 (Nat.zero_le _) acc ha).eqv ?_
    · rw [wnext hi (by omega)]
      exact ih acc ha
    · rw [List.drop_zero, pairsFrom_step hi, Int.add_assoc]
theorem impl_pairs_ev (l : List Int) (h : Lst l) : Ev (fun k => impl_pairs.f k l) (pairsSum l) := by
  have := impl_pairs_l0 l (by have := h.2.1; omega) h.2.2 0 (Nat.zero_le _) 0 inR_0
  rw [Int.zero_add] at this
  have hb := pairsSum_bound h
  simp only [impl_pairs.f]
  exact this.eqv (w64 (by have := hb.1; unfold pairsSum at this; omega) (by have := hb.2; unfold pairsSum at this; omega))

theorem impl_PairsOf_ev (l : List Int) (hl : l.length ≤ 1048576) : Ev (fun k => impl_PairsOf.f k l) (if goodB l then (pairsSum l, true) else (0, false)) := by
  simp only [impl_PairsOf.f]
  refine Ev.bind (impl_IsList_ev l (by omega)) ?_
  cases h : goodB l with
  | false => simp only [Bool.false_eq_true, if_false]; exact Ev.now _
  | true =>
    simp only [if_true]
    exact Ev.ret (f := fun t => (t, true)) (impl_pairs_ev l (goodB_iff.1 h))

theorem spec_l1Most_e (a b : Int) : spec_l1Most.f a b = some (max a b) := by
  unfold spec_l1Most.f
  by_cases h : a > b
  · rw [if_pos h]; congr 1; omega
  · rw [if_neg h]; congr 1; omega

theorem spec_l1Abs_e (a : Int) : spec_l1Abs.f a = some (max a (wrap64 (-a))) := by
  simp only [spec_l1Abs.f, spec_l1Most_e, Option.bind_some]

theorem spec_msPairs_l1 (l : List Int) (hl : l.length ≤ 1048576) (hb : ∀ x ∈ l, 0 ≤ x ∧ x ≤ 60) (x : Int) (hx : 0 ≤ x ∧ x ≤ 60) (o : Nat) (r : Int) (m : List Int) (hm : ∀ y ∈ m, 0 ≤ y ∧ y ≤ 60) (hml : m.length ≤ 1048576)
    (hk : ∀ acc, InR acc → Ev (fun k => spec_msPairs.l0 k l acc l (l.length : Int) (wrap64 ((o : Int) + 1))) (wrap64 (acc + r))) :
    ∀ i, i ≤ m.length → ∀ acc, InR acc → Ev (fun k => spec_msPairs.l1 k l acc x l (l.length : Int) (o : Int) m (m.length : Int) (i : Int)) (wrap64 (acc + ((m.drop i).map (absd x)).sum + r)) := by
  refine down ?_ ?_
  · intro acc ha
    refine Ev.succ ?_
    simp only [spec_msPairs.l1, nlt (Nat.le_refl m.length), if_false, List.drop_length, List.map_nil, List.sum_nil, Int.add_zero]
    exact hk acc ha
  · intro i hi ih acc ha
    have b := hm _ (List.getElem_mem hi)
    refine Ev.succ ?_
    simp only [spec_msPairs.l1, ilt hi, inn, if_true, rd_lt hi, wnext hi (by omega : m.length ≤ 4611686018427387904), spec_l1Abs_e, Option.bind_some]
    rw [drop_cons hi, List.map_cons, List.sum_cons, ← Int.add_assoc]
    refine (ih _ (inR_wrap _)).eqv ?_
    rw [Int.add_assoc, wr_add]
    unfold absd
    congr 1
    rw [w64 (x := x - m[i]) (by omega) (by omega), w64 (x := -(x - m[i])) (by omega) (by omega)]
    omega
theorem spec_msPairs_l0 (l : List Int) (hl : l.length ≤ 1048576) (hb : ∀ x ∈ l, 0 ≤ x ∧ x ≤ 60) : ∀ i, i ≤ l.length → ∀ acc, InR acc → Ev (fun k => spec_msPairs.l0 k l acc l (l.length : Int) (i : Int)) (wrap64 (acc + pairsFrom l i)) := by
  refine down ?_ ?_
  · intro acc ha
    refine Ev.succ ?_
    simp only [spec_msPairs.l0, nlt (Nat.le_refl l.length), if_false, pairsFrom, List.drop_length, Nat.sub_self, pairsGo, Int.add_zero, wR ha]
    exact Ev.now _
  · intro i hi ih acc ha
    refine Ev.succ ?_
    simp only [spec_msPairs.l0, ilt hi, inn, if_true, rd_lt hi, ile (Nat.le_of_lt hi), Int.toNat_natCast]
    refine (spec_msPairs_l1 l hl hb l[i] (hb _ (List.getElem_mem hi)) i (pairsFrom l (i + 1)) (l.take i) (fun y hy => hb y (List.mem_of_mem_take hy)) (by simp; omega) (fun acc ha => ?_) 0 (Nat.zero_le _) acc ha).eqv ?_
    · rw [wnext hi (by omega)]
      exact ih acc ha
    · rw [List.drop_zero, pairsFrom_step hi, Int.add_assoc]
theorem spec_msPairs_ev (l : List Int) (h : Lst l) : Ev (fun k => spec_msPairs.f k l) (pairsSum l) := by
  have := spec_msPairs_l0 l (by have := h.2.1; omega) h.2.2 0 (Nat.zero_le _) 0 inR_0
  rw [Int.zero_add] at this
  have hb := pairsSum_bound h
  simp only [spec_msPairs.f]
  exact this.eqv (w64 (by have := hb.1; unfold pairsSum at this; omega) (by have := hb.2; unfold pairsSum at this; omega))

theorem spec_PairsOf_ev (l : List Int) (hl : l.length ≤ 1048576) : Ev (fun k => spec_PairsOf.f k l) (if goodB l then (pairsSum l, true) else (0, false)) := by
  simp only [spec_PairsOf.f]
  refine Ev.bind (spec_liGood_ev l (by omega)) ?_
  cases h : goodB l with
  | false => simp only [Bool.false_eq_true, if_false]; exact Ev.now _
  | true =>
    simp only [if_true]
    exact Ev.ret (f := fun t => (t, true)) (spec_msPairs_ev l (goodB_iff.1 h))

theorem slices_Max_int_int_l (l : List Int) (hl : l.length ≤ 1048576) : ∀ i, i ≤ l.length → ∀ a : Int, Ev (fun k => slices_Max_int_int.l0 k l a (i : Int)) ((l.drop i).foldl max a) := by
  refine down ?_ ?_
  · intro a
    refine Ev.succ ?_
    simp only [slices_Max_int_int.l0, nlt (Nat.le_refl l.length), if_false, List.drop_length, List.foldl_nil]
    exact Ev.now _
  · intro i hi ih a
    refine Ev.succ ?_
    simp only [slices_Max_int_int.l0, ilt hi, inn, if_true, rd_lt hi, mx_eq, wnext hi (by omega : l.length ≤ 4611686018427387904)]
    rw [drop_cons hi, List.foldl_cons]
    exact ih _
theorem slices_Max_int_int_ev (l : List Int) (h0 : 0 < l.length) (hl : l.length ≤ 1048576) : Ev (fun k => slices_Max_int_int.f k l) (mostOf l) := by
  simp only [slices_Max_int_int.f, eq_false (by omega : ¬ (l.length : Int) < 1), eq_true (by omega : 0 < (l.length : Int)), if_false, if_true]
  have := slices_Max_int_int_l l hl 1 (by omega) (l.getD 0 0)
  rw [show rd l 0 = l.getD 0 0 from rd_get l 0]
  exact this

theorem slices_Min_int_int_l (l : List Int) (hl : l.length ≤ 1048576) : ∀ i, i ≤ l.length → ∀ a : Int, Ev (fun k => slices_Min_int_int.l0 k l a (i : Int)) ((l.drop i).foldl min a) := by
  refine down ?_ ?_
  · intro a
    refine Ev.succ ?_
    simp only [slices_Min_int_int.l0, nlt (Nat.le_refl l.length), if_false, List.drop_length, List.foldl_nil]
    exact Ev.now _
  · intro i hi ih a
    refine Ev.succ ?_
    simp only [slices_Min_int_int.l0, ilt hi, inn, if_true, rd_lt hi, mn_eq, wnext hi (by omega : l.length ≤ 4611686018427387904)]
    rw [drop_cons hi, List.foldl_cons]
    exact ih _
theorem slices_Min_int_int_ev (l : List Int) (h0 : 0 < l.length) (hl : l.length ≤ 1048576) : Ev (fun k => slices_Min_int_int.f k l) (lowOf l) := by
  simp only [slices_Min_int_int.f, eq_false (by omega : ¬ (l.length : Int) < 1), eq_true (by omega : 0 < (l.length : Int)), if_false, if_true]
  have := slices_Min_int_int_l l hl 1 (by omega) (l.getD 0 0)
  rw [show rd l 0 = l.getD 0 0 from rd_get l 0]
  exact this

theorem impl_RangeOf_ev (l : List Int) (hl : l.length ≤ 1048576) : Ev (fun k => impl_RangeOf.f k l) (if goodB l then (mostOf l - lowOf l, true) else (0, false)) := by
  simp only [impl_RangeOf.f]
  refine Ev.bind (impl_IsList_ev l (by omega)) ?_
  cases h : goodB l with
  | false => simp only [Bool.false_eq_true, if_false]; exact Ev.now _
  | true =>
    have h' := goodB_iff.1 h
    have h1 := h'.1
    have a := h'.2.2 _ (mostOf_mem (by omega : 0 < l.length))
    have b := h'.2.2 _ (lowOf_mem (by omega : 0 < l.length))
    simp only [if_true]
    refine Ev.bind (slices_Max_int_int_ev l (by omega) (by omega)) ?_; refine Ev.bind (slices_Min_int_int_ev l (by omega) (by omega)) ?_; simp only [w64 (by omega : -9223372036854775808 ≤ mostOf l - lowOf l) (by omega)]; exact Ev.now _

theorem slices_Clone_int_int_e (l : List Int) (hl : l.length < 17592186044416) : slices_Clone_int_int.f l = some l := by
  simp only [slices_Clone_int_int.f, Option.bind_some, List.nil_append, List.length_nil, Nat.zero_add, hl, if_true]

theorem impl_ranking_1_e (x y : Int) : impl_ranking_1.f x y = some (wrap64 (y - x)) := rfl

def Bnd (l : List Int) : Prop := ∀ x ∈ l, -1000000 ≤ x ∧ x ≤ 1000000
theorem slices_insertionSortCmpFunc_int_l1 (x : Int) (hx : -1000000 ≤ x ∧ x ≤ 1000000) (R : List Int) (n i : Nat) (v : List Int) : ∀ (m : Nat) (P Q : List Int), P.length = m → m ≤ 1048576 → Bnd P → Desc (P ++ Q) → (∀ y ∈ Q, y < x) →
    Ev (fun k => slices_insertionSortCmpFunc_int.l0 k (insD x (P ++ Q) ++ R) 0 (n : Int) (wrap64 ((i : Int) + 1))) v → Ev (fun k => slices_insertionSortCmpFunc_int.l1 k (P ++ x :: (Q ++ R)) 0 (n : Int) (i : Int) (m : Int)) v
  | 0, P, Q, hP, _, _, _, hQ, hv => by
    have e : P = [] := List.eq_nil_of_length_eq_zero hP
    subst e
    refine Ev.succ ?_
    have c : ¬ ((0 : Nat) : Int) > 0 := by omega
    rw [insD_split x [] Q (fun y hy => absurd hy List.not_mem_nil) hQ] at hv
    simp only [slices_insertionSortCmpFunc_int.l1, c, if_false]
    exact hv
  | m + 1, P, Q, hP, hm, hb, hd, hQ, hv => by
    have hne : P ≠ [] := fun e => by rw [e] at hP; simp at hP
    have ep : P = P.dropLast ++ [P.getLast hne] := (List.dropLast_concat_getLast hne).symm
    generalize hP' : P.dropLast = P' at ep
    generalize hp : P.getLast hne = p at ep
    have hpb := hb p (by rw [ep]; simp)
    clear hP' hp
    subst ep
    have hl : P'.length = m := by rw [List.length_append, List.length_singleton] at hP; omega
    refine Ev.succ ?_
    have c : ((m + 1 : Nat) : Int) > 0 := by omega
    have c1 : m < ((P' ++ [p]) ++ x :: (Q ++ R)).length := by rw [List.length_append, hP, List.length_cons]; omega
    have c2 : m + 1 < ((P' ++ [p]) ++ x :: (Q ++ R)).length := by rw [List.length_append, hP, List.length_cons]; omega
    have r1 : rd ((P' ++ [p]) ++ x :: (Q ++ R)) ((m + 1 : Nat) : Int) = x := rd_mid _ _ _ _ hP
    have r2 : rd ((P' ++ [p]) ++ x :: (Q ++ R)) (m : Int) = p := by rw [List.append_assoc]; exact rd_mid _ _ _ _ hl
    simp only [slices_insertionSortCmpFunc_int.l1, eq_true c, inn, ilt c1, ilt c2, if_true, wprev (by omega : m ≤ 4611686018427387904), r1, r2, impl_ranking_1_e, Option.bind_some, Int.toNat_natCast, w64 (x := p - x) (by omega) (by omega)]
    by_cases d : p - x < 0
    · simp only [eq_true d, if_true]
      have e1 : ((((P' ++ [p]) ++ x :: (Q ++ R)).set (m + 1) p).set m x) = P' ++ x :: ((p :: Q) ++ R) := by
        rw [set_mid _ _ _ _ _ hP, List.append_assoc, List.singleton_append, set_mid _ _ _ _ _ hl, List.cons_append]
      rw [e1]
      refine slices_insertionSortCmpFunc_int_l1 x hx R n i v m P' (p :: Q) hl (by omega) (fun y hy => hb y (List.mem_append_left _ hy)) (by rw [List.append_assoc, List.singleton_append] at hd; exact hd) (fun y hy => ?_) ?_
      · rcases List.mem_cons.1 hy with e | e
        · omega
        · exact hQ y e
      · rw [List.append_assoc, List.singleton_append] at hv
        exact hv
    · simp only [eq_false d, if_false]
      rw [insD_split x (P' ++ [p]) Q (fun y hy => ?_) hQ, List.append_assoc, List.cons_append] at hv
      · exact hv
      · rcases List.mem_append.1 hy with e | e
        · have := desc_split ((List.pairwise_append.1 hd).1) e (List.mem_singleton.2 rfl); omega
        · have := List.mem_singleton.1 e; omega
theorem slices_insertionSortCmpFunc_int_l0 (l : List Int) (hl : l.length ≤ 1048576) (hb : Bnd l) : ∀ i, i ≤ l.length → ∀ S : List Int, S.length = i → Bnd S → Desc S →
    Ev (fun k => slices_insertionSortCmpFunc_int.l0 k (S ++ l.drop i) 0 (l.length : Int) (i : Int)) (rankFrom S (l.drop i)) := by
  refine down ?_ ?_
  · intro S hS hB hD
    refine Ev.succ ?_
    simp only [slices_insertionSortCmpFunc_int.l0, nlt (Nat.le_refl l.length), if_false, List.drop_length, List.append_nil]
    exact Ev.now _
  · intro i hi ih S hS hB hD
    have hx := hb _ (List.getElem_mem hi)
    refine Ev.succ ?_
    simp only [slices_insertionSortCmpFunc_int.l0, ilt hi, if_true]
    rw [drop_cons hi]
    refine slices_insertionSortCmpFunc_int_l1 l[i] hx (l.drop (i + 1)) l.length i _ i S [] hS (by omega) hB (by rw [List.append_nil]; exact hD) (fun y hy => absurd hy List.not_mem_nil) ?_
    rw [List.append_nil, wnext hi (by omega)]
    refine ih (insD l[i] S) (by rw [insD_length, hS]) (fun y hy => ?_) (insD_desc _ _ hD)
    rcases List.mem_cons.1 ((insD_perm l[i] S).mem_iff.1 hy) with e | e
    · rw [e]; exact hx
    · exact hB y e
theorem slices_insertionSortCmpFunc_int_ev (l : List Int) (h0 : 0 < l.length) (hl : l.length ≤ 1048576) (hb : Bnd l) (a : Int) : Ev (fun k => slices_insertionSortCmpFunc_int.f k l 0 (l.length : Int) a) (rankD l) := by
  cases l with
  | nil => exact absurd h0 (by simp)
  | cons x t =>
    have := slices_insertionSortCmpFunc_int_l0 (x :: t) hl hb 1 (by rw [List.length_cons]; omega) [x] rfl (fun y hy => hb y (by rw [List.mem_singleton.1 hy]; exact List.mem_cons_self ..)) (List.pairwise_singleton _ _)
    have e : wrap64 (0 + 1) = ((1 : Nat) : Int) := by rw [w64 (by omega) (by omega)]; rfl
    simp only [slices_insertionSortCmpFunc_int.f, e]
    exact this

theorem slices_pdqsortCmpFunc_int_ev (l : List Int) (h0 : 0 < l.length) (hl : l.length ≤ 12) (hb : Bnd l) (a b : Int) : Ev (fun k => slices_pdqsortCmpFunc_int.f k l 0 (l.length : Int) a b) (rankD l) := by
  refine Ev.succ ?_
  simp only [slices_pdqsortCmpFunc_int.f]
  refine Ev.succ ?_
  simp only [slices_pdqsortCmpFunc_int.l0, Int.sub_zero, w64 (by omega : -9223372036854775808 ≤ (l.length : Int)) (by omega), eq_true (by omega : (l.length : Int) ≤ 12), if_true]
  exact Ev.ret (f := fun t => t) (slices_insertionSortCmpFunc_int_ev l h0 (by omega) hb b)

theorem bits_Len_e (n : Nat) (h : n ≤ 8) : ∃ r, bits_Len.f (IntKind.u64.wrap (n : Int)) = some r := by
  unfold bits_Len.f
  rw [IntKind.wrap_u64, if_pos (by omega)]
  exact ⟨_, rfl⟩

theorem slices_SortFunc_int_int_ev (l : List Int) (h0 : 0 < l.length) (hl : l.length ≤ 8) (hb : Bnd l) (a : Int) : Ev (fun k => slices_SortFunc_int_int.f k l a) (rankD l) := by
  obtain ⟨q, hq⟩ := bits_Len_e l.length hl
  simp only [slices_SortFunc_int_int.f, hq, Option.bind_some]
  exact Ev.ret (f := fun t => t) (slices_pdqsortCmpFunc_int_ev l h0 (by omega) hb q a)

theorem impl_ranking_ev {l : List Int} (h : Lst l) : Ev (fun k => impl_ranking.f k l) (rankD l) := by
  have h1 := h.1
  have h2 := h.2.1
  simp only [impl_ranking.f, slices_Clone_int_int_e l (by omega), Option.bind_some]
  exact Ev.ret (f := fun t => t) (slices_SortFunc_int_int_ev l (by omega) h2 (fun x hx => by have := h.2.2 x hx; omega) 0)

theorem impl_TwiceMedian_ev (l : List Int) (hl : l.length ≤ 1048576) : Ev (fun k => impl_TwiceMedian.f k l) (if goodB l then (wrap64 ((rankD l).getD (l.length / 2) 0 + (rankD l).getD ((l.length - 1) / 2) 0), true) else (0, false)) := by
  simp only [impl_TwiceMedian.f]
  refine Ev.bind (impl_IsList_ev l (by omega)) ?_
  cases h : goodB l with
  | false => simp only [Bool.false_eq_true, if_false]; exact Ev.now _
  | true =>
    have h' := goodB_iff.1 h
    have h1 := h'.1
    have h2 := h'.2.1
    simp only [if_true]
    refine Ev.bind (impl_ranking_ev h') ?_
    have e0 : wrap64 ((l.length : Int) / 2) = ((l.length / 2 : Nat) : Int) := by rw [w64 (by omega) (by omega)]; omega
    have e1 : wrap64 (Int.tdiv (wrap64 ((l.length : Int) - 1)) 2) = (((l.length - 1) / 2 : Nat) : Int) := by
      rw [w64 (x := (l.length : Int) - 1) (by omega) (by omega), show (l.length : Int) - 1 = ((l.length - 1 : Nat) : Int) by omega, show (2 : Int) = ((2 : Nat) : Int) from rfl, ← Int.ofNat_tdiv, w64 (by omega) (by omega)]
    have e0' : wrap64 (Int.tdiv (l.length : Int) 2) = ((l.length / 2 : Nat) : Int) := by
      rw [show (2 : Int) = ((2 : Nat) : Int) from rfl, ← Int.ofNat_tdiv, w64 (by omega) (by omega)]
    simp only [rankD_length, e0, e0', e1, inn, ilt (by omega : l.length / 2 < l.length), ilt (by omega : (l.length - 1) / 2 < l.length), if_true, rd_get]
    rw [Int.add_comm]; exact Ev.now _

theorem spec_l1Own_e (l : List Int) (hl : l.length < 17592186044416) : spec_l1Own.f l = some l := by
  simp only [spec_l1Own.f, Option.bind_some, List.nil_append, List.length_nil, Nat.zero_add, hl, if_true]

theorem spec_liRank_l1 (l : List Int) (x : Int) (i : Nat) (r : List Int) (hr : r.length ≤ 1048576) (hl : l.length ≤ 1048576) (hi : i < l.length) (v : List Int)
    (ih : Ev (fun k => spec_liRank.l0 k (insD x r) l (l.length : Int) ((i + 1 : Nat) : Int)) v) : ∀ p, p ≤ r.length → insD x r = r.take p ++ insD x (r.drop p) → Ev (fun k => spec_liRank.l1 k r x (p : Int) l (l.length : Int) (i : Int)) v := by
  refine down ?_ ?_
  · intro e
    rw [List.take_length, List.drop_length] at e
    refine Ev.succ ?_
    have e2 : (r ++ [x]).length < 17592186044416 := by rw [List.length_append, List.length_singleton]; omega
    have e3 : r.length + 1 < 17592186044416 := by omega
    simp only [spec_liRank.l1, nlt (Nat.le_refl r.length), if_false, inn, ile (Nat.le_refl r.length), if_true, Int.toNat_natCast, List.take_length, List.drop_length, spec_l1Own_e r (by omega), Option.bind_some, List.length_singleton, List.length_append, List.length_nil, Nat.add_zero, e3, List.append_nil, wnext hi (by omega : l.length ≤ 4611686018427387904)]
    have e' : insD x r = r ++ [x] := e
    rw [← e']; exact ih
  · intro p hp ihp e
    refine Ev.succ ?_
    have e1 : r.drop p = r[p] :: r.drop (p + 1) := drop_cons hp
    by_cases c : r[p] ≥ x
    · simp only [spec_liRank.l1, ilt hp, inn, if_true, rd_lt hp, c, wnext hp (by omega : r.length ≤ 4611686018427387904)]
      refine ihp ?_
      rw [e, e1]
      simp only [insD, c, if_true]
      rw [List.take_succ_eq_append_getElem hp, List.append_assoc, List.singleton_append]
    · have h1 : (r.take p).length = p := by rw [List.length_take]; omega
      have h2 : (r.drop p).length = r.length - p := List.length_drop
      have e2 : p + 1 < 17592186044416 := by omega
      have e3 : p + 1 + (r.length - p) < 17592186044416 := by omega
      simp only [spec_liRank.l1, ilt hp, ile (Nat.le_of_lt hp), inn, if_true, rd_lt hp, c, if_false, Int.toNat_natCast, spec_l1Own_e (r.take p) (by omega), Option.bind_some, List.length_singleton, List.length_append, h1, h2, e2, e3, wnext hi (by omega : l.length ≤ 4611686018427387904)]
      have e' : insD x r = r.take p ++ [x] ++ r.drop p := by
        rw [e, e1]
        simp only [insD, c, if_false]
        rw [List.append_assoc, List.singleton_append]
      rw [← e']; exact ih
theorem spec_liRank_l0 (l : List Int) (hl : l.length ≤ 1048576) : ∀ i, i ≤ l.length → ∀ r : List Int, r.length = i → Ev (fun k => spec_liRank.l0 k r l (l.length : Int) (i : Int)) (rankFrom r (l.drop i)) := by
  refine down ?_ ?_
  · intro r hr
    refine Ev.succ ?_
    simp only [spec_liRank.l0, nlt (Nat.le_refl l.length), if_false, List.drop_length]
    exact Ev.now _
  · intro i hi ih r hr
    refine Ev.succ ?_
    simp only [spec_liRank.l0, ilt hi, inn, if_true, rd_lt hi]
    rw [drop_cons hi]
    exact spec_liRank_l1 l l[i] i r (by omega) hl hi _ (ih (insD l[i] r) (by rw [insD_length, hr])) 0 (Nat.zero_le _) (by rw [List.take_zero, List.drop_zero, List.nil_append])
theorem spec_liRank_ev (l : List Int) (hl : l.length ≤ 1048576) : Ev (fun k => spec_liRank.f k l) (rankD l) := by
  have := spec_liRank_l0 l hl 0 (Nat.zero_le _) [] rfl
  rwa [List.drop_zero] at this

theorem spec_TwiceMedian_ev (l : List Int) (hl : l.length ≤ 1048576) : Ev (fun k => spec_TwiceMedian.f k l) (if goodB l then (wrap64 ((rankD l).getD (l.length / 2) 0 + (rankD l).getD ((l.length - 1) / 2) 0), true) else (0, false)) := by
  simp only [spec_TwiceMedian.f]
  refine Ev.bind (spec_liGood_ev l (by omega)) ?_
  cases h : goodB l with
  | false => simp only [Bool.false_eq_true, if_false]; exact Ev.now _
  | true =>
    have h' := goodB_iff.1 h
    have h1 := h'.1
    have h2 := h'.2.1
    simp only [if_true]
    refine Ev.bind (spec_liRank_ev l hl) ?_
    have e0 : wrap64 ((l.length : Int) / 2) = ((l.length / 2 : Nat) : Int) := by rw [w64 (by omega) (by omega)]; omega
    have e1 : wrap64 (Int.tdiv (wrap64 ((l.length : Int) - 1)) 2) = (((l.length - 1) / 2 : Nat) : Int) := by
      rw [w64 (x := (l.length : Int) - 1) (by omega) (by omega), show (l.length : Int) - 1 = ((l.length - 1 : Nat) : Int) by omega, show (2 : Int) = ((2 : Nat) : Int) from rfl, ← Int.ofNat_tdiv, w64 (by omega) (by omega)]
    have e0' : wrap64 (Int.tdiv (l.length : Int) 2) = ((l.length / 2 : Nat) : Int) := by
      rw [show (2 : Int) = ((2 : Nat) : Int) from rfl, ← Int.ofNat_tdiv, w64 (by omega) (by omega)]
    simp only [rankD_length, e0, e0', e1, inn, ilt (by omega : l.length / 2 < l.length), ilt (by omega : (l.length - 1) / 2 < l.length), if_true, rd_get]
    exact Ev.now _

theorem impl_excessOf_l {l : List Int} (h : Lst l) : ∀ i, i ≤ l.length → ∀ acc : Int, 0 ≤ acc → acc ≤ 4611686018427387904 - 4000 * ((l.length - i : Nat) : Int) → Ev (fun k => impl_excessOf.l0 k l acc l (l.length : Int) (i : Int)) (acc + ((l.drop i).map fun x => max 0 (l.length * x - l.sum)).sum) := by
  have hn := h.2.1
  refine down ?_ ?_
  · intro acc ha hb
    refine Ev.succ ?_
    simp only [impl_excessOf.l0, nlt (Nat.le_refl l.length), if_false, List.drop_length, List.map_nil, List.sum_nil, Int.add_zero]
    exact Ev.now _
  · intro i hi ih acc ha hb
    have b := h.get hi
    have s := h.sum
    have hx : 0 ≤ (l.length : Int) * l[i] ∧ (l.length : Int) * l[i] ≤ 480 := by
      have h1 : (l.length : Int) * l[i] ≤ 8 * 60 := Int.mul_le_mul (by omega) b.2 b.1 (by omega)
      exact ⟨Int.mul_nonneg (by omega) b.1, h1⟩
    refine Ev.succ ?_
    simp only [impl_excessOf.l0, ilt hi, inn, if_true, rd_lt hi, wnext hi (by omega : l.length ≤ 4611686018427387904)]
    refine Ev.bind (impl_total_good h) ?_
    simp only [mx_eq]
    rw [drop_cons hi, List.map_cons, List.sum_cons, ← Int.add_assoc, w64 (x := (l.length : Int) * l[i]) (by omega) (by omega), w64 (x := (l.length : Int) * l[i] - l.sum) (by omega) (by omega), w64 (x := acc + _) (by omega) (by omega)]
    exact ih _ (by omega) (by omega)
theorem impl_excessOf_ev {l : List Int} (h : Lst l) : Ev (fun k => impl_excessOf.f k l) (excessOf l) := by
  have := impl_excessOf_l h 0 (Nat.zero_le _) 0 (by omega) (by have := h.2.1; omega)
  simpa only [impl_excessOf.f, List.drop_zero, Int.zero_add, Int.natCast_zero, excessOf] using this

theorem impl_ExcessOf_ev (l : List Int) (hl : l.length ≤ 1048576) : Ev (fun k => impl_ExcessOf.f k l) (if goodB l then (excessOf l, true) else (0, false)) := by
  simp only [impl_ExcessOf.f]
  refine Ev.bind (impl_IsList_ev l (by omega)) ?_
  cases h : goodB l with
  | false => simp only [Bool.false_eq_true, if_false]; exact Ev.now _
  | true =>
    simp only [if_true]
    exact Ev.ret (f := fun t => (t, true)) (impl_excessOf_ev (goodB_iff.1 h))

theorem spec_msExcess_l {l : List Int} (h : Lst l) : ∀ i, i ≤ l.length → ∀ acc : Int, 0 ≤ acc → acc ≤ 4611686018427387904 - 4000 * ((l.length - i : Nat) : Int) → Ev (fun k => spec_msExcess.l0 k l acc l (l.length : Int) (i : Int)) (acc + ((l.drop i).map fun x => max 0 (l.length * x - l.sum)).sum) := by
  have hn := h.2.1
  refine down ?_ ?_
  · intro acc ha hb
    refine Ev.succ ?_
    simp only [spec_msExcess.l0, nlt (Nat.le_refl l.length), if_false, List.drop_length, List.map_nil, List.sum_nil, Int.add_zero]
    exact Ev.now _
  · intro i hi ih acc ha hb
    have b := h.get hi
    have s := h.sum
    have hx : 0 ≤ (l.length : Int) * l[i] ∧ (l.length : Int) * l[i] ≤ 480 := by
      have h1 : (l.length : Int) * l[i] ≤ 8 * 60 := Int.mul_le_mul (by omega) b.2 b.1 (by omega)
      exact ⟨Int.mul_nonneg (by omega) b.1, h1⟩
    refine Ev.succ ?_
    simp only [spec_msExcess.l0, ilt hi, inn, if_true, rd_lt hi, wnext hi (by omega : l.length ≤ 4611686018427387904)]
    refine Ev.bind (spec_liSum_good h) ?_
    simp only [spec_l1Most_e, Option.bind_some]
    rw [drop_cons hi, List.map_cons, List.sum_cons, ← Int.add_assoc, w64 (x := (l.length : Int) * l[i]) (by omega) (by omega), w64 (x := (l.length : Int) * l[i] - l.sum) (by omega) (by omega), w64 (x := acc + _) (by omega) (by omega)]
    exact ih _ (by omega) (by omega)
theorem spec_msExcess_ev {l : List Int} (h : Lst l) : Ev (fun k => spec_msExcess.f k l) (excessOf l) := by
  have := spec_msExcess_l h 0 (Nat.zero_le _) 0 (by omega) (by have := h.2.1; omega)
  simpa only [spec_msExcess.f, List.drop_zero, Int.zero_add, Int.natCast_zero, excessOf] using this

theorem spec_ExcessOf_ev (l : List Int) (hl : l.length ≤ 1048576) : Ev (fun k => spec_ExcessOf.f k l) (if goodB l then (excessOf l, true) else (0, false)) := by
  simp only [spec_ExcessOf.f]
  refine Ev.bind (spec_liGood_ev l (by omega)) ?_
  cases h : goodB l with
  | false => simp only [Bool.false_eq_true, if_false]; exact Ev.now _
  | true =>
    simp only [if_true]
    exact Ev.ret (f := fun t => (t, true)) (spec_msExcess_ev (goodB_iff.1 h))

theorem impl_isPositive_ev (l : List Int) (hl : l.length ≤ 1048576) : Ev (fun k => impl_isPositive.f k l) (goodB l && decide (l.sum > 0)) := by
  simp only [impl_isPositive.f]
  exact Ev.and (impl_IsList_ev l (by omega)) fun h => Ev.ret (f := fun t => decide (t > 0)) (impl_total_good (goodB_iff.1 h))

theorem impl_GiniOf_ev (l : List Int) (hl : l.length ≤ 1048576) : Ev (fun k => impl_GiniOf.f k l) (if goodB l && decide (l.sum > 0) then (pairsSum l, wrap64 (l.length * l.sum), true) else (0, 0, false)) := by
  simp only [impl_GiniOf.f]
  refine Ev.bind (impl_isPositive_ev l hl) ?_
  cases h : goodB l && decide (l.sum > 0) with
  | false => simp only [Bool.false_eq_true, if_false]; exact Ev.now _
  | true =>
    simp only [if_true]
    rw [Bool.and_eq_true, goodB_iff] at h
    refine Ev.bind (impl_pairs_ev l h.1) ?_
    exact Ev.ret (f := fun t => (pairsSum l, wrap64 ((l.length : Int) * t), true)) (impl_total_good h.1)

theorem impl_ConcentrationOf_ev (l : List Int) (hl : l.length ≤ 1048576) : Ev (fun k => impl_ConcentrationOf.f k l) (if goodB l && decide (l.sum > 0) then (wrap64 (dot l l), wrap64 (l.sum * l.sum), true) else (0, 0, false)) := by
  simp only [impl_ConcentrationOf.f]
  refine Ev.bind (impl_isPositive_ev l hl) ?_
  cases h : goodB l && decide (l.sum > 0) with
  | false => simp only [Bool.false_eq_true, if_false]; exact Ev.now _
  | true =>
    simp only [if_true]
    rw [Bool.and_eq_true, goodB_iff] at h
    refine Ev.bind (impl_squares_ev l hl) ?_
    refine Ev.bind (impl_total_good h.1) ?_
    exact Ev.ret (f := fun t => (wrap64 (dot l l), wrap64 (l.sum * t), true)) (impl_total_good h.1)

theorem impl_RankingOf_ev (a : List Int) (ha : a.length ≤ 1048576) : Ev (fun k => impl_RankingOf.f k a) (if goodB a then (rankD a, true) else (([] : List Int), false)) := by
  simp only [impl_RankingOf.f]
  refine Ev.bind (impl_IsList_ev a (by omega)) ?_
  cases h : goodB a with
  | false => simp only [Bool.false_eq_true, if_false]; exact Ev.now _
  | true =>
    simp only [if_true]
    exact Ev.ret (f := fun t => (t, true)) (impl_ranking_ev (goodB_iff.1 h))

theorem spec_l1Cur_one_x {c : List Int} (hc : Bts c) (a s b n : Int) (ha : At a b) (hb : b ≤ 1073741824) : Ex (fun _ => spec_l1Cur_one.f c a s n) (fun r => At r.2.1 (b + 2)) := by
  unfold spec_l1Cur_one.f
  refine Ex.bind (spec_l1Cur_pick_x hc a s b n ha hb) fun r hr => ?_
  exact Ex.now hr.2.2

theorem spec_l1Cur_fitting_l {c : List Int} (hc : Bts c) (x : List Int) (hx : x.length ≤ 10) : ∀ (n : Nat) (y : List Int) (a s b : Int), y.length ≤ 10 → At a b → b + 8 * n + 8 ≤ 1073741824 → Ex (fun k => spec_l1Cur_fitting.l0 k x y (n : Int) c a s) (fun r => r.1.length ≤ 10 ∧ r.2.1.length ≤ 10 ∧ At r.2.2.1 (b + 8 * n + 8))
  | n, y, a, s, b, hy, ha, hb => by
    have hb0 := ha.1
    have hb1 := ha.2
    have off : Ex (fun k => spec_l1Cur_fitting.j1 k x y (n : Int) false c a s) (fun r => r.1.length ≤ 10 ∧ r.2.1.length ≤ 10 ∧ At r.2.2.1 (b + 8 * n + 8)) := by
      refine Ex.succ ?_
      simp only [spec_l1Cur_fitting.j1, Bool.false_eq_true, if_false]
      refine Ex.bind (spec_l1Cur_one_x hc a s b 5 ha (by omega)) fun r hr => ?_
      have h2 := hr.2
      by_cases c1 : r.1 = true
      · simp only [c1, if_true]
        exact Ex.now ⟨hx, hy, hr.1, by show r.2.1 ≤ _; omega⟩
      · simp only [c1, if_false]
        exact Ex.now ⟨hy, hx, hr.1, by show r.2.1 ≤ _; omega⟩
    refine Ex.succ ?_
    simp only [spec_l1Cur_fitting.l0]
    by_cases c0 : (n : Int) > 0
    · simp only [c0, if_true]
      by_cases c1 : (y.length : Int) > 1
      · simp only [c1, decide_true]
        obtain ⟨m, rfl⟩ : ∃ m, n = m + 1 := ⟨n - 1, by omega⟩
        have ew : wrap64 (((m + 1 : Nat) : Int) - 1) = (m : Int) := by rw [w64 (by omega) (by omega)]; omega
        refine Ex.succ ?_
        simp only [spec_l1Cur_fitting.j1, if_true, ew]
        refine Ex.bind (spec_l1Cur_pick_x hc a s b _ ha (by omega)) fun r hr => ?_
        refine Ex.bind (spec_l1Cur_pick_x hc _ _ (b + 2) _ hr.2.2 (by omega)) fun q hq => ?_
        have r0 := hr.1
        have r1 := hr.2.1 (by omega)
        have q0 := hq.1
        have q1 := hq.2.1 (by omega)
        simp only [r0, r1, q0, q1, if_true]
        have go : ∀ (z : List Int) (a' s' b' : Int), z.length = y.length → At a' b' → b' ≤ b + 8 → Ex (fun k => spec_l1Cur_fitting.l0 k x z (m : Int) c a' s') (fun r => r.1.length ≤ 10 ∧ r.2.1.length ≤ 10 ∧ At r.2.2.1 (b + 8 * ((m + 1 : Nat) : Int) + 8)) := by
          intro z a' s' b' hz ha' hb'
          refine (spec_l1Cur_fitting_l hc x hx m z a' s' b' (by omega) ha' (by omega)).mono fun t ht => ⟨ht.1, ht.2.1, ht.2.2.1, by have := ht.2.2.2; omega⟩
        by_cases c2 : rd y r.1 > 0
        · simp only [c2, if_true]
          by_cases c3 : rd y r.1 > rd y q.1
          · simp only [c3, if_true, Option.bind_some]
            exact go _ _ _ _ (by simp) hq.2.2 (by omega)
          · simp only [c3, if_false]
            refine Ex.bind (spec_l1Cur_one_x hc _ _ (b + 2 + 2) 4 hq.2.2 (by omega)) fun t ht => ?_
            by_cases c4 : t.1 = true
            · simp only [c4, if_true, Option.bind_some]
              exact go _ _ _ _ (by simp) ht (by omega)
            · simp only [c4, if_false]
              exact go _ _ _ _ rfl ht (by omega)
        · simp only [c2, if_false]
          exact go _ _ _ _ rfl hq.2.2 (by omega)
      · simp only [c1, decide_false]
        exact off
    · simp only [c0, if_false]
      exact off
theorem spec_l1Cur_fitting_x {c : List Int} (hc : Bts c) (a s b m : Int) (ha : At a b) (hb : b ≤ 134217728) : Ex (fun k => spec_l1Cur_fitting.f k c a s m) (fun r => r.1.length ≤ 10 ∧ r.2.1.length ≤ 10 ∧ At r.2.2.1 (b + 256)) := by
  simp only [spec_l1Cur_fitting.f]
  refine Ex.bind (spec_l1Cur_anyList_x hc a s b m ha (by omega)) fun r hr => ?_
  refine Ex.bind (spec_l1Cur_one_x hc _ _ (b + 64) 5 hr.2 (by omega)) fun q hq => ?_
  by_cases c1 : q.1 = true
  · simp only [c1, if_true]
    refine Ex.bind (spec_l1Cur_anyList_x hc _ _ (b + 64 + 2) m hq (by omega)) fun z hz => ?_
    exact Ex.now ⟨hz.1, hr.1, hz.2.1, by have := hz.2.2; show z.2.1 ≤ _; omega⟩
  · simp only [c1, if_false, spec_l1Own_e r.1 (by omega), Option.bind_some]
    refine Ex.bind (spec_l1Cur_pick_x hc _ _ (b + 64 + 2) 12 hq (by omega)) fun z hz => ?_
    have z0 := hz.1
    have z1 := hz.2.1 (by omega)
    obtain ⟨n, hn⟩ := Int.eq_ofNat_of_zero_le z0
    rw [hn] at z1 ⊢
    refine (spec_l1Cur_fitting_l hc r.1 hr.1 n r.1 _ _ (b + 64 + 2 + 2) hr.1 hz.2.2 (by omega)).mono fun t ht => ⟨ht.1, ht.2.1, ht.2.2.1, by have := ht.2.2.2; omega⟩

theorem spec_DrawIsLorenzAbove_x {c : List Int} (hc : Bts c) : Ex (fun k => spec_DrawIsLorenzAbove.f k c) (fun r => r.1.length ≤ 10 ∧ r.2.length ≤ 10) := by
  simp only [spec_DrawIsLorenzAbove.f]
  refine Ex.bind (spec_l1Cur_fitting_x hc 0 0 0 8 ⟨by omega, by omega⟩ (by omega)) fun r hr => ?_
  exact Ex.now ⟨hr.1, hr.2.1⟩

theorem spec_DrawSignsOf_x {c : List Int} (hc : Bts c) : Ex (fun k => spec_DrawSignsOf.f k c) (fun r => r.1.length ≤ 10 ∧ r.2.length ≤ 10) := by
  simp only [spec_DrawSignsOf.f]
  refine Ex.bind (spec_DrawIsLorenzAbove_x hc) fun r hr => ?_
  exact Ex.now hr

theorem impl_areLists_ev (a b : List Int) (ha : a.length ≤ 1048576) (hb : b.length ≤ 1048576) : Ev (fun k => impl_areLists.f k a b) (goodB a && goodB b) := by
  simp only [impl_areLists.f]
  exact Ev.and (impl_IsList_ev a (by omega)) fun h => Ev.ret (f := fun t => t) (impl_IsList_ev b (by omega))

theorem impl_doFit_ev {a b : List Int} (ha : Lst a) (hb : Lst b) : Ev (fun k => impl_doFit.f k a b) (decide (a.length = b.length) && decide (a.sum = b.sum)) := by
  simp only [impl_doFit.f]
  by_cases h : a.length = b.length
  · have h2 : (a.length : Int) = (b.length : Int) := by omega
    simp only [h2, if_true, h, decide_true, Bool.true_and]
    refine Ev.bind (impl_total_good ha) ?_
    exact Ev.ret (f := fun t => a.sum == t) (impl_total_good hb)
  · have h2 : ¬ (a.length : Int) = (b.length : Int) := by omega
    simp only [h2, if_false, h, decide_false, Bool.false_and]
    exact Ev.now _

theorem impl_measures_ev {l : List Int} (h : Lst l) : Ev (fun k => impl_measures.f k l) (measuresOf l) := by
  have h1 := h.1
  have h2 := h.2.1
  have m := h.most
  have n := h.low
  simp only [impl_measures.f]
  refine Ev.bind (impl_spread_ev h) ?_
  refine Ev.bind (impl_pairs_ev l h) ?_
  refine Ev.bind (slices_Max_int_int_ev l (by omega) (by omega)) ?_
  refine Ev.bind (slices_Max_int_int_ev l (by omega) (by omega)) ?_
  refine Ev.bind (slices_Min_int_int_ev l (by omega) (by omega)) ?_
  refine Ev.bind (impl_excessOf_ev h) ?_
  rw [w64 (x := mostOf l - lowOf l) (by omega) (by omega)]
  exact Ev.now _

theorem cmp_isNaN_int_e (a : Int) : cmp_isNaN_int.f a = some false := by simp [cmp_isNaN_int.f]

theorem cmp_Compare_int_e (a b : Int) : cmp_Compare_int.f a b = some (cmpI a b) := by
  simp only [cmp_Compare_int.f, cmp_isNaN_int_e, Option.bind_some, Bool.false_eq_true, if_false, cmpI]
  by_cases h : a < b
  · simp only [h, if_true]
  · simp only [h, if_false]
    by_cases h2 : a > b
    · simp only [h2, if_true]
    · simp only [h2, if_false]

theorem impl_SignsOf_l (p q : List Int) (hp : p.length ≤ 1048576) (hq : p.length ≤ q.length) : ∀ i, i ≤ p.length → ∀ acc : List Int, acc.length = i → Ev (fun k => impl_SignsOf.l0 k acc q p (p.length : Int) (i : Int)) (acc ++ List.zipWith cmpI (p.drop i) (q.drop i), true) := by
  refine down ?_ ?_
  · intro acc ha
    refine Ev.succ ?_
    simp only [impl_SignsOf.l0, nlt (Nat.le_refl p.length), if_false, List.drop_length, List.zipWith_nil_left, List.append_nil]
    exact Ev.now _
  · intro i hi ih acc ha
    have h2 : i < q.length := by omega
    have h3 : acc.length < 17592186044416 := by omega
    refine Ev.succ ?_
    simp only [impl_SignsOf.l0, ilt hi, ilt h2, inn, if_true, rd_lt hi, rd_lt h2, cmp_Compare_int_e, Option.bind_some, h3, wnext hi (by omega : p.length ≤ 4611686018427387904)]
    rw [drop_cons hi, drop_cons h2, List.zipWith_cons_cons]
    refine (ih (acc ++ [cmpI p[i] q[i]]) (by rw [List.length_append, List.length_singleton, ha])).eqv ?_
    rw [List.append_assoc, List.singleton_append]
theorem impl_SignsOf_ev (a b : List Int) (ha : a.length ≤ 1048576) (hb : b.length ≤ 1048576) : Ev (fun k => impl_SignsOf.f k a b) (if fits a b then (signsOf a b, true) else ([], false)) := by
  simp only [impl_SignsOf.f]
  refine Ev.bind (impl_areLists_ev a b ha hb) ?_
  have off : Ev (fun k => impl_SignsOf.j0 k a b true) (([] : List Int), false) := by
    refine Ev.succ ?_
    simp only [impl_SignsOf.j0, if_true]
    exact Ev.now _
  cases h : goodB a && goodB b with
  | false =>
    have hf : fits a b = false := by rw [fits, ← Bool.and_assoc, h, Bool.false_and]
    simp only [hf, Bool.false_eq_true, if_false]; exact off
  | true =>
    simp only [if_true]
    have hf : fits a b = (decide (a.length = b.length) && decide (a.sum = b.sum)) := by rw [fits, ← Bool.and_assoc, h, Bool.true_and]
    rw [Bool.and_eq_true, goodB_iff, goodB_iff] at h
    refine Ev.bind (impl_doFit_ev h.1 h.2) ?_
    rw [← hf]
    cases h3 : fits a b with
    | false => simp only [Bool.not_false, Bool.false_eq_true, if_false]; exact off
    | true =>
      simp only [Bool.not_true, if_true]
      refine Ev.succ ?_
      simp only [impl_SignsOf.j0, Bool.false_eq_true, if_false]
      refine Ev.bind (impl_measures_ev h.2) ?_
      refine Ev.bind (impl_measures_ev h.1) ?_
      exact impl_SignsOf_l (measuresOf a) (measuresOf b) (by simp [measuresOf]) (by simp [measuresOf]) 0 (Nat.zero_le _) [] rfl

theorem spec_liFit_ev {a b : List Int} (ha : Lst a) (hb : Lst b) : Ev (fun k => spec_liFit.f k a b) (decide (a.length = b.length) && decide (a.sum = b.sum)) := by
  simp only [spec_liFit.f]
  by_cases h : a.length = b.length
  · have h2 : (a.length : Int) = (b.length : Int) := by omega
    simp only [h2, if_true, h, decide_true, Bool.true_and]
    refine Ev.bind (spec_liSum_good ha) ?_
    exact Ev.ret (f := fun t => a.sum == t) (spec_liSum_good hb)
  · have h2 : ¬ (a.length : Int) = (b.length : Int) := by omega
    simp only [h2, if_false, h, decide_false, Bool.false_and]
    exact Ev.now _

theorem spec_l1Sign_e (a : Int) : spec_l1Sign.f a = some (cmpI a 0) := by
  unfold spec_l1Sign.f cmpI
  by_cases h : a > 0
  · rw [if_pos h, if_neg (by omega), if_pos h]
  · rw [if_neg h]
    by_cases h2 : a < 0
    · rw [if_pos h2, if_pos h2]
    · rw [if_neg h2, if_neg h2, if_neg h]

theorem spec_msRange_ev {l : List Int} (h : Lst l) : Ev (fun k => spec_msRange.f k l) (mostOf l - lowOf l) := by
  simp only [spec_msRange.f]
  have h1 := h.1
  have h2 := h.2.1
  refine Ev.bind (spec_liRank_ev l (by omega)) ?_
  have a := h.2.2 _ (mostOf_mem (by omega : 0 < l.length))
  have b := h.2.2 _ (lowOf_mem (by omega : 0 < l.length))
  have e0 : wrap64 ((l.length : Int) - 1) = ((l.length - 1 : Nat) : Int) := by rw [w64 (by omega) (by omega)]; omega
  have e1 : rd (rankD l) 0 = mostOf l := (rd_get _ 0).trans (rankD_first (by omega))
  simp only [rankD_length, e0, e1, rd_get, rankD_last (by omega : 0 < l.length), inn, ilt (by omega : l.length - 1 < l.length), if_true, eq_true (by omega : 0 < (l.length : Int)), w64 (by omega : -9223372036854775808 ≤ mostOf l - lowOf l) (by omega)]
  exact Ev.now _

theorem spec_SignsOf_ev (a b : List Int) (ha : a.length ≤ 1048576) (hb : b.length ≤ 1048576) : Ev (fun k => spec_SignsOf.f k a b) (if fits a b then (signsOf a b, true) else ([], false)) := by
  simp only [spec_SignsOf.f]
  have off : Ev (fun k => spec_SignsOf.j0 k a b true) (([] : List Int), false) := by
    refine Ev.succ ?_
    simp only [spec_SignsOf.j0, if_true]
    exact Ev.now _
  refine Ev.bind (spec_liGood_ev a (by omega)) ?_
  cases h : goodB a with
  | false =>
    have hf : fits a b = false := by rw [fits, h, Bool.false_and]
    simp only [hf, Bool.false_eq_true, if_false]; exact off
  | true =>
    simp only [if_true]
    refine Ev.bind (spec_liGood_ev b (by omega)) ?_
    cases h2 : goodB b with
    | false =>
      have hf : fits a b = false := by rw [fits, h2, Bool.false_and, Bool.and_false]
      simp only [hf, Bool.false_eq_true, if_false]; exact off
    | true =>
      simp only [if_true]
      have hf : fits a b = (decide (a.length = b.length) && decide (a.sum = b.sum)) := by rw [fits, h, h2, Bool.true_and, Bool.true_and]
      have la := goodB_iff.1 h
      have lb := goodB_iff.1 h2
      refine Ev.bind (spec_liFit_ev la lb) ?_
      rw [← hf]
      cases h3 : fits a b with
      | false => simp only [Bool.not_false, Bool.false_eq_true, if_false]; exact off
      | true =>
        simp only [Bool.not_true, if_true]
        refine Ev.succ ?_
        have a1 := la.1
        have b1 := lb.1
        have e1 : rd (rankD a) 0 = mostOf a := (rd_get _ 0).trans (rankD_first (by omega))
        have e2 : rd (rankD b) 0 = mostOf b := (rd_get _ 0).trans (rankD_first (by omega))
        have s1 := spreadOf_bound la
        have s2 := spreadOf_bound lb
        have x1 := excessOf_bound la
        have x2 := excessOf_bound lb
        have p1 := pairsSum_bound la
        have p2 := pairsSum_bound lb
        have m1 := la.most
        have m2 := lb.most
        have n1 := la.low
        have n2 := lb.low
        simp only [spec_SignsOf.j0, Bool.false_eq_true, if_false]
        refine Ev.bind (spec_liRank_ev a (by omega)) ?_
        simp only [rankD_length, eq_true (by omega : 0 < (a.length : Int)), if_true]
        refine Ev.bind (spec_liRank_ev b (by omega)) ?_
        simp only [rankD_length, eq_true (by omega : 0 < (b.length : Int)), if_true, e1, e2]
        refine Ev.bind (spec_msSpread_ev la) ?_
        refine Ev.bind (spec_msSpread_ev lb) ?_
        simp only [spec_l1Sign_e, Option.bind_some]
        refine Ev.bind (spec_msPairs_ev a la) ?_
        refine Ev.bind (spec_msPairs_ev b lb) ?_
        refine Ev.bind (spec_msRange_ev la) ?_
        refine Ev.bind (spec_msRange_ev lb) ?_
        refine Ev.bind (spec_msExcess_ev la) ?_
        refine Ev.bind (spec_msExcess_ev lb) ?_
        rw [w64 (x := spreadOf a - spreadOf b) (by omega) (by omega), w64 (x := pairsSum a - pairsSum b) (by omega) (by omega), w64 (x := mostOf a - mostOf b) (by omega) (by omega), w64 (x := mostOf a - lowOf a - (mostOf b - lowOf b)) (by omega) (by omega), w64 (x := excessOf a - excessOf b) (by omega) (by omega),
          ← cmpI_sub, ← cmpI_sub, ← cmpI_sub, ← cmpI_sub, ← cmpI_sub]
        exact Ev.now _

theorem laws_ySame_l (l m : List Int) (he : m.length = l.length) (hl : l.length ≤ 4611686018427387904) : ∀ i, i ≤ l.length → Ev (fun k => laws_ySame.l0 k l m (l.length : Int) (i : Int)) (decide (l.drop i = m.drop i)) := by
  refine down ?_ ?_
  · refine Ev.succ ?_
    simp only [laws_ySame.l0, nlt (Nat.le_refl l.length), if_false, List.drop_length]
    rw [← he, List.drop_length]
    exact Ev.now _
  · intro i hi ih
    refine Ev.succ ?_
    simp only [laws_ySame.l0, ilt hi, inn, if_true, he, rd_lt hi, rd_lt (he ▸ hi : i < m.length), wnext hi hl]
    rw [drop_cons hi, drop_cons (he ▸ hi : i < m.length)]
    by_cases hx : l[i] = m[i]
    · simp only [hx, if_true, List.cons.injEq, true_and]
      exact ih
    · simp only [hx, if_false, List.cons.injEq, false_and, decide_false]
      exact Ev.now _
theorem laws_ySame_ev (l m : List Int) (hl : l.length ≤ 4611686018427387904) : Ev (fun k => laws_ySame.f k l m) (decide (l = m)) := by
  simp only [laws_ySame.f]
  by_cases he : (l.length : Int) = (m.length : Int)
  · simp only [he, if_true]
    have := laws_ySame_l l m (by omega) hl 0 (Nat.zero_le _)
    rw [he] at this
    exact this
  · simp only [he, if_false]
    rw [decide_eq_false (fun h => he (by rw [h]))]
    exact Ev.now _

theorem impl_partial_l (l : List Int) (hl : l.length ≤ 8) (hb : ∀ x ∈ l, 0 ≤ x ∧ x ≤ 60) : ∀ i, i ≤ l.length → ∀ (out : List Int) (s : Int), out.length = i → 0 ≤ s ∧ s ≤ 60 * i → Ev (fun k => impl_partial.l0 k out s l (l.length : Int) (i : Int)) (out ++ psums s (l.drop i)) := by
  refine down ?_ ?_
  · intro out s ho hs
    refine Ev.succ ?_
    simp only [impl_partial.l0, nlt (Nat.le_refl l.length), if_false, List.drop_length, psums, List.append_nil]
    exact Ev.now _
  · intro i hi ih out s ho hs
    have b := hb _ (List.getElem_mem hi)
    have c : out.length < 17592186044416 := by omega
    refine Ev.succ ?_
    simp only [impl_partial.l0, ilt hi, inn, if_true, rd_lt hi, c, w64 (x := s + l[i]) (by omega) (by omega), wnext hi (by omega : l.length ≤ 4611686018427387904)]
    rw [drop_cons hi, psums]
    exact (ih (out ++ [s + l[i]]) (s + l[i]) (by simp [ho]) (by omega)).eqv (by simp)
theorem impl_partial_ev {l : List Int} (h : Lst l) : Ev (fun k => impl_partial.f k l) (partOf l) := by
  have hr := rankD_lst h
  simp only [impl_partial.f]
  refine Ev.bind (impl_ranking_ev h) ?_
  have := impl_partial_l (rankD l) hr.2.1 hr.2.2 0 (Nat.zero_le _) [] 0 rfl (by omega)
  rw [List.drop_zero, List.nil_append] at this
  exact this

theorem impl_refused_l (p q : List Int) (hp : p.length ≤ 1048576) (hq : p.length ≤ q.length) : ∀ i, i ≤ p.length → Ev (fun k => impl_refused.l0 k q p (p.length : Int) (i : Int)) (refGo i (p.drop i) (q.drop i)) := by
  refine down ?_ ?_
  · refine Ev.succ ?_
    simp only [impl_refused.l0, nlt (Nat.le_refl p.length), if_false, List.drop_length, refGo]
    exact Ev.now _
  · intro i hi ih
    have h2 : i < q.length := by omega
    refine Ev.succ ?_
    simp only [impl_refused.l0, ilt hi, ilt h2, inn, if_true, rd_lt hi, rd_lt h2, wnext hi (by omega : p.length ≤ 4611686018427387904)]
    rw [drop_cons hi, drop_cons h2, refGo]
    by_cases c : p[i] > q[i]
    · simp only [c, if_true]; exact Ev.now _
    · simp only [c, if_false]; exact ih
theorem impl_refused_ev {a b : List Int} (ha : Lst a) (hb : Lst b) (hl : a.length = b.length) : Ev (fun k => impl_refused.f k a b) (refGo 0 (partOf a) (partOf b)) := by
  have h2 := ha.2.1
  simp only [impl_refused.f]
  refine Ev.bind (impl_partial_ev hb) ?_
  refine Ev.bind (impl_partial_ev ha) ?_
  exact impl_refused_l (partOf a) (partOf b) (by rw [partOf_length]; omega) (by rw [partOf_length, partOf_length]; omega) 0 (Nat.zero_le _)

theorem impl_isMajorized_ev {a b : List Int} (ha : Lst a) (hb : Lst b) : Ev (fun k => impl_isMajorized.f k a b) ((decide (a.length = b.length) && decide (a.sum = b.sum)) && leAll (partOf a) (partOf b)) := by
  simp only [impl_isMajorized.f]
  refine (Ev.and (impl_doFit_ev ha hb) fun h => ?_)
  simp only [Bool.and_eq_true, decide_eq_true_eq] at h
  exact (Ev.ret (f := fun t => t == 0) (impl_refused_ev ha hb h.1)).eqv (refGo_zero 0 _ _)

theorem impl_IsMajorized_ev (a b : List Int) (ha : a.length ≤ 1048576) (hb : b.length ≤ 1048576) : Ev (fun k => impl_IsMajorized.f k a b) (if goodB a && goodB b then (majB a b, true) else (false, false)) := by
  simp only [impl_IsMajorized.f]
  refine Ev.bind (impl_areLists_ev a b ha hb) ?_
  cases h : goodB a && goodB b with
  | false => simp only [Bool.false_eq_true, if_false]; exact Ev.now _
  | true =>
    simp only [if_true]
    rw [Bool.and_eq_true, goodB_iff, goodB_iff] at h
    exact (Ev.ret (f := fun t => (t, true)) (impl_isMajorized_ev h.1 h.2)).eqv (by rw [Bool.and_assoc]; rfl)

theorem dot_sq : ∀ l : List Int, dot l l = (l.map fun x => x * x).sum
  | [] => rfl
  | x :: l => by rw [dot_cons, dot_sq l]; rfl
theorem spreadOf_is {l : List Int} (h : Lst l) : spreadOf l = (l.length : Int) * dot l l - l.sum * l.sum := by
  have d := dot_self_bound l h.2.2
  have s := h.sum
  have h1 := h.2.1
  have p1 : l.sum * l.sum ≤ 480 * 480 := Int.mul_le_mul s.2 s.2 s.1 (by omega)
  have p0 : 0 ≤ l.sum * l.sum := Int.mul_nonneg s.1 s.1
  have q1 : (l.length : Int) * dot l l ≤ 8 * 28800 := Int.mul_le_mul (by omega) (by omega) d.1 (by omega)
  have q0 : 0 ≤ (l.length : Int) * dot l l := Int.mul_nonneg (by omega) d.1
  unfold spreadOf
  rw [w64 (x := dot l l) (by omega) (by omega), w64 (x := l.sum * l.sum) (by omega) (by omega), w64 (x := (l.length : Int) * dot l l) (by omega) (by omega), w64 (by omega) (by omega)]
theorem sum_le_sum {f g : Int → Int} : ∀ {l : List Int}, (∀ x ∈ l, f x ≤ g x) → (l.map f).sum ≤ (l.map g).sum
  | [], _ => by simp
  | x :: l, h => by
    have := sum_le_sum (l := l) fun y hy => h y (List.mem_cons_of_mem _ hy)
    have := h x (List.mem_cons_self ..)
    simp only [List.map_cons, List.sum_cons]; omega
theorem getD_mem {l : List Int} {p : Nat} (hp : p < l.length) : l.getD p 0 ∈ l := by
  rw [List.getD_eq_getElem?_getD, List.getElem?_eq_getElem hp]; exact List.getElem_mem hp
/-- All differences, each pair twice. -/
def alld (l m : List Int) : Int := (l.map fun x => (m.map (absd x)).sum).sum
theorem alld_nil (m : List Int) : alld [] m = 0 := rfl
theorem alld_cons (x : Int) (l m : List Int) : alld (x :: l) m = (m.map (absd x)).sum + alld l m := rfl
theorem absd_comm (x y : Int) : absd x y = absd y x := by unfold absd; omega
theorem alld_right (y : Int) : ∀ l m : List Int, alld l (y :: m) = (l.map (absd y)).sum + alld l m
  | [], _ => rfl
  | x :: l, m => by
    rw [alld_cons, alld_cons, alld_right y l m]
    simp only [List.map_cons, List.sum_cons]
    rw [absd_comm x y]
    omega
theorem pairsGo_app (x : Int) (l : List Int) : ∀ d i, i + d ≤ l.length → pairsGo (l ++ [x]) i d = pairsGo l i d
  | 0, _, _ => rfl
  | d + 1, i, h => by
    have hi : i < l.length := by omega
    have e : (l ++ [x]).getD i 0 = l.getD i 0 := by rw [List.getD_eq_getElem?_getD, List.getD_eq_getElem?_getD, List.getElem?_append_left hi]
    rw [pairsGo, pairsGo, pairsGo_app x l d (i + 1) (by omega), List.take_append_of_le_length (by omega), e]
theorem pairsGo_last (l : List Int) : ∀ d i, pairsGo l i (d + 1) = pairsGo l i d + ((l.take (i + d)).map (absd (l.getD (i + d) 0))).sum
  | 0, i => by simp [pairsGo]
  | d + 1, i => by
    rw [pairsGo, pairsGo_last l d (i + 1), pairsGo, show i + 1 + d = i + (d + 1) by omega]
    omega
theorem pairsSum_app (x : Int) (l : List Int) : pairsSum (l ++ [x]) = pairsSum l + (l.map (absd x)).sum := by
  unfold pairsSum pairsFrom
  rw [Nat.sub_zero, Nat.sub_zero, List.length_append, List.length_singleton, pairsGo_last, pairsGo_app x l _ _ (by omega), Nat.zero_add, List.take_left', List.getD_eq_getElem?_getD]
  · simp
  · rfl
theorem alld_app (x : Int) : ∀ l m : List Int, alld (l ++ [x]) m = alld l m + (m.map (absd x)).sum
  | [], m => by simp [alld]
  | y :: l, m => by
    rw [List.cons_append, alld_cons, alld_cons, alld_app x l m]; omega
theorem alld_rapp (x : Int) : ∀ l m : List Int, alld l (m ++ [x]) = alld l m + (l.map (absd x)).sum
  | [], m => by simp [alld]
  | y :: l, m => by
    rw [alld_cons, alld_cons, alld_rapp x l m]
    simp only [List.map_cons, List.sum_cons, List.map_append, List.sum_append, List.map_nil, List.sum_nil]
    rw [absd_comm x y]
    omega
theorem pairs_twice (l : List Int) : ∀ n, n ≤ l.length → 2 * pairsSum (l.take n) = alld (l.take n) (l.take n)
  | 0, _ => by simp [alld, pairsSum, pairsFrom, pairsGo]
  | n + 1, h => by
    have ih := pairs_twice l n (by omega)
    rw [List.take_succ_eq_append_getElem (by omega), pairsSum_app, alld_app, alld_rapp]
    simp only [List.map_append, List.sum_append, List.map_cons, List.sum_cons, List.map_nil, List.sum_nil]
    have : absd l[n] l[n] = 0 := by unfold absd; omega
    omega
theorem pairs_two (l : List Int) : 2 * pairsSum l = alld l l := by
  have := pairs_twice l l.length (Nat.le_refl _)
  rwa [List.take_length] at this
theorem alld_comm : ∀ l m : List Int, alld l m = alld m l
  | [], m => by
    rw [alld_nil]
    induction m with
    | nil => rfl
    | cons y m ih => rw [alld_cons, ← ih]; rfl
  | x :: l, m => by rw [alld_cons, alld_right, alld_comm l m]

theorem perm_sum {l m : List Int} (h : List.Perm l m) : l.sum = m.sum := by
  induction h with
  | nil => rfl
  | cons x _ ih => rw [List.sum_cons, List.sum_cons, ih]
  | swap x y l => simp only [List.sum_cons]; omega
  | trans _ _ h1 h2 => rw [h1, h2]
theorem alld_perm {l m : List Int} (h : List.Perm l m) : alld l l = alld m m := by
  have h1 : alld l l = alld m l := perm_sum (h.map _)
  have h2 : alld l m = alld m m := perm_sum (h.map _)
  rw [h1, alld_comm, h2]
theorem rank_pairs (a : List Int) : pairsSum (rankD a) = pairsSum a := by
  have h1 := pairs_two (rankD a)
  have h2 := pairs_two a
  rw [alld_perm (rankD_perm a)] at h1
  omega
theorem rank_dot (a : List Int) : dot (rankD a) (rankD a) = dot a a := by
  rw [dot_sq, dot_sq]; exact perm_sum ((rankD_perm a).map _)
theorem rank_spread {a : List Int} (h : Lst a) : spreadOf (rankD a) = spreadOf a := by
  rw [spreadOf_is h, spreadOf_is (rankD_lst h), rank_dot, rankD_length, rankD_sum]
/-- The sum of squares of the first ones. -/
def qI (r : List Int) : Nat → Int
  | 0 => 0
  | i + 1 => qI r i + r.getD i 0 * r.getD i 0
def wI (r : List Int) : Nat → Int
  | 0 => 0
  | i + 1 => wI r i + ((r.length : Int) - 1 - 2 * i) * r.getD i 0
def sqd (x : Int) (l : List Int) : Int := (l.map fun y => (x - y) * (x - y)).sum
def dI (r : List Int) : Nat → Int
  | 0 => 0
  | i + 1 => dI r i + sqd (r.getD i 0) (r.take i)
theorem take_one (r : List Int) (i : Nat) (h : i < r.length) : r.take (i + 1) = r.take i ++ [r.getD i 0] := by
  rw [List.take_succ_eq_append_getElem h]; simp [List.getD_eq_getElem?_getD, h]
theorem take_sum1 (r : List Int) (i : Nat) (h : i < r.length) : (r.take (i + 1)).sum = (r.take i).sum + r.getD i 0 := by
  rw [take_one r i h, List.sum_append, List.sum_singleton]
theorem qI_dot (r : List Int) : ∀ i, i ≤ r.length → qI r i = ((r.take i).map fun x => x * x).sum
  | 0, _ => by simp [qI]
  | i + 1, h => by
    rw [qI, qI_dot r i (by omega), take_one r i (by omega), List.map_append, List.sum_append]; simp
theorem desc_far (x : Int) : ∀ l : List Int, (∀ y ∈ l, x ≤ y) → (l.map (absd x)).sum = l.sum - l.length * x
  | [], _ => by simp
  | y :: l, h => by
    have ih := desc_far x l fun z hz => h z (List.mem_cons_of_mem _ hz)
    have hy := h y (List.mem_cons_self ..)
    have e : absd x y = y - x := by unfold absd; omega
    have e2 : ((l.length + 1 : Nat) : Int) * x = l.length * x + x := by rw [Int.natCast_add, Int.add_mul]; omega
    rw [List.map_cons, List.sum_cons, List.sum_cons, List.length_cons, ih, e, e2]
    omega
theorem desc_take {r : List Int} (hd : Desc r) (i : Nat) (h : i < r.length) : ∀ y ∈ r.take i, r.getD i 0 ≤ y := by
  intro y hy
  obtain ⟨j, hj, rfl⟩ := List.getElem_of_mem hy
  rw [List.length_take] at hj
  rw [List.getElem_take, List.getD_eq_getElem?_getD, List.getElem?_eq_getElem h, Option.getD_some]
  exact desc_le hd (by omega) h
theorem pairs_take {r : List Int} (hd : Desc r) (i : Nat) (h : i < r.length) : pairsSum (r.take (i + 1)) = pairsSum (r.take i) + (r.take i).sum - i * r.getD i 0 := by
  rw [take_one r i h, pairsSum_app, desc_far _ _ (desc_take hd i h), List.length_take, show min i r.length = i by omega]
  omega
theorem wI_pairs {r : List Int} (hd : Desc r) : ∀ i, i ≤ r.length → wI r i = pairsSum (r.take i) + ((r.length : Int) - i) * (r.take i).sum
  | 0, _ => by simp [wI, pairsSum, pairsFrom, pairsGo]
  | i + 1, h => by
    have ih := wI_pairs hd i (by omega)
    rw [wI, ih, pairs_take hd i (by omega), take_sum1 r i (by omega)]
    generalize (r.take i).sum = s
    generalize r.getD i 0 = x
    generalize pairsSum (r.take i) = p
    generalize (r.length : Int) = n
    rw [Int.natCast_add, show n - ((i : Int) + ((1 : Nat) : Int)) = (n - i) - 1 by omega, Int.mul_add, Int.sub_mul (n - i) 1 s, Int.sub_mul (n - i) 1 x, show n - 1 - 2 * (i : Int) = (n - i) - 1 - i by omega, Int.sub_mul ((n - i) - 1) i x, Int.sub_mul (n - i) 1 x]
    omega
theorem wI_all (a : List Int) : wI (rankD a) a.length = pairsSum a := by
  have := wI_pairs (rankD_desc a) a.length (by rw [rankD_length]; exact Nat.le_refl _)
  rw [this, rankD_length, List.take_of_length_le (by rw [rankD_length]; exact Nat.le_refl _), rank_pairs, Int.sub_self, Int.zero_mul, Int.add_zero]
theorem sqd_is (x : Int) : ∀ l : List Int, sqd x l = l.length * (x * x) - 2 * (x * l.sum) + (l.map fun y => y * y).sum
  | [] => by simp [sqd]
  | y :: l => by
    have ih := sqd_is x l
    unfold sqd at ih ⊢
    have e2 : ((l.length + 1 : Nat) : Int) * (x * x) = l.length * (x * x) + x * x := by rw [Int.natCast_add, Int.add_mul]; omega
    have e3 : (x - y) * (x - y) = x * x - 2 * (x * y) + y * y := by rw [Int.sub_mul, Int.mul_sub, Int.mul_sub, Int.mul_comm y x]; omega
    rw [List.map_cons, List.sum_cons, List.map_cons, List.sum_cons, List.sum_cons, List.length_cons, ih, e2, e3, Int.mul_add]
    omega
theorem dI_is (r : List Int) : ∀ i, i ≤ r.length → dI r i = i * qI r i - (r.take i).sum * (r.take i).sum
  | 0, _ => by simp [dI]
  | i + 1, h => by
    rw [dI, dI_is r i (by omega), sqd_is, ← qI_dot r i (by omega), qI, take_sum1 r i (by omega), List.length_take, show min i r.length = i by omega]
    generalize (r.take i).sum = s
    generalize r.getD i 0 = x
    generalize qI r i = q
    have e2 : ((i + 1 : Nat) : Int) * (q + x * x) = i * q + i * (x * x) + q + x * x := by rw [Int.natCast_add, Int.add_mul, Int.mul_add]; omega
    have e3 : (s + x) * (s + x) = s * s + 2 * (x * s) + x * x := by rw [Int.add_mul, Int.mul_add, Int.mul_add, Int.mul_comm s x]; omega
    rw [e2, e3]
    omega
theorem qI_all (a : List Int) : qI (rankD a) a.length = dot a a := by
  rw [qI_dot _ _ (by rw [rankD_length]; exact Nat.le_refl _), List.take_of_length_le (by rw [rankD_length]; exact Nat.le_refl _), ← dot_sq, rank_dot]
theorem dI_all {a : List Int} (h : Lst a) : dI (rankD a) a.length = spreadOf a := by
  rw [dI_is _ _ (by rw [rankD_length]; exact Nat.le_refl _), qI_all, List.take_of_length_le (by rw [rankD_length]; exact Nat.le_refl _), rankD_sum, spreadOf_is h]
theorem sq_bound {x y : Int} (hx : 0 ≤ x ∧ x ≤ 60) (hy : 0 ≤ y ∧ y ≤ 60) : 0 ≤ (x - y) * (x - y) ∧ (x - y) * (x - y) ≤ 3600 := by
  have h1 : (x - y) * (x - y) = absd x y * absd x y := by
    unfold absd
    by_cases c : y ≤ x
    · rw [show max (x - y) (y - x) = x - y by omega]
    · rw [show max (x - y) (y - x) = -(x - y) by omega, Int.neg_mul_neg]
  have b := absd_bound hx hy
  rw [h1]
  exact ⟨Int.mul_nonneg b.1 b.1, Int.mul_le_mul b.2 b.2 b.1 (by omega)⟩
theorem sqd_bound {x : Int} (hx : 0 ≤ x ∧ x ≤ 60) {l : List Int} (h : ∀ y ∈ l, 0 ≤ y ∧ y ≤ 60) : 0 ≤ sqd x l ∧ sqd x l ≤ 3600 * l.length := by
  have := sum_map_bound (f := fun y => (x - y) * (x - y)) (hi := 3600) l fun y hy => sq_bound hx (h y hy)
  unfold sqd
  omega
theorem I_bound {r : List Int} (h : Lst r) : ∀ i, i ≤ r.length → (0 ≤ qI r i ∧ qI r i ≤ 3600 * i) ∧ (-420 * (i : Int) ≤ wI r i ∧ wI r i ≤ 420 * i) ∧ (0 ≤ dI r i ∧ dI r i ≤ 28800 * i)
  | 0, _ => by simp [qI, wI, dI]
  | i + 1, hi => by
    have ih := I_bound h i (by omega)
    have e : r.getD i 0 = r[i] := by simp [List.getD_eq_getElem?_getD, (by omega : i < r.length)]
    have b := h.get (by omega : i < r.length)
    have l8 := h.2.1
    rw [← e] at b
    have q1 : r.getD i 0 * r.getD i 0 ≤ 60 * 60 := Int.mul_le_mul b.2 b.2 b.1 (by omega)
    have q0 : 0 ≤ r.getD i 0 * r.getD i 0 := Int.mul_nonneg b.1 b.1
    have w1 : ((r.length : Int) - 1 - 2 * i) * r.getD i 0 ≤ 7 * r.getD i 0 := Int.mul_le_mul_of_nonneg_right (by omega) b.1
    have w0 : -7 * r.getD i 0 ≤ ((r.length : Int) - 1 - 2 * i) * r.getD i 0 := Int.mul_le_mul_of_nonneg_right (by omega) b.1
    have s := sqd_bound b (l := r.take i) fun y hy => h.2.2 y (List.mem_of_mem_take hy)
    have sl : (r.take i).length ≤ 8 := by rw [List.length_take]; omega
    rw [qI, wI, dI]
    omega
theorem sum_member {l : List Int} {M x : Int} (hx : x ∈ l) (h : ∀ y ∈ l, y ≤ M) : l.sum ≤ l.length * M - M + x := by
  obtain ⟨s, t, rfl⟩ := List.append_of_mem hx
  have b1 := sum_le_sum (f := id) (g := fun _ => M) (l := s) fun y hy => h y (List.mem_append_left _ hy)
  have b2 := sum_le_sum (f := id) (g := fun _ => M) (l := t) fun y hy => h y (List.mem_append_right _ (List.mem_cons_of_mem _ hy))
  simp only [List.map_id, List.map_const', List.sum_replicate_int] at b1 b2
  simp only [List.sum_append, List.sum_cons, List.length_append, List.length_cons]
  have e : (((s.length + (t.length + 1) : Nat)) : Int) * M = s.length * M + t.length * M + M := by
    rw [Int.natCast_add, Int.natCast_add, Int.add_mul, Int.add_mul]; omega
  rw [e]
  omega
theorem nonneg_member {f : Int → Int} {l : List Int} {x : Int} (hx : x ∈ l) (h : ∀ y ∈ l, 0 ≤ f y) : f x ≤ (l.map f).sum := by
  obtain ⟨s, t, rfl⟩ := List.append_of_mem hx
  have b1 := sum_le_sum (f := fun _ => (0 : Int)) (g := f) (l := s) fun y hy => h y (List.mem_append_left _ hy)
  have b2 := sum_le_sum (f := fun _ => (0 : Int)) (g := f) (l := t) fun y hy => h y (List.mem_append_right _ (List.mem_cons_of_mem _ hy))
  simp only [List.map_const', List.sum_replicate_int, Int.mul_zero] at b1 b2
  simp only [List.map_append, List.sum_append, List.map_cons, List.sum_cons]
  omega
theorem excess_zero {a : List Int} (h : Lst a) : ((excessOf a == 0) != (mostOf a - lowOf a == 0)) = false := by
  have h0 : 0 < a.length := h.1
  have mm := mostOf_mem h0
  have lm := lowOf_mem h0
  by_cases c : mostOf a = lowOf a
  · have e : excessOf a = 0 := by
      have hs : a.sum = a.length * mostOf a := by
        have h1 := sum_bound (l := a) (lo := mostOf a) (hi := mostOf a) fun x hx => ⟨by rw [c]; exact lowOf_le h0 hx, mostOf_le h0 hx⟩
        omega
      unfold excessOf
      have b1 := sum_le_sum (f := fun x => max 0 (a.length * x - a.sum)) (g := fun _ => (0 : Int)) (l := a) fun x hx => by
        have : (a.length : Int) * x ≤ a.length * mostOf a := Int.mul_le_mul_of_nonneg_left (mostOf_le h0 hx) (by omega)
        show max 0 ((a.length : Int) * x - a.sum) ≤ 0
        omega
      have b2 := excessOf_bound h
      unfold excessOf at b2
      simp only [List.map_const', List.sum_replicate_int, Int.mul_zero] at b1
      omega
    rw [e, show mostOf a - lowOf a = 0 by omega]; rfl
  · have h1 := mostOf_le h0 lm
    have h2 := sum_member lm fun y hy => mostOf_le h0 hy
    have h3 := nonneg_member (f := fun x => max 0 (a.length * x - a.sum)) mm fun y _ => by show 0 ≤ max 0 _; omega
    have e : ¬ excessOf a = 0 := by
      unfold excessOf
      omega
    rw [beq_eq_false_iff_ne.2 e, beq_eq_false_iff_ne.2 (by omega : mostOf a - lowOf a ≠ 0)]; rfl
/-- Sums of sums. -/
def cum (r : List Int) : Nat → Int
  | 0 => 0
  | i + 1 => cum r i + (r.take i).sum
theorem cum_pairs {r : List Int} (hd : Desc r) : ∀ i, i ≤ r.length → pairsSum (r.take i) + ((i : Int) - 1) * (r.take i).sum = 2 * cum r i
  | 0, _ => by simp [cum, pairsSum, pairsFrom, pairsGo]
  | i + 1, h => by
    have ih := cum_pairs hd i (by omega)
    rw [cum, pairs_take hd i (by omega), take_sum1 r i (by omega)]
    generalize (r.take i).sum = s at *
    generalize r.getD i 0 = x at *
    generalize pairsSum (r.take i) = p at *
    rw [show ((i + 1 : Nat) : Int) - 1 = (i : Int) by omega, Int.mul_add]
    rw [Int.sub_mul] at ih
    omega
theorem cum_le {r q : List Int} : ∀ n, (∀ i, i < n → (r.take i).sum ≤ (q.take i).sum) → cum r n ≤ cum q n
  | 0, _ => by simp [cum]
  | n + 1, h => by
    have := cum_le (r := r) (q := q) n fun i hi => h i (by omega)
    have := h n (by omega)
    rw [cum, cum]; omega
theorem maj_parts {x y : List Int} (h : majB x y = true) : x.length = y.length ∧ x.sum = y.sum ∧ ∀ k, k ≤ x.length → ((rankD x).take k).sum ≤ ((rankD y).take k).sum := by
  unfold majB at h
  rw [Bool.and_eq_true, Bool.and_eq_true, decide_eq_true_eq, decide_eq_true_eq] at h
  exact ⟨h.1, h.2.1, (subB_iff h.1).1 h.2.2⟩
theorem maj_pairs {x y : List Int} (h : majB x y = true) : pairsSum x ≤ pairsSum y := by
  obtain ⟨h1, h2, h3⟩ := maj_parts h
  have c := cum_le (r := rankD x) (q := rankD y) x.length fun i hi => h3 i (by omega)
  have p := cum_pairs (rankD_desc x) x.length (by rw [rankD_length]; exact Nat.le_refl _)
  have q := cum_pairs (rankD_desc y) x.length (by rw [rankD_length]; omega)
  rw [List.take_of_length_le (by rw [rankD_length]; exact Nat.le_refl _), rank_pairs, rankD_sum] at p
  rw [List.take_of_length_le (by rw [rankD_length]; omega), rank_pairs, rankD_sum, ← h2] at q
  omega
theorem maj_most {x y : List Int} (h0 : 0 < x.length) (h : majB x y = true) : mostOf x ≤ mostOf y := by
  obtain ⟨h1, h2, h3⟩ := maj_parts h
  have := h3 1 (by omega)
  rw [take_sum1 _ 0 (by rw [rankD_length]; omega), take_sum1 _ 0 (by rw [rankD_length]; omega), rankD_first h0, rankD_first (by omega)] at this
  simpa using this
theorem maj_low {x y : List Int} (h0 : 0 < x.length) (h : majB x y = true) : lowOf y ≤ lowOf x := by
  obtain ⟨h1, h2, h3⟩ := maj_parts h
  have t := h3 (x.length - 1) (by omega)
  have a := take_sum1 (rankD x) (x.length - 1) (by rw [rankD_length]; omega)
  have b := take_sum1 (rankD y) (x.length - 1) (by rw [rankD_length]; omega)
  rw [show x.length - 1 + 1 = x.length by omega, List.take_of_length_le (by rw [rankD_length]; exact Nat.le_refl _), rankD_sum, rankD_last h0] at a
  rw [show x.length - 1 + 1 = x.length by omega, List.take_of_length_le (by rw [rankD_length]; omega), rankD_sum, show x.length - 1 = y.length - 1 by omega, rankD_last (by omega)] at b
  rw [show x.length - 1 = y.length - 1 by omega] at a t
  omega
theorem over_of {f : Nat → Int} {g : Int → Int} : ∀ {l : List Int}, (∀ x ∈ l, f x.toNat = g x) → over f l = (l.map g).sum
  | [], _ => rfl
  | x :: l, h => by
    have := over_of (l := l) fun y hy => h y (List.mem_cons_of_mem _ hy)
    have := h x (List.mem_cons_self ..)
    unfold over at *
    simp only [List.map_cons, List.sum_cons]; omega
theorem maj_spread {x y : List Int} (hx : Lst x) (hy : Lst y) (h : majB x y = true) : spreadOf x ≤ spreadOf y := by
  obtain ⟨h1, h2, _⟩ := maj_parts h
  have k := karamata (f := fun t => (t : Int) * t) (fun t _ => by
    unfold sd
    show 0 ≤ ((t + 1 + 1 : Nat) : Int) * ((t + 1 + 1 : Nat) : Int) - 2 * (((t + 1 : Nat) : Int) * ((t + 1 : Nat) : Int)) + (t : Int) * t
    have e1 : ((t + 1 + 1 : Nat) : Int) * ((t + 1 + 1 : Nat) : Int) = (t : Int) * t + 4 * t + 4 := by rw [show ((t + 1 + 1 : Nat) : Int) = (t : Int) + 2 by omega, Int.add_mul, Int.mul_add]; omega
    have e2 : ((t + 1 : Nat) : Int) * ((t + 1 : Nat) : Int) = (t : Int) * t + 2 * t + 1 := by rw [show ((t + 1 : Nat) : Int) = (t : Int) + 1 by omega, Int.add_mul, Int.mul_add]; omega
    omega) hx hy h
  rw [over_of (g := fun z => z * z) fun z hz => by have := hx.2.2 z hz; show ((z.toNat : Int)) * (z.toNat : Int) = z * z; rw [show ((z.toNat : Nat) : Int) = z by omega],
    over_of (g := fun z => z * z) fun z hz => by have := hy.2.2 z hz; show ((z.toNat : Int)) * (z.toNat : Int) = z * z; rw [show ((z.toNat : Nat) : Int) = z by omega], ← dot_sq, ← dot_sq] at k
  rw [spreadOf_is hx, spreadOf_is hy, h1, h2]
  have := Int.mul_le_mul_of_nonneg_left k (by omega : 0 ≤ (y.length : Int))
  omega
theorem maj_excess {x y : List Int} (hx : Lst x) (hy : Lst y) (h : majB x y = true) : excessOf x ≤ excessOf y := by
  obtain ⟨h1, h2, _⟩ := maj_parts h
  have k := karamata (f := fun t => max 0 ((y.length : Int) * t - y.sum)) (fun t _ => by
    unfold sd
    show 0 ≤ max 0 ((y.length : Int) * ((t + 1 + 1 : Nat) : Int) - y.sum) - 2 * max 0 ((y.length : Int) * ((t + 1 : Nat) : Int) - y.sum) + max 0 ((y.length : Int) * (t : Int) - y.sum)
    have e1 : (y.length : Int) * ((t + 1 + 1 : Nat) : Int) = (y.length : Int) * t + 2 * y.length := by rw [show ((t + 1 + 1 : Nat) : Int) = (t : Int) + 2 by omega, Int.mul_add]; omega
    have e2 : (y.length : Int) * ((t + 1 : Nat) : Int) = (y.length : Int) * t + y.length := by rw [show ((t + 1 : Nat) : Int) = (t : Int) + 1 by omega, Int.mul_add]; omega
    rw [e1, e2]
    generalize (y.length : Int) * (t : Int) = u
    omega) hx hy h
  rw [over_of (g := fun z => max 0 ((y.length : Int) * z - y.sum)) fun z hz => by have := hx.2.2 z hz; show max 0 ((y.length : Int) * (z.toNat : Int) - y.sum) = _; rw [show ((z.toNat : Nat) : Int) = z by omega],
    over_of (g := fun z => max 0 ((y.length : Int) * z - y.sum)) fun z hz => by have := hy.2.2 z hz; show max 0 ((y.length : Int) * (z.toNat : Int) - y.sum) = _; rw [show ((z.toNat : Nat) : Int) = z by omega]] at k
  unfold excessOf
  rw [h1, h2]
  exact k
theorem cmpI_le {a b : Int} (h : a ≤ b) : cmpI a b ≤ 0 := by
  unfold cmpI
  split
  · omega
  · split <;> omega
theorem signs_neg {x y : List Int} (hx : Lst x) (hy : Lst y) (h : majB x y = true) : ∀ i, i < 5 → (signsOf x y).getD i 0 ≤ 0 := by
  have h0 : 0 < x.length := hx.1
  have m := maj_most h0 h
  have l := maj_low h0 h
  intro i hi
  match i, hi with
  | 0, _ => exact cmpI_le (maj_spread hx hy h)
  | 1, _ => exact cmpI_le (maj_pairs h)
  | 2, _ => exact cmpI_le m
  | 3, _ => exact cmpI_le (by omega)
  | 4, _ => exact cmpI_le (maj_excess hx hy h)
theorem FnMeasures_l2 (x : List Int) (hx : x.length ≤ 5) (hn : ∀ i, i < x.length → x.getD i 0 ≤ 0) : ∀ i, i ≤ x.length → Ev (fun k => laws_FnMeasures.l2 k x (x.length : Int) (i : Int)) true := by
  refine down ?_ ?_
  · refine Ev.succ ?_
    simp only [laws_FnMeasures.l2, nlt (Nat.le_refl x.length), if_false]
    exact Ev.now _
  · intro i hi ih
    refine Ev.succ ?_
    have c : ¬ (x.getD i 0 > 0) := by have := hn i hi; omega
    simp only [laws_FnMeasures.l2, ilt hi, inn, if_true, rd_get, Int.toNat_natCast, c, if_false, wnext hi (by omega : x.length ≤ 4611686018427387904)]
    exact ih
theorem FnMeasures_j3 {c : List Int} (hc : Bts c) : Ev (fun k => laws_FnMeasures.j3 k c) true := by
  refine Ev.succ ?_
  simp only [laws_FnMeasures.j3]
  refine Ex.ev (spec_DrawSignsOf_x hc) fun r hr => ?_
  obtain ⟨x, y⟩ := r
  have hx : x.length ≤ 1048576 := by have := hr.1; show x.length ≤ _; simp only at this; omega
  have hy : y.length ≤ 1048576 := by have := hr.2; show y.length ≤ _; simp only at this; omega
  simp only
  refine Ev.bind (impl_SignsOf_ev x y hx hy) ?_
  refine Ev.bind (spec_SignsOf_ev x y hx hy) ?_
  have hl := signs_len x y
  simp only [bne_self_eq_false, Bool.false_eq_true, if_false]
  refine Ev.bind (laws_ySame_ev _ _ (by omega)) ?_
  simp only [decide_true, Bool.not_true]
  refine Ev.succ ?_
  simp only [laws_FnMeasures.j4, Bool.false_eq_true, if_false]
  refine Ev.bind (impl_IsMajorized_ev x y hx hy) ?_
  have off : ∀ l : List Int, Ev (fun k => laws_FnMeasures.j5 k l false) true := fun l => by
    refine Ev.succ ?_
    simp only [laws_FnMeasures.j5, Bool.false_eq_true, if_false]
    exact Ev.now _
  cases hf : fits x y with
  | false => simp only [Bool.false_eq_true, if_false]; exact off _
  | true =>
    obtain ⟨lx, ly, hlen, hsum⟩ := fits_iff.1 hf
    rw [goodB_iff.2 lx, goodB_iff.2 ly]
    simp only [Bool.and_self, if_true]
    cases hm : majB x y with
    | false => exact off _
    | true =>
      refine Ev.succ ?_
      simp only [laws_FnMeasures.j5, if_true]
      exact FnMeasures_l2 (signsOf x y) (by simp [signsOf, measuresOf]) (fun i hi => signs_neg lx ly hm i (by simpa [signsOf, measuresOf] using hi)) 0 (Nat.zero_le _)
section
variable (c : List Int) (x6 x10 x14 x20 x24 x25 : Int) (x26 : Bool) (x27 x28 : Int) (x29 : Bool)
theorem FnMeasures_l1 (x30 : List Int) (x31 : Bool) (x32 x33 x34 x35 : Int) (x : Int) (hx : 0 ≤ x ∧ x ≤ 60) (x185 : List Int) (x186 : Int) (i : Nat) (hi : i < 8) (L : List Int) (hL : L.length ≤ 8) (hb : ∀ y ∈ L, 0 ≤ y ∧ y ≤ 60) (T : Int)
    (hK : Ev (fun k => laws_FnMeasures.l0 k c x6 x10 x14 x20 x24 x25 x26 x27 x28 x29 x30 x31 x32 x33 x34 x35 T x185 x186 ((i + 1 : Nat) : Int)) true) : ∀ m, m ≤ L.length → ∀ acc : Int, 0 ≤ acc → acc ≤ 1000000 + 3600 * m → acc + sqd x (L.drop m) = T → Ev (fun k => laws_FnMeasures.l1 k c x6 x10 x14 x20 x24 x25 x26 x27 x28 x29 x30 x31 x32 x33 x34 x35 acc x x185 x186 (i : Int) L (L.length : Int) (m : Int)) true := by
  refine down ?_ ?_
  · intro acc h0 h1 hT
    rw [List.drop_length] at hT
    have e : acc = T := by simpa [sqd] using hT
    subst e
    refine Ev.succ ?_
    simp only [laws_FnMeasures.l1, nlt (Nat.le_refl L.length), if_false, wnext hi (by omega : 8 ≤ 4611686018427387904)]
    exact hK
  · intro m hm ih acc h0 h1 hT
    have b := hb _ (List.getElem_mem hm)
    have s := sq_bound hx b
    refine Ev.succ ?_
    simp only [laws_FnMeasures.l1, ilt hm, inn, if_true, rd_lt hm, w64 (x := x - L[m]) (by omega) (by omega), w64 (x := (x - L[m]) * (x - L[m])) (by omega) (by omega), w64 (x := acc + (x - L[m]) * (x - L[m])) (by omega) (by omega), wnext hm (by omega : L.length ≤ 4611686018427387904)]
    refine ih _ (by omega) (by omega) ?_
    rw [drop_cons hm] at hT
    have e : sqd x (L[m] :: L.drop (m + 1)) = (x - L[m]) * (x - L[m]) + sqd x (L.drop (m + 1)) := rfl
    omega
end
theorem FnMeasures_end {c a : List Int} (hc : Bts c) (h : Lst a) (u v p q : Int) (g : Bool) (hg : g = decide (a.sum > 0)) (hv : g = true → u = pairsSum a ∧ v = wrap64 ((a.length : Int) * a.sum) ∧ p = dot a a ∧ q = wrap64 (a.sum * a.sum)) : Ev (fun k => laws_FnMeasures.l0 k c (spreadOf a) (pairsSum a) (mostOf a - lowOf a) (excessOf a) u v g p q g (rankD a) true (a.length : Int) a.sum (dot a a) (pairsSum a) (spreadOf a) (rankD a) (a.length : Int) (a.length : Int)) true := by
  have h8 := h.2.1
  have h0 : 0 < a.length := h.1
  have m := h.most
  have l := h.low
  have xb := excessOf_bound h
  have e1 : wrap64 ((a.length : Int) - 1) = ((a.length - 1 : Nat) : Int) := by rw [w64 (by omega) (by omega)]; omega
  have r0 : rd (rankD a) 0 = mostOf a := (rd_get _ 0).trans (rankD_first h0)
  have r1 : rd (rankD a) ((a.length - 1 : Nat) : Int) = lowOf a := (rd_get _ _).trans (rankD_last h0)
  have e2 : (g != decide (a.sum > 0)) = false := by rw [hg]; simp
  have e3 : ¬ excessOf a < 0 := by omega
  refine Ev.succ ?_
  simp only [laws_FnMeasures.l0, nlt (Nat.le_refl a.length), if_false, if_true, rankD_length, eq_true (by omega : (0 : Int) < (a.length : Int)), e1, inn, ilt (by omega : a.length - 1 < a.length), r0, r1, w64 (x := mostOf a - lowOf a) (by omega) (by omega), e2, Bool.false_eq_true, e3, excess_zero h]
  cases g with
  | false => simp only [Bool.false_eq_true, if_false]; exact FnMeasures_j3 hc
  | true =>
    obtain ⟨rfl, rfl, rfl, rfl⟩ := hv rfl
    simp only [if_true]
    exact FnMeasures_j3 hc
theorem FnMeasures_l0 {c a : List Int} (hc : Bts c) (h : Lst a) (u v p q : Int) (g : Bool) (hg : g = decide (a.sum > 0)) (hv : g = true → u = pairsSum a ∧ v = wrap64 ((a.length : Int) * a.sum) ∧ p = dot a a ∧ q = wrap64 (a.sum * a.sum)) : ∀ (d i : Nat), i + d = a.length → Ev (fun k => laws_FnMeasures.l0 k c (spreadOf a) (pairsSum a) (mostOf a - lowOf a) (excessOf a) u v g p q g (rankD a) true (a.length : Int) ((rankD a).take i).sum (qI (rankD a) i) (wI (rankD a) i) (dI (rankD a) i) (rankD a) (a.length : Int) (i : Int)) true
  | 0, i, hi => by
    have e : i = a.length := by omega
    subst e
    rw [qI_all, wI_all, dI_all h, List.take_of_length_le (by rw [rankD_length]; exact Nat.le_refl _), rankD_sum]
    exact FnMeasures_end hc h u v p q g hg hv
  | d + 1, i, hi => by
    have hr := rankD_lst h
    have hrl := rankD_length a
    have h8 := h.2.1
    have hi' : i < (rankD a).length := by omega
    have e : (rankD a).getD i 0 = (rankD a)[i] := by simp [List.getD_eq_getElem?_getD, hi']
    have b := hr.get hi'
    rw [← e] at b
    have B := I_bound hr i (by omega)
    have B2 := I_bound hr (i + 1) (by omega)
    have s := sum_bound (l := (rankD a).take i) (lo := 0) (hi := 60) (fun x hx => hr.2.2 x (List.mem_of_mem_take hx))
    have sl : ((rankD a).take i).length = i := by rw [List.length_take]; omega
    have q1 : (rankD a).getD i 0 * (rankD a).getD i 0 ≤ 60 * 60 := Int.mul_le_mul b.2 b.2 b.1 (by omega)
    have q0 : 0 ≤ (rankD a).getD i 0 * (rankD a).getD i 0 := Int.mul_nonneg b.1 b.1
    have w1 : ((a.length : Int) - 1 - 2 * i) * (rankD a).getD i 0 ≤ 7 * (rankD a).getD i 0 := Int.mul_le_mul_of_nonneg_right (by omega) b.1
    have w0 : -7 * (rankD a).getD i 0 ≤ ((a.length : Int) - 1 - 2 * i) * (rankD a).getD i 0 := Int.mul_le_mul_of_nonneg_right (by omega) b.1
    have ih := FnMeasures_l0 hc h u v p q g hg hv d (i + 1) (by omega)
    rw [take_sum1 _ i hi', qI, wI, dI, hrl] at ih
    have z1 : wrap64 (((rankD a).take i).sum + (rankD a).getD i 0) = ((rankD a).take i).sum + (rankD a).getD i 0 := w64 (by omega) (by omega)
    have z2 : wrap64 (qI (rankD a) i + wrap64 ((rankD a).getD i 0 * (rankD a).getD i 0)) = qI (rankD a) i + (rankD a).getD i 0 * (rankD a).getD i 0 := by rw [w64 (x := (rankD a).getD i 0 * (rankD a).getD i 0) (by omega) (by omega), w64 (by omega) (by omega)]
    have z3 : wrap64 (wI (rankD a) i + wrap64 (wrap64 (wrap64 ((a.length : Int) - 1) - wrap64 (2 * (i : Int))) * (rankD a).getD i 0)) = wI (rankD a) i + ((a.length : Int) - 1 - 2 * i) * (rankD a).getD i 0 := by
      rw [w64 (x := (a.length : Int) - 1) (by omega) (by omega), w64 (x := 2 * (i : Int)) (by omega) (by omega), w64 (x := (a.length : Int) - 1 - 2 * (i : Int)) (by omega) (by omega), w64 (x := ((a.length : Int) - 1 - 2 * i) * (rankD a).getD i 0) (by omega) (by omega), w64 (by omega) (by omega)]
    refine Ev.succ ?_
    simp only [laws_FnMeasures.l0, ilt (by omega : i < a.length), inn, if_true, hrl, (by omega : (i : Int) ≤ (a.length : Int)), Option.bind_some, rd_get, Int.toNat_natCast, z1, z2, z3]
    exact FnMeasures_l1 c _ _ _ _ u v g p q g (rankD a) true _ _ _ _ ((rankD a).getD i 0) b (rankD a) _ i (by omega) ((rankD a).take i) (by omega) (fun y hy => hr.2.2 y (List.mem_of_mem_take hy)) _ ih 0 (Nat.zero_le _) (dI (rankD a) i) (by omega) (by omega) (by rw [List.drop_zero])
theorem FnMeasures : laws_FnMeasures.Pure := by
  intro a b hma hsa hwa hmb hsb hwb
  refine Ev.rounds ?_
  have hc := Bts.of hsa hwa
  have hd := Bts.of hsb hwb
  simp only [laws_FnMeasures.f]
  obtain ⟨t, ht⟩ := laws_big_x a b
  rw [ht]
  simp only [Option.bind_some]
  by_cases h0 : t = true
  · simp only [h0, if_true]; exact Ev.now _
  · simp only [h0, if_false]
    refine Ex.ev (spec_DrawSpreadOf_x hc) fun x hr => ?_
    have hx : x.length ≤ 1048576 := by omega
    refine Ev.bind (impl_SpreadOf_ev x hx) ?_
    refine Ev.bind (spec_SpreadOf_ev x hx) ?_
    refine Ev.bind (impl_PairsOf_ev x hx) ?_
    refine Ev.bind (spec_PairsOf_ev x hx) ?_
    refine Ev.bind (impl_RangeOf_ev x hx) ?_
    refine Ev.bind (impl_TwiceMedian_ev x hx) ?_
    refine Ev.bind (spec_TwiceMedian_ev x hx) ?_
    refine Ev.bind (impl_ExcessOf_ev x hx) ?_
    refine Ev.bind (spec_ExcessOf_ev x hx) ?_
    refine Ev.bind (impl_GiniOf_ev x hx) ?_
    refine Ev.bind (impl_ConcentrationOf_ev x hx) ?_
    cases hg : goodB x with
    | false =>
      simp only [Bool.false_and, bne_self_eq_false, Bool.false_eq_true, if_false, if_true]
      refine Ev.bind (impl_IsList_ev x (by omega)) ?_
      rw [hg]
      refine Ev.succ ?_
      simp only [laws_FnMeasures.j0, bne_self_eq_false, Bool.false_eq_true, if_false]
      exact FnMeasures_j3 hd
    | true =>
      have la := goodB_iff.1 hg
      have s := la.sum
      have ds := dot_self_bound x la.2.2
      have h8 := la.2.1
      simp only [Bool.true_and, bne_self_eq_false, Bool.false_eq_true, if_false, if_true]
      refine Ev.bind (impl_IsList_ev x (by omega)) ?_
      rw [hg]
      refine Ev.succ ?_
      simp only [laws_FnMeasures.j0, bne_self_eq_false, Bool.false_eq_true, if_false, if_true]
      refine Ev.bind (impl_RankingOf_ev x hx) ?_
      rw [hg]
      simp only [if_true, rankD_length]
      by_cases hs : x.sum > 0
      · simp only [decide_eq_true hs, if_true]
        exact FnMeasures_l0 hd la _ _ _ _ true (by rw [decide_eq_true hs]) (fun _ => ⟨rfl, rfl, w64 (by omega) (by omega), rfl⟩) x.length 0 (by omega)
      · simp only [decide_eq_false hs, Bool.false_eq_true, if_false]
        exact FnMeasures_l0 hd la _ _ _ _ false (by rw [decide_eq_false hs]) (fun h => absurd h (by simp)) x.length 0 (by omega)

end Go.Proofs.Ytojklddddedoeaa.Pure
