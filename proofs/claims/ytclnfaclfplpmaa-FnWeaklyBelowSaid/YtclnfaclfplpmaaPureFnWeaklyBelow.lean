/- A list that is weakly below another one has no greater excess over any threshold, and for equal sums that is being majorized; the printed functions' own bounds on lengths are the only conditions. -/
import Derived.Test.YtclnfaclfplpmaaPFnWeaklyBelowx8
import Derived.Test.YtclnfaclfplpmaaMathB
namespace Go.Proofs.Ytclnfaclfplpmaa.Pure
open Go.RowKit Go.Proofs.Ytclnfaclfplpmaa.PFnWeaklyBelow Go.Proofs.YtclnfaclfplpmaaW.PrintWords Go.Proofs.YtclnfaclfplpmaaW.PrintLast Go.Proofs.YtclnfaclfplpmaaW.PrintMore Go.Proofs.Ytclnfaclfplpmaa.Math
set_option linter.unusedVariables false
set_option linter.unusedSimpArgs false
set_option linter.unusedSectionVars false

theorem laws_big_x (a b : List Int) : ∃ t, laws_big.f a b = some t := by
  unfold laws_big.f
  by_cases c : (a.length : Int) > 1048576
  · rw [if_pos c]; exact ⟨_, rfl⟩
  · rw [if_neg c]; exact ⟨_, rfl⟩

theorem spec_l1Cur_next_x {c : List Int} (hc : Bts c) (a s b : Int) (ha : At a b) (hb : b ≤ 4611686018427387904) : ∃ r : Int × Int × Int, spec_l1Cur_next.f c a s = some r ∧ 0 ≤ r.1 ∧ r.1 ≤ 255 ∧ At r.2.1 (b + 1) := by
  have h0 := ha.1
  have h1 := ha.2
  have e : wrap64 (a + 1) = a + 1 := w64 (by omega) (by omega)
  have a1 : At (a + 1) (b + 1) := ⟨by omega, by omega⟩
  have u : ∀ z : Int, 0 ≤ wrap64 (Go.bits .and .u64 (IntKind.u64.wrap z / 1099511627776) 255) ∧ wrap64 (Go.bits .and .u64 (IntKind.u64.wrap z / 1099511627776) 255) ≤ 255 := fun z => and255 _ (by rw [wrapU64]; omega) (by rw [wrapU64]; omega)
  unfold spec_l1Cur_next.f
  by_cases c1 : a < (c.length : Int)
  · have r := rd_code hc h0 c1
    simp only [c1, h0, if_true, e]
    by_cases c2 : a + 1 ≤ (c.length : Int)
    · simp only [c2, if_true]
      refine ⟨_, rfl, ?_, ?_, a1⟩
      · show 0 ≤ wrap64 _
        rw [w64 (by omega) (by omega)]; exact r.1
      · show wrap64 _ ≤ 255
        rw [w64 (by omega) (by omega)]; exact r.2
    · simp only [c2, if_false]
      exact ⟨_, rfl, (u _).1, (u _).2, a1⟩
  · simp only [c1, if_false, e]
    by_cases c2 : a + 1 ≤ (c.length : Int)
    · simp only [c2, if_true]
      exact ⟨_, rfl, by show (0 : Int) ≤ 0; omega, by show (0 : Int) ≤ 255; omega, a1⟩
    · simp only [c2, if_false]
      exact ⟨_, rfl, (u _).1, (u _).2, a1⟩

theorem spec_l1Cur_pick_x {c : List Int} (hc : Bts c) (a s b n : Int) (ha : At a b) (hb : b ≤ 1073741824) : Ex (fun _ => spec_l1Cur_pick.f c a s n) (fun r => 0 ≤ r.1 ∧ (1 ≤ n → r.1 < n) ∧ At r.2.1 (b + 2)) := by
  have h0 := ha.1
  have h1 := ha.2
  unfold spec_l1Cur_pick.f
  by_cases c1 : n ≤ 1
  · simp only [c1, if_true]
    exact Ex.now ⟨by show (0 : Int) ≤ 0; omega, fun h => by show (0 : Int) < n; omega, by omega, by show a ≤ b + 2; omega⟩
  · simp only [c1, if_false]
    obtain ⟨r, hr, r0, r1, r2⟩ := spec_l1Cur_next_x hc a s b ha (by omega)
    rw [hr]
    simp only [Option.bind_some]
    have n0 : ¬ n = 0 := by omega
    by_cases c2 : n > 200
    · simp only [c2, if_true]
      obtain ⟨q, hq, q0, q1, q2⟩ := spec_l1Cur_next_x hc r.2.1 r.2.2 (b + 1) r2 (by omega)
      rw [hq]
      simp only [Option.bind_some, n0, if_false]
      have e : wrap64 (wrap64 (r.1 * 256) + q.1) = r.1 * 256 + q.1 := by rw [w64 (x := r.1 * 256) (by omega) (by omega), w64 (by omega) (by omega)]
      rw [e]
      refine Ex.now ⟨Int.tmod_nonneg _ (by omega), fun _ => Int.tmod_lt_of_pos _ (by omega), q2.1, ?_⟩
      have := q2.2
      show q.2.1 ≤ b + 2
      omega
    · simp only [c2, if_false, n0]
      refine Ex.now ⟨Int.tmod_nonneg _ (by omega), fun _ => Int.tmod_lt_of_pos _ (by omega), r2.1, ?_⟩
      have := r2.2
      show r.2.1 ≤ b + 2
      omega

theorem spec_l1Cur_one_x {c : List Int} (hc : Bts c) (a s b n : Int) (ha : At a b) (hb : b ≤ 1073741824) : Ex (fun _ => spec_l1Cur_one.f c a s n) (fun r => At r.2.1 (b + 2)) := by
  unfold spec_l1Cur_one.f
  refine Ex.bind (spec_l1Cur_pick_x hc a s b n ha hb) fun r hr => ?_
  exact Ex.now hr.2.2

theorem spec_l1Cur_among_x {c : List Int} (hc : Bts c) (a s b : Int) (l : List Int) (hl : 1 ≤ l.length) (ha : At a b) (hb : b ≤ 1073741824) : Ex (fun _ => spec_l1Cur_among.f c a s l) (fun r => r.1 ∈ l ∧ At r.2.1 (b + 2)) := by
  unfold spec_l1Cur_among.f
  refine Ex.bind (spec_l1Cur_pick_x hc a s b _ ha hb) fun r hr => ?_
  have h0 := hr.1
  have h1 := hr.2.1 (by omega)
  simp only [h0, h1, if_true]
  refine Ex.now ⟨?_, hr.2.2⟩
  have hi : r.1.toNat < l.length := by omega
  show rd l r.1 ∈ l
  unfold rd
  rw [List.getD_eq_getElem?_getD, List.getElem?_eq_getElem hi, Option.getD_some]
  exact List.getElem_mem hi

theorem spec_l1Cur_list_l {c : List Int} (hc : Bts c) (m : Int) : ∀ (n : Nat) (x : List Int) (a s b : Int), At a b → b + 2 * n ≤ 1073741824 → x.length + n ≤ 1048576 → Ex (fun k => spec_l1Cur_list.l0 k m x (n : Int) c a s) (fun r => r.1.length = x.length + n ∧ At r.2.1 (b + 2 * n))
  | 0, x, a, s, b, ha, hb, hx => by
    refine Ex.succ ?_
    simp only [spec_l1Cur_list.l0, show ¬ (((0 : Nat) : Int) > 0) by omega, if_false]
    exact Ex.now ⟨rfl, by simpa using ha⟩
  | n + 1, x, a, s, b, ha, hb, hx => by
    refine Ex.succ ?_
    simp only [spec_l1Cur_list.l0, show (((n + 1 : Nat) : Int) > 0) by omega, if_true]
    refine Ex.bind (spec_l1Cur_pick_x hc a s b _ ha (by omega)) fun r hr => ?_
    have hl : x.length < 17592186044416 := by omega
    simp only [hl, if_true, w64 (x := ((n + 1 : Nat) : Int) - 1) (by omega) (by omega)]
    rw [show ((n + 1 : Nat) : Int) - 1 = (n : Int) by omega]
    refine (spec_l1Cur_list_l hc m n (x ++ [r.1]) r.2.1 r.2.2 (b + 2) hr.2.2 (by omega) (by rw [List.length_append, List.length_singleton]; omega)).mono fun q hq => ?_
    rw [List.length_append, List.length_singleton] at hq
    exact ⟨by omega, hq.2.1, by have := hq.2.2; omega⟩
theorem spec_l1Cur_list_x {c : List Int} (hc : Bts c) (a s b m : Int) (ha : At a b) (hb : b ≤ 536870912) : Ex (fun k => spec_l1Cur_list.f k c a s m) (fun r => 1 ≤ r.1.length ∧ r.1.length ≤ 6 ∧ At r.2.1 (b + 14)) := by
  simp only [spec_l1Cur_list.f]
  refine Ex.bind (spec_l1Cur_pick_x hc a s b 6 ha (by omega)) fun r hr => ?_
  have h0 := hr.1
  have h1 := hr.2.1 (by omega)
  obtain ⟨n, hn⟩ := Int.eq_ofNat_of_zero_le h0
  rw [w64 (by omega) (by omega), show 1 + r.1 = ((n + 1 : Nat) : Int) by omega]
  refine (spec_l1Cur_list_l hc m (n + 1) [] r.2.1 r.2.2 (b + 2) hr.2.2 (by omega) (by simp; omega)).mono fun q hq => ?_
  rw [List.length_nil] at hq
  exact ⟨by omega, by omega, hq.2.1, by have := hq.2.2; omega⟩

theorem spec_l1Cur_anyList_l {c : List Int} (hc : Bts c) : ∀ (d : Nat) (x : List Int) (a s b : Int), x.length + d = 10 → At a b → b + 4 * d + 4 ≤ 1073741824 → Ex (fun k => spec_l1Cur_anyList.l0 k x c a s) (fun r => r.1.length ≤ 10 ∧ At r.2.1 (b + 4 * d + 4))
  | 0, x, a, s, b, hx, ha, hb => by
    refine Ex.succ ?_
    simp only [spec_l1Cur_anyList.l0]
    refine Ex.bind (spec_l1Cur_pick_x hc a s b 2 ha (by omega)) fun r hr => ?_
    have h0 := hr.1
    have h1 := hr.2.1 (by omega)
    have c1 : ¬ ((x.length : Int) < wrap64 (8 + r.1)) := by rw [w64 (by omega) (by omega)]; omega
    simp only [c1, if_false]
    exact Ex.now ⟨by show x.length ≤ 10; omega, hr.2.2.1, by have := hr.2.2.2; show r.2.1 ≤ _; omega⟩
  | d + 1, x, a, s, b, hx, ha, hb => by
    refine Ex.succ ?_
    simp only [spec_l1Cur_anyList.l0]
    refine Ex.bind (spec_l1Cur_pick_x hc a s b 2 ha (by omega)) fun r hr => ?_
    by_cases c1 : (x.length : Int) < wrap64 (8 + r.1)
    · simp only [c1, if_true]
      refine Ex.bind (spec_l1Cur_pick_x hc _ _ (b + 2) 9 hr.2.2 (by omega)) fun q hq => ?_
      have hl : x.length < 17592186044416 := by omega
      simp only [hl, if_true]
      refine (spec_l1Cur_anyList_l hc d (x ++ [q.1]) _ _ (b + 2 + 2) (by rw [List.length_append, List.length_singleton]; omega) hq.2.2 (by omega)).mono fun z hz => ?_
      exact ⟨hz.1, hz.2.1, by have := hz.2.2; omega⟩
    · simp only [c1, if_false]
      exact Ex.now ⟨by show x.length ≤ 10; omega, hr.2.2.1, by have := hr.2.2.2; show r.2.1 ≤ _; omega⟩
theorem spec_l1Cur_anyList_x {c : List Int} (hc : Bts c) (a s b m : Int) (ha : At a b) (hb : b ≤ 268435456) : Ex (fun k => spec_l1Cur_anyList.f k c a s m) (fun r => r.1.length ≤ 10 ∧ At r.2.1 (b + 64)) := by
  simp only [spec_l1Cur_anyList.f]
  refine Ex.bind (spec_l1Cur_list_x hc a s b m ha (by omega)) fun r hr => ?_
  refine Ex.bind (spec_l1Cur_pick_x hc _ _ (b + 14) 14 hr.2.2 (by omega)) fun q hq => ?_
  have q2 := hq.2.2.2
  by_cases c1 : q.1 = 0
  · simp only [c1, if_true]
    refine Ex.bind (spec_l1Cur_among_x hc _ _ (b + 14 + 2) _ (by simp) hq.2.2 (by omega)) fun z hz => ?_
    have hl : r.1.length < 17592186044416 := by omega
    simp only [hl, if_true]
    exact Ex.now ⟨by show (r.1 ++ [z.1]).length ≤ 10; rw [List.length_append, List.length_singleton]; omega, hz.2.1, by have := hz.2.2; show z.2.1 ≤ _; omega⟩
  · simp only [c1, if_false]
    by_cases c2 : q.1 = 1
    · simp only [c2, if_true]
      refine (spec_l1Cur_anyList_l hc (10 - r.1.length) r.1 _ _ (b + 14 + 2) (by omega) hq.2.2 (by omega)).mono fun z hz => ?_
      exact ⟨hz.1, hz.2.1, by have := hz.2.2; omega⟩
    · simp only [c2, if_false]
      by_cases c3 : q.1 = 2
      · simp only [c3, if_true]
        exact Ex.now ⟨by show ([] : List Int).length ≤ 10; simp, hq.2.2.1, by show q.2.1 ≤ _; omega⟩
      · simp only [c3, if_false]
        exact Ex.now ⟨by show r.1.length ≤ 10; omega, hq.2.2.1, by show q.2.1 ≤ _; omega⟩

theorem spec_l1Own_e (l : List Int) (hl : l.length < 17592186044416) : spec_l1Own.f l = some l := by
  simp only [spec_l1Own.f, Option.bind_some, List.nil_append, List.length_nil, Nat.zero_add, hl, if_true]

theorem spec_l1Cur_fitting_l {c : List Int} (hc : Bts c) (x : List Int) (hx : x.length ≤ 10) : ∀ (n : Nat) (y : List Int) (a s b : Int), y.length ≤ 10 → At a b → b + 8 * n + 8 ≤ 1073741824 → Ex (fun k => spec_l1Cur_fitting.l0 k x y (n : Int) c a s) (fun r => r.1.length ≤ 10 ∧ r.2.1.length ≤ 10 ∧ At r.2.2.1 (b + 8 * n + 8))
  | n, y, a, s, b, hy, ha, hb => by
    have hb0 := ha.1
    have hb1 := ha.2
    have off : Ex (fun k => spec_l1Cur_fitting.j1 k x y (n : Int) false c a s) (fun r => r.1.length ≤ 10 ∧ r.2.1.length ≤ 10 ∧ At r.2.2.1 (b + 8 * n + 8)) := by
      refine Ex.succ ?_
      simp only [spec_l1Cur_fitting.j1, Bool.false_eq_true, if_false]
      refine Ex.bind (spec_l1Cur_one_x hc a s b 5 ha (by omega)) fun r hr => ?_
      have h2 := hr.2
      by_cases c1 : r.1 = true
      · simp only [c1, if_true]
        exact Ex.now ⟨hx, hy, hr.1, by show r.2.1 ≤ _; omega⟩
      · simp only [c1, if_false]
        exact Ex.now ⟨hy, hx, hr.1, by show r.2.1 ≤ _; omega⟩
    refine Ex.succ ?_
    simp only [spec_l1Cur_fitting.l0]
    by_cases c0 : (n : Int) > 0
    · simp only [c0, if_true]
      by_cases c1 : (y.length : Int) > 1
      · simp only [c1, decide_true]
        obtain ⟨m, rfl⟩ : ∃ m, n = m + 1 := ⟨n - 1, by omega⟩
        have ew : wrap64 (((m + 1 : Nat) : Int) - 1) = (m : Int) := by rw [w64 (by omega) (by omega)]; omega
        refine Ex.succ ?_
        simp only [spec_l1Cur_fitting.j1, if_true, ew]
        refine Ex.bind (spec_l1Cur_pick_x hc a s b _ ha (by omega)) fun r hr => ?_
        refine Ex.bind (spec_l1Cur_pick_x hc _ _ (b + 2) _ hr.2.2 (by omega)) fun q hq => ?_
        have r0 := hr.1
        have r1 := hr.2.1 (by omega)
        have q0 := hq.1
        have q1 := hq.2.1 (by omega)
        simp only [r0, r1, q0, q1, if_true]
        have go : ∀ (z : List Int) (a' s' b' : Int), z.length = y.length → At a' b' → b' ≤ b + 8 → Ex (fun k => spec_l1Cur_fitting.l0 k x z (m : Int) c a' s') (fun r => r.1.length ≤ 10 ∧ r.2.1.length ≤ 10 ∧ At r.2.2.1 (b + 8 * ((m + 1 : Nat) : Int) + 8)) := by
          intro z a' s' b' hz ha' hb'
          refine (spec_l1Cur_fitting_l hc x hx m z a' s' b' (by omega) ha' (by omega)).mono fun t ht => ⟨ht.1, ht.2.1, ht.2.2.1, by have := ht.2.2.2; omega⟩
        by_cases c2 : rd y r.1 > 0
        · simp only [c2, if_true]
          by_cases c3 : rd y r.1 > rd y q.1
          · simp only [c3, if_true, Option.bind_some]
            exact go _ _ _ _ (by simp) hq.2.2 (by omega)
          · simp only [c3, if_false]
            refine Ex.bind (spec_l1Cur_one_x hc _ _ (b + 2 + 2) 4 hq.2.2 (by omega)) fun t ht => ?_
            by_cases c4 : t.1 = true
            · simp only [c4, if_true, Option.bind_some]
              exact go _ _ _ _ (by simp) ht (by omega)
            · simp only [c4, if_false]
              exact go _ _ _ _ rfl ht (by omega)
        · simp only [c2, if_false]
          exact go _ _ _ _ rfl hq.2.2 (by omega)
      · simp only [c1, decide_false]
        exact off
    · simp only [c0, if_false]
      exact off
theorem spec_l1Cur_fitting_x {c : List Int} (hc : Bts c) (a s b m : Int) (ha : At a b) (hb : b ≤ 134217728) : Ex (fun k => spec_l1Cur_fitting.f k c a s m) (fun r => r.1.length ≤ 10 ∧ r.2.1.length ≤ 10 ∧ At r.2.2.1 (b + 256)) := by
  simp only [spec_l1Cur_fitting.f]
  refine Ex.bind (spec_l1Cur_anyList_x hc a s b m ha (by omega)) fun r hr => ?_
  refine Ex.bind (spec_l1Cur_one_x hc _ _ (b + 64) 5 hr.2 (by omega)) fun q hq => ?_
  by_cases c1 : q.1 = true
  · simp only [c1, if_true]
    refine Ex.bind (spec_l1Cur_anyList_x hc _ _ (b + 64 + 2) m hq (by omega)) fun z hz => ?_
    exact Ex.now ⟨hz.1, hr.1, hz.2.1, by have := hz.2.2; show z.2.1 ≤ _; omega⟩
  · simp only [c1, if_false, spec_l1Own_e r.1 (by omega), Option.bind_some]
    refine Ex.bind (spec_l1Cur_pick_x hc _ _ (b + 64 + 2) 12 hq (by omega)) fun z hz => ?_
    have z0 := hz.1
    have z1 := hz.2.1 (by omega)
    obtain ⟨n, hn⟩ := Int.eq_ofNat_of_zero_le z0
    rw [hn] at z1 ⊢
    refine (spec_l1Cur_fitting_l hc r.1 hr.1 n r.1 _ _ (b + 64 + 2 + 2) hr.1 hz.2.2 (by omega)).mono fun t ht => ⟨ht.1, ht.2.1, ht.2.2.1, by have := ht.2.2.2; omega⟩

theorem spec_DrawIsWeaklyBelow_x {c : List Int} (hc : Bts c) : Ex (fun k => spec_DrawIsWeaklyBelow.f k c) (fun r => r.1.length ≤ 10 ∧ r.2.length ≤ 10) := by
  simp only [spec_DrawIsWeaklyBelow.f]
  refine Ex.bind (spec_l1Cur_fitting_x hc 0 0 0 9 ⟨by omega, by omega⟩ (by omega)) fun r hr => ?_
  have h3 := hr.2.2.2
  by_cases c1 : (r.1.length : Int) > 0
  · simp only [c1, if_true]
    refine Ex.bind (spec_l1Cur_one_x hc _ _ (0 + 256) 2 hr.2.2 (by omega)) fun q hq => ?_
    refine Ex.succ ?_
    simp only [spec_DrawIsWeaklyBelow.j0]
    by_cases c2 : q.1 = true
    · simp only [c2, if_true]
      refine Ex.bind (spec_l1Cur_pick_x hc _ _ (0 + 256 + 2) _ hq (by omega)) fun z hz => ?_
      refine Ex.bind (spec_l1Cur_pick_x hc _ _ (0 + 256 + 2 + 2) 6 hz.2.2 (by omega)) fun y hy => ?_
      have z0 := hz.1
      have z1 := hz.2.1 (by omega)
      simp only [z0, z1, if_true]
      exact Ex.now ⟨by show (r.1.set _ _).length ≤ 10; rw [List.length_set]; exact hr.1, hr.2.1⟩
    · simp only [c2, if_false]
      exact Ex.now ⟨hr.1, hr.2.1⟩
  · simp only [c1, if_false]
    refine Ex.succ ?_
    simp only [spec_DrawIsWeaklyBelow.j0, Bool.false_eq_true, if_false]
    exact Ex.now ⟨hr.1, hr.2.1⟩

theorem impl_within_e (a b c : Int) : impl_within.f a b c = some (wth a b c) := wth_opt a b c

theorem impl_allWithin_l (l : List Int) (lo hi : Int) (hl : l.length ≤ 4611686018427387904) : ∀ i, i ≤ l.length → Ev (fun k => impl_allWithin.l0 k lo hi l (l.length : Int) (i : Int)) (allW (l.drop i) lo hi) := by
  refine down ?_ ?_
  · refine Ev.succ ?_
    simp only [impl_allWithin.l0, nlt (Nat.le_refl l.length), if_false, List.drop_length]
    exact Ev.now _
  · intro i hi ih
    refine Ev.succ ?_
    simp only [impl_allWithin.l0, ilt hi, inn, if_true, impl_within_e, Option.bind_some, rd_lt hi, wnext hi hl]
    rw [drop_cons hi]
    exact Ev.andS fun _ => ih
theorem impl_allWithin_ev (l : List Int) (lo hi : Int) (hl : l.length ≤ 4611686018427387904) : Ev (fun k => impl_allWithin.f k l lo hi) (allW l lo hi) := by
  have := impl_allWithin_l l lo hi hl 0 (Nat.zero_le _)
  simpa only [impl_allWithin.f, List.drop_zero, Int.natCast_zero] using this

theorem impl_IsList_ev (l : List Int) (hl : l.length ≤ 4611686018427387904) : Ev (fun k => impl_IsList.f k l) (goodB l) := by
  simp only [impl_IsList.f, impl_within_e, Option.bind_some, goodB]
  exact Ev.andS fun _ => Ev.ret (f := fun t => t) (impl_allWithin_ev l 0 60 hl)

theorem impl_areLists_ev (a b : List Int) (ha : a.length ≤ 1048576) (hb : b.length ≤ 1048576) : Ev (fun k => impl_areLists.f k a b) (goodB a && goodB b) := by
  simp only [impl_areLists.f]
  exact Ev.and (impl_IsList_ev a (by omega)) fun h => Ev.ret (f := fun t => t) (impl_IsList_ev b (by omega))

theorem slices_Clone_int_int_e (l : List Int) (hl : l.length < 17592186044416) : slices_Clone_int_int.f l = some l := by
  simp only [slices_Clone_int_int.f, Option.bind_some, List.nil_append, List.length_nil, Nat.zero_add, hl, if_true]

theorem impl_ranking_1_e (x y : Int) : impl_ranking_1.f x y = some (wrap64 (y - x)) := rfl

def Bnd (l : List Int) : Prop := ∀ x ∈ l, -1000000 ≤ x ∧ x ≤ 1000000
theorem slices_insertionSortCmpFunc_int_l1 (x : Int) (hx : -1000000 ≤ x ∧ x ≤ 1000000) (R : List Int) (n i : Nat) (v : List Int) : ∀ (m : Nat) (P Q : List Int), P.length = m → m ≤ 1048576 → Bnd P → Desc (P ++ Q) → (∀ y ∈ Q, y < x) →
    Ev (fun k => slices_insertionSortCmpFunc_int.l0 k (insD x (P ++ Q) ++ R) 0 (n : Int) (wrap64 ((i : Int) + 1))) v → Ev (fun k => slices_insertionSortCmpFunc_int.l1 k (P ++ x :: (Q ++ R)) 0 (n : Int) (i : Int) (m : Int)) v
  | 0, P, Q, hP, _, _, _, hQ, hv => by
    have e : P = [] := List.eq_nil_of_length_eq_zero hP
    subst e
    refine Ev.succ ?_
    have c : ¬ ((0 : Nat) : Int) > 0 := by omega
    rw [insD_split x [] Q (fun y hy => absurd hy List.not_mem_nil) hQ] at hv
    simp only [slices_insertionSortCmpFunc_int.l1, c, if_false]
    exact hv
  | m + 1, P, Q, hP, hm, hb, hd, hQ, hv => by
    have hne : P ≠ [] := fun e => by rw [e] at hP; simp at hP
    have ep : P = P.dropLast ++ [P.getLast hne] := (List.dropLast_concat_getLast hne).symm
    generalize hP' : P.dropLast = P' at ep
    generalize hp : P.getLast hne = p at ep
    have hpb := hb p (by rw [ep]; simp)
    clear hP' hp
    subst ep
    have hl : P'.length = m := by rw [List.length_append, List.length_singleton] at hP; omega
    refine Ev.succ ?_
    have c : ((m + 1 : Nat) : Int) > 0 := by omega
    have c1 : m < ((P' ++ [p]) ++ x :: (Q ++ R)).length := by rw [List.length_append, hP, List.length_cons]; omega
    have c2 : m + 1 < ((P' ++ [p]) ++ x :: (Q ++ R)).length := by rw [List.length_append, hP, List.length_cons]; omega
    have r1 : rd ((P' ++ [p]) ++ x :: (Q ++ R)) ((m + 1 : Nat) : Int) = x := rd_mid _ _ _ _ hP
    have r2 : rd ((P' ++ [p]) ++ x :: (Q ++ R)) (m : Int) = p := by rw [List.append_assoc]; exact rd_mid _ _ _ _ hl
    simp only [slices_insertionSortCmpFunc_int.l1, eq_true c, inn, ilt c1, ilt c2, if_true, wprev (by omega : m ≤ 4611686018427387904), r1, r2, impl_ranking_1_e, Option.bind_some, Int.toNat_natCast, w64 (x := p - x) (by omega) (by omega)]
    by_cases d : p - x < 0
    · simp only [eq_true d, if_true]
      have e1 : ((((P' ++ [p]) ++ x :: (Q ++ R)).set (m + 1) p).set m x) = P' ++ x :: ((p :: Q) ++ R) := by
        rw [set_mid _ _ _ _ _ hP, List.append_assoc, List.singleton_append, set_mid _ _ _ _ _ hl, List.cons_append]
      rw [e1]
      refine slices_insertionSortCmpFunc_int_l1 x hx R n i v m P' (p :: Q) hl (by omega) (fun y hy => hb y (List.mem_append_left _ hy)) (by rw [List.append_assoc, List.singleton_append] at hd; exact hd) (fun y hy => ?_) ?_
      · rcases List.mem_cons.1 hy with e | e
        · omega
        · exact hQ y e
      · rw [List.append_assoc, List.singleton_append] at hv
        exact hv
    · simp only [eq_false d, if_false]
      rw [insD_split x (P' ++ [p]) Q (fun y hy => ?_) hQ, List.append_assoc, List.cons_append] at hv
      · exact hv
      · rcases List.mem_append.1 hy with e | e
        · have := desc_split ((List.pairwise_append.1 hd).1) e (List.mem_singleton.2 rfl); omega
        · have := List.mem_singleton.1 e; omega
theorem slices_insertionSortCmpFunc_int_l0 (l : List Int) (hl : l.length ≤ 1048576) (hb : Bnd l) : ∀ i, i ≤ l.length → ∀ S : List Int, S.length = i → Bnd S → Desc S →
    Ev (fun k => slices_insertionSortCmpFunc_int.l0 k (S ++ l.drop i) 0 (l.length : Int) (i : Int)) (rankFrom S (l.drop i)) := by
  refine down ?_ ?_
  · intro S hS hB hD
    refine Ev.succ ?_
    simp only [slices_insertionSortCmpFunc_int.l0, nlt (Nat.le_refl l.length), if_false, List.drop_length, List.append_nil]
    exact Ev.now _
  · intro i hi ih S hS hB hD
    have hx := hb _ (List.getElem_mem hi)
    refine Ev.succ ?_
    simp only [slices_insertionSortCmpFunc_int.l0, ilt hi, if_true]
    rw [drop_cons hi]
    refine slices_insertionSortCmpFunc_int_l1 l[i] hx (l.drop (i + 1)) l.length i _ i S [] hS (by omega) hB (by rw [List.append_nil]; exact hD) (fun y hy => absurd hy List.not_mem_nil) ?_
    rw [List.append_nil, wnext hi (by omega)]
    refine ih (insD l[i] S) (by rw [insD_length, hS]) (fun y hy => ?_) (insD_desc _ _ hD)
    rcases List.mem_cons.1 ((insD_perm l[i] S).mem_iff.1 hy) with e | e
    · rw [e]; exact hx
    · exact hB y e
theorem slices_insertionSortCmpFunc_int_ev (l : List Int) (h0 : 0 < l.length) (hl : l.length ≤ 1048576) (hb : Bnd l) (a : Int) : Ev (fun k => slices_insertionSortCmpFunc_int.f k l 0 (l.length : Int) a) (rankD l) := by
  cases l with
  | nil => exact absurd h0 (by simp)
  | cons x t =>
    have := slices_insertionSortCmpFunc_int_l0 (x :: t) hl hb 1 (by rw [List.length_cons]; omega) [x] rfl (fun y hy => hb y (by rw [List.mem_singleton.1 hy]; exact List.mem_cons_self ..)) (List.pairwise_singleton _ _)
    have e : wrap64 (0 + 1) = ((1 : Nat) : Int) := by rw [w64 (by omega) (by omega)]; rfl
    simp only [slices_insertionSortCmpFunc_int.f, e]
    exact this

theorem slices_pdqsortCmpFunc_int_ev (l : List Int) (h0 : 0 < l.length) (hl : l.length ≤ 12) (hb : Bnd l) (a b : Int) : Ev (fun k => slices_pdqsortCmpFunc_int.f k l 0 (l.length : Int) a b) (rankD l) := by
  refine Ev.succ ?_
  simp only [slices_pdqsortCmpFunc_int.f]
  refine Ev.succ ?_
  simp only [slices_pdqsortCmpFunc_int.l0, Int.sub_zero, w64 (by omega : -9223372036854775808 ≤ (l.length : Int)) (by omega), eq_true (by omega : (l.length : Int) ≤ 12), if_true]
  exact Ev.ret (f := fun t => t) (slices_insertionSortCmpFunc_int_ev l h0 (by omega) hb b)

theorem bits_Len_e (n : Nat) (h : n ≤ 8) : ∃ r, bits_Len.f (IntKind.u64.wrap (n : Int)) = some r := by
  unfold bits_Len.f
  rw [IntKind.wrap_u64, if_pos (by omega)]
  exact ⟨_, rfl⟩

theorem slices_SortFunc_int_int_ev (l : List Int) (h0 : 0 < l.length) (hl : l.length ≤ 8) (hb : Bnd l) (a : Int) : Ev (fun k => slices_SortFunc_int_int.f k l a) (rankD l) := by
  obtain ⟨q, hq⟩ := bits_Len_e l.length hl
  simp only [slices_SortFunc_int_int.f, hq, Option.bind_some]
  exact Ev.ret (f := fun t => t) (slices_pdqsortCmpFunc_int_ev l h0 (by omega) hb q a)

theorem impl_ranking_ev {l : List Int} (h : Lst l) : Ev (fun k => impl_ranking.f k l) (rankD l) := by
  have h1 := h.1
  have h2 := h.2.1
  simp only [impl_ranking.f, slices_Clone_int_int_e l (by omega), Option.bind_some]
  exact Ev.ret (f := fun t => t) (slices_SortFunc_int_int_ev l (by omega) h2 (fun x hx => by have := h.2.2 x hx; omega) 0)

theorem impl_partial_l (l : List Int) (hl : l.length ≤ 8) (hb : ∀ x ∈ l, 0 ≤ x ∧ x ≤ 60) : ∀ i, i ≤ l.length → ∀ (out : List Int) (s : Int), out.length = i → 0 ≤ s ∧ s ≤ 60 * i → Ev (fun k => impl_partial.l0 k out s l (l.length : Int) (i : Int)) (out ++ psums s (l.drop i)) := by
  refine down ?_ ?_
  · intro out s ho hs
    refine Ev.succ ?_
    simp only [impl_partial.l0, nlt (Nat.le_refl l.length), if_false, List.drop_length, psums, List.append_nil]
    exact Ev.now _
  · intro i hi ih out s ho hs
    have b := hb _ (List.getElem_mem hi)
    have c : out.length < 17592186044416 := by omega
    refine Ev.succ ?_
    simp only [impl_partial.l0, ilt hi, inn, if_true, rd_lt hi, c, w64 (x := s + l[i]) (by omega) (by omega), wnext hi (by omega : l.length ≤ 4611686018427387904)]
    rw [drop_cons hi, psums]
    exact (ih (out ++ [s + l[i]]) (s + l[i]) (by simp [ho]) (by omega)).eqv (by simp)
theorem impl_partial_ev {l : List Int} (h : Lst l) : Ev (fun k => impl_partial.f k l) (partOf l) := by
  have hr := rankD_lst h
  simp only [impl_partial.f]
  refine Ev.bind (impl_ranking_ev h) ?_
  have := impl_partial_l (rankD l) hr.2.1 hr.2.2 0 (Nat.zero_le _) [] 0 rfl (by omega)
  rw [List.drop_zero, List.nil_append] at this
  exact this

theorem impl_refused_l (p q : List Int) (hp : p.length ≤ 1048576) (hq : p.length ≤ q.length) : ∀ i, i ≤ p.length → Ev (fun k => impl_refused.l0 k q p (p.length : Int) (i : Int)) (refGo i (p.drop i) (q.drop i)) := by
  refine down ?_ ?_
  · refine Ev.succ ?_
    simp only [impl_refused.l0, nlt (Nat.le_refl p.length), if_false, List.drop_length, refGo]
    exact Ev.now _
  · intro i hi ih
    have h2 : i < q.length := by omega
    refine Ev.succ ?_
    simp only [impl_refused.l0, ilt hi, ilt h2, inn, if_true, rd_lt hi, rd_lt h2, wnext hi (by omega : p.length ≤ 4611686018427387904)]
    rw [drop_cons hi, drop_cons h2, refGo]
    by_cases c : p[i] > q[i]
    · simp only [c, if_true]; exact Ev.now _
    · simp only [c, if_false]; exact ih
theorem impl_refused_ev {a b : List Int} (ha : Lst a) (hb : Lst b) (hl : a.length = b.length) : Ev (fun k => impl_refused.f k a b) (refGo 0 (partOf a) (partOf b)) := by
  have h2 := ha.2.1
  simp only [impl_refused.f]
  refine Ev.bind (impl_partial_ev hb) ?_
  refine Ev.bind (impl_partial_ev ha) ?_
  exact impl_refused_l (partOf a) (partOf b) (by rw [partOf_length]; omega) (by rw [partOf_length, partOf_length]; omega) 0 (Nat.zero_le _)

theorem impl_IsWeaklyBelow_ev (a b : List Int) (ha : a.length ≤ 1048576) (hb : b.length ≤ 1048576) : Ev (fun k => impl_IsWeaklyBelow.f k a b) (if goodB a && goodB b then (decide (a.length = b.length) && subB a b, true) else (false, false)) := by
  simp only [impl_IsWeaklyBelow.f]
  refine Ev.bind (impl_areLists_ev a b ha hb) ?_
  cases h : goodB a && goodB b with
  | false => simp only [Bool.false_eq_true, if_false]; exact Ev.now _
  | true =>
    simp only [if_true]
    rw [Bool.and_eq_true, goodB_iff, goodB_iff] at h
    by_cases e : a.length = b.length
    · have e2 : (a.length : Int) = (b.length : Int) := by omega
      simp only [e2, if_true, e, decide_true, Bool.true_and]
      exact (Ev.ret (f := fun t => (t == 0, true)) (impl_refused_ev h.1 h.2 e)).eqv (by rw [refGo_zero]; rfl)
    · have e2 : ¬ (a.length : Int) = (b.length : Int) := by omega
      simp only [e2, if_false, e, decide_false, Bool.false_and]
      exact Ev.now _

theorem spec_l1In_e (a b c : Int) : spec_l1In.f a b c = some (wth a b c) := wth_opt a b c

theorem spec_l1All_l (l : List Int) (lo hi : Int) (hl : l.length ≤ 4611686018427387904) : ∀ i, i ≤ l.length → Ev (fun k => spec_l1All.l0 k lo hi l (l.length : Int) (i : Int)) (allW (l.drop i) lo hi) := by
  refine down ?_ ?_
  · refine Ev.succ ?_
    simp only [spec_l1All.l0, nlt (Nat.le_refl l.length), if_false, List.drop_length]
    exact Ev.now _
  · intro i hi ih
    refine Ev.succ ?_
    simp only [spec_l1All.l0, ilt hi, inn, if_true, spec_l1In_e, Option.bind_some, rd_lt hi, wnext hi hl]
    rw [drop_cons hi]
    exact Ev.andS fun _ => ih
theorem spec_l1All_ev (l : List Int) (lo hi : Int) (hl : l.length ≤ 4611686018427387904) : Ev (fun k => spec_l1All.f k l lo hi) (allW l lo hi) := by
  have := spec_l1All_l l lo hi hl 0 (Nat.zero_le _)
  simpa only [spec_l1All.f, List.drop_zero, Int.natCast_zero] using this

theorem spec_liGood_ev (l : List Int) (hl : l.length ≤ 4611686018427387904) : Ev (fun k => spec_liGood.f k l) (goodB l) := by
  simp only [spec_liGood.f, spec_l1In_e, Option.bind_some, goodB]
  exact Ev.andS fun _ => Ev.ret (f := fun t => t) (spec_l1All_ev l 0 60 hl)

theorem spec_liRank_l1 (l : List Int) (x : Int) (i : Nat) (r : List Int) (hr : r.length ≤ 1048576) (hl : l.length ≤ 1048576) (hi : i < l.length) (v : List Int)
    (ih : Ev (fun k => spec_liRank.l0 k (insD x r) l (l.length : Int) ((i + 1 : Nat) : Int)) v) : ∀ p, p ≤ r.length → insD x r = r.take p ++ insD x (r.drop p) → Ev (fun k => spec_liRank.l1 k r x (p : Int) l (l.length : Int) (i : Int)) v := by
  refine down ?_ ?_
  · intro e
    rw [List.take_length, List.drop_length] at e
    refine Ev.succ ?_
    have e2 : (r ++ [x]).length < 17592186044416 := by rw [List.length_append, List.length_singleton]; omega
    have e3 : r.length + 1 < 17592186044416 := by omega
    simp only [spec_liRank.l1, nlt (Nat.le_refl r.length), if_false, inn, ile (Nat.le_refl r.length), if_true, Int.toNat_natCast, List.take_length, List.drop_length, spec_l1Own_e r (by omega), Option.bind_some, List.length_singleton, List.length_append, List.length_nil, Nat.add_zero, e3, List.append_nil, wnext hi (by omega : l.length ≤ 4611686018427387904)]
    have e' : insD x r = r ++ [x] := e
    rw [← e']; exact ih
  · intro p hp ihp e
    refine Ev.succ ?_
    have e1 : r.drop p = r[p] :: r.drop (p + 1) := drop_cons hp
    by_cases c : r[p] ≥ x
    · simp only [spec_liRank.l1, ilt hp, inn, if_true, rd_lt hp, c, wnext hp (by omega : r.length ≤ 4611686018427387904)]
      refine ihp ?_
      rw [e, e1]
      simp only [insD, c, if_true]
      rw [List.take_succ_eq_append_getElem hp, List.append_assoc, List.singleton_append]
    · have h1 : (r.take p).length = p := by rw [List.length_take]; omega
      have h2 : (r.drop p).length = r.length - p := List.length_drop
      have e2 : p + 1 < 17592186044416 := by omega
      have e3 : p + 1 + (r.length - p) < 17592186044416 := by omega
      simp only [spec_liRank.l1, ilt hp, ile (Nat.le_of_lt hp), inn, if_true, rd_lt hp, c, if_false, Int.toNat_natCast, spec_l1Own_e (r.take p) (by omega), Option.bind_some, List.length_singleton, List.length_append, h1, h2, e2, e3, wnext hi (by omega : l.length ≤ 4611686018427387904)]
      have e' : insD x r = r.take p ++ [x] ++ r.drop p := by
        rw [e, e1]
        simp only [insD, c, if_false]
        rw [List.append_assoc, List.singleton_append]
      rw [← e']; exact ih
theorem spec_liRank_l0 (l : List Int) (hl : l.length ≤ 1048576) : ∀ i, i ≤ l.length → ∀ r : List Int, r.length = i → Ev (fun k => spec_liRank.l0 k r l (l.length : Int) (i : Int)) (rankFrom r (l.drop i)) := by
  refine down ?_ ?_
  · intro r hr
    refine Ev.succ ?_
    simp only [spec_liRank.l0, nlt (Nat.le_refl l.length), if_false, List.drop_length]
    exact Ev.now _
  · intro i hi ih r hr
    refine Ev.succ ?_
    simp only [spec_liRank.l0, ilt hi, inn, if_true, rd_lt hi]
    rw [drop_cons hi]
    exact spec_liRank_l1 l l[i] i r (by omega) hl hi _ (ih (insD l[i] r) (by rw [insD_length, hr])) 0 (Nat.zero_le _) (by rw [List.take_zero, List.drop_zero, List.nil_append])
theorem spec_liRank_ev (l : List Int) (hl : l.length ≤ 1048576) : Ev (fun k => spec_liRank.f k l) (rankD l) := by
  have := spec_liRank_l0 l hl 0 (Nat.zero_le _) [] rfl
  rwa [List.drop_zero] at this

theorem spec_liSums_l (l : List Int) (hl : l.length ≤ 1048576) (hb : ∀ x ∈ l, 0 ≤ x ∧ x ≤ 60) : ∀ i, i ≤ l.length → ∀ (out : List Int) (s : Int), out.length = i → 0 ≤ s → s ≤ 60 * i → Ev (fun k => spec_liSums.l0 k out s l (l.length : Int) (i : Int)) (out ++ psums s (l.drop i)) := by
  refine down ?_ ?_
  · intro out s ho h0 h1
    refine Ev.succ ?_
    simp only [spec_liSums.l0, nlt (Nat.le_refl l.length), if_false, List.drop_length, psums, List.append_nil]
    exact Ev.now _
  · intro i hi ih out s ho h0 h1
    have b := hb _ (List.getElem_mem hi)
    have c : out.length < 17592186044416 := by omega
    refine Ev.succ ?_
    simp only [spec_liSums.l0, ilt hi, inn, if_true, rd_lt hi, wnext hi (by omega : l.length ≤ 4611686018427387904), c, w64 (x := s + l[i]) (by omega) (by omega)]
    rw [drop_cons hi, psums]
    exact (ih _ _ (by simp [ho]) (by omega) (by omega)).eqv (by simp)
theorem spec_liSums_ev (l : List Int) (hl : l.length ≤ 1048576) (hb : ∀ x ∈ l, 0 ≤ x ∧ x ≤ 60) : Ev (fun k => spec_liSums.f k l) (psums 0 l) := by
  have := spec_liSums_l l hl hb 0 (Nat.zero_le _) [] 0 rfl (by omega) (by omega)
  simpa only [spec_liSums.f, List.drop_zero, List.nil_append, Int.natCast_zero] using this

theorem spec_liPartial_ev {l : List Int} (h : Lst l) : Ev (fun k => spec_liPartial.f k l) (partOf l) := by
  have hl := h.2.1
  simp only [spec_liPartial.f]
  refine Ev.bind (spec_liRank_ev l (by omega)) ?_
  exact Ev.ret (f := fun t => t) (spec_liSums_ev (rankD l) (by rw [rankD_length]; omega) (rankD_lst h).2.2)

theorem spec_liOver_l (p q : List Int) (hp : p.length ≤ 1048576) (hq : p.length ≤ q.length) : ∀ i, i ≤ p.length → Ev (fun k => spec_liOver.l0 k p q (p.length : Int) (i : Int)) (refGo i (p.drop i) (q.drop i)) := by
  refine down ?_ ?_
  · refine Ev.succ ?_
    simp only [spec_liOver.l0, nlt (Nat.le_refl p.length), if_false, List.drop_length, refGo]
    exact Ev.now _
  · intro i hi ih
    have h2 : i < q.length := by omega
    refine Ev.succ ?_
    simp only [spec_liOver.l0, ilt hi, ilt h2, inn, if_true, rd_lt hi, rd_lt h2, wnext hi (by omega : p.length ≤ 4611686018427387904)]
    rw [drop_cons hi, drop_cons h2, refGo]
    by_cases c : p[i] > q[i]
    · simp only [c, if_true]; exact Ev.now _
    · simp only [c, if_false]; exact ih
theorem spec_liOver_ev {a b : List Int} (ha : Lst a) (hb : Lst b) (hl : a.length = b.length) : Ev (fun k => spec_liOver.f k a b) (refGo 0 (partOf a) (partOf b)) := by
  have h2 := ha.2.1
  simp only [spec_liOver.f]
  refine Ev.bind (spec_liPartial_ev ha) ?_
  refine Ev.bind (spec_liPartial_ev hb) ?_
  exact spec_liOver_l (partOf a) (partOf b) (by rw [partOf_length]; omega) (by rw [partOf_length, partOf_length]; omega) 0 (Nat.zero_le _)

theorem spec_IsWeaklyBelow_ev (a b : List Int) (ha : a.length ≤ 1048576) (hb : b.length ≤ 1048576) : Ev (fun k => spec_IsWeaklyBelow.f k a b) (if goodB a && goodB b then (decide (a.length = b.length) && subB a b, true) else (false, false)) := by
  simp only [spec_IsWeaklyBelow.f]
  refine Ev.bind (spec_liGood_ev a (by omega)) ?_
  cases h : goodB a with
  | false => simp only [Bool.false_and, Bool.false_eq_true, if_false]; exact Ev.now _
  | true =>
    simp only [if_true, Bool.true_and]
    refine Ev.bind (spec_liGood_ev b (by omega)) ?_
    cases h2 : goodB b with
    | false => simp only [Bool.false_eq_true, if_false]; exact Ev.now _
    | true =>
      simp only [if_true]
      by_cases e : a.length = b.length
      · have e2 : (a.length : Int) = (b.length : Int) := by omega
        simp only [e2, if_true, e, decide_true, Bool.true_and]
        exact (Ev.ret (f := fun t => (t == 0, true)) (spec_liOver_ev (goodB_iff.1 h) (goodB_iff.1 h2) e)).eqv (by rw [refGo_zero]; rfl)
      · have e2 : ¬ (a.length : Int) = (b.length : Int) := by omega
        simp only [e2, if_false, e, decide_false, Bool.false_and]
        exact Ev.now _

theorem impl_excess_l {l : List Int} (h : Lst l) (t : Nat) (ht : t ≤ 61) : ∀ i, i ≤ l.length → ∀ acc : Int, 0 ≤ acc → acc ≤ 60 * i → Ev (fun k => impl_excess.l0 k (t : Int) acc l (l.length : Int) (i : Int)) (acc + exc (l.drop i) t) := by
  have hn := h.2.1
  unfold exc
  refine down ?_ ?_
  · intro acc ha hb
    refine Ev.succ ?_
    simp only [impl_excess.l0, nlt (Nat.le_refl l.length), if_false, List.drop_length, List.map_nil, List.sum_nil, Int.add_zero]
    exact Ev.now _
  · intro i hi ih acc ha hb
    have b := h.get hi
    refine Ev.succ ?_
    simp only [impl_excess.l0, ilt hi, inn, if_true, rd_lt hi, wnext hi (by omega : l.length ≤ 4611686018427387904), mx_eq]
    rw [drop_cons hi, List.map_cons, List.sum_cons, ← Int.add_assoc, w64 (x := l[i] - t) (by omega) (by omega), w64 (x := acc + _) (by omega) (by omega)]
    exact ih _ (by omega) (by omega)
theorem impl_excess_ev {l : List Int} (h : Lst l) (t : Nat) (ht : t ≤ 61) : Ev (fun k => impl_excess.f k l (t : Int)) (exc l t) := by
  have := impl_excess_l h t ht 0 (Nat.zero_le _) 0 (by omega) (by omega)
  simpa only [impl_excess.f, List.drop_zero, Int.zero_add, Int.natCast_zero] using this

theorem impl_ExcessOver_ev (l : List Int) (t : Int) (hl : l.length ≤ 1048576) : Ev (fun k => impl_ExcessOver.f k l t) (if goodB l && wth t 0 60 then (exc l t, true) else (0, false)) := by
  simp only [impl_ExcessOver.f]
  refine Ev.bind (impl_IsList_ev l (by omega)) ?_
  cases h : goodB l with
  | false => simp only [Bool.false_and, Bool.false_eq_true, if_false]; exact Ev.now _
  | true =>
    simp only [if_true, Bool.true_and, impl_within_e, Option.bind_some]
    cases h2 : wth t 0 60 with
    | false => simp only [Bool.false_eq_true, if_false]; exact Ev.now _
    | true =>
      simp only [if_true]
      have h3 := wth_iff.1 h2
      have := impl_excess_ev (goodB_iff.1 h) t.toNat (by omega)
      rw [Int.toNat_of_nonneg h3.1] at this
      exact Ev.ret (f := fun z => (z, true)) this

theorem laws_pSum_l (l : List Int) (hl : l.length ≤ 4611686018427387904) : ∀ i, i ≤ l.length → ∀ acc, InR acc → Ev (fun k => laws_pSum.l0 k acc l (l.length : Int) (i : Int)) (wrap64 (acc + (l.drop i).sum)) := by
  refine down ?_ ?_
  · intro acc ha
    refine Ev.succ ?_
    simp only [laws_pSum.l0, nlt (Nat.le_refl l.length), if_false, List.drop_length, List.sum_nil, Int.add_zero, wR ha]
    exact Ev.now _
  · intro i hi ih acc ha
    refine Ev.succ ?_
    simp only [laws_pSum.l0, ilt hi, inn, if_true, rd_lt hi, wnext hi hl]
    rw [drop_cons hi, List.sum_cons, ← Int.add_assoc]
    exact (ih _ (inR_wrap _)).eqv (wrap_add _ _)
theorem laws_pSum_ev (l : List Int) (hl : l.length ≤ 4611686018427387904) : Ev (fun k => laws_pSum.f k l) (wrap64 l.sum) := by
  have := laws_pSum_l l hl 0 (Nat.zero_le _) 0 inR_0
  simpa only [laws_pSum.f, List.drop_zero, Int.zero_add, Int.natCast_zero] using this
theorem laws_pSum_good {l : List Int} (h : Lst l) : Ev (fun k => laws_pSum.f k l) l.sum :=
  (laws_pSum_ev l (by have := h.2.1; omega)).eqv (w64 (by have := h.sum; omega) (by have := h.sum; omega))

theorem impl_total_l (l : List Int) (hl : l.length ≤ 4611686018427387904) : ∀ i, i ≤ l.length → ∀ acc, InR acc → Ev (fun k => impl_total.l0 k acc l (l.length : Int) (i : Int)) (wrap64 (acc + (l.drop i).sum)) := by
  refine down ?_ ?_
  · intro acc ha
    refine Ev.succ ?_
    simp only [impl_total.l0, nlt (Nat.le_refl l.length), if_false, List.drop_length, List.sum_nil, Int.add_zero, wR ha]
    exact Ev.now _
  · intro i hi ih acc ha
    refine Ev.succ ?_
    simp only [impl_total.l0, ilt hi, inn, if_true, rd_lt hi, wnext hi hl]
    rw [drop_cons hi, List.sum_cons, ← Int.add_assoc]
    exact (ih _ (inR_wrap _)).eqv (wrap_add _ _)
theorem impl_total_ev (l : List Int) (hl : l.length ≤ 4611686018427387904) : Ev (fun k => impl_total.f k l) (wrap64 l.sum) := by
  have := impl_total_l l hl 0 (Nat.zero_le _) 0 inR_0
  simpa only [impl_total.f, List.drop_zero, Int.zero_add, Int.natCast_zero] using this
theorem impl_total_good {l : List Int} (h : Lst l) : Ev (fun k => impl_total.f k l) l.sum :=
  (impl_total_ev l (by have := h.2.1; omega)).eqv (w64 (by have := h.sum; omega) (by have := h.sum; omega))

theorem impl_doFit_ev {a b : List Int} (ha : Lst a) (hb : Lst b) : Ev (fun k => impl_doFit.f k a b) (decide (a.length = b.length) && decide (a.sum = b.sum)) := by
  simp only [impl_doFit.f]
  by_cases h : a.length = b.length
  · have h2 : (a.length : Int) = (b.length : Int) := by omega
    simp only [h2, if_true, h, decide_true, Bool.true_and]
    refine Ev.bind (impl_total_good ha) ?_
    exact Ev.ret (f := fun t => a.sum == t) (impl_total_good hb)
  · have h2 : ¬ (a.length : Int) = (b.length : Int) := by omega
    simp only [h2, if_false, h, decide_false, Bool.false_and]
    exact Ev.now _

theorem impl_isMajorized_ev {a b : List Int} (ha : Lst a) (hb : Lst b) : Ev (fun k => impl_isMajorized.f k a b) ((decide (a.length = b.length) && decide (a.sum = b.sum)) && leAll (partOf a) (partOf b)) := by
  simp only [impl_isMajorized.f]
  refine (Ev.and (impl_doFit_ev ha hb) fun h => ?_)
  simp only [Bool.and_eq_true, decide_eq_true_eq] at h
  exact (Ev.ret (f := fun t => t == 0) (impl_refused_ev ha hb h.1)).eqv (refGo_zero 0 _ _)

theorem impl_IsMajorized_ev (a b : List Int) (ha : a.length ≤ 1048576) (hb : b.length ≤ 1048576) : Ev (fun k => impl_IsMajorized.f k a b) (if goodB a && goodB b then (majB a b, true) else (false, false)) := by
  simp only [impl_IsMajorized.f]
  refine Ev.bind (impl_areLists_ev a b ha hb) ?_
  cases h : goodB a && goodB b with
  | false => simp only [Bool.false_eq_true, if_false]; exact Ev.now _
  | true =>
    simp only [if_true]
    rw [Bool.and_eq_true, goodB_iff, goodB_iff] at h
    exact (Ev.ret (f := fun t => (t, true)) (impl_isMajorized_ev h.1 h.2)).eqv (by rw [Bool.and_assoc]; rfl)

theorem laws_pBelow_ev (a b : List Int) (ha : a.length ≤ 1048576) (hb : b.length ≤ 1048576) : Ev (fun k => laws_pBelow.f k a b) (goodB a && goodB b && majB a b) := by
  simp only [laws_pBelow.f]
  refine Ev.bind (impl_IsMajorized_ev a b ha hb) ?_
  cases h : goodB a && goodB b with
  | false => simp only [Bool.false_eq_true, if_false, Bool.false_and]; exact Ev.now _
  | true => simp only [if_true, Bool.true_and]; exact Ev.now _

theorem FnWeaklyBelow_l {a b : List Int} (ha : Lst a) (hb : Lst b) (hl : a.length = b.length) (is : Bool) (his : is = subB a b) : ∀ (d t : Nat) (all : Bool), t + d = 61 → (all = true ↔ ∀ s : Nat, s < t → exc a s ≤ exc b s) → Ev (fun k => laws_FnWeaklyBelow.l0 k a b is all (t : Int)) true
  | 0, t, all, ht, h => by
    have c : ¬ ((t : Int) ≤ 60) := by omega
    have e : is = all := by
      rw [his, Bool.eq_iff_iff, subB_exc hb hl, h]
      exact ⟨fun z s hs => z s (by omega), fun z s hs => z s (by omega)⟩
    refine Ev.succ ?_
    simp only [laws_FnWeaklyBelow.l0, c, if_false, e, beq_self_eq_true, if_true]
    refine Ev.bind (laws_pSum_good ha) ?_
    refine Ev.bind (laws_pSum_good hb) ?_
    by_cases c2 : a.sum = b.sum
    · simp only [c2, if_true]
      refine (Ev.ret (f := fun t => all == t) (laws_pBelow_ev a b (by have := ha.2.1; omega) (by have := hb.2.1; omega))).eqv ?_
      have : majB a b = all := by rw [← e, his]; simp [majB, hl, c2]
      rw [goodB_iff.2 ha, goodB_iff.2 hb, this]
      simp
    · simp only [c2, if_false]
      exact Ev.now _
  | d + 1, t, all, ht, h => by
    have c : (t : Int) ≤ 60 := by omega
    have hw : wth (t : Int) 0 60 = true := wth_iff.2 (by omega)
    refine Ev.succ ?_
    simp only [laws_FnWeaklyBelow.l0, c, if_true]
    refine Ev.bind (impl_ExcessOver_ev a t (by have := ha.2.1; omega)) ?_
    refine Ev.bind (impl_ExcessOver_ev b t (by have := hb.2.1; omega)) ?_
    rw [goodB_iff.2 ha, goodB_iff.2 hb, hw]
    simp only [Bool.and_self, if_true, wnext (by omega : t < 62) (by omega)]
    cases all with
    | true =>
      simp only [if_true]
      refine FnWeaklyBelow_l ha hb hl is his d (t + 1) _ (by omega) ?_
      rw [decide_eq_true_eq]
      constructor
      · intro z s hs
        by_cases q : s = t
        · rw [q]; exact z
        · exact h.1 rfl s (by omega)
      · intro z
        exact z t (by omega)
    | false =>
      simp only [Bool.false_eq_true, if_false]
      refine FnWeaklyBelow_l ha hb hl is his d (t + 1) false (by omega) ?_
      constructor
      · intro z; exact absurd z (by simp)
      · intro z
        exact absurd (h.2 fun s hs => z s (by omega)) (by simp)
theorem FnWeaklyBelow : laws_FnWeaklyBelow.Pure := by
  intro a b hma hsa hwa hmb hsb hwb
  refine Ev.rounds ?_
  have hc := Bts.of hsa hwa
  simp only [laws_FnWeaklyBelow.f]
  obtain ⟨t, ht⟩ := laws_big_x a b
  rw [ht]
  simp only [Option.bind_some]
  by_cases h0 : t = true
  · simp only [h0, if_true]; exact Ev.now _
  · simp only [h0, if_false]
    refine Ex.ev (spec_DrawIsWeaklyBelow_x hc) fun r hr => ?_
    obtain ⟨x, y⟩ := r
    have hx : x.length ≤ 1048576 := by have := hr.1; show x.length ≤ _; simp only at this; omega
    have hy : y.length ≤ 1048576 := by have := hr.2; show y.length ≤ _; simp only at this; omega
    simp only
    refine Ev.bind (impl_IsWeaklyBelow_ev x y hx hy) ?_
    refine Ev.bind (spec_IsWeaklyBelow_ev x y hx hy) ?_
    simp only [bne_self_eq_false, Bool.false_eq_true, if_false]
    refine Ev.succ ?_
    simp only [laws_FnWeaklyBelow.j0, Bool.false_eq_true, if_false]
    cases h1 : goodB x && goodB y with
    | false =>
      simp only [Bool.false_eq_true, if_false]
      refine Ev.succ ?_
      simp only [laws_FnWeaklyBelow.j1, if_true, Bool.not_false]
      exact Ev.now _
    | true =>
      simp only [if_true]
      refine Ev.succ ?_
      rw [Bool.and_eq_true, goodB_iff, goodB_iff] at h1
      by_cases e : x.length = y.length
      · simp only [laws_FnWeaklyBelow.j1, e, bne_self_eq_false, Bool.false_eq_true, if_false, decide_true, Bool.true_and]
        exact FnWeaklyBelow_l h1.1 h1.2 e _ rfl 61 0 true (by omega) ⟨fun _ s hs => absurd hs (by omega), fun _ => rfl⟩
      · have e2 : ((x.length : Int) != (y.length : Int)) = true := by simp; omega
        simp only [laws_FnWeaklyBelow.j1, e2, e, if_true, decide_false, Bool.false_and, Bool.not_false]
        exact Ev.now _

end Go.Proofs.Ytclnfaclfplpmaa.Pure
