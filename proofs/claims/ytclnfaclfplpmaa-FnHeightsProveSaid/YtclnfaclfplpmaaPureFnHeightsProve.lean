/- No gain of heights is greater than the cost of a plan, and the best heights gain what the cheapest plan costs; the printed functions' own bounds on lengths are the only conditions. -/
import Derived.Test.YtclnfaclfplpmaaPFnHeightsProvex8
import Derived.Test.YtclnfaclfplpmaaMathB
namespace Go.Proofs.Ytclnfaclfplpmaa.Pure
open Go.RowKit Go.Proofs.Ytclnfaclfplpmaa.PFnHeightsProve Go.Proofs.YtclnfaclfplpmaaW.PrintWords Go.Proofs.YtclnfaclfplpmaaW.PrintLast Go.Proofs.YtclnfaclfplpmaaW.PrintMore Go.Proofs.Ytclnfaclfplpmaa.Math
set_option linter.unusedVariables false
set_option linter.unusedSimpArgs false
set_option linter.unusedSectionVars false

theorem laws_big_x (a b : List Int) : ∃ t, laws_big.f a b = some t := by
  unfold laws_big.f
  by_cases c : (a.length : Int) > 1048576
  · rw [if_pos c]; exact ⟨_, rfl⟩
  · rw [if_neg c]; exact ⟨_, rfl⟩

theorem laws_pSame_l (l m : List Int) (he : m.length = l.length) (hl : l.length ≤ 4611686018427387904) : ∀ i, i ≤ l.length → Ev (fun k => laws_pSame.l0 k l m (l.length : Int) (i : Int)) (decide (l.drop i = m.drop i)) := by
  refine down ?_ ?_
  · refine Ev.succ ?_
    simp only [laws_pSame.l0, nlt (Nat.le_refl l.length), if_false, List.drop_length]
    rw [← he, List.drop_length]
    exact Ev.now _
  · intro i hi ih
    refine Ev.succ ?_
    simp only [laws_pSame.l0, ilt hi, inn, if_true, he, rd_lt hi, rd_lt (he ▸ hi : i < m.length), wnext hi hl]
    rw [drop_cons hi, drop_cons (he ▸ hi : i < m.length)]
    by_cases hx : l[i] = m[i]
    · simp only [hx, if_true, List.cons.injEq, true_and]
      exact ih
    · simp only [hx, if_false, List.cons.injEq, false_and, decide_false]
      exact Ev.now _
theorem laws_pSame_ev (l m : List Int) (hl : l.length ≤ 4611686018427387904) : Ev (fun k => laws_pSame.f k l m) (decide (l = m)) := by
  simp only [laws_pSame.f]
  by_cases he : (l.length : Int) = (m.length : Int)
  · simp only [he, if_true]
    have := laws_pSame_l l m (by omega) hl 0 (Nat.zero_le _)
    rw [he] at this
    exact this
  · simp only [he, if_false]
    rw [decide_eq_false (fun h => he (by rw [h]))]
    exact Ev.now _

theorem spec_l1Cur_next_x {c : List Int} (hc : Bts c) (a s b : Int) (ha : At a b) (hb : b ≤ 4611686018427387904) : ∃ r : Int × Int × Int, spec_l1Cur_next.f c a s = some r ∧ 0 ≤ r.1 ∧ r.1 ≤ 255 ∧ At r.2.1 (b + 1) := by
  have h0 := ha.1
  have h1 := ha.2
  have e : wrap64 (a + 1) = a + 1 := w64 (by omega) (by omega)
  have a1 : At (a + 1) (b + 1) := ⟨by omega, by omega⟩
  have u : ∀ z : Int, 0 ≤ wrap64 (Go.bits .and .u64 (IntKind.u64.wrap z / 1099511627776) 255) ∧ wrap64 (Go.bits .and .u64 (IntKind.u64.wrap z / 1099511627776) 255) ≤ 255 := fun z => and255 _ (by rw [wrapU64]; omega) (by rw [wrapU64]; omega)
  unfold spec_l1Cur_next.f
  by_cases c1 : a < (c.length : Int)
  · have r := rd_code hc h0 c1
    simp only [c1, h0, if_true, e]
    by_cases c2 : a + 1 ≤ (c.length : Int)
    · simp only [c2, if_true]
      refine ⟨_, rfl, ?_, ?_, a1⟩
      · show 0 ≤ wrap64 _
        rw [w64 (by omega) (by omega)]; exact r.1
      · show wrap64 _ ≤ 255
        rw [w64 (by omega) (by omega)]; exact r.2
    · simp only [c2, if_false]
      exact ⟨_, rfl, (u _).1, (u _).2, a1⟩
  · simp only [c1, if_false, e]
    by_cases c2 : a + 1 ≤ (c.length : Int)
    · simp only [c2, if_true]
      exact ⟨_, rfl, by show (0 : Int) ≤ 0; omega, by show (0 : Int) ≤ 255; omega, a1⟩
    · simp only [c2, if_false]
      exact ⟨_, rfl, (u _).1, (u _).2, a1⟩

theorem spec_l1Cur_pick_x {c : List Int} (hc : Bts c) (a s b n : Int) (ha : At a b) (hb : b ≤ 1073741824) : Ex (fun _ => spec_l1Cur_pick.f c a s n) (fun r => 0 ≤ r.1 ∧ (1 ≤ n → r.1 < n) ∧ At r.2.1 (b + 2)) := by
  have h0 := ha.1
  have h1 := ha.2
  unfold spec_l1Cur_pick.f
  by_cases c1 : n ≤ 1
  · simp only [c1, if_true]
    exact Ex.now ⟨by show (0 : Int) ≤ 0; omega, fun h => by show (0 : Int) < n; omega, by omega, by show a ≤ b + 2; omega⟩
  · simp only [c1, if_false]
    obtain ⟨r, hr, r0, r1, r2⟩ := spec_l1Cur_next_x hc a s b ha (by omega)
    rw [hr]
    simp only [Option.bind_some]
    have n0 : ¬ n = 0 := by omega
    by_cases c2 : n > 200
    · simp only [c2, if_true]
      obtain ⟨q, hq, q0, q1, q2⟩ := spec_l1Cur_next_x hc r.2.1 r.2.2 (b + 1) r2 (by omega)
      rw [hq]
      simp only [Option.bind_some, n0, if_false]
      have e : wrap64 (wrap64 (r.1 * 256) + q.1) = r.1 * 256 + q.1 := by rw [w64 (x := r.1 * 256) (by omega) (by omega), w64 (by omega) (by omega)]
      rw [e]
      refine Ex.now ⟨Int.tmod_nonneg _ (by omega), fun _ => Int.tmod_lt_of_pos _ (by omega), q2.1, ?_⟩
      have := q2.2
      show q.2.1 ≤ b + 2
      omega
    · simp only [c2, if_false, n0]
      refine Ex.now ⟨Int.tmod_nonneg _ (by omega), fun _ => Int.tmod_lt_of_pos _ (by omega), r2.1, ?_⟩
      have := r2.2
      show r.2.1 ≤ b + 2
      omega

theorem spec_l1Cur_one_x {c : List Int} (hc : Bts c) (a s b n : Int) (ha : At a b) (hb : b ≤ 1073741824) : Ex (fun _ => spec_l1Cur_one.f c a s n) (fun r => At r.2.1 (b + 2)) := by
  unfold spec_l1Cur_one.f
  refine Ex.bind (spec_l1Cur_pick_x hc a s b n ha hb) fun r hr => ?_
  exact Ex.now hr.2.2

theorem spec_l1Cur_among_x {c : List Int} (hc : Bts c) (a s b : Int) (l : List Int) (hl : 1 ≤ l.length) (ha : At a b) (hb : b ≤ 1073741824) : Ex (fun _ => spec_l1Cur_among.f c a s l) (fun r => r.1 ∈ l ∧ At r.2.1 (b + 2)) := by
  unfold spec_l1Cur_among.f
  refine Ex.bind (spec_l1Cur_pick_x hc a s b _ ha hb) fun r hr => ?_
  have h0 := hr.1
  have h1 := hr.2.1 (by omega)
  simp only [h0, h1, if_true]
  refine Ex.now ⟨?_, hr.2.2⟩
  have hi : r.1.toNat < l.length := by omega
  show rd l r.1 ∈ l
  unfold rd
  rw [List.getD_eq_getElem?_getD, List.getElem?_eq_getElem hi, Option.getD_some]
  exact List.getElem_mem hi

theorem spec_l1Cur_list_l {c : List Int} (hc : Bts c) (m : Int) : ∀ (n : Nat) (x : List Int) (a s b : Int), At a b → b + 2 * n ≤ 1073741824 → x.length + n ≤ 1048576 → Ex (fun k => spec_l1Cur_list.l0 k m x (n : Int) c a s) (fun r => r.1.length = x.length + n ∧ At r.2.1 (b + 2 * n))
  | 0, x, a, s, b, ha, hb, hx => by
    refine Ex.succ ?_
    simp only [spec_l1Cur_list.l0, show ¬ (((0 : Nat) : Int) > 0) by omega, if_false]
    exact Ex.now ⟨rfl, by simpa using ha⟩
  | n + 1, x, a, s, b, ha, hb, hx => by
    refine Ex.succ ?_
    simp only [spec_l1Cur_list.l0, show (((n + 1 : Nat) : Int) > 0) by omega, if_true]
    refine Ex.bind (spec_l1Cur_pick_x hc a s b _ ha (by omega)) fun r hr => ?_
    have hl : x.length < 17592186044416 := by omega
    simp only [hl, if_true, w64 (x := ((n + 1 : Nat) : Int) - 1) (by omega) (by omega)]
    rw [show ((n + 1 : Nat) : Int) - 1 = (n : Int) by omega]
    refine (spec_l1Cur_list_l hc m n (x ++ [r.1]) r.2.1 r.2.2 (b + 2) hr.2.2 (by omega) (by rw [List.length_append, List.length_singleton]; omega)).mono fun q hq => ?_
    rw [List.length_append, List.length_singleton] at hq
    exact ⟨by omega, hq.2.1, by have := hq.2.2; omega⟩
theorem spec_l1Cur_list_x {c : List Int} (hc : Bts c) (a s b m : Int) (ha : At a b) (hb : b ≤ 536870912) : Ex (fun k => spec_l1Cur_list.f k c a s m) (fun r => 1 ≤ r.1.length ∧ r.1.length ≤ 6 ∧ At r.2.1 (b + 14)) := by
  simp only [spec_l1Cur_list.f]
  refine Ex.bind (spec_l1Cur_pick_x hc a s b 6 ha (by omega)) fun r hr => ?_
  have h0 := hr.1
  have h1 := hr.2.1 (by omega)
  obtain ⟨n, hn⟩ := Int.eq_ofNat_of_zero_le h0
  rw [w64 (by omega) (by omega), show 1 + r.1 = ((n + 1 : Nat) : Int) by omega]
  refine (spec_l1Cur_list_l hc m (n + 1) [] r.2.1 r.2.2 (b + 2) hr.2.2 (by omega) (by simp; omega)).mono fun q hq => ?_
  rw [List.length_nil] at hq
  exact ⟨by omega, by omega, hq.2.1, by have := hq.2.2; omega⟩

theorem spec_l1Cur_anyList_l {c : List Int} (hc : Bts c) : ∀ (d : Nat) (x : List Int) (a s b : Int), x.length + d = 10 → At a b → b + 4 * d + 4 ≤ 1073741824 → Ex (fun k => spec_l1Cur_anyList.l0 k x c a s) (fun r => r.1.length ≤ 10 ∧ At r.2.1 (b + 4 * d + 4))
  | 0, x, a, s, b, hx, ha, hb => by
    refine Ex.succ ?_
    simp only [spec_l1Cur_anyList.l0]
    refine Ex.bind (spec_l1Cur_pick_x hc a s b 2 ha (by omega)) fun r hr => ?_
    have h0 := hr.1
    have h1 := hr.2.1 (by omega)
    have c1 : ¬ ((x.length : Int) < wrap64 (8 + r.1)) := by rw [w64 (by omega) (by omega)]; omega
    simp only [c1, if_false]
    exact Ex.now ⟨by show x.length ≤ 10; omega, hr.2.2.1, by have := hr.2.2.2; show r.2.1 ≤ _; omega⟩
  | d + 1, x, a, s, b, hx, ha, hb => by
    refine Ex.succ ?_
    simp only [spec_l1Cur_anyList.l0]
    refine Ex.bind (spec_l1Cur_pick_x hc a s b 2 ha (by omega)) fun r hr => ?_
    by_cases c1 : (x.length : Int) < wrap64 (8 + r.1)
    · simp only [c1, if_true]
      refine Ex.bind (spec_l1Cur_pick_x hc _ _ (b + 2) 9 hr.2.2 (by omega)) fun q hq => ?_
      have hl : x.length < 17592186044416 := by omega
      simp only [hl, if_true]
      refine (spec_l1Cur_anyList_l hc d (x ++ [q.1]) _ _ (b + 2 + 2) (by rw [List.length_append, List.length_singleton]; omega) hq.2.2 (by omega)).mono fun z hz => ?_
      exact ⟨hz.1, hz.2.1, by have := hz.2.2; omega⟩
    · simp only [c1, if_false]
      exact Ex.now ⟨by show x.length ≤ 10; omega, hr.2.2.1, by have := hr.2.2.2; show r.2.1 ≤ _; omega⟩
theorem spec_l1Cur_anyList_x {c : List Int} (hc : Bts c) (a s b m : Int) (ha : At a b) (hb : b ≤ 268435456) : Ex (fun k => spec_l1Cur_anyList.f k c a s m) (fun r => r.1.length ≤ 10 ∧ At r.2.1 (b + 64)) := by
  simp only [spec_l1Cur_anyList.f]
  refine Ex.bind (spec_l1Cur_list_x hc a s b m ha (by omega)) fun r hr => ?_
  refine Ex.bind (spec_l1Cur_pick_x hc _ _ (b + 14) 14 hr.2.2 (by omega)) fun q hq => ?_
  have q2 := hq.2.2.2
  by_cases c1 : q.1 = 0
  · simp only [c1, if_true]
    refine Ex.bind (spec_l1Cur_among_x hc _ _ (b + 14 + 2) _ (by simp) hq.2.2 (by omega)) fun z hz => ?_
    have hl : r.1.length < 17592186044416 := by omega
    simp only [hl, if_true]
    exact Ex.now ⟨by show (r.1 ++ [z.1]).length ≤ 10; rw [List.length_append, List.length_singleton]; omega, hz.2.1, by have := hz.2.2; show z.2.1 ≤ _; omega⟩
  · simp only [c1, if_false]
    by_cases c2 : q.1 = 1
    · simp only [c2, if_true]
      refine (spec_l1Cur_anyList_l hc (10 - r.1.length) r.1 _ _ (b + 14 + 2) (by omega) hq.2.2 (by omega)).mono fun z hz => ?_
      exact ⟨hz.1, hz.2.1, by have := hz.2.2; omega⟩
    · simp only [c2, if_false]
      by_cases c3 : q.1 = 2
      · simp only [c3, if_true]
        exact Ex.now ⟨by show ([] : List Int).length ≤ 10; simp, hq.2.2.1, by show q.2.1 ≤ _; omega⟩
      · simp only [c3, if_false]
        exact Ex.now ⟨by show r.1.length ≤ 10; omega, hq.2.2.1, by show q.2.1 ≤ _; omega⟩

theorem spec_l1Own_e (l : List Int) (hl : l.length < 17592186044416) : spec_l1Own.f l = some l := by
  simp only [spec_l1Own.f, Option.bind_some, List.nil_append, List.length_nil, Nat.zero_add, hl, if_true]

theorem spec_l1Cur_fitting_l {c : List Int} (hc : Bts c) (x : List Int) (hx : x.length ≤ 10) : ∀ (n : Nat) (y : List Int) (a s b : Int), y.length ≤ 10 → At a b → b + 8 * n + 8 ≤ 1073741824 → Ex (fun k => spec_l1Cur_fitting.l0 k x y (n : Int) c a s) (fun r => r.1.length ≤ 10 ∧ r.2.1.length ≤ 10 ∧ At r.2.2.1 (b + 8 * n + 8))
  | n, y, a, s, b, hy, ha, hb => by
    have hb0 := ha.1
    have hb1 := ha.2
    have off : Ex (fun k => spec_l1Cur_fitting.j1 k x y (n : Int) false c a s) (fun r => r.1.length ≤ 10 ∧ r.2.1.length ≤ 10 ∧ At r.2.2.1 (b + 8 * n + 8)) := by
      refine Ex.succ ?_
      simp only [spec_l1Cur_fitting.j1, Bool.false_eq_true, if_false]
      refine Ex.bind (spec_l1Cur_one_x hc a s b 5 ha (by omega)) fun r hr => ?_
      have h2 := hr.2
      by_cases c1 : r.1 = true
      · simp only [c1, if_true]
        exact Ex.now ⟨hx, hy, hr.1, by show r.2.1 ≤ _; omega⟩
      · simp only [c1, if_false]
        exact Ex.now ⟨hy, hx, hr.1, by show r.2.1 ≤ _; omega⟩
    refine Ex.succ ?_
    simp only [spec_l1Cur_fitting.l0]
    by_cases c0 : (n : Int) > 0
    · simp only [c0, if_true]
      by_cases c1 : (y.length : Int) > 1
      · simp only [c1, decide_true]
        obtain ⟨m, rfl⟩ : ∃ m, n = m + 1 := ⟨n - 1, by omega⟩
        have ew : wrap64 (((m + 1 : Nat) : Int) - 1) = (m : Int) := by rw [w64 (by omega) (by omega)]; omega
        refine Ex.succ ?_
        simp only [spec_l1Cur_fitting.j1, if_true, ew]
        refine Ex.bind (spec_l1Cur_pick_x hc a s b _ ha (by omega)) fun r hr => ?_
        refine Ex.bind (spec_l1Cur_pick_x hc _ _ (b + 2) _ hr.2.2 (by omega)) fun q hq => ?_
        have r0 := hr.1
        have r1 := hr.2.1 (by omega)
        have q0 := hq.1
        have q1 := hq.2.1 (by omega)
        simp only [r0, r1, q0, q1, if_true]
        have go : ∀ (z : List Int) (a' s' b' : Int), z.length = y.length → At a' b' → b' ≤ b + 8 → Ex (fun k => spec_l1Cur_fitting.l0 k x z (m : Int) c a' s') (fun r => r.1.length ≤ 10 ∧ r.2.1.length ≤ 10 ∧ At r.2.2.1 (b + 8 * ((m + 1 : Nat) : Int) + 8)) := by
          intro z a' s' b' hz ha' hb'
          refine (spec_l1Cur_fitting_l hc x hx m z a' s' b' (by omega) ha' (by omega)).mono fun t ht => ⟨ht.1, ht.2.1, ht.2.2.1, by have := ht.2.2.2; omega⟩
        by_cases c2 : rd y r.1 > 0
        · simp only [c2, if_true]
          by_cases c3 : rd y r.1 > rd y q.1
          · simp only [c3, if_true, Option.bind_some]
            exact go _ _ _ _ (by simp) hq.2.2 (by omega)
          · simp only [c3, if_false]
            refine Ex.bind (spec_l1Cur_one_x hc _ _ (b + 2 + 2) 4 hq.2.2 (by omega)) fun t ht => ?_
            by_cases c4 : t.1 = true
            · simp only [c4, if_true, Option.bind_some]
              exact go _ _ _ _ (by simp) ht (by omega)
            · simp only [c4, if_false]
              exact go _ _ _ _ rfl ht (by omega)
        · simp only [c2, if_false]
          exact go _ _ _ _ rfl hq.2.2 (by omega)
      · simp only [c1, decide_false]
        exact off
    · simp only [c0, if_false]
      exact off
theorem spec_l1Cur_fitting_x {c : List Int} (hc : Bts c) (a s b m : Int) (ha : At a b) (hb : b ≤ 134217728) : Ex (fun k => spec_l1Cur_fitting.f k c a s m) (fun r => r.1.length ≤ 10 ∧ r.2.1.length ≤ 10 ∧ At r.2.2.1 (b + 256)) := by
  simp only [spec_l1Cur_fitting.f]
  refine Ex.bind (spec_l1Cur_anyList_x hc a s b m ha (by omega)) fun r hr => ?_
  refine Ex.bind (spec_l1Cur_one_x hc _ _ (b + 64) 5 hr.2 (by omega)) fun q hq => ?_
  by_cases c1 : q.1 = true
  · simp only [c1, if_true]
    refine Ex.bind (spec_l1Cur_anyList_x hc _ _ (b + 64 + 2) m hq (by omega)) fun z hz => ?_
    exact Ex.now ⟨hz.1, hr.1, hz.2.1, by have := hz.2.2; show z.2.1 ≤ _; omega⟩
  · simp only [c1, if_false, spec_l1Own_e r.1 (by omega), Option.bind_some]
    refine Ex.bind (spec_l1Cur_pick_x hc _ _ (b + 64 + 2) 12 hq (by omega)) fun z hz => ?_
    have z0 := hz.1
    have z1 := hz.2.1 (by omega)
    obtain ⟨n, hn⟩ := Int.eq_ofNat_of_zero_le z0
    rw [hn] at z1 ⊢
    refine (spec_l1Cur_fitting_l hc r.1 hr.1 n r.1 _ _ (b + 64 + 2 + 2) hr.1 hz.2.2 (by omega)).mono fun t ht => ⟨ht.1, ht.2.1, ht.2.2.1, by have := ht.2.2.2; omega⟩

theorem spec_l1Most_e (a b : Int) : spec_l1Most.f a b = some (max a b) := by
  unfold spec_l1Most.f
  by_cases h : a > b
  · rw [if_pos h]; congr 1; omega
  · rw [if_neg h]; congr 1; omega

theorem spec_l1Cur_heights_l {c : List Int} (hc : Bts c) (m : Int) (hm : m ≤ 10) : ∀ (d : Nat) (x : List Int) (a s b : Int), x.length + d = 10 → 1 ≤ x.length → At a b → b + 4 * d + 4 ≤ 1073741824 → Ex (fun k => spec_l1Cur_heights.l0 k m x c a s) (fun r => r.1.length ≤ 10)
  | d, x, a, s, b, hx, hx1, ha, hb => by
    refine Ex.succ ?_
    simp only [spec_l1Cur_heights.l0]
    by_cases c1 : (x.length : Int) < m
    · obtain ⟨e, rfl⟩ : ∃ e, d = e + 1 := ⟨d - 1, by omega⟩
      have w1 : wrap64 ((x.length : Int) - 1) = (x.length : Int) - 1 := w64 (by omega) (by omega)
      have c2 : 0 ≤ (x.length : Int) - 1 := by omega
      have c3 : (x.length : Int) - 1 < (x.length : Int) := by omega
      have c4 : x.length < 17592186044416 := by omega
      simp only [c1, if_true, w1, c2, c3]
      refine Ex.bind (spec_l1Cur_pick_x hc a s b 3 ha (by omega)) fun r hr => ?_
      simp only [c4, if_true]
      exact spec_l1Cur_heights_l hc m hm e _ _ _ (b + 2) (by rw [List.length_append, List.length_singleton]; omega) (by rw [List.length_append, List.length_singleton]; omega) hr.2.2 (by omega)
    · simp only [c1, if_false]
      refine Ex.bind (spec_l1Cur_pick_x hc a s b 14 ha (by omega)) fun r hr => ?_
      by_cases d1 : r.1 = 0
      · simp only [d1, if_true]
        refine Ex.bind (spec_l1Cur_pick_x hc _ _ (b + 2) _ hr.2.2 (by omega)) fun q hq => ?_
        have q0 := hq.1
        have q1 := hq.2.1 (by omega)
        simp only [q0, q1, if_true]
        exact Ex.now (by show (x.set _ _).length ≤ 10; rw [List.length_set]; omega)
      · simp only [d1, if_false]
        by_cases d2 : r.1 = 1
        · simp only [d2, if_true]
          refine Ex.bind (spec_l1Cur_among_x hc _ _ (b + 2) _ (by simp) hr.2.2 (by omega)) fun q hq => ?_
          exact Ex.now (by show [q.1].length ≤ 10; simp)
        · simp only [d2, if_false]
          by_cases d3 : r.1 = 2
          · simp only [d3, if_true]; exact Ex.now (by show ([] : List Int).length ≤ 10; simp)
          · simp only [d3, if_false]; exact Ex.now (by show x.length ≤ 10; omega)
theorem spec_l1Cur_heights_x {c : List Int} (hc : Bts c) (a s b m : Int) (hm : m ≤ 10) (ha : At a b) (hb : b ≤ 134217728) : Ex (fun k => spec_l1Cur_heights.f k c a s m) (fun r => r.1.length ≤ 10) := by
  simp only [spec_l1Cur_heights.f]
  refine Ex.bind (spec_l1Cur_pick_x hc a s b 9 ha (by omega)) fun r hr => ?_
  exact spec_l1Cur_heights_l hc m hm 9 _ _ _ (b + 2) rfl (by simp) hr.2.2 (by omega)

theorem spec_DrawHeightGain_x {c : List Int} (hc : Bts c) : Ex (fun k => spec_DrawHeightGain.f k c) (fun r => r.1.length ≤ 10 ∧ r.2.1.length ≤ 10 ∧ r.2.2.length ≤ 10) := by
  simp only [spec_DrawHeightGain.f]
  refine Ex.bind (spec_l1Cur_fitting_x hc 0 0 0 9 ⟨by omega, by omega⟩ (by omega)) fun r hr => ?_
  simp only [spec_l1Most_e, Option.bind_some]
  refine Ex.bind (spec_l1Cur_heights_x hc _ _ (0 + 256) _ (by have := hr.1; omega) hr.2.2 (by omega)) fun q hq => ?_
  exact Ex.now ⟨hq, hr.1, hr.2.1⟩

theorem impl_arranged_l (l m : List Int) (hl : l.length ≤ 1048576) (hm : l.length ≤ m.length) : ∀ i, i ≤ l.length → ∀ acc, InR acc → Ev (fun k => impl_arranged.l0 k m acc l (l.length : Int) (i : Int)) (wrap64 (acc + dot (l.drop i) (m.drop i))) := by
  refine down ?_ ?_
  · intro acc ha
    refine Ev.succ ?_
    simp only [impl_arranged.l0, nlt (Nat.le_refl l.length), if_false, List.drop_length, dot_nil, Int.add_zero, wR ha]
    exact Ev.now _
  · intro i hi ih acc ha
    have h2 : i < m.length := by omega
    refine Ev.succ ?_
    simp only [impl_arranged.l0, ilt hi, ilt h2, inn, if_true, rd_lt hi, rd_lt h2, wnext hi (by omega : l.length ≤ 4611686018427387904)]
    rw [drop_cons hi, drop_cons h2, dot_cons, ← Int.add_assoc]
    refine (ih _ (inR_wrap _)).eqv ?_
    rw [wrap_add, Int.add_right_comm, wrap_add', Int.add_right_comm]
theorem impl_arranged_ev (l m : List Int) (hl : l.length ≤ 1048576) (hm : l.length ≤ m.length) : Ev (fun k => impl_arranged.f k l m) (wrap64 (dot l m)) := by
  have := impl_arranged_l l m hl hm 0 (Nat.zero_le _) 0 inR_0
  simpa only [impl_arranged.f, List.drop_zero, Int.zero_add, Int.natCast_zero] using this

theorem impl_within_e (a b c : Int) : impl_within.f a b c = some (wth a b c) := wth_opt a b c

theorem impl_allWithin_l (l : List Int) (lo hi : Int) (hl : l.length ≤ 4611686018427387904) : ∀ i, i ≤ l.length → Ev (fun k => impl_allWithin.l0 k lo hi l (l.length : Int) (i : Int)) (allW (l.drop i) lo hi) := by
  refine down ?_ ?_
  · refine Ev.succ ?_
    simp only [impl_allWithin.l0, nlt (Nat.le_refl l.length), if_false, List.drop_length]
    exact Ev.now _
  · intro i hi ih
    refine Ev.succ ?_
    simp only [impl_allWithin.l0, ilt hi, inn, if_true, impl_within_e, Option.bind_some, rd_lt hi, wnext hi hl]
    rw [drop_cons hi]
    exact Ev.andS fun _ => ih
theorem impl_allWithin_ev (l : List Int) (lo hi : Int) (hl : l.length ≤ 4611686018427387904) : Ev (fun k => impl_allWithin.f k l lo hi) (allW l lo hi) := by
  have := impl_allWithin_l l lo hi hl 0 (Nat.zero_le _)
  simpa only [impl_allWithin.f, List.drop_zero, Int.natCast_zero] using this

theorem impl_areHeights_l (l : List Int) (hl : l.length ≤ 1048576) (hb : ∀ x ∈ l, -100 ≤ x ∧ x ≤ 100) : ∀ i, i ≤ l.length - 1 → Ev (fun k => impl_areHeights.l0 k l ((i + 1 : Nat) : Int)) (adj hp (l.drop i)) := by
  refine down ?_ ?_
  · refine Ev.succ ?_
    simp only [impl_areHeights.l0, nlt (by omega : l.length ≤ l.length - 1 + 1), if_false]
    rw [adj_short (by simp; omega)]
    exact Ev.now _
  · intro i hi ih
    have h0 : i < l.length := by omega
    have h1 : i + 1 < l.length := by omega
    have b0 := hb _ (List.getElem_mem h0)
    have b1 := hb _ (List.getElem_mem h1)
    refine Ev.succ ?_
    simp only [impl_areHeights.l0, ilt h1, inn, if_true, wprev (by omega : i ≤ 4611686018427387904), ilt h0, impl_within_e, Option.bind_some, rd_lt h0, rd_lt h1, wnext h1 (by omega)]
    rw [drop_cons h0, drop_cons h1, adj, ← drop_cons h1, w64 (by omega) (by omega)]
    exact Ev.andS fun _ => ih
theorem impl_areHeights_ev (l : List Int) (hl : l.length ≤ 1048576) : Ev (fun k => impl_areHeights.f k l) (heightsB l) := by
  simp only [impl_areHeights.f, impl_within_e, Option.bind_some, heightsB]
  cases h : wth l.length 1 8 with
  | false =>
    simp only [Bool.false_eq_true, if_false, Bool.false_and]
    refine Ev.succ ?_
    simp only [impl_areHeights.j0, if_true]
    exact Ev.now _
  | true =>
    simp only [if_true, Bool.true_and]
    refine Ev.bind (impl_allWithin_ev l _ _ (by omega)) ?_
    refine Ev.succ ?_
    cases h2 : allW l (-100) 100 with
    | false =>
      simp only [impl_areHeights.j0, Bool.not_false, if_true, Bool.false_and]
      exact Ev.now _
    | true =>
      simp only [impl_areHeights.j0, Bool.not_true, Bool.false_eq_true, if_false, Bool.true_and]
      exact impl_areHeights_l l hl (allW_iff.1 h2) 0 (Nat.zero_le _)

theorem impl_IsList_ev (l : List Int) (hl : l.length ≤ 4611686018427387904) : Ev (fun k => impl_IsList.f k l) (goodB l) := by
  simp only [impl_IsList.f, impl_within_e, Option.bind_some, goodB]
  exact Ev.andS fun _ => Ev.ret (f := fun t => t) (impl_allWithin_ev l 0 60 hl)

theorem impl_areLists_ev (a b : List Int) (ha : a.length ≤ 1048576) (hb : b.length ≤ 1048576) : Ev (fun k => impl_areLists.f k a b) (goodB a && goodB b) := by
  simp only [impl_areLists.f]
  exact Ev.and (impl_IsList_ev a (by omega)) fun h => Ev.ret (f := fun t => t) (impl_IsList_ev b (by omega))

theorem impl_total_l (l : List Int) (hl : l.length ≤ 4611686018427387904) : ∀ i, i ≤ l.length → ∀ acc, InR acc → Ev (fun k => impl_total.l0 k acc l (l.length : Int) (i : Int)) (wrap64 (acc + (l.drop i).sum)) := by
  refine down ?_ ?_
  · intro acc ha
    refine Ev.succ ?_
    simp only [impl_total.l0, nlt (Nat.le_refl l.length), if_false, List.drop_length, List.sum_nil, Int.add_zero, wR ha]
    exact Ev.now _
  · intro i hi ih acc ha
    refine Ev.succ ?_
    simp only [impl_total.l0, ilt hi, inn, if_true, rd_lt hi, wnext hi hl]
    rw [drop_cons hi, List.sum_cons, ← Int.add_assoc]
    exact (ih _ (inR_wrap _)).eqv (wrap_add _ _)
theorem impl_total_ev (l : List Int) (hl : l.length ≤ 4611686018427387904) : Ev (fun k => impl_total.f k l) (wrap64 l.sum) := by
  have := impl_total_l l hl 0 (Nat.zero_le _) 0 inR_0
  simpa only [impl_total.f, List.drop_zero, Int.zero_add, Int.natCast_zero] using this
theorem impl_total_good {l : List Int} (h : Lst l) : Ev (fun k => impl_total.f k l) l.sum :=
  (impl_total_ev l (by have := h.2.1; omega)).eqv (w64 (by have := h.sum; omega) (by have := h.sum; omega))

theorem impl_doFit_ev {a b : List Int} (ha : Lst a) (hb : Lst b) : Ev (fun k => impl_doFit.f k a b) (decide (a.length = b.length) && decide (a.sum = b.sum)) := by
  simp only [impl_doFit.f]
  by_cases h : a.length = b.length
  · have h2 : (a.length : Int) = (b.length : Int) := by omega
    simp only [h2, if_true, h, decide_true, Bool.true_and]
    refine Ev.bind (impl_total_good ha) ?_
    exact Ev.ret (f := fun t => a.sum == t) (impl_total_good hb)
  · have h2 : ¬ (a.length : Int) = (b.length : Int) := by omega
    simp only [h2, if_false, h, decide_false, Bool.false_and]
    exact Ev.now _

theorem impl_areFitting_ev (a b : List Int) (ha : a.length ≤ 1048576) (hb : b.length ≤ 1048576) : Ev (fun k => impl_areFitting.f k a b) (fits a b) := by
  simp only [impl_areFitting.f]
  refine (Ev.and (b := decide (a.length = b.length) && decide (a.sum = b.sum)) (impl_areLists_ev a b ha hb) fun h => ?_).eqv (Bool.and_assoc _ _ _)
  rw [Bool.and_eq_true, goodB_iff, goodB_iff] at h
  exact Ev.ret (f := fun t => t) (impl_doFit_ev h.1 h.2)

theorem impl_HeightGain_ev (h a b : List Int) (hh : h.length ≤ 1048576) (ha : a.length ≤ 1048576) (hb : b.length ≤ 1048576) : Ev (fun k => impl_HeightGain.f k h a b) (if heightsB h && (fits a b && decide (h.length = a.length)) then (wrap64 (wrap64 (dot h a) - wrap64 (dot h b)), true) else (0, false)) := by
  simp only [impl_HeightGain.f]
  have off : Ev (fun k => impl_HeightGain.j0 k h a b true) (0, false) := by
    refine Ev.succ ?_
    simp only [impl_HeightGain.j0, if_true]
    exact Ev.now _
  refine Ev.bind (impl_areHeights_ev h hh) ?_
  cases h1 : heightsB h with
  | false => simp only [Bool.false_eq_true, if_false, Bool.false_and]; exact off
  | true =>
    simp only [if_true, Bool.true_and]
    refine Ev.bind (impl_areFitting_ev a b ha hb) ?_
    cases h2 : fits a b with
    | false => simp only [Bool.false_eq_true, if_false, Bool.false_and]; exact off
    | true =>
      simp only [if_true, Bool.true_and]
      have h3 := (fits_iff.1 h2).2.2.1
      by_cases e : h.length = a.length
      · simp only [e, bne_self_eq_false, decide_true, if_true]
        refine Ev.succ ?_
        simp only [impl_HeightGain.j0, Bool.false_eq_true, if_false]
        refine Ev.bind (impl_arranged_ev h a hh (by omega)) ?_
        exact Ev.ret (f := fun t => (wrap64 (wrap64 (dot h a) - t), true)) (impl_arranged_ev h b hh (by omega))
      · have e2 : ((h.length : Int) != (a.length : Int)) = true := by simp; omega
        simp only [e2, e, decide_false, Bool.false_eq_true, if_false]
        exact off

theorem spec_syArranged_l (l m : List Int) (hl : l.length ≤ 1048576) (hm : l.length ≤ m.length) : ∀ i, i ≤ l.length → ∀ acc, InR acc → Ev (fun k => spec_syArranged.l0 k m acc l (l.length : Int) (i : Int)) (wrap64 (acc + dot (l.drop i) (m.drop i))) := by
  refine down ?_ ?_
  · intro acc ha
    refine Ev.succ ?_
    simp only [spec_syArranged.l0, nlt (Nat.le_refl l.length), if_false, List.drop_length, dot_nil, Int.add_zero, wR ha]
    exact Ev.now _
  · intro i hi ih acc ha
    have h2 : i < m.length := by omega
    refine Ev.succ ?_
    simp only [spec_syArranged.l0, ilt hi, ilt h2, inn, if_true, rd_lt hi, rd_lt h2, wnext hi (by omega : l.length ≤ 4611686018427387904)]
    rw [drop_cons hi, drop_cons h2, dot_cons, ← Int.add_assoc]
    refine (ih _ (inR_wrap _)).eqv ?_
    rw [wrap_add, Int.add_right_comm, wrap_add', Int.add_right_comm]
theorem spec_syArranged_ev (l m : List Int) (hl : l.length ≤ 1048576) (hm : l.length ≤ m.length) : Ev (fun k => spec_syArranged.f k l m) (wrap64 (dot l m)) := by
  have := spec_syArranged_l l m hl hm 0 (Nat.zero_le _) 0 inR_0
  simpa only [spec_syArranged.f, List.drop_zero, Int.zero_add, Int.natCast_zero] using this

theorem spec_l1In_e (a b c : Int) : spec_l1In.f a b c = some (wth a b c) := wth_opt a b c

theorem spec_l1All_l (l : List Int) (lo hi : Int) (hl : l.length ≤ 4611686018427387904) : ∀ i, i ≤ l.length → Ev (fun k => spec_l1All.l0 k lo hi l (l.length : Int) (i : Int)) (allW (l.drop i) lo hi) := by
  refine down ?_ ?_
  · refine Ev.succ ?_
    simp only [spec_l1All.l0, nlt (Nat.le_refl l.length), if_false, List.drop_length]
    exact Ev.now _
  · intro i hi ih
    refine Ev.succ ?_
    simp only [spec_l1All.l0, ilt hi, inn, if_true, spec_l1In_e, Option.bind_some, rd_lt hi, wnext hi hl]
    rw [drop_cons hi]
    exact Ev.andS fun _ => ih
theorem spec_l1All_ev (l : List Int) (lo hi : Int) (hl : l.length ≤ 4611686018427387904) : Ev (fun k => spec_l1All.f k l lo hi) (allW l lo hi) := by
  have := spec_l1All_l l lo hi hl 0 (Nat.zero_le _)
  simpa only [spec_l1All.f, List.drop_zero, Int.natCast_zero] using this

theorem spec_plHeights_l (l : List Int) (hl : l.length ≤ 1048576) (hb : ∀ x ∈ l, -100 ≤ x ∧ x ≤ 100) : ∀ i, i ≤ l.length - 1 → Ev (fun k => spec_plHeights.l0 k l ((i + 1 : Nat) : Int)) (adj hp (l.drop i) && wth l.length 1 8) := by
  refine down ?_ ?_
  · refine Ev.succ ?_
    simp only [spec_plHeights.l0, nlt (by omega : l.length ≤ l.length - 1 + 1), if_false, spec_l1In_e, Option.bind_some]
    rw [adj_short (by simp; omega), Bool.true_and]
    exact Ev.now _
  · intro i hi ih
    have h0 : i < l.length := by omega
    have h1 : i + 1 < l.length := by omega
    have b0 := hb _ (List.getElem_mem h0)
    have b1 := hb _ (List.getElem_mem h1)
    refine Ev.succ ?_
    simp only [spec_plHeights.l0, ilt h1, inn, if_true, wprev (by omega : i ≤ 4611686018427387904), ilt h0, spec_l1In_e, Option.bind_some, rd_lt h0, rd_lt h1, wnext h1 (by omega)]
    rw [drop_cons h0, drop_cons h1, adj, ← drop_cons h1, w64 (by omega) (by omega), Bool.and_assoc]
    exact Ev.andS fun _ => ih
theorem spec_plHeights_ev (l : List Int) (hl : l.length ≤ 1048576) (hb : ∀ x ∈ l, -100 ≤ x ∧ x ≤ 100) : Ev (fun k => spec_plHeights.f k l) (adj hp l && wth l.length 1 8) := by
  simp only [spec_plHeights.f]
  exact spec_plHeights_l l hl hb 0 (Nat.zero_le _)

theorem spec_plHigh_ev (l : List Int) (hl : l.length ≤ 1048576) : Ev (fun k => spec_plHigh.f k l) (heightsB l) := by
  simp only [spec_plHigh.f]
  refine (Ev.and (b := adj hp l && wth l.length 1 8) (spec_l1All_ev l _ _ (by omega)) fun h => Ev.ret (f := fun t => t) (spec_plHeights_ev l hl (allW_iff.1 h))).eqv ?_
  unfold heightsB
  cases wth l.length 1 8 <;> simp

theorem spec_liGood_ev (l : List Int) (hl : l.length ≤ 4611686018427387904) : Ev (fun k => spec_liGood.f k l) (goodB l) := by
  simp only [spec_liGood.f, spec_l1In_e, Option.bind_some, goodB]
  exact Ev.andS fun _ => Ev.ret (f := fun t => t) (spec_l1All_ev l 0 60 hl)

theorem spec_liSum_l (l : List Int) (hl : l.length ≤ 4611686018427387904) : ∀ i, i ≤ l.length → ∀ acc, InR acc → Ev (fun k => spec_liSum.l0 k acc l (l.length : Int) (i : Int)) (wrap64 (acc + (l.drop i).sum)) := by
  refine down ?_ ?_
  · intro acc ha
    refine Ev.succ ?_
    simp only [spec_liSum.l0, nlt (Nat.le_refl l.length), if_false, List.drop_length, List.sum_nil, Int.add_zero, wR ha]
    exact Ev.now _
  · intro i hi ih acc ha
    refine Ev.succ ?_
    simp only [spec_liSum.l0, ilt hi, inn, if_true, rd_lt hi, wnext hi hl]
    rw [drop_cons hi, List.sum_cons, ← Int.add_assoc]
    exact (ih _ (inR_wrap _)).eqv (wrap_add _ _)
theorem spec_liSum_ev (l : List Int) (hl : l.length ≤ 4611686018427387904) : Ev (fun k => spec_liSum.f k l) (wrap64 l.sum) := by
  have := spec_liSum_l l hl 0 (Nat.zero_le _) 0 inR_0
  simpa only [spec_liSum.f, List.drop_zero, Int.zero_add, Int.natCast_zero] using this
theorem spec_liSum_good {l : List Int} (h : Lst l) : Ev (fun k => spec_liSum.f k l) l.sum :=
  (spec_liSum_ev l (by have := h.2.1; omega)).eqv (w64 (by have := h.sum; omega) (by have := h.sum; omega))

theorem spec_liFit_ev {a b : List Int} (ha : Lst a) (hb : Lst b) : Ev (fun k => spec_liFit.f k a b) (decide (a.length = b.length) && decide (a.sum = b.sum)) := by
  simp only [spec_liFit.f]
  by_cases h : a.length = b.length
  · have h2 : (a.length : Int) = (b.length : Int) := by omega
    simp only [h2, if_true, h, decide_true, Bool.true_and]
    refine Ev.bind (spec_liSum_good ha) ?_
    exact Ev.ret (f := fun t => a.sum == t) (spec_liSum_good hb)
  · have h2 : ¬ (a.length : Int) = (b.length : Int) := by omega
    simp only [h2, if_false, h, decide_false, Bool.false_and]
    exact Ev.now _

theorem spec_plBoth_ev (a b : List Int) (ha : a.length ≤ 1048576) (hb : b.length ≤ 1048576) : Ev (fun k => spec_plBoth.f k a b) (fits a b) := by
  simp only [spec_plBoth.f]
  refine Ev.and (spec_liGood_ev a (by omega)) fun h => ?_
  refine Ev.and (spec_liGood_ev b (by omega)) fun h2 => ?_
  exact Ev.ret (f := fun t => t) (spec_liFit_ev (goodB_iff.1 h) (goodB_iff.1 h2))

theorem spec_HeightGain_ev (h a b : List Int) (hh : h.length ≤ 1048576) (ha : a.length ≤ 1048576) (hb : b.length ≤ 1048576) : Ev (fun k => spec_HeightGain.f k h a b) (if heightsB h && (fits a b && decide (h.length = a.length)) then (wrap64 (wrap64 (dot h a) - wrap64 (dot h b)), true) else (0, false)) := by
  simp only [spec_HeightGain.f]
  have off : Ev (fun k => spec_HeightGain.j0 k h a b true) (0, false) := by
    refine Ev.succ ?_
    simp only [spec_HeightGain.j0, if_true]
    exact Ev.now _
  refine Ev.bind (spec_plHigh_ev h hh) ?_
  cases h1 : heightsB h with
  | false => simp only [Bool.false_eq_true, if_false, Bool.false_and]; exact off
  | true =>
    simp only [if_true, Bool.true_and]
    refine Ev.bind (spec_plBoth_ev a b ha hb) ?_
    cases h2 : fits a b with
    | false => simp only [Bool.false_eq_true, if_false, Bool.false_and]; exact off
    | true =>
      simp only [if_true, Bool.true_and]
      have h3 := (fits_iff.1 h2).2.2.1
      by_cases e : h.length = a.length
      · simp only [e, bne_self_eq_false, decide_true, if_true]
        refine Ev.succ ?_
        simp only [spec_HeightGain.j0, Bool.false_eq_true, if_false]
        refine Ev.bind (spec_syArranged_ev h a hh (by omega)) ?_
        exact Ev.ret (f := fun t => (wrap64 (wrap64 (dot h a) - t), true)) (spec_syArranged_ev h b hh (by omega))
      · have e2 : ((h.length : Int) != (a.length : Int)) = true := by simp; omega
        simp only [e2, e, decide_false, Bool.false_eq_true, if_false]
        exact off

theorem spec_DrawBestHeights_x {c : List Int} (hc : Bts c) : Ex (fun k => spec_DrawBestHeights.f k c) (fun r => r.1.length ≤ 10 ∧ r.2.length ≤ 10) := by
  simp only [spec_DrawBestHeights.f]
  refine Ex.bind (spec_l1Cur_fitting_x hc 0 0 0 9 ⟨by omega, by omega⟩ (by omega)) fun r hr => ?_
  exact Ex.now ⟨hr.1, hr.2.1⟩

theorem impl_ahead_l {a b : List Int} (he : a.length = b.length) (hl : a.length ≤ 1048576) (ha : ∀ x ∈ a, 0 ≤ x ∧ x ≤ 60) (hb : ∀ x ∈ b, 0 ≤ x ∧ x ≤ 60) : ∀ i, i ≤ a.length → ∀ (out : List Int) (s : Int), out.length = i → -60 * (i : Int) ≤ s → s ≤ 60 * i → Ev (fun k => impl_ahead.l0 k b out s a (a.length : Int) (i : Int)) (out ++ dsums s (a.drop i) (b.drop i)) := by
  refine down ?_ ?_
  · intro out s ho h0 h1
    refine Ev.succ ?_
    simp only [impl_ahead.l0, nlt (Nat.le_refl a.length), if_false, List.drop_length, dsums, List.append_nil]
    exact Ev.now _
  · intro i hi ih out s ho h0 h1
    have h2 : i < b.length := by omega
    have b0 := ha _ (List.getElem_mem hi)
    have b1 := hb _ (List.getElem_mem h2)
    have c : out.length < 17592186044416 := by omega
    refine Ev.succ ?_
    simp only [impl_ahead.l0, ilt hi, ilt h2, inn, if_true, rd_lt hi, rd_lt h2, wnext hi (by omega : a.length ≤ 4611686018427387904), c, w64 (x := a[i] - b[i]) (by omega) (by omega), w64 (x := s + (a[i] - b[i])) (by omega) (by omega)]
    rw [drop_cons hi, drop_cons h2, dsums]
    exact (ih _ _ (by simp [ho]) (by omega) (by omega)).eqv (by simp)
theorem impl_ahead_ev {a b : List Int} (ha : Lst a) (hb : Lst b) (he : a.length = b.length) : Ev (fun k => impl_ahead.f k a b) (dsums 0 a b) := by
  have := impl_ahead_l he (by have := ha.2.1; omega) ha.2.2 hb.2.2 0 (Nat.zero_le _) [] 0 rfl (by omega) (by omega)
  simpa only [impl_ahead.f, List.drop_zero, List.nil_append, Int.natCast_zero] using this

theorem cmp_isNaN_int_e (a : Int) : cmp_isNaN_int.f a = some false := by simp [cmp_isNaN_int.f]

theorem cmp_Compare_int_e (a b : Int) : cmp_Compare_int.f a b = some (cmpI a b) := by
  simp only [cmp_Compare_int.f, cmp_isNaN_int_e, Option.bind_some, Bool.false_eq_true, if_false, cmpI]
  by_cases h : a < b
  · simp only [h, if_true]
  · simp only [h, if_false]
    by_cases h2 : a > b
    · simp only [h2, if_true]
    · simp only [h2, if_false]

theorem impl_BestHeights_l (X : List Int) (hl : X.length ≤ 8) : ∀ (n : Nat) (out : List Int), n < X.length → out.length = X.length → (∀ z ∈ out.drop n, -8 + (n : Int) ≤ z ∧ z ≤ 8 - (n : Int)) → out.drop n = heightsFrom X n →
    Ev (fun k => impl_BestHeights.l0 k out X ((n : Int) - 1)) (heightsFrom X 0, true)
  | 0, out, _, ho, _, h => by
    refine Ev.succ ?_
    simp only [impl_BestHeights.l0, (by decide : ¬ ((0 : Nat) : Int) - 1 ≥ 0), if_false]
    rw [List.drop_zero] at h
    rw [h]
    exact Ev.now _
  | n + 1, out, hn, ho, hb, h => by
    have e1 : ((n + 1 : Nat) : Int) - 1 = (n : Int) := by omega
    have c0 : (n : Int) ≥ 0 := by omega
    have h0 : n < out.length := by omega
    have h1 : n + 1 < out.length := by omega
    have hd : out.drop (n + 1) = out[n + 1] :: out.drop (n + 1 + 1) := drop_cons h1
    have hzm := hb out[n + 1] (by rw [hd]; exact List.mem_cons_self)
    have hc := cmpI_bound (X.getD n 0) 0
    have hs : heightsFrom X n = (out[n + 1] + cmpI (X.getD n 0) 0) :: out.drop (n + 1) := by
      rw [heightsFrom_step (by omega), ← h, hd]; rfl
    rw [e1]
    refine Ev.succ ?_
    simp only [impl_BestHeights.l0, c0, inn, ilt h0, ilt h1, ilt (by omega : n < X.length), if_true, wnext (by omega : n < 9) (by omega), rd_lt h1, rd_get, cmp_Compare_int_e, Option.bind_some, Int.toNat_natCast]
    rw [w64 (x := out[n + 1] + cmpI (X.getD n 0) 0) (by omega) (by omega), w64 (x := (n : Int) - 1) (by omega) (by omega)]
    have hdn : (out.set n (out[n + 1] + cmpI (X.getD n 0) 0)).drop n = (out[n + 1] + cmpI (X.getD n 0) 0) :: out.drop (n + 1) := by
      rw [drop_cons (by simpa using h0), List.drop_set_of_lt (by omega), List.getElem_set_self]
    refine impl_BestHeights_l X hl n _ (by omega) (by simpa using ho) ?_ ?_
    · rw [hdn]
      intro z hz
      rcases List.mem_cons.1 hz with rfl | hz
      · omega
      · have := hb z hz; omega
    · rw [hdn, hs]
theorem impl_BestHeights_ev (a b : List Int) (ha : a.length ≤ 1048576) (hb : b.length ≤ 1048576) : Ev (fun k => impl_BestHeights.f k a b) (if fits a b then (heightsFrom (dsums 0 a b) 0, true) else ([], false)) := by
  simp only [impl_BestHeights.f]
  refine Ev.bind (impl_areFitting_ev a b ha hb) ?_
  cases h : fits a b with
  | false => simp only [Bool.false_eq_true, if_false]; exact Ev.now _
  | true =>
    obtain ⟨h1, h2, h3, h4⟩ := fits_iff.1 h
    have n1 := h1.1
    have n8 := h1.2.1
    have hdl := dsums_length 0 a b h3
    have c : a.length ≤ 35184372088832 := by omega
    simp only [if_true, inn, Int.toNat_natCast, c]
    refine Ev.bind (impl_ahead_ev h1 h2 h3) ?_
    rw [w64 (x := (a.length : Int) - 2) (by omega) (by omega)]
    have hr : (List.replicate a.length (0 : Int)).drop (a.length - 1) = [0] := by
      rw [List.drop_replicate, show a.length - (a.length - 1) = 1 by omega]; rfl
    have := impl_BestHeights_l (dsums 0 a b) (by omega) (a.length - 1) (List.replicate a.length 0) (by omega) (by simp [hdl]) (by
      rw [hr]
      intro z hz
      have : z = 0 := by simpa using hz
      omega) (by rw [hr, ← hdl]; exact (heightsFrom_last (by omega)).symm)
    rw [show (((a.length - 1 : Nat) : Int) - 1) = (a.length : Int) - 2 by omega] at this
    exact this

theorem spec_liSums_l (l : List Int) (hl : l.length ≤ 1048576) (hb : ∀ x ∈ l, 0 ≤ x ∧ x ≤ 60) : ∀ i, i ≤ l.length → ∀ (out : List Int) (s : Int), out.length = i → 0 ≤ s → s ≤ 60 * i → Ev (fun k => spec_liSums.l0 k out s l (l.length : Int) (i : Int)) (out ++ psums s (l.drop i)) := by
  refine down ?_ ?_
  · intro out s ho h0 h1
    refine Ev.succ ?_
    simp only [spec_liSums.l0, nlt (Nat.le_refl l.length), if_false, List.drop_length, psums, List.append_nil]
    exact Ev.now _
  · intro i hi ih out s ho h0 h1
    have b := hb _ (List.getElem_mem hi)
    have c : out.length < 17592186044416 := by omega
    refine Ev.succ ?_
    simp only [spec_liSums.l0, ilt hi, inn, if_true, rd_lt hi, wnext hi (by omega : l.length ≤ 4611686018427387904), c, w64 (x := s + l[i]) (by omega) (by omega)]
    rw [drop_cons hi, psums]
    exact (ih _ _ (by simp [ho]) (by omega) (by omega)).eqv (by simp)
theorem spec_liSums_ev (l : List Int) (hl : l.length ≤ 1048576) (hb : ∀ x ∈ l, 0 ≤ x ∧ x ≤ 60) : Ev (fun k => spec_liSums.f k l) (psums 0 l) := by
  have := spec_liSums_l l hl hb 0 (Nat.zero_le _) [] 0 rfl (by omega) (by omega)
  simpa only [spec_liSums.f, List.drop_zero, List.nil_append, Int.natCast_zero] using this

theorem spec_BestHeights_l {a b : List Int} (he : a.length = b.length) (hl : a.length ≤ 8) (x : Int) (X Y : List Int) (hX : X.length = a.length) (hY : Y.length = a.length)
    (hD : ∀ i (h : i < a.length), cmpI (X[i]'(by omega)) (Y[i]'(by omega)) = cmpI ((dsums 0 a b).getD i 0) 0) :
    ∀ (n : Nat) (out : List Int), n < a.length → out.length = a.length - n → (∀ z ∈ out, -8 + (n : Int) ≤ z ∧ z ≤ 8 - (n : Int)) → out = (heightsFrom (dsums 0 a b) n) → 
    Ev (fun k => spec_BestHeights.l0 k X Y out ((n : Int) - 1)) (heightsFrom (dsums 0 a b) 0, true)
  | 0, out, _, _, _, h => by
    refine Ev.succ ?_
    simp only [spec_BestHeights.l0, (by decide : ¬ ((0 : Nat) : Int) - 1 ≥ 0), if_false, h]
    exact Ev.now _
  | n + 1, out, hn, ho, hb, h => by
    have e1 : ((n + 1 : Nat) : Int) - 1 = (n : Int) := by omega
    have c0 : (n : Int) ≥ 0 := by omega
    have c1 : 0 < (out.length : Int) := by omega
    have hx : n < X.length := by omega
    have hy : n < Y.length := by omega
    have hd := hD n (by omega)
    have hz : rd out 0 = out.headD 0 := by cases out <;> simp [rd]
    have hzm : -8 + ((n + 1 : Nat) : Int) ≤ out.headD 0 ∧ out.headD 0 ≤ 8 - ((n + 1 : Nat) : Int) := by
      cases out with
      | nil => simp at ho; omega
      | cons z t => exact hb z (by simp)
    have hs : heightsFrom (dsums 0 a b) n = (out.headD 0 + cmpI ((dsums 0 a b).getD n 0) 0) :: out := by
      rw [h, heightsFrom_step (by rw [dsums_length _ _ _ he]; omega)]
    have lim : ∀ v : Int, ([v] : List Int).length + out.length < 17592186044416 := fun v => by simp only [List.length_cons, List.length_nil]; omega
    have next := spec_BestHeights_l he hl x X Y hX hY hD n (heightsFrom (dsums 0 a b) n) (by omega) (by rw [hs, List.length_cons]; omega) (by
      rw [hs]
      intro z hz
      have hc := cmpI_bound ((dsums 0 a b).getD n 0) 0
      rcases List.mem_cons.1 hz with rfl | hz
      · omega
      · have := hb z hz; omega) rfl
    rw [hs] at next
    rw [e1]
    refine Ev.succ ?_
    simp only [spec_BestHeights.l0, c0, c1, inn, ilt hx, ilt hy, if_true, rd_lt hx, rd_lt hy, hz, Option.bind_some, lim]
    rw [← hd] at next
    unfold cmpI at next
    by_cases g1 : X[n] > Y[n]
    · have g2 : ¬ X[n] < Y[n] := by omega
      simp only [g1, g2, if_true, if_false] at next ⊢
      rw [w64 (x := out.headD 0 + 1) (by omega) (by omega), w64 (x := (n : Int) - 1) (by omega) (by omega)]
      exact next
    · by_cases g2 : X[n] < Y[n]
      · simp only [g1, g2, if_true, if_false] at next ⊢
        rw [w64 (x := out.headD 0 - 1) (by omega) (by omega), w64 (x := (n : Int) - 1) (by omega) (by omega)]
        exact next
      · simp only [g1, g2, if_false] at next ⊢
        rw [w64 (x := (n : Int) - 1) (by omega) (by omega)]
        rw [Int.add_zero] at next
        exact next
theorem spec_BestHeights_ev (a b : List Int) (ha : a.length ≤ 1048576) (hb : b.length ≤ 1048576) : Ev (fun k => spec_BestHeights.f k a b) (if fits a b then (heightsFrom (dsums 0 a b) 0, true) else ([], false)) := by
  simp only [spec_BestHeights.f]
  refine Ev.bind (spec_plBoth_ev a b ha hb) ?_
  cases h : fits a b with
  | false => simp only [Bool.false_eq_true, if_false]; exact Ev.now _
  | true =>
    simp only [if_true]
    obtain ⟨h1, h2, h3, h4⟩ := fits_iff.1 h
    have n1 := h1.1
    have n8 := h1.2.1
    have hdl := dsums_length 0 a b h3
    refine Ev.bind (spec_liSums_ev a ha h1.2.2) ?_
    refine Ev.bind (spec_liSums_ev b hb h2.2.2) ?_
    rw [w64 (x := (a.length : Int) - 2) (by omega) (by omega)]
    have := spec_BestHeights_l h3 n8 0 (psums 0 a) (psums 0 b) (psums_length _ _) (by rw [psums_length, h3]) (fun i hi => cmpI_psums 0 0 a b h3 i hi) (a.length - 1) [0] (by omega) (by simp; omega) (fun z hz => by
      have : z = 0 := by simpa using hz
      omega) (by rw [← hdl]; exact (heightsFrom_last (by omega)).symm)
    rw [show (((a.length - 1 : Nat) : Int) - 1) = (a.length : Int) - 2 by omega] at this
    exact this

theorem impl_AreHeights_ev (l : List Int) (hl : l.length ≤ 1048576) : Ev (fun k => impl_AreHeights.f k l) (heightsB l, true) := by
  simp only [impl_AreHeights.f]
  exact Ev.ret (f := fun t => (t, true)) (impl_areHeights_ev l hl)

theorem impl_LineDistance_l {X : List Int} (hl : X.length ≤ 1048576) (hX : ∀ x ∈ X, -480 ≤ x ∧ x ≤ 480) : ∀ i, i ≤ X.length → ∀ acc : Int, 0 ≤ acc → acc ≤ 480 * i → Ev (fun k => impl_LineDistance.l0 k acc X (X.length : Int) (i : Int)) (acc + sabs1 (X.drop i), true) := by
  refine down ?_ ?_
  · intro acc h0 h1
    refine Ev.succ ?_
    simp only [impl_LineDistance.l0, nlt (Nat.le_refl X.length), if_false, List.drop_length, sabs1, Int.add_zero]
    exact Ev.now _
  · intro i hi ih acc h0 h1
    have b0 := hX _ (List.getElem_mem hi)
    refine Ev.succ ?_
    simp only [impl_LineDistance.l0, ilt hi, inn, if_true, rd_lt hi, wnext hi (by omega : X.length ≤ 4611686018427387904), mx_eq, w64 (x := -X[i]) (by omega) (by omega)]
    rw [drop_cons hi, sabs1, ← Int.add_assoc, w64 (x := acc + _) (by omega) (by omega)]
    exact ih _ (by omega) (by omega)
theorem impl_LineDistance_ev (a b : List Int) (ha : a.length ≤ 1048576) (hb : b.length ≤ 1048576) : Ev (fun k => impl_LineDistance.f k a b) (if fits a b then (lineDist a b, true) else (0, false)) := by
  simp only [impl_LineDistance.f]
  refine Ev.bind (impl_areFitting_ev a b ha hb) ?_
  cases h : fits a b with
  | false => simp only [Bool.false_eq_true, if_false]; exact Ev.now _
  | true =>
    simp only [if_true]
    obtain ⟨h1, h2, h3, h4⟩ := fits_iff.1 h
    have hn := h1.2.1
    have e1 := dsums_length 0 a b h3
    refine Ev.bind (impl_ahead_ev h1 h2 h3) ?_
    have := impl_LineDistance_l (X := dsums 0 a b) (by omega) (dsums_bound h1.2.2 h2.2.2 (by omega) (by omega)) 0 (Nat.zero_le _) 0 (by omega) (by omega)
    rw [List.drop_zero, Int.zero_add] at this
    exact this

theorem FnHeightsProve_end {h a b : List Int} (ha : a.length ≤ 1048576) (hb : b.length ≤ 1048576) (v : Int × Bool) (hv : v = if heightsB h && (fits a b && decide (h.length = a.length)) then (wrap64 (wrap64 (dot h a) - wrap64 (dot h b)), true) else (0, false)) :
    Ev (fun k => if v.2 = true then ((impl_LineDistance.f k a b).bind fun bt => (if bt.2 = true then (some (decide (v.1 ≤ bt.1))) else (some false))) else (some true)) true := by
  cases h1 : heightsB h && (fits a b && decide (h.length = a.length)) with
  | false =>
    rw [h1] at hv
    subst hv
    simp only [Bool.false_eq_true, if_false]
    exact Ev.now _
  | true =>
    rw [h1] at hv
    subst hv
    rw [Bool.and_eq_true, Bool.and_eq_true, decide_eq_true_eq] at h1
    obtain ⟨h2, h3, h4⟩ := h1
    simp only [if_true]
    refine Ev.bind (impl_LineDistance_ev a b ha hb) ?_
    obtain ⟨la, lb, e1, e2⟩ := fits_iff.1 h3
    have := gain_line h2 la lb h4 e1 e2
    rw [h3]
    simp only [if_true, gain_w h2 la lb, decide_eq_true this]
    exact Ev.now _
theorem FnHeightsProve : laws_FnHeightsProve.Pure := by
  intro a b hma hsa hwa hmb hsb hwb
  refine Ev.rounds ?_
  have hc := Bts.of hsa hwa
  have hd := Bts.of hsb hwb
  simp only [laws_FnHeightsProve.f]
  obtain ⟨t, ht⟩ := laws_big_x a b
  rw [ht]
  simp only [Option.bind_some]
  by_cases h0 : t = true
  · simp only [h0, if_true]; exact Ev.now _
  · simp only [h0, if_false]
    refine Ex.ev (spec_DrawHeightGain_x hc) fun r hr => ?_
    obtain ⟨h, x, y⟩ := r
    have hh : h.length ≤ 1048576 := by have := hr.1; show h.length ≤ _; simp only at this; omega
    have hx : x.length ≤ 1048576 := by have := hr.2.1; show x.length ≤ _; simp only at this; omega
    have hy : y.length ≤ 1048576 := by have := hr.2.2; show y.length ≤ _; simp only at this; omega
    simp only
    refine Ev.bind (impl_HeightGain_ev h x y hh hx hy) ?_
    refine Ev.bind (spec_HeightGain_ev h x y hh hx hy) ?_
    obtain ⟨v, hv⟩ : ∃ v, v = if heightsB h && (fits x y && decide (h.length = x.length)) then (wrap64 (wrap64 (dot h x) - wrap64 (dot h y)), true) else (0, false) := ⟨_, rfl⟩
    rw [← hv]
    simp only [bne_self_eq_false, Bool.false_eq_true, if_false]
    refine Ev.succ ?_
    simp only [laws_FnHeightsProve.j0, Bool.false_eq_true, if_false]
    refine Ex.ev (spec_DrawBestHeights_x hd) fun r hr => ?_
    obtain ⟨p, q⟩ := r
    have hp : p.length ≤ 1048576 := by have := hr.1; show p.length ≤ _; simp only at this; omega
    have hq : q.length ≤ 1048576 := by have := hr.2; show q.length ≤ _; simp only at this; omega
    simp only
    refine Ev.bind (impl_BestHeights_ev p q hp hq) ?_
    refine Ev.bind (spec_BestHeights_ev p q hp hq) ?_
    simp only [bne_self_eq_false, Bool.false_eq_true, if_false]
    refine Ev.bind (laws_pSame_ev _ _ (by have := best_len p q; omega)) ?_
    simp only [decide_true, Bool.not_true]
    refine Ev.succ ?_
    simp only [laws_FnHeightsProve.j1, Bool.false_eq_true, if_false]
    cases h1 : fits p q with
    | false =>
      simp only [Bool.false_eq_true, if_false]
      exact FnHeightsProve_end hx hy v hv
    | true =>
      obtain ⟨la, lb, e1, e2⟩ := fits_iff.1 h1
      obtain ⟨b1, b2, b3, b4⟩ := best_parts (b := q) la e1 e2
      have l8 := la.2.1
      have l1 := la.1
      simp only [if_true]
      obtain ⟨z, hz⟩ : ∃ z, z = heightsFrom (dsums 0 p q) 0 := ⟨_, rfl⟩
      rw [← hz] at b1 b2 b3 b4 ⊢
      refine Ev.bind (impl_AreHeights_ev z (by omega)) ?_
      refine Ev.bind (impl_HeightGain_ev z p q (by omega) hp hq) ?_
      refine Ev.bind (impl_LineDistance_ev p q hp hq) ?_
      have w1 : wrap64 ((z.length : Int) - 1) = ((z.length - 1 : Nat) : Int) := by rw [w64 (by omega) (by omega)]; omega
      have c2 : 0 ≤ ((z.length - 1 : Nat) : Int) := by omega
      have c3 : ((z.length - 1 : Nat) : Int) < (z.length : Int) := by omega
      have hb : (heightsB z && (fits p q && decide (z.length = p.length))) = true := by rw [b1, h1, decide_eq_true b2]; rfl
      rw [hb, h1]
      simp only [if_true, b1, gain_w b1 la lb, b3, w1, c2, c3, rd_get, b4, bne_self_eq_false]
      refine Ev.succ ?_
      simp only [laws_FnHeightsProve.j2, Bool.false_eq_true, if_false]
      exact FnHeightsProve_end hx hy v hv

end Go.Proofs.Ytclnfaclfplpmaa.Pure
