/- Symmetric sums of majorized powers are not greater, and equal only for equal powers or equal arguments; the printed functions' own bounds on lengths are the only conditions. -/
import Derived.Test.YtojklddddedoeaaPFnMuirheadsOrderx8
import Derived.Test.YtojklddddedoeaaMathS
namespace Go.Proofs.Ytojklddddedoeaa.Pure
open Go.RowKit Go.Proofs.Ytojklddddedoeaa.PFnMuirheadsOrder Go.Proofs.YtojklddddedoeaaW.PrintWords Go.Proofs.YtojklddddedoeaaW.PrintLast Go.Proofs.YtojklddddedoeaaW.PrintMore Go.Proofs.Ytojklddddedoeaa.Math
set_option linter.unusedVariables false
set_option linter.unusedSimpArgs false
set_option linter.unusedSectionVars false

theorem laws_big_x (a b : List Int) : ∃ t, laws_big.f a b = some t := by
  unfold laws_big.f
  by_cases c : (a.length : Int) > 1048576
  · rw [if_pos c]; exact ⟨_, rfl⟩
  · rw [if_neg c]; exact ⟨_, rfl⟩

theorem spec_l1Cur_next_x {c : List Int} (hc : Bts c) (a s b : Int) (ha : At a b) (hb : b ≤ 4611686018427387904) : ∃ r : Int × Int × Int, spec_l1Cur_next.f c a s = some r ∧ 0 ≤ r.1 ∧ r.1 ≤ 255 ∧ At r.2.1 (b + 1) := by
  have h0 := ha.1
  have h1 := ha.2
  have e : wrap64 (a + 1) = a + 1 := w64 (by omega) (by omega)
  have a1 : At (a + 1) (b + 1) := ⟨by omega, by omega⟩
  have u : ∀ z : Int, 0 ≤ wrap64 (Go.bits .and .u64 (IntKind.u64.wrap z / 1099511627776) 255) ∧ wrap64 (Go.bits .and .u64 (IntKind.u64.wrap z / 1099511627776) 255) ≤ 255 := fun z => and255 _ (by rw [wrapU64]; omega) (by rw [wrapU64]; omega)
  unfold spec_l1Cur_next.f
  by_cases c1 : a < (c.length : Int)
  · have r := rd_code hc h0 c1
    simp only [c1, h0, if_true, e]
    by_cases c2 : a + 1 ≤ (c.length : Int)
    · simp only [c2, if_true]
      refine ⟨_, rfl, ?_, ?_, a1⟩
      · show 0 ≤ wrap64 _
        rw [w64 (by omega) (by omega)]; exact r.1
      · show wrap64 _ ≤ 255
        rw [w64 (by omega) (by omega)]; exact r.2
    · simp only [c2, if_false]
      exact ⟨_, rfl, (u _).1, (u _).2, a1⟩
  · simp only [c1, if_false, e]
    by_cases c2 : a + 1 ≤ (c.length : Int)
    · simp only [c2, if_true]
      exact ⟨_, rfl, by show (0 : Int) ≤ 0; omega, by show (0 : Int) ≤ 255; omega, a1⟩
    · simp only [c2, if_false]
      exact ⟨_, rfl, (u _).1, (u _).2, a1⟩

theorem spec_l1Cur_pick_x {c : List Int} (hc : Bts c) (a s b n : Int) (ha : At a b) (hb : b ≤ 1073741824) : Ex (fun _ => spec_l1Cur_pick.f c a s n) (fun r => 0 ≤ r.1 ∧ (1 ≤ n → r.1 < n) ∧ At r.2.1 (b + 2)) := by
  have h0 := ha.1
  have h1 := ha.2
  unfold spec_l1Cur_pick.f
  by_cases c1 : n ≤ 1
  · simp only [c1, if_true]
    exact Ex.now ⟨by show (0 : Int) ≤ 0; omega, fun h => by show (0 : Int) < n; omega, by omega, by show a ≤ b + 2; omega⟩
  · simp only [c1, if_false]
    obtain ⟨r, hr, r0, r1, r2⟩ := spec_l1Cur_next_x hc a s b ha (by omega)
    rw [hr]
    simp only [Option.bind_some]
    have n0 : ¬ n = 0 := by omega
    by_cases c2 : n > 200
    · simp only [c2, if_true]
      obtain ⟨q, hq, q0, q1, q2⟩ := spec_l1Cur_next_x hc r.2.1 r.2.2 (b + 1) r2 (by omega)
      rw [hq]
      simp only [Option.bind_some, n0, if_false]
      have e : wrap64 (wrap64 (r.1 * 256) + q.1) = r.1 * 256 + q.1 := by rw [w64 (x := r.1 * 256) (by omega) (by omega), w64 (by omega) (by omega)]
      rw [e]
      refine Ex.now ⟨Int.tmod_nonneg _ (by omega), fun _ => Int.tmod_lt_of_pos _ (by omega), q2.1, ?_⟩
      have := q2.2
      show q.2.1 ≤ b + 2
      omega
    · simp only [c2, if_false, n0]
      refine Ex.now ⟨Int.tmod_nonneg _ (by omega), fun _ => Int.tmod_lt_of_pos _ (by omega), r2.1, ?_⟩
      have := r2.2
      show r.2.1 ≤ b + 2
      omega

theorem spec_l1Cur_one_x {c : List Int} (hc : Bts c) (a s b n : Int) (ha : At a b) (hb : b ≤ 1073741824) : Ex (fun _ => spec_l1Cur_one.f c a s n) (fun r => At r.2.1 (b + 2)) := by
  unfold spec_l1Cur_one.f
  refine Ex.bind (spec_l1Cur_pick_x hc a s b n ha hb) fun r hr => ?_
  exact Ex.now hr.2.2

theorem spec_l1Own_e (l : List Int) (hl : l.length < 17592186044416) : spec_l1Own.f l = some l := by
  simp only [spec_l1Own.f, Option.bind_some, List.nil_append, List.length_nil, Nat.zero_add, hl, if_true]

theorem spec_l1Cur_many_x {c : List Int} (hc : Bts c) (a s b : Int) (ha : At a b) (hb : b ≤ 134217728) : Ex (fun _ => spec_l1Cur_many.f c a s) (fun r => 1 ≤ r.1 ∧ r.1 ≤ 5 ∧ At r.2.1 (b + 4)) := by
  unfold spec_l1Cur_many.f
  refine Ex.bind (spec_l1Cur_one_x hc a s b 10 ha (by omega)) fun r hr => ?_
  by_cases c1 : r.1 = true
  · simp only [c1, if_true]
    exact Ex.now ⟨by show (1 : Int) ≤ 5; omega, by show (5 : Int) ≤ 5; omega, hr.1, by have := hr.2; show r.2.1 ≤ _; omega⟩
  · simp only [c1, if_false]
    refine Ex.bind (spec_l1Cur_pick_x hc _ _ (b + 2) 4 hr (by omega)) fun q hq => ?_
    have q0 := hq.1
    have q1 := hq.2.1 (by omega)
    have e : wrap64 (1 + q.1) = 1 + q.1 := w64 (by omega) (by omega)
    rw [e]
    exact Ex.now ⟨by show (1 : Int) ≤ 1 + q.1; omega, by show 1 + q.1 ≤ (5 : Int); omega, hq.2.2.1, by have := hq.2.2.2; show q.2.1 ≤ _; omega⟩

theorem spec_l1Cur_among_x {c : List Int} (hc : Bts c) (a s b : Int) (l : List Int) (hl : 1 ≤ l.length) (ha : At a b) (hb : b ≤ 1073741824) : Ex (fun _ => spec_l1Cur_among.f c a s l) (fun r => r.1 ∈ l ∧ At r.2.1 (b + 2)) := by
  unfold spec_l1Cur_among.f
  refine Ex.bind (spec_l1Cur_pick_x hc a s b _ ha hb) fun r hr => ?_
  have h0 := hr.1
  have h1 := hr.2.1 (by omega)
  simp only [h0, h1, if_true]
  refine Ex.now ⟨?_, hr.2.2⟩
  have hi : r.1.toNat < l.length := by omega
  show rd l r.1 ∈ l
  unfold rd
  rw [List.getD_eq_getElem?_getD, List.getElem?_eq_getElem hi, Option.getD_some]
  exact List.getElem_mem hi

theorem spec_l1Cur_powers_l {c : List Int} (hc : Bts c) (m : Int) (h1 : 1 ≤ m) (hm : m ≤ 5) : ∀ (d : Nat) (x : List Int) (a s b : Int), (x.length : Int) + d = m → At a b → b + 4 * d + 16 ≤ 1073741824 → Ex (fun k => spec_l1Cur_powers.l0 k m x c a s) (fun r => (r.1.length : Int) = m ∧ At r.2.1 (b + 4 * d + 8))
  | 0, x, a, s, b, hx, ha, hb => by
    have c0 : ¬ ((x.length : Int) < m) := by omega
    refine Ex.succ ?_
    simp only [spec_l1Cur_powers.l0, c0, if_false]
    refine Ex.bind (spec_l1Cur_one_x hc a s b 14 ha (by omega)) fun r hr => ?_
    by_cases c1 : r.1 = true
    · simp only [c1, if_true]
      refine Ex.bind (spec_l1Cur_pick_x hc _ _ (b + 2) _ hr (by omega)) fun q hq => ?_
      refine Ex.bind (spec_l1Cur_among_x hc _ _ (b + 2 + 2) _ (by simp) hq.2.2 (by omega)) fun z hz => ?_
      have q0 := hq.1
      have q1 : q.1 < (x.length : Int) := by have := hq.2.1 h1; omega
      simp only [q0, q1, if_true]
      have hz2 := hz.2
      exact Ex.now ⟨by show ((x.set _ _).length : Int) = m; rw [List.length_set]; omega, by unfold At at hz2 ⊢; show 0 ≤ z.2.1 ∧ z.2.1 ≤ b + 4 * ((0 : Nat) : Int) + 8; omega⟩
    · simp only [c1, if_false]
      exact Ex.now ⟨by show (x.length : Int) = m; omega, by unfold At at hr ⊢; show 0 ≤ r.2.1 ∧ r.2.1 ≤ b + 4 * ((0 : Nat) : Int) + 8; omega⟩
  | d + 1, x, a, s, b, hx, ha, hb => by
    have c0 : (x.length : Int) < m := by omega
    have hl : x.length < 17592186044416 := by omega
    refine Ex.succ ?_
    simp only [spec_l1Cur_powers.l0, c0, if_true]
    refine Ex.bind (spec_l1Cur_pick_x hc a s b 5 ha (by omega)) fun r hr => ?_
    simp only [hl, if_true]
    refine Ex.mono (spec_l1Cur_powers_l hc m h1 hm d _ _ _ (b + 2) (by rw [List.length_append, List.length_singleton]; omega) hr.2.2 (by omega)) fun q hq => ⟨hq.1, ?_⟩
    have h := hq.2
    unfold At at h ⊢
    omega
theorem spec_l1Cur_powers_x {c : List Int} (hc : Bts c) (a s b m : Int) (h1 : 1 ≤ m) (hm : m ≤ 5) (ha : At a b) (hb : b ≤ 134217728) : Ex (fun k => spec_l1Cur_powers.f k c a s m) (fun r => (r.1.length : Int) = m ∧ At r.2.1 (b + 28)) := by
  simp only [spec_l1Cur_powers.f]
  refine Ex.mono (spec_l1Cur_powers_l hc m h1 hm m.toNat [] a s b (by simp; omega) ha (by omega)) fun q hq => ⟨hq.1, ?_⟩
  have h := hq.2
  unfold At at h ⊢
  omega

theorem spec_l1Cur_arguments_l {c : List Int} (hc : Bts c) (m : Int) (h1 : 1 ≤ m) (hm : m ≤ 5) : ∀ (d : Nat) (x : List Int) (a s b : Int), (x.length : Int) + d = m → At a b → b + 4 * d + 16 ≤ 1073741824 → Ex (fun k => spec_l1Cur_arguments.l0 k m x c a s) (fun r => r.1.length ≤ 6)
  | 0, x, a, s, b, hx, ha, hb => by
    have c0 : ¬ ((x.length : Int) < m) := by omega
    have hl : x.length < 17592186044416 := by omega
    refine Ex.succ ?_
    simp only [spec_l1Cur_arguments.l0, c0, if_false]
    refine Ex.bind (spec_l1Cur_pick_x hc a s b 14 ha (by omega)) fun r hr => ?_
    by_cases c1 : r.1 = 0
    · simp only [c1, if_true]
      refine Ex.bind (spec_l1Cur_pick_x hc _ _ (b + 2) _ hr.2.2 (by omega)) fun q hq => ?_
      refine Ex.bind (spec_l1Cur_among_x hc _ _ (b + 2 + 2) _ (by simp) hq.2.2 (by omega)) fun z hz => ?_
      have q0 := hq.1
      have q1 : q.1 < (x.length : Int) := by have := hq.2.1 h1; omega
      simp only [q0, q1, if_true]
      exact Ex.now (by show (x.set _ _).length ≤ 6; rw [List.length_set]; omega)
    · simp only [c1, if_false]
      by_cases c2 : r.1 = 1
      · simp only [c2, if_true, hl]
        exact Ex.now (by show (x ++ [2]).length ≤ 6; rw [List.length_append, List.length_singleton]; omega)
      · simp only [c2, if_false]
        exact Ex.now (by show x.length ≤ 6; omega)
  | d + 1, x, a, s, b, hx, ha, hb => by
    have c0 : (x.length : Int) < m := by omega
    have hl : x.length < 17592186044416 := by omega
    refine Ex.succ ?_
    simp only [spec_l1Cur_arguments.l0, c0, if_true]
    refine Ex.bind (spec_l1Cur_pick_x hc a s b 9 ha (by omega)) fun r hr => ?_
    simp only [hl, if_true]
    exact spec_l1Cur_arguments_l hc m h1 hm d _ _ _ (b + 2) (by rw [List.length_append, List.length_singleton]; omega) hr.2.2 (by omega)
theorem spec_l1Cur_arguments_x {c : List Int} (hc : Bts c) (a s b m : Int) (h1 : 1 ≤ m) (hm : m ≤ 5) (ha : At a b) (hb : b ≤ 134217728) : Ex (fun k => spec_l1Cur_arguments.f k c a s m) (fun r => r.1.length ≤ 6) := by
  simp only [spec_l1Cur_arguments.f]
  exact spec_l1Cur_arguments_l hc m h1 hm m.toNat [] a s b (by simp; omega) ha (by omega)

theorem spec_DrawCompareSums_l {c : List Int} (hc : Bts c) (m : Int) (y : List Int) (h1 : 1 ≤ m) (hm : m ≤ 5) (hy : (y.length : Int) = m) : ∀ (d : Nat) (x : List Int) (a s b : Int), (x.length : Int) = m → d ≤ 4 → At a b → b + 8 * d + 100 ≤ 134217728 → Ex (fun k => spec_DrawCompareSums.l0 k m y x (d : Int) c a s) (fun r => r.1.length ≤ 6 ∧ r.2.1.length ≤ 6 ∧ r.2.2.length ≤ 6)
  | 0, x, a, s, b, hx, hd, ha, hb => by
    have c0 : ¬ (((0 : Nat) : Int) > 0) := by omega
    refine Ex.succ ?_
    simp only [spec_DrawCompareSums.l0, c0, if_false]
    refine Ex.bind (spec_l1Cur_one_x hc a s b 3 ha (by omega)) fun r hr => ?_
    by_cases c1 : r.1 = true
    · simp only [c1, if_true]
      refine Ex.bind (spec_l1Cur_powers_x hc _ _ (b + 2) m h1 hm hr (by omega)) fun q hq => ?_
      refine Ex.bind (spec_l1Cur_arguments_x hc _ _ (b + 2 + 28) m h1 hm hq.2 (by omega)) fun z hz => ?_
      have := hq.1
      exact Ex.now ⟨by show q.1.length ≤ 6; omega, by show y.length ≤ 6; omega, hz⟩
    · simp only [c1, if_false]
      refine Ex.bind (spec_l1Cur_arguments_x hc _ _ (b + 2) m h1 hm hr (by omega)) fun z hz => ?_
      exact Ex.now ⟨by show x.length ≤ 6; omega, by show y.length ≤ 6; omega, hz⟩
  | d + 1, x, a, s, b, hx, hd, ha, hb => by
    have c0 : ((d + 1 : Nat) : Int) > 0 := by omega
    have e : wrap64 (((d + 1 : Nat) : Int) - 1) = (d : Int) := wprev (by omega)
    refine Ex.succ ?_
    simp only [spec_DrawCompareSums.l0, c0, if_true, e]
    refine Ex.bind (spec_l1Cur_pick_x hc a s b m ha (by omega)) fun r hr => ?_
    refine Ex.bind (spec_l1Cur_pick_x hc _ _ (b + 2) m hr.2.2 (by omega)) fun q hq => ?_
    have r0 := hr.1
    have r1 : r.1 < (x.length : Int) := by have := hr.2.1 h1; omega
    have q0 := hq.1
    have q1 : q.1 < (x.length : Int) := by have := hq.2.1 h1; omega
    simp only [r0, r1, q0, q1, if_true, Option.bind_some]
    by_cases c2 : rd x r.1 ≥ wrap64 (rd x q.1 + 2)
    · simp only [c2, if_true]
      exact spec_DrawCompareSums_l hc m y h1 hm hy d _ _ _ (b + 2 + 2) (by rw [List.length_set, List.length_set]; exact hx) (by omega) hq.2.2 (by omega)
    · simp only [c2, if_false]
      exact spec_DrawCompareSums_l hc m y h1 hm hy d _ _ _ (b + 2 + 2) hx (by omega) hq.2.2 (by omega)
theorem spec_DrawCompareSums_x {c : List Int} (hc : Bts c) : Ex (fun k => spec_DrawCompareSums.f k c) (fun r => r.1.length ≤ 6 ∧ r.2.1.length ≤ 6 ∧ r.2.2.length ≤ 6) := by
  simp only [spec_DrawCompareSums.f]
  refine Ex.bind (spec_l1Cur_many_x hc 0 0 0 ⟨by omega, by omega⟩ (by omega)) fun r hr => ?_
  refine Ex.bind (spec_l1Cur_powers_x hc _ _ (0 + 4) r.1 hr.1 hr.2.1 hr.2.2 (by omega)) fun q hq => ?_
  rw [spec_l1Own_e q.1 (by have := hq.1; have := hr.2.1; omega)]
  simp only [Option.bind_some]
  refine Ex.bind (spec_l1Cur_pick_x hc _ _ (0 + 4 + 28) 4 hq.2 (by omega)) fun z hz => ?_
  have z0 := hz.1
  have z1 := hz.2.1 (by omega)
  have e : z.1 = ((z.1.toNat : Nat) : Int) := by omega
  rw [e]
  exact spec_DrawCompareSums_l hc r.1 q.1 hr.1 hr.2.1 hq.1 z.1.toNat q.1 _ _ (0 + 4 + 28 + 2) hq.1 (by omega) hz.2.2 (by omega)

theorem impl_within_e (a b c : Int) : impl_within.f a b c = some (wth a b c) := wth_opt a b c

theorem impl_allWithin_l (l : List Int) (lo hi : Int) (hl : l.length ≤ 4611686018427387904) : ∀ i, i ≤ l.length → Ev (fun k => impl_allWithin.l0 k lo hi l (l.length : Int) (i : Int)) (allW (l.drop i) lo hi) := by
  refine down ?_ ?_
  · refine Ev.succ ?_
    simp only [impl_allWithin.l0, nlt (Nat.le_refl l.length), if_false, List.drop_length]
    exact Ev.now _
  · intro i hi ih
    refine Ev.succ ?_
    simp only [impl_allWithin.l0, ilt hi, inn, if_true, impl_within_e, Option.bind_some, rd_lt hi, wnext hi hl]
    rw [drop_cons hi]
    exact Ev.andS fun _ => ih
theorem impl_allWithin_ev (l : List Int) (lo hi : Int) (hl : l.length ≤ 4611686018427387904) : Ev (fun k => impl_allWithin.f k l lo hi) (allW l lo hi) := by
  have := impl_allWithin_l l lo hi hl 0 (Nat.zero_le _)
  simpa only [impl_allWithin.f, List.drop_zero, Int.natCast_zero] using this

theorem impl_arePowers_ev (p : List Int) (hp : p.length ≤ 1048576) : Ev (fun k => impl_arePowers.f k p) (wth p.length 1 4 && allW p 0 4) := by
  simp only [impl_arePowers.f, impl_within_e, Option.bind_some]
  exact Ev.andS fun _ => Ev.ret (f := fun t => t) (impl_allWithin_ev p 0 4 (by omega))

theorem impl_areArguments_ev (l : List Int) (hl : l.length ≤ 1048576) : Ev (fun k => impl_areArguments.f k l) (argsB l) := by
  simp only [impl_areArguments.f, impl_within_e, Option.bind_some, argsB]
  exact Ev.andS fun _ => Ev.ret (f := fun t => t) (impl_allWithin_ev l 1 9 (by omega))

theorem impl_power_l (x : Int) (n : Nat) (hn : n ≤ 4611686018427387904) : ∀ i, i ≤ n → ∀ acc, InR acc → Ev (fun k => impl_power.l0 k x acc (n : Int) (i : Int)) (wrap64 (acc * x ^ (n - i))) := by
  refine down ?_ ?_
  · intro acc ha
    refine Ev.succ ?_
    simp only [impl_power.l0, nlt (Nat.le_refl n), if_false, Nat.sub_self, Int.pow_zero, Int.mul_one, wR ha]
    exact Ev.now _
  · intro i hi ih acc ha
    refine Ev.succ ?_
    simp only [impl_power.l0, ilt hi, if_true, wnext hi hn]
    rw [show n - i = n - (i + 1) + 1 by omega, show acc * x ^ (n - (i + 1) + 1) = (acc * x) * x ^ (n - (i + 1)) by rw [Int.pow_succ, Int.mul_assoc, Int.mul_comm x]]
    exact (ih _ (inR_wrap _)).eqv (wrap_mul _ _)
theorem impl_power_ev (x n : Int) (hn : n ≤ 4611686018427387904) : Ev (fun k => impl_power.f k x n) (wrap64 (x ^ n.toNat)) := by
  simp only [impl_power.f]
  by_cases h : 0 ≤ n
  · have := impl_power_l x n.toNat (by omega) 0 (Nat.zero_le _) 1 ⟨by decide, by decide⟩
    simpa only [Int.toNat_of_nonneg h, Int.one_mul, Nat.sub_zero, Int.natCast_zero] using this
  · rw [Int.toNat_of_nonpos (by omega), Int.pow_zero]
    have c : ¬ 0 < n := by omega
    refine Ev.succ ?_
    simp only [impl_power.l0, c, if_false]
    exact (Ev.now _).eqv (w64 (by omega) (by omega)).symm

theorem impl_has_bits : ∀ u : Fin 16, ∀ j : Fin 4, impl_has.f (u.val : Int) (j.val : Int) = some (u.val.testBit j.val) := by decide +kernel
theorem has_or : ∀ u : Fin 16, ∀ i : Fin 4, Go.bits .or .i64 (u.val : Int) (IntKind.i64.wrap (2 ^ i.val)) = ((u.val ||| 2 ^ i.val : Nat) : Int) := by decide +kernel
/-- The numbers of a list, as bits. -/
def Bits (u : Int) (l : List Int) : Prop := ∃ v : Nat, v < 16 ∧ u = (v : Int) ∧ ∀ j : Nat, j < 4 → v.testBit j = decide ((j : Int) ∈ l)
theorem Bits.nil : Bits 0 [] := ⟨0, by omega, rfl, fun j _ => by simp⟩
theorem Bits.has {u : Int} {l : List Int} (h : Bits u l) {j : Nat} (hj : j < 4) : impl_has.f u (j : Int) = some (decide ((j : Int) ∈ l)) := by
  obtain ⟨v, hv, rfl, hb⟩ := h
  rw [← hb j hj]
  exact impl_has_bits ⟨v, hv⟩ ⟨j, hj⟩
theorem Bits.or {u : Int} {l : List Int} (h : Bits u l) {i : Nat} (hi : i < 4) : Bits (Go.bits .or .i64 u (IntKind.i64.wrap (2 ^ i))) (l ++ [(i : Int)]) := by
  obtain ⟨v, hv, rfl, hb⟩ := h
  refine ⟨v ||| 2 ^ i, ?_, has_or ⟨v, hv⟩ ⟨i, hi⟩, fun j hj => ?_⟩
  · have h2 : 2 ^ i < 2 ^ 4 := Nat.pow_lt_pow_right (by omega) hi
    exact Nat.or_lt_two_pow (n := 4) hv h2
  · rw [Nat.testBit_or, hb j hj, Nat.testBit_two_pow]
    have e : decide (((j : Int)) ∈ l ++ [(i : Int)]) = (decide ((j : Int) ∈ l) || decide (i = j)) := by
      rw [Bool.eq_iff_iff]
      simp only [decide_eq_true_eq, Bool.or_eq_true, List.mem_append, List.mem_singleton]
      constructor
      · rintro (h | h)
        · exact .inl h
        · exact .inr (by omega)
      · rintro (h | h)
        · exact .inl h
        · exact .inr (by omega)
    rw [e]

theorem slices_Clone_int_int_e (l : List Int) (hl : l.length < 17592186044416) : slices_Clone_int_int.f l = some l := by
  simp only [slices_Clone_int_int.f, Option.bind_some, List.nil_append, List.length_nil, Nat.zero_add, hl, if_true]

def symB (p x : List Int) : Bool := wth p.length 1 4 && (allW p 0 4 && (decide ((x.length : Int) = (p.length : Int)) && allW x 1 9))
/-- The orders that go on l by a number from n - c on. -/
def tries (g : List Int → List (List Int)) (l : List Int) (n : Nat) : Nat → List (List Int)
  | 0 => []
  | c + 1 => (if ((n - (c + 1) : Nat) : Int) ∈ l then [] else g (l ++ [((n - (c + 1) : Nat) : Int)])) ++ tries g l n c
def goOn (n : Nat) : Nat → List Int → List (List Int)
  | 0, l => [l]
  | d + 1, l => tries (goOn n d) l n n
theorem tries_len {g : List Int → List (List Int)} {l : List Int} {n B : Nat} (h : ∀ m, (g m).length ≤ B) : ∀ c, (tries g l n c).length ≤ c * B
  | 0 => by simp [tries]
  | c + 1 => by
    have ih := tries_len h (l := l) (n := n) c
    rw [tries, List.length_append, Nat.succ_mul]
    split
    · simp; omega
    · have := h (l ++ [((n - (c + 1) : Nat) : Int)])
      omega
theorem goOn_len {n : Nat} (hn : n ≤ 4) : ∀ d l, (goOn n d l).length ≤ 4 ^ d
  | 0, l => by simp [goOn]
  | d + 1, l => by
    have := tries_len (l := l) (n := n) (goOn_len hn d) n
    rw [goOn, Nat.pow_succ, Nat.mul_comm]
    exact Nat.le_trans this (Nat.mul_le_mul_right _ hn)
theorem tries_mem {g : List Int → List (List Int)} {l : List Int} {n : Nat} {P : List Int → Prop} (h : ∀ i : Nat, i < n → ∀ o ∈ g (l ++ [(i : Int)]), P o) : ∀ c, c ≤ n → ∀ o ∈ tries g l n c, P o
  | 0, _, o, ho => by simp [tries] at ho
  | c + 1, hc, o, ho => by
    rw [tries, List.mem_append] at ho
    rcases ho with ho | ho
    · split at ho
      · simp at ho
      · exact h _ (by omega) o ho
    · exact tries_mem h c (by omega) o ho
theorem goOn_mem {n : Nat} : ∀ d (l : List Int), l.length + d = n → (∀ j ∈ l, 0 ≤ j ∧ j < (n : Int)) → ∀ o ∈ goOn n d l, o.length = n ∧ ∀ j ∈ o, 0 ≤ j ∧ j < (n : Int)
  | 0, l, hl, hb, o, ho => by
    rw [goOn, List.mem_singleton] at ho
    subst ho
    exact ⟨by omega, hb⟩
  | d + 1, l, hl, hb, o, ho => by
    rw [goOn] at ho
    refine tries_mem (P := fun o => o.length = n ∧ ∀ j ∈ o, 0 ≤ j ∧ j < (n : Int)) (fun i hi o ho => ?_) n (Nat.le_refl _) o ho
    refine goOn_mem d _ (by rw [List.length_append, List.length_singleton]; omega) (fun j hj => ?_) o ho
    rcases List.mem_append.1 hj with hj | hj
    · exact hb j hj
    · rw [List.mem_singleton] at hj; omega
/-- The product of an order's powers, and the sum over orders. -/
def prodW (pw x : List Int) : List Int → Nat → Int → Int
  | [], _, p => p
  | j :: t, i, p => prodW pw x t (i + 1) (wrap64 (p * wrap64 (x.getD j.toNat 0 ^ (pw.getD i 0).toNat)))
def sumW (pw x : List Int) : List (List Int) → Int → Int
  | [], s => s
  | o :: t, s => sumW pw x t (wrap64 (s + prodW pw x o 0 1))
theorem sumW_app (pw x : List Int) : ∀ (a b : List (List Int)) (s : Int), sumW pw x (a ++ b) s = sumW pw x b (sumW pw x a s)
  | [], _, _ => rfl
  | _ :: a, b, s => sumW_app pw x a b _
def symS (pw x : List Int) : Int := sumW pw x (goOn x.length x.length []) 0
def symV (pw x : List Int) : Int × Bool := if symB pw x then (symS pw x, true) else (0, false)
theorem symB_parts {p x : List Int} (h : symB p x = true) : (1 ≤ p.length ∧ p.length ≤ 4) ∧ (∀ y ∈ p, 0 ≤ y ∧ y ≤ 4) ∧ x.length = p.length ∧ (∀ y ∈ x, 1 ≤ y ∧ y ≤ 9) := by
  unfold symB at h
  rw [Bool.and_eq_true, Bool.and_eq_true, Bool.and_eq_true, wth_iff, allW_iff, allW_iff, decide_eq_true_eq] at h
  obtain ⟨h1, h2, h3, h4⟩ := h
  exact ⟨by omega, h2, by omega, h4⟩
def cmpV (a b x : List Int) : Int × Bool := if symB a x && symB b x then (cmpI (symS a x) (symS b x), true) else (0, false)

def atX (x l : List Int) : List Int := l.map fun j => x.getD j.toNat 0
theorem impl_symmetricSum_v (pw x : List Int) (hb : ∀ y ∈ pw, 0 ≤ y ∧ y ≤ 4) : ∀ (t : List Int) (i : Nat) (p : Int), i + t.length = pw.length → Ev (fun k => impl_symmetricSum.v k pw (atX x t) i p) (prodW pw x t i p)
  | [], _, _, _ => Ev.now _
  | j :: t, i, p, h => by
    have hi : i < pw.length := by rw [List.length_cons] at h; omega
    have b := hb _ (List.getElem_mem hi)
    have eg : pw.getD i 0 = pw[i] := by simp [List.getD_eq_getElem?_getD, hi]
    show Ev (fun k => impl_symmetricSum.v k pw (x.getD j.toNat 0 :: atX x t) i p) _
    simp only [impl_symmetricSum.v, hi, if_true, prodW]
    refine Ev.bind (impl_power_ev (x.getD j.toNat 0) (pw.getD i 0) (by omega)) ?_
    exact impl_symmetricSum_v pw x hb t (i + 1) _ (by rw [List.length_cons] at h; omega)
theorem impl_symmetricSum_go (pw x : List Int) (h4 : x.length ≤ 4) (d : Nat) (l : List Int) (hl : l.length + (d + 1) = x.length) (u : Int) (hu : Bits u l)
    (ih : ∀ (m : List Int) (u s : Int), m.length + d = x.length → Bits u m → Ev (fun k => impl_symmetricSum.e k pw x d u (atX x m) s) (sumW pw x (goOn x.length d m) s)) : ∀ (c i : Nat), i + c = x.length → ∀ s, Ev (fun k => impl_symmetricSum.go (impl_symmetricSum.e k pw x d) u (atX x l) (x.drop i) i s) (sumW pw x (tries (goOn x.length d) l x.length c) s)
  | 0, i, hi, s => by
    have e : i = x.length := by omega
    subst e
    rw [List.drop_length]
    exact Ev.now _
  | c + 1, i, hi, s => by
    have e : x.length - (c + 1) = i := by omega
    have hix : i < x.length := by omega
    rw [drop_cons hix]
    have eg : x[i] = x.getD i 0 := by simp [List.getD_eq_getElem?_getD, hix]
    simp only [impl_symmetricSum.go, hu.has (by omega : i < 4), Option.bind_some, tries, e]
    by_cases h : (i : Int) ∈ l
    · simp only [decide_eq_true h, if_true, if_pos h, List.nil_append]
      exact impl_symmetricSum_go pw x h4 d l hl u hu ih c (i + 1) (by omega) s
    · have hal : (atX x l).length = l.length := by simp [atX]
      have c1 : (atX x l).length < 17592186044416 := by omega
      simp only [decide_eq_false h, Bool.false_eq_true, if_false, if_neg h, slices_Clone_int_int_e (atX x l) (by omega), Option.bind_some, c1, if_true]
      have ea : atX x l ++ [x[i]] = atX x (l ++ [(i : Int)]) := by rw [eg]; simp [atX]
      rw [ea, sumW_app]
      refine Ev.bind (ih (l ++ [(i : Int)]) _ s (by rw [List.length_append, List.length_singleton]; omega) (hu.or (by omega))) ?_
      exact impl_symmetricSum_go pw x h4 d l hl u hu ih c (i + 1) (by omega) _
theorem impl_symmetricSum_e (pw x : List Int) (hp : pw.length = x.length) (h4 : x.length ≤ 4) (hb : ∀ y ∈ pw, 0 ≤ y ∧ y ≤ 4) : ∀ (d : Nat) (l : List Int) (u s : Int), l.length + d = x.length → Bits u l → Ev (fun k => impl_symmetricSum.e k pw x d u (atX x l) s) (sumW pw x (goOn x.length d l) s)
  | 0, l, u, s, hl, hu => by
    have hal : (atX x l).length = x.length := by simp [atX]; omega
    simp only [impl_symmetricSum.e, hal, if_true, goOn, sumW]
    exact Ev.ret (f := fun p => wrap64 (s + p)) (impl_symmetricSum_v pw x hb l 0 1 (by omega))
  | d + 1, l, u, s, hl, hu => by
    have hal : ¬ (atX x l).length = x.length := by simp [atX]; omega
    simp only [impl_symmetricSum.e, hal, if_false, goOn]
    have := impl_symmetricSum_go pw x h4 d l hl u hu (fun m u s hm hu => impl_symmetricSum_e pw x hp h4 hb d m u s hm hu) x.length 0 (by omega) s
    rw [List.drop_zero] at this
    exact this
theorem impl_symmetricSum_ev {pw x : List Int} (h : symB pw x = true) : Ev (fun k => impl_symmetricSum.f k pw x) (symS pw x) := by
  obtain ⟨h1, h2, h3, h4⟩ := symB_parts h
  have hx : x.length ≤ 4 := by omega
  simp only [impl_symmetricSum.f, hx, if_true]
  exact impl_symmetricSum_e pw x (by omega) hx h2 x.length [] 0 0 (by simp) Bits.nil

theorem impl_SymmetricSum_ev (p x : List Int) (hp : p.length ≤ 1048576) (hx : x.length ≤ 1048576) : Ev (fun k => impl_SymmetricSum.f k p x) (symV p x) := by
  simp only [impl_SymmetricSum.f]
  have off : symB p x = false → Ev (fun _ => some ((0, false) : Int × Bool)) (symV p x) := fun h => by
    unfold symV; rw [h]; exact Ev.now _
  refine Ev.bind (impl_arePowers_ev p hp) ?_
  cases h1 : wth p.length 1 4 && allW p 0 4 with
  | false =>
    simp only [Bool.false_eq_true, if_false]
    exact off (by unfold symB; rw [← Bool.and_assoc, h1]; rfl)
  | true =>
    simp only [if_true]
    refine Ev.bind (impl_areArguments_ev x hx) ?_
    rw [Bool.and_eq_true] at h1
    have e0 : symB p x = (decide ((x.length : Int) = (p.length : Int)) && allW x 1 9) := by unfold symB; rw [h1.1, h1.2]; rfl
    have w1 := wth_iff.1 h1.1
    by_cases c : (x.length : Int) = (p.length : Int)
    · have wx : wth x.length 1 4 = true := wth_iff.2 (by omega)
      have ea : argsB x = symB p x := by rw [e0]; unfold argsB; rw [wx, decide_eq_true c]
      rw [ea]
      cases h : symB p x with
      | false => simp only [Bool.false_eq_true, if_false]; exact off h
      | true =>
        simp only [if_true, c.symm]
        unfold symV
        rw [h]
        exact Ev.ret (f := fun t => (t, true)) (impl_symmetricSum_ev h)
    · have hf : symB p x = false := by rw [e0, decide_eq_false c]; rfl
      have c2 : ¬ ((p.length : Int) = (x.length : Int)) := by omega
      cases ha : argsB x with
      | false => simp only [Bool.false_eq_true, if_false]; exact off hf
      | true => simp only [if_true, c2, if_false]; exact off hf

theorem impl_CompareSums_ev (a b x : List Int) (ha : a.length ≤ 1048576) (hb : b.length ≤ 1048576) (hx : x.length ≤ 1048576) : Ev (fun k => impl_CompareSums.f k a b x) (cmpV a b x) := by
  simp only [impl_CompareSums.f]
  have off : (symB a x && symB b x) = false → ∀ u v : Int, Ev (fun k => impl_CompareSums.j0 k u v true) (cmpV a b x) := fun h u v => by
    unfold cmpV; rw [h]
    refine Ev.succ ?_
    simp only [impl_CompareSums.j0, if_true]
    exact Ev.now _
  refine Ev.bind (impl_SymmetricSum_ev a x ha hx) ?_
  refine Ev.bind (impl_SymmetricSum_ev b x hb hx) ?_
  cases h1 : symB a x with
  | false =>
    have e : symV a x = (0, false) := by unfold symV; rw [h1]; rfl
    simp only [e, Bool.false_eq_true, if_false]
    exact off (by rw [h1]; rfl) _ _
  | true =>
    have e : symV a x = (symS a x, true) := by unfold symV; rw [h1]; rfl
    simp only [e, if_true]
    cases h2 : symB b x with
    | false =>
      have e2 : symV b x = (0, false) := by unfold symV; rw [h2]; rfl
      simp only [e2, Bool.not_false]
      exact off (by rw [h1, h2]; rfl) _ _
    | true =>
      have e2 : symV b x = (symS b x, true) := by unfold symV; rw [h2]; rfl
      simp only [e2, Bool.not_true]
      refine Ev.succ ?_
      simp only [impl_CompareSums.j0, Bool.false_eq_true, if_false]
      unfold cmpV cmpI
      rw [h1, h2]
      simp only [Bool.and_self, if_true]
      by_cases c : symS a x < symS b x
      · simp only [c, if_true]; exact Ev.now _
      · simp only [c, if_false]
        by_cases c2 : symS a x > symS b x
        · simp only [c2, if_true]; exact Ev.now _
        · simp only [c2, if_false]; exact Ev.now _

theorem spec_l1In_e (a b c : Int) : spec_l1In.f a b c = some (wth a b c) := wth_opt a b c

theorem spec_l1All_l (l : List Int) (lo hi : Int) (hl : l.length ≤ 4611686018427387904) : ∀ i, i ≤ l.length → Ev (fun k => spec_l1All.l0 k lo hi l (l.length : Int) (i : Int)) (allW (l.drop i) lo hi) := by
  refine down ?_ ?_
  · refine Ev.succ ?_
    simp only [spec_l1All.l0, nlt (Nat.le_refl l.length), if_false, List.drop_length]
    exact Ev.now _
  · intro i hi ih
    refine Ev.succ ?_
    simp only [spec_l1All.l0, ilt hi, inn, if_true, spec_l1In_e, Option.bind_some, rd_lt hi, wnext hi hl]
    rw [drop_cons hi]
    exact Ev.andS fun _ => ih
theorem spec_l1All_ev (l : List Int) (lo hi : Int) (hl : l.length ≤ 4611686018427387904) : Ev (fun k => spec_l1All.f k l lo hi) (allW l lo hi) := by
  have := spec_l1All_l l lo hi hl 0 (Nat.zero_le _)
  simpa only [spec_l1All.f, List.drop_zero, Int.natCast_zero] using this

theorem spec_syGiven_ev (p x : List Int) (hp : p.length ≤ 1048576) (hx : x.length ≤ 1048576) : Ev (fun k => spec_syGiven.f k p x) (symB p x) := by
  simp only [spec_syGiven.f, spec_l1In_e, Option.bind_some, symB]
  refine Ev.andS fun _ => ?_
  refine Ev.and (spec_l1All_ev p 0 4 (by omega)) fun _ => ?_
  by_cases c : (x.length : Int) = (p.length : Int)
  · simp only [c, if_true, decide_true, Bool.true_and]
    exact Ev.ret (f := fun t => t) (spec_l1All_ev x 1 9 (by omega))
  · simp only [c, if_false, decide_false, Bool.false_and]
    exact Ev.now _

theorem spec_l1Has_l (a : Int) (l : List Int) (hl : l.length ≤ 4611686018427387904) : ∀ i, i ≤ l.length → Ev (fun k => spec_l1Has.l0 k a l (l.length : Int) (i : Int)) (decide (a ∈ l.drop i)) := by
  refine down ?_ ?_
  · refine Ev.succ ?_
    simp only [spec_l1Has.l0, nlt (Nat.le_refl l.length), if_false, List.drop_length]
    exact (Ev.now _).eqv (by simp)
  · intro i hi ih
    refine Ev.succ ?_
    simp only [spec_l1Has.l0, ilt hi, inn, if_true, rd_lt hi, wnext hi hl]
    rw [drop_cons hi]
    by_cases c : l[i] = a
    · simp only [c, if_true]
      exact (Ev.now _).eqv (by simp)
    · simp only [c, if_false]
      have e : (a ∈ l[i] :: l.drop (i + 1)) ↔ a ∈ l.drop (i + 1) := ⟨fun h => (List.mem_cons.1 h).resolve_left (fun h => c h.symm), List.mem_cons_of_mem _⟩
      exact ih.eqv (decide_eq_decide.2 e.symm)
theorem spec_l1Has_ev (l : List Int) (a : Int) (hl : l.length ≤ 4611686018427387904) : Ev (fun k => spec_l1Has.f k l a) (decide (a ∈ l)) := by
  simp only [spec_l1Has.f]
  have := spec_l1Has_l a l hl 0 (Nat.zero_le _)
  rwa [List.drop_zero] at this

theorem spec_syGoOn_l (n d : Nat) (hn : n ≤ 4) (l : List Int) (hd : l.length + (d + 1) = n) (ih : ∀ m : List Int, m.length + d = n → Ev (fun k => spec_syGoOn.f k m (n : Int)) (goOn n d m)) : ∀ (c i : Nat), i + c = n → ∀ acc : List (List Int), acc.length ≤ 4 ^ d * i → Ev (fun k => spec_syGoOn.l0 k l (n : Int) acc (i : Int)) (acc ++ tries (goOn n d) l n c)
  | 0, i, hi, acc, ha => by
    have e : i = n := by omega
    subst e
    refine Ev.succ ?_
    simp only [spec_syGoOn.l0, nlt (Nat.le_refl i), if_false, tries, List.append_nil]
    exact Ev.now _
  | c + 1, i, hi, acc, ha => by
    have e : n - (c + 1) = i := by omega
    have p4 : 4 ^ d ≤ 256 := Nat.le_trans (Nat.pow_le_pow_right (by omega) (by omega : d ≤ 4)) (by decide)
    have p6 : 4 ^ d * i ≤ 256 * 4 := Nat.mul_le_mul p4 (by omega)
    refine Ev.succ ?_
    simp only [spec_syGoOn.l0, ilt (by omega : i < n), if_true]
    refine Ev.bind (spec_l1Has_ev l (i : Int) (by omega)) ?_
    rw [tries, e]
    by_cases h : (i : Int) ∈ l
    · simp only [decide_eq_true h, if_true, if_pos h, List.nil_append, wnext (by omega : i < n) (by omega : n ≤ 4611686018427387904)]
      exact spec_syGoOn_l n d hn l hd ih c (i + 1) (by omega) acc (Nat.le_trans ha (Nat.mul_le_mul_left _ (Nat.le_succ i)))
    · have g := goOn_len hn d (l ++ [(i : Int)])
      have c1 : l.length < 17592186044416 := by omega
      have c2 : acc.length + (goOn n d (l ++ [(i : Int)])).length < 5864062014805 := by omega
      simp only [decide_eq_false h, Bool.false_eq_true, if_false, if_neg h, spec_l1Own_e l (by omega), Option.bind_some, c1, if_true]
      refine Ev.bind (ih (l ++ [(i : Int)]) (by rw [List.length_append, List.length_singleton]; omega)) ?_
      simp only [c2, if_true, wnext (by omega : i < n) (by omega : n ≤ 4611686018427387904)]
      refine (spec_syGoOn_l n d hn l hd ih c (i + 1) (by omega) (acc ++ goOn n d (l ++ [(i : Int)])) (by rw [List.length_append, Nat.mul_succ]; exact Nat.add_le_add ha g)).eqv ?_
      rw [List.append_assoc]
theorem spec_syGoOn_ev (n : Nat) (hn : n ≤ 4) : ∀ (d : Nat) (l : List Int), l.length + d = n → Ev (fun k => spec_syGoOn.f k l (n : Int)) (goOn n d l)
  | 0, l, hl => by
    refine Ev.succ ?_
    have c : (l.length : Int) = (n : Int) := by omega
    simp only [spec_syGoOn.f, c, if_true, goOn]
    exact Ev.now _
  | d + 1, l, hl => by
    refine Ev.succ ?_
    have c : ¬ ((l.length : Int) = (n : Int)) := by omega
    simp only [spec_syGoOn.f, c, if_false]
    have := spec_syGoOn_l n d hn l hl (fun m hm => spec_syGoOn_ev n hn d m hm) n 0 (by omega) [] (by simp)
    rw [List.nil_append] at this
    exact this

theorem spec_syOrders_ev (n : Nat) (hn : n ≤ 4) : Ev (fun k => spec_syOrders.f k (n : Int)) (goOn n n []) := by
  simp only [spec_syOrders.f]
  exact Ev.ret (f := fun t => t) (spec_syGoOn_ev n hn n [] (by simp))

theorem spec_syPower_l (x : Int) : ∀ (n : Nat), n ≤ 4611686018427387904 → ∀ acc, InR acc → Ev (fun k => spec_syPower.l0 k x (n : Int) acc) (wrap64 (acc * x ^ n))
  | 0, _, acc, ha => by
    refine Ev.succ ?_
    simp only [spec_syPower.l0, (by decide : ¬ (((0 : Nat) : Int) > 0)), if_false, Int.pow_zero, Int.mul_one, wR ha]
    exact Ev.now _
  | n + 1, hn, acc, ha => by
    refine Ev.succ ?_
    have c : ((n + 1 : Nat) : Int) > 0 := by omega
    simp only [spec_syPower.l0, c, if_true, wprev (by omega : n ≤ 4611686018427387904)]
    rw [show acc * x ^ (n + 1) = (acc * x) * x ^ n by rw [Int.pow_succ, Int.mul_assoc, Int.mul_comm x]]
    exact (spec_syPower_l x n (by omega) _ (inR_wrap _)).eqv (wrap_mul _ _)
theorem spec_syPower_ev (x n : Int) (hn : n ≤ 4611686018427387904) : Ev (fun k => spec_syPower.f k x n) (wrap64 (x ^ n.toNat)) := by
  simp only [spec_syPower.f]
  by_cases h : 0 ≤ n
  · have := spec_syPower_l x n.toNat (by omega) 1 ⟨by decide, by decide⟩
    simpa only [Int.toNat_of_nonneg h, Int.one_mul] using this
  · rw [Int.toNat_of_nonpos (by omega), Int.pow_zero]
    have c : ¬ n > 0 := by omega
    refine Ev.succ ?_
    simp only [spec_syPower.l0, c, if_false]
    exact (Ev.now _).eqv (w64 (by omega) (by omega)).symm

theorem spec_sySymmetric_l1 (pw x : List Int) (hp : pw.length = x.length) (h4 : x.length ≤ 4) (hb : ∀ y ∈ pw, 0 ≤ y ∧ y ≤ 4) (os : List (List Int)) (j : Nat) (o : List Int) (ho : o.length = x.length) (hm : ∀ y ∈ o, 0 ≤ y ∧ y < (x.length : Int)) (s T R : Int) (hT : wrap64 (s + T) = R) (r : Int)
    (hK : Ev (fun k => spec_sySymmetric.l0 k pw x R os (os.length : Int) (wrap64 ((j : Int) + 1))) r) : ∀ i, i ≤ o.length → ∀ p, prodW pw x (o.drop i) i p = T → Ev (fun k => spec_sySymmetric.l1 k pw x s p os (os.length : Int) (j : Int) o (o.length : Int) (i : Int)) r := by
  refine down ?_ ?_
  · intro p hp2
    rw [List.drop_length] at hp2
    have e : p = T := hp2
    subst e
    refine Ev.succ ?_
    simp only [spec_sySymmetric.l1, nlt (Nat.le_refl o.length), if_false, hT]
    exact hK
  · intro i hi ih p hp2
    have m := hm _ (List.getElem_mem hi)
    have hip : i < pw.length := by omega
    have b := hb _ (List.getElem_mem hip)
    rw [drop_cons hi, prodW] at hp2
    have eg : pw.getD i 0 = pw[i] := by simp [List.getD_eq_getElem?_getD, hip]
    refine Ev.succ ?_
    simp only [spec_sySymmetric.l1, ilt hi, inn, if_true, rd_lt hi, eq_true m.1, eq_true m.2, ilt hip, rd_lt hip]
    have e2 : rd x o[i] = x.getD (o[i]).toNat 0 := rfl
    rw [e2]
    refine Ev.bind (spec_syPower_ev (x.getD (o[i]).toNat 0) pw[i] (by omega)) ?_
    simp only [wnext hi (by omega : o.length ≤ 4611686018427387904)]
    rw [eg] at hp2
    exact ih _ hp2
theorem spec_sySymmetric_l0 (pw x : List Int) (hp : pw.length = x.length) (h4 : x.length ≤ 4) (hb : ∀ y ∈ pw, 0 ≤ y ∧ y ≤ 4) (os : List (List Int)) (hl : os.length ≤ 4096) (hm : ∀ o ∈ os, o.length = x.length ∧ ∀ y ∈ o, 0 ≤ y ∧ y < (x.length : Int)) : ∀ j, j ≤ os.length → ∀ s, Ev (fun k => spec_sySymmetric.l0 k pw x s os (os.length : Int) (j : Int)) (sumW pw x (os.drop j) s) := by
  refine down ?_ ?_
  · intro s
    refine Ev.succ ?_
    simp only [spec_sySymmetric.l0, nlt (Nat.le_refl os.length), if_false, List.drop_length, sumW]
    exact Ev.now _
  · intro j hj ih s
    have m := hm _ (List.getElem_mem hj)
    have er : rd_L2 os (j : Int) = os[j] := by
      show os.getD ((j : Int)).toNat [] = os[j]
      simp [List.getD_eq_getElem?_getD, hj]
    have ed : os.drop j = os[j] :: os.drop (j + 1) := List.drop_eq_getElem_cons hj
    refine Ev.succ ?_
    simp only [spec_sySymmetric.l0, ilt hj, inn, if_true, er]
    rw [ed, sumW]
    refine spec_sySymmetric_l1 pw x hp h4 hb os j os[j] m.1 m.2 s _ _ rfl _ ?_ 0 (Nat.zero_le _) 1 (by rw [List.drop_zero])
    rw [wnext hj (by omega : os.length ≤ 4611686018427387904)]
    exact ih _
theorem spec_sySymmetric_ev {pw x : List Int} (h : symB pw x = true) : Ev (fun k => spec_sySymmetric.f k pw x) (symS pw x) := by
  obtain ⟨h1, h2, h3, h4⟩ := symB_parts h
  have hx : x.length ≤ 4 := by omega
  simp only [spec_sySymmetric.f]
  refine Ev.bind (spec_syOrders_ev x.length hx) ?_
  have g := goOn_len hx x.length []
  have p4 : 4 ^ x.length ≤ 256 := Nat.le_trans (Nat.pow_le_pow_right (by omega) hx) (by decide)
  have := spec_sySymmetric_l0 pw x (by omega) hx h2 (goOn x.length x.length []) (by omega) (goOn_mem x.length [] (by simp) (by simp)) 0 (Nat.zero_le _) 0
  rw [List.drop_zero] at this
  exact this

theorem spec_CompareSums_ev (a b x : List Int) (ha : a.length ≤ 1048576) (hb : b.length ≤ 1048576) (hx : x.length ≤ 1048576) : Ev (fun k => spec_CompareSums.f k a b x) (cmpV a b x) := by
  simp only [spec_CompareSums.f]
  have off : (symB a x && symB b x) = false → Ev (fun k => spec_CompareSums.j0 k a b x true) (cmpV a b x) := fun h => by
    unfold cmpV; rw [h]
    refine Ev.succ ?_
    simp only [spec_CompareSums.j0, if_true]
    exact Ev.now _
  refine Ev.bind (spec_syGiven_ev a x ha hx) ?_
  cases h1 : symB a x with
  | false => simp only [Bool.false_eq_true, if_false]; exact off (by rw [h1]; rfl)
  | true =>
    simp only [if_true]
    refine Ev.bind (spec_syGiven_ev b x hb hx) ?_
    cases h2 : symB b x with
    | false => simp only [Bool.not_false]; exact off (by rw [h1, h2]; rfl)
    | true =>
      simp only [Bool.not_true]
      refine Ev.succ ?_
      simp only [spec_CompareSums.j0, Bool.false_eq_true, if_false]
      refine Ev.bind (spec_sySymmetric_ev h1) ?_
      refine Ev.bind (spec_sySymmetric_ev h2) ?_
      unfold cmpV cmpI
      rw [h1, h2]
      simp only [Bool.and_self, if_true]
      by_cases c : symS a x < symS b x
      · simp only [c, if_true]; exact Ev.now _
      · simp only [c, if_false]
        by_cases c2 : symS a x > symS b x
        · simp only [c2, if_true]; exact Ev.now _
        · simp only [c2, if_false]; exact Ev.now _

theorem spec_SymmetricSum_ev (p x : List Int) (hp : p.length ≤ 1048576) (hx : x.length ≤ 1048576) : Ev (fun k => spec_SymmetricSum.f k p x) (symV p x) := by
  simp only [spec_SymmetricSum.f, symV]
  refine Ev.bind (spec_syGiven_ev p x hp hx) ?_
  cases h : symB p x with
  | false => simp only [Bool.false_eq_true, if_false]; exact Ev.now _
  | true =>
    simp only [if_true]
    exact Ev.ret (f := fun t => (t, true)) (spec_sySymmetric_ev h)

theorem impl_IsList_ev (l : List Int) (hl : l.length ≤ 4611686018427387904) : Ev (fun k => impl_IsList.f k l) (goodB l) := by
  simp only [impl_IsList.f, impl_within_e, Option.bind_some, goodB]
  exact Ev.andS fun _ => Ev.ret (f := fun t => t) (impl_allWithin_ev l 0 60 hl)

theorem impl_areLists_ev (a b : List Int) (ha : a.length ≤ 1048576) (hb : b.length ≤ 1048576) : Ev (fun k => impl_areLists.f k a b) (goodB a && goodB b) := by
  simp only [impl_areLists.f]
  exact Ev.and (impl_IsList_ev a (by omega)) fun h => Ev.ret (f := fun t => t) (impl_IsList_ev b (by omega))

theorem impl_total_l (l : List Int) (hl : l.length ≤ 4611686018427387904) : ∀ i, i ≤ l.length → ∀ acc, InR acc → Ev (fun k => impl_total.l0 k acc l (l.length : Int) (i : Int)) (wrap64 (acc + (l.drop i).sum)) := by
  refine down ?_ ?_
  · intro acc ha
    refine Ev.succ ?_
    simp only [impl_total.l0, nlt (Nat.le_refl l.length), if_false, List.drop_length, List.sum_nil, Int.add_zero, wR ha]
    exact Ev.now _
  · intro i hi ih acc ha
    refine Ev.succ ?_
    simp only [impl_total.l0, ilt hi, inn, if_true, rd_lt hi, wnext hi hl]
    rw [drop_cons hi, List.sum_cons, ← Int.add_assoc]
    exact (ih _ (inR_wrap _)).eqv (wr_add _ _)
theorem impl_total_ev (l : List Int) (hl : l.length ≤ 4611686018427387904) : Ev (fun k => impl_total.f k l) (wrap64 l.sum) := by
  have := impl_total_l l hl 0 (Nat.zero_le _) 0 inR_0
  simpa only [impl_total.f, List.drop_zero, Int.zero_add, Int.natCast_zero] using this
theorem impl_total_good {l : List Int} (h : Lst l) : Ev (fun k => impl_total.f k l) l.sum :=
  (impl_total_ev l (by have := h.2.1; omega)).eqv (w64 (by have := h.sum; omega) (by have := h.sum; omega))

theorem impl_doFit_ev {a b : List Int} (ha : Lst a) (hb : Lst b) : Ev (fun k => impl_doFit.f k a b) (decide (a.length = b.length) && decide (a.sum = b.sum)) := by
  simp only [impl_doFit.f]
  by_cases h : a.length = b.length
  · have h2 : (a.length : Int) = (b.length : Int) := by omega
    simp only [h2, if_true, h, decide_true, Bool.true_and]
    refine Ev.bind (impl_total_good ha) ?_
    exact Ev.ret (f := fun t => a.sum == t) (impl_total_good hb)
  · have h2 : ¬ (a.length : Int) = (b.length : Int) := by omega
    simp only [h2, if_false, h, decide_false, Bool.false_and]
    exact Ev.now _

theorem impl_ranking_1_e (x y : Int) : impl_ranking_1.f x y = some (wrap64 (y - x)) := rfl

def Bnd (l : List Int) : Prop := ∀ x ∈ l, -1000000 ≤ x ∧ x ≤ 1000000
theorem slices_insertionSortCmpFunc_int_l1 (x : Int) (hx : -1000000 ≤ x ∧ x ≤ 1000000) (R : List Int) (n i : Nat) (v : List Int) : ∀ (m : Nat) (P Q : List Int), P.length = m → m ≤ 1048576 → Bnd P → Desc (P ++ Q) → (∀ y ∈ Q, y < x) →
    Ev (fun k => slices_insertionSortCmpFunc_int.l0 k (insD x (P ++ Q) ++ R) 0 (n : Int) (wrap64 ((i : Int) + 1))) v → Ev (fun k => slices_insertionSortCmpFunc_int.l1 k (P ++ x :: (Q ++ R)) 0 (n : Int) (i : Int) (m : Int)) v
  | 0, P, Q, hP, _, _, _, hQ, hv => by
    have e : P = [] := List.eq_nil_of_length_eq_zero hP
    subst e
    refine Ev.succ ?_
    have c : ¬ ((0 : Nat) : Int) > 0 := by omega
    rw [insD_split x [] Q (fun y hy => absurd hy List.not_mem_nil) hQ] at hv
    simp only [slices_insertionSortCmpFunc_int.l1, c, if_false]
    exact hv
  | m + 1, P, Q, hP, hm, hb, hd, hQ, hv => by
    have hne : P ≠ [] := fun e => by rw [e] at hP; simp at hP
    have ep : P = P.dropLast ++ [P.getLast hne] := (List.dropLast_concat_getLast hne).symm
    generalize hP' : P.dropLast = P' at ep
    generalize hp : P.getLast hne = p at ep
    have hpb := hb p (by rw [ep]; simp)
    clear hP' hp
    subst ep
    have hl : P'.length = m := by rw [List.length_append, List.length_singleton] at hP; omega
    refine Ev.succ ?_
    have c : ((m + 1 : Nat) : Int) > 0 := by omega
    have c1 : m < ((P' ++ [p]) ++ x :: (Q ++ R)).length := by rw [List.length_append, hP, List.length_cons]; omega
    have c2 : m + 1 < ((P' ++ [p]) ++ x :: (Q ++ R)).length := by rw [List.length_append, hP, List.length_cons]; omega
    have r1 : rd ((P' ++ [p]) ++ x :: (Q ++ R)) ((m + 1 : Nat) : Int) = x := rd_mid _ _ _ _ hP
    have r2 : rd ((P' ++ [p]) ++ x :: (Q ++ R)) (m : Int) = p := by rw [List.append_assoc]; exact rd_mid _ _ _ _ hl
    simp only [slices_insertionSortCmpFunc_int.l1, eq_true c, inn, ilt c1, ilt c2, if_true, wprev (by omega : m ≤ 4611686018427387904), r1, r2, impl_ranking_1_e, Option.bind_some, Int.toNat_natCast, w64 (x := p - x) (by omega) (by omega)]
    by_cases d : p - x < 0
    · simp only [eq_true d, if_true]
      have e1 : ((((P' ++ [p]) ++ x :: (Q ++ R)).set (m + 1) p).set m x) = P' ++ x :: ((p :: Q) ++ R) := by
        rw [set_mid _ _ _ _ _ hP, List.append_assoc, List.singleton_append, set_mid _ _ _ _ _ hl, List.cons_append]
      rw [e1]
      refine slices_insertionSortCmpFunc_int_l1 x hx R n i v m P' (p :: Q) hl (by omega) (fun y hy => hb y (List.mem_append_left _ hy)) (by rw [List.append_assoc, List.singleton_append] at hd; exact hd) (fun y hy => ?_) ?_
      · rcases List.mem_cons.1 hy with e | e
        · omega
        · exact hQ y e
      · rw [List.append_assoc, List.singleton_append] at hv
        exact hv
    · simp only [eq_false d, if_false]
      rw [insD_split x (P' ++ [p]) Q (fun y hy => ?_) hQ, List.append_assoc, List.cons_append] at hv
      · exact hv
      · rcases List.mem_append.1 hy with e | e
        · have := desc_split ((List.pairwise_append.1 hd).1) e (List.mem_singleton.2 rfl); omega
        · have := List.mem_singleton.1 e; omega
theorem slices_insertionSortCmpFunc_int_l0 (l : List Int) (hl : l.length ≤ 1048576) (hb : Bnd l) : ∀ i, i ≤ l.length → ∀ S : List Int, S.length = i → Bnd S → Desc S →
    Ev (fun k => slices_insertionSortCmpFunc_int.l0 k (S ++ l.drop i) 0 (l.length : Int) (i : Int)) (rankFrom S (l.drop i)) := by
  refine down ?_ ?_
  · intro S hS hB hD
    refine Ev.succ ?_
    simp only [slices_insertionSortCmpFunc_int.l0, nlt (Nat.le_refl l.length), if_false, List.drop_length, List.append_nil]
    exact Ev.now _
  · intro i hi ih S hS hB hD
    have hx := hb _ (List.getElem_mem hi)
    refine Ev.succ ?_
    simp only [slices_insertionSortCmpFunc_int.l0, ilt hi, if_true]
    rw [drop_cons hi]
    refine slices_insertionSortCmpFunc_int_l1 l[i] hx (l.drop (i + 1)) l.length i _ i S [] hS (by omega) hB (by rw [List.append_nil]; exact hD) (fun y hy => absurd hy List.not_mem_nil) ?_
    rw [List.append_nil, wnext hi (by omega)]
    refine ih (insD l[i] S) (by rw [insD_length, hS]) (fun y hy => ?_) (insD_desc _ _ hD)
    rcases List.mem_cons.1 ((insD_perm l[i] S).mem_iff.1 hy) with e | e
    · rw [e]; exact hx
    · exact hB y e
theorem slices_insertionSortCmpFunc_int_ev (l : List Int) (h0 : 0 < l.length) (hl : l.length ≤ 1048576) (hb : Bnd l) (a : Int) : Ev (fun k => slices_insertionSortCmpFunc_int.f k l 0 (l.length : Int) a) (rankD l) := by
  cases l with
  | nil => exact absurd h0 (by simp)
  | cons x t =>
    have := slices_insertionSortCmpFunc_int_l0 (x :: t) hl hb 1 (by rw [List.length_cons]; omega) [x] rfl (fun y hy => hb y (by rw [List.mem_singleton.1 hy]; exact List.mem_cons_self ..)) (List.pairwise_singleton _ _)
    have e : wrap64 (0 + 1) = ((1 : Nat) : Int) := by rw [w64 (by omega) (by omega)]; rfl
    simp only [slices_insertionSortCmpFunc_int.f, e]
    exact this

theorem slices_pdqsortCmpFunc_int_ev (l : List Int) (h0 : 0 < l.length) (hl : l.length ≤ 12) (hb : Bnd l) (a b : Int) : Ev (fun k => slices_pdqsortCmpFunc_int.f k l 0 (l.length : Int) a b) (rankD l) := by
  refine Ev.succ ?_
  simp only [slices_pdqsortCmpFunc_int.f]
  refine Ev.succ ?_
  simp only [slices_pdqsortCmpFunc_int.l0, Int.sub_zero, w64 (by omega : -9223372036854775808 ≤ (l.length : Int)) (by omega), eq_true (by omega : (l.length : Int) ≤ 12), if_true]
  exact Ev.ret (f := fun t => t) (slices_insertionSortCmpFunc_int_ev l h0 (by omega) hb b)

theorem bits_Len_e (n : Nat) (h : n ≤ 8) : ∃ r, bits_Len.f (IntKind.u64.wrap (n : Int)) = some r := by
  unfold bits_Len.f
  rw [IntKind.wrap_u64, if_pos (by omega)]
  exact ⟨_, rfl⟩

theorem slices_SortFunc_int_int_ev (l : List Int) (h0 : 0 < l.length) (hl : l.length ≤ 8) (hb : Bnd l) (a : Int) : Ev (fun k => slices_SortFunc_int_int.f k l a) (rankD l) := by
  obtain ⟨q, hq⟩ := bits_Len_e l.length hl
  simp only [slices_SortFunc_int_int.f, hq, Option.bind_some]
  exact Ev.ret (f := fun t => t) (slices_pdqsortCmpFunc_int_ev l h0 (by omega) hb q a)

theorem impl_ranking_ev {l : List Int} (h : Lst l) : Ev (fun k => impl_ranking.f k l) (rankD l) := by
  have h1 := h.1
  have h2 := h.2.1
  simp only [impl_ranking.f, slices_Clone_int_int_e l (by omega), Option.bind_some]
  exact Ev.ret (f := fun t => t) (slices_SortFunc_int_int_ev l (by omega) h2 (fun x hx => by have := h.2.2 x hx; omega) 0)

theorem impl_partial_l (l : List Int) (hl : l.length ≤ 8) (hb : ∀ x ∈ l, 0 ≤ x ∧ x ≤ 60) : ∀ i, i ≤ l.length → ∀ (out : List Int) (s : Int), out.length = i → 0 ≤ s ∧ s ≤ 60 * i → Ev (fun k => impl_partial.l0 k out s l (l.length : Int) (i : Int)) (out ++ psums s (l.drop i)) := by
  refine down ?_ ?_
  · intro out s ho hs
    refine Ev.succ ?_
    simp only [impl_partial.l0, nlt (Nat.le_refl l.length), if_false, List.drop_length, psums, List.append_nil]
    exact Ev.now _
  · intro i hi ih out s ho hs
    have b := hb _ (List.getElem_mem hi)
    have c : out.length < 17592186044416 := by omega
    refine Ev.succ ?_
    simp only [impl_partial.l0, ilt hi, inn, if_true, rd_lt hi, c, w64 (x := s + l[i]) (by omega) (by omega), wnext hi (by omega : l.length ≤ 4611686018427387904)]
    rw [drop_cons hi, psums]
    exact (ih (out ++ [s + l[i]]) (s + l[i]) (by simp [ho]) (by omega)).eqv (by simp)
theorem impl_partial_ev {l : List Int} (h : Lst l) : Ev (fun k => impl_partial.f k l) (partOf l) := by
  have hr := rankD_lst h
  simp only [impl_partial.f]
  refine Ev.bind (impl_ranking_ev h) ?_
  have := impl_partial_l (rankD l) hr.2.1 hr.2.2 0 (Nat.zero_le _) [] 0 rfl (by omega)
  rw [List.drop_zero, List.nil_append] at this
  exact this

theorem impl_refused_l (p q : List Int) (hp : p.length ≤ 1048576) (hq : p.length ≤ q.length) : ∀ i, i ≤ p.length → Ev (fun k => impl_refused.l0 k q p (p.length : Int) (i : Int)) (refGo i (p.drop i) (q.drop i)) := by
  refine down ?_ ?_
  · refine Ev.succ ?_
    simp only [impl_refused.l0, nlt (Nat.le_refl p.length), if_false, List.drop_length, refGo]
    exact Ev.now _
  · intro i hi ih
    have h2 : i < q.length := by omega
    refine Ev.succ ?_
    simp only [impl_refused.l0, ilt hi, ilt h2, inn, if_true, rd_lt hi, rd_lt h2, wnext hi (by omega : p.length ≤ 4611686018427387904)]
    rw [drop_cons hi, drop_cons h2, refGo]
    by_cases c : p[i] > q[i]
    · simp only [c, if_true]; exact Ev.now _
    · simp only [c, if_false]; exact ih
theorem impl_refused_ev {a b : List Int} (ha : Lst a) (hb : Lst b) (hl : a.length = b.length) : Ev (fun k => impl_refused.f k a b) (refGo 0 (partOf a) (partOf b)) := by
  have h2 := ha.2.1
  simp only [impl_refused.f]
  refine Ev.bind (impl_partial_ev hb) ?_
  refine Ev.bind (impl_partial_ev ha) ?_
  exact impl_refused_l (partOf a) (partOf b) (by rw [partOf_length]; omega) (by rw [partOf_length, partOf_length]; omega) 0 (Nat.zero_le _)

theorem impl_isMajorized_ev {a b : List Int} (ha : Lst a) (hb : Lst b) : Ev (fun k => impl_isMajorized.f k a b) ((decide (a.length = b.length) && decide (a.sum = b.sum)) && leAll (partOf a) (partOf b)) := by
  simp only [impl_isMajorized.f]
  refine (Ev.and (impl_doFit_ev ha hb) fun h => ?_)
  simp only [Bool.and_eq_true, decide_eq_true_eq] at h
  exact (Ev.ret (f := fun t => t == 0) (impl_refused_ev ha hb h.1)).eqv (refGo_zero 0 _ _)

theorem impl_IsMajorized_ev (a b : List Int) (ha : a.length ≤ 1048576) (hb : b.length ≤ 1048576) : Ev (fun k => impl_IsMajorized.f k a b) (if goodB a && goodB b then (majB a b, true) else (false, false)) := by
  simp only [impl_IsMajorized.f]
  refine Ev.bind (impl_areLists_ev a b ha hb) ?_
  cases h : goodB a && goodB b with
  | false => simp only [Bool.false_eq_true, if_false]; exact Ev.now _
  | true =>
    simp only [if_true]
    rw [Bool.and_eq_true, goodB_iff, goodB_iff] at h
    exact (Ev.ret (f := fun t => (t, true)) (impl_isMajorized_ev h.1 h.2)).eqv (by rw [Bool.and_assoc]; rfl)

theorem laws_pBelow_ev (a b : List Int) (ha : a.length ≤ 1048576) (hb : b.length ≤ 1048576) : Ev (fun k => laws_pBelow.f k a b) (goodB a && goodB b && majB a b) := by
  simp only [laws_pBelow.f]
  refine Ev.bind (impl_IsMajorized_ev a b ha hb) ?_
  cases h : goodB a && goodB b with
  | false => simp only [Bool.false_eq_true, if_false, Bool.false_and]; exact Ev.now _
  | true => simp only [if_true, Bool.true_and]; exact Ev.now _

/-! ### the reference's sums without wraps -/
theorem powB {y : Int} (h : 1 ≤ y ∧ y ≤ 9) {e : Int} (he : 0 ≤ e ∧ e ≤ 4) : 0 ≤ y ^ e.toNat ∧ y ^ e.toNat ≤ 6561 := by
  have h1 := pow_pos' (u := y) (by omega) e.toNat
  have h2 := pow_le' (u := y) (v := 9) (by omega) h.2 e.toNat
  have h3 : (9 : Int) ^ e.toNat ≤ 6561 := by
    have : e.toNat = 0 ∨ e.toNat = 1 ∨ e.toNat = 2 ∨ e.toNat = 3 ∨ e.toNat = 4 := by omega
    rcases this with h | h | h | h | h <;> rw [h] <;> decide
  omega
theorem facB {pw x o : List Int} (h : symB pw x = true) (ho : o.length = pw.length) (hr : ∀ k, k < pw.length → 0 ≤ o.getD k 0 ∧ o.getD k 0 < (pw.length : Int)) {k : Nat} (hk : k < pw.length) : 0 ≤ fac pw x o k ∧ fac pw x o k ≤ 6561 := by
  obtain ⟨h1, h2, h3, h4⟩ := symB_parts h
  have r := hr k hk
  exact powB (h4 _ (getD_mem (by omega))) (h2 _ (getD_mem hk))
theorem pow6561 {n : Nat} (h : n ≤ 4) : (6561 : Int) ^ n ≤ 1853020188851841 := by
  have : n = 0 ∨ n = 1 ∨ n = 2 ∨ n = 3 ∨ n = 4 := by omega
  rcases this with h | h | h | h | h <;> rw [h] <;> decide
theorem prodW_val {pw x o : List Int} (h : symB pw x = true) (ho : o.length = pw.length) (hr : ∀ k, k < pw.length → 0 ≤ o.getD k 0 ∧ o.getD k 0 < (pw.length : Int)) : ∀ i, i ≤ pw.length → prodW pw x (o.drop i) i (pr i (fac pw x o)) = valO pw x o := by
  have hb : ∀ i, i ≤ pw.length → 0 ≤ pr i (fac pw x o) ∧ pr i (fac pw x o) ≤ 1853020188851841 := fun i hi => by
    have := pr_le (f := fac pw x o) (B := 6561) (by omega) (n := i) fun k hk => facB h ho hr (by omega)
    have h2 := pow6561 (n := i) (by have := (symB_parts h).1; omega)
    omega
  refine down ?_ ?_
  · rw [List.drop_eq_nil_of_le (by omega)]; rfl
  · intro i hi ih
    have f := facB h ho hr hi
    rw [drop_cons (by omega : i < o.length), prodW]
    have e : x.getD (o[i]'(by omega)).toNat 0 ^ (pw.getD i 0).toNat = fac pw x o i := by unfold fac; rw [getD_lt (by omega : i < o.length)]
    rw [e, w64 (x := fac pw x o i) (by omega) (by omega)]
    have n := hb (i + 1) (by omega)
    have e2 : pr i (fac pw x o) * fac pw x o i = pr (i + 1) (fac pw x o) := rfl
    rw [e2, w64 (by omega) (by omega)]
    exact ih
theorem sumW_val {pw x : List Int} (h : symB pw x = true) : ∀ (P : List (List Int)) (s : Int), (∀ o ∈ P, o.length = pw.length ∧ ∀ k, k < pw.length → 0 ≤ o.getD k 0 ∧ o.getD k 0 < (pw.length : Int)) → 0 ≤ s → s + 1853020188851841 * P.length ≤ 4611686018427387904 → sumW pw x P s = s + msum P pw x
  | [], s, _, _, _ => by unfold sumW msum; simp
  | o :: P, s, hP, h0, hs => by
    have ho := hP o (List.mem_cons_self ..)
    have v := prodW_val h ho.1 ho.2 0 (Nat.zero_le _)
    rw [List.drop_zero] at v
    have b := pr_le (f := fac pw x o) (B := 6561) (by omega) (n := pw.length) fun k hk => facB h ho.1 ho.2 hk
    have h2 := pow6561 (n := pw.length) (by have := (symB_parts h).1; omega)
    have bv : 0 ≤ valO pw x o ∧ valO pw x o ≤ 1853020188851841 := ⟨b.1, by have := b.2; unfold valO; omega⟩
    rw [List.length_cons] at hs
    rw [sumW, show prodW pw x o 0 1 = valO pw x o from v, w64 (by omega) (by omega), sumW_val h P _ (fun q hq => hP q (List.mem_cons_of_mem _ hq)) (by omega) (by omega)]
    unfold msum
    rw [List.map_cons, List.sum_cons]
    omega
/-- All orders of up to four indices. -/
def ordsB (n : Nat) : Bool := let P := goOn n n []
  (P.all fun o => decide (o.length = n)) && (P.all fun o => (List.range n).all fun k => decide (0 ≤ o.getD k 0 ∧ o.getD k 0 < (n : Int)))
  && ((List.range n).all fun i => (List.range n).all fun j => decide (i = j) || List.isPerm (P.map (sw i j)) P)
  && ((List.range n).all fun i => (List.range n).all fun j => decide (i = j) || (List.range n).all fun s => (List.range n).all fun t => decide (s = t) || P.any fun o => decide (o.getD i 0 = (s : Int)) && decide (o.getD j 0 = (t : Int)))
theorem ords_of {n : Nat} (h : ordsB n = true) : Ords (goOn n n []) n := by
  unfold ordsB at h
  simp only [Bool.and_eq_true, List.all_eq_true, Bool.or_eq_true, decide_eq_true_eq, List.mem_range, List.any_eq_true] at h
  obtain ⟨⟨⟨h1, h2⟩, h3⟩, h4⟩ := h
  refine ⟨h1, fun o ho k hk => h2 o ho k hk, fun i j hi hj hij => ?_, fun i j s t hi hj hij hs ht hst => ?_⟩
  · rcases h3 i hi j hj with c | c
    · exact absurd c hij
    · exact List.isPerm_iff.1 c
  · rcases h4 i hi j hj with c | c
    · exact absurd c hij
    · rcases c s hs t ht with c | ⟨o, ho, e1, e2⟩
      · exact absurd c hst
      · exact ⟨o, ho, e1, e2⟩
theorem ords_small {n : Nat} (h1 : 1 ≤ n) (h4 : n ≤ 4) : Ords (goOn n n []) n := by
  have e1 : ordsB 1 = true := by decide +kernel
  have e2 : ordsB 2 = true := by decide +kernel
  have e3 : ordsB 3 = true := by decide +kernel
  have e4 : ordsB 4 = true := by decide +kernel
  have : n = 1 ∨ n = 2 ∨ n = 3 ∨ n = 4 := by omega
  rcases this with h | h | h | h <;> subst h
  · exact ords_of e1
  · exact ords_of e2
  · exact ords_of e3
  · exact ords_of e4
theorem symS_msum {pw x : List Int} (h : symB pw x = true) : symS pw x = msum (goOn pw.length pw.length []) pw x := by
  obtain ⟨h1, h2, h3, h4⟩ := symB_parts h
  have hP := ords_small h1.1 h1.2
  unfold symS
  rw [h3, sumW_val h _ 0 (fun o ho => ⟨hP.len o ho, hP.rng o ho⟩) (by omega) (by
    have l := goOn_len h1.2 pw.length []
    have : 4 ^ pw.length ≤ 4 ^ 4 := Nat.pow_le_pow_right (by omega) h1.2
    omega)]
  omega
/-- Symmetric sums of majorized powers are no greater, and equal only for equal powers or arguments. -/
theorem muir {a b x : List Int} (ha : symB a x = true) (hb : symB b x = true) (hm : majB a b = true) : symS a x ≤ symS b x ∧ (symS a x = symS b x ↔ (majB b a = true ∨ AllEq x x.length)) := by
  obtain ⟨a1, a2, a3, a4⟩ := symB_parts ha
  obtain ⟨b1, b2, b3, b4⟩ := symB_parts hb
  have hl : a.length = b.length := by omega
  unfold majB at hm
  rw [Bool.and_eq_true, Bool.and_eq_true, decide_eq_true_eq, decide_eq_true_eq, subB_iff hl] at hm
  obtain ⟨_, hs, hk⟩ := hm
  rw [symS_msum ha, symS_msum hb, ← hl]
  have hP := ords_small a1.1 a1.2
  have pa : msum (goOn a.length a.length []) a x = msum (goOn a.length a.length []) (rankD a) x := msum_perm x (rankD_perm a).symm [] hP
  have pb : msum (goOn a.length a.length []) b x = msum (goOn a.length a.length []) (rankD b) x := msum_perm x (rankD_perm b).symm [] (by rw [List.nil_append, ← hl]; exact hP)
  rw [pa, pb]
  have la := rankD_length a
  have lb := rankD_length b
  have hd : ∀ i j, i < j → j < (rankD a).length → (rankD a).getD j 0 ≤ (rankD a).getD i 0 := fun i j hij hj => by
    rw [getD_lt hj, getD_lt (by omega : i < (rankD a).length)]
    exact desc_le (rankD_desc a) hij hj
  have hx : ∀ k, k < (rankD a).length → 0 < x.getD k 0 := fun k hk => by
    have := a4 _ (getD_mem (l := x) (i := k) (by omega)); omega
  have hbb : ∀ k, k < (rankD b).length → 0 ≤ (rankD b).getD k 0 := fun k hk => (b2 _ ((rankD_perm b).mem_iff.1 (getD_mem hk))).1
  have hkk : ∀ k, k ≤ (rankD a).length → PS (rankD a) k ≤ PS (rankD b) k := fun k hk2 => by
    rw [← take_PS, ← take_PS]; exact hk k (by omega)
  have full : ∀ l : List Int, PS l l.length = l.sum := fun l => by rw [← take_PS, List.take_length]
  have hss : PS (rankD a) (rankD a).length = PS (rankD b) (rankD a).length := by
    rw [full, show (rankD a).length = (rankD b).length by omega, full, rankD_sum, rankD_sum]; exact hs
  have ch := muir_chain (P := goOn a.length a.length []) (x := x) (by rw [la]; exact hP) hd hx (S1 (fun k => PS (rankD b) k - PS (rankD a) k) ((rankD a).length + 1)).toNat (rankD b) (by omega) hbb hkk hss (by omega)
  refine ⟨ch.1, ?_⟩
  rw [ch.2]
  have e : majB b a = true ↔ rankD a = rankD b := by
    unfold majB
    rw [Bool.and_eq_true, Bool.and_eq_true, decide_eq_true_eq, decide_eq_true_eq, subB_iff hl.symm]
    constructor
    · rintro ⟨_, _, q⟩
      refine PS_eq (by omega) fun k hk2 => ?_
      have := hkk k hk2
      have h2 := q k (by omega)
      rw [take_PS, take_PS] at h2
      omega
    · intro q
      refine ⟨hl.symm, hs.symm, fun k _ => ?_⟩
      rw [q]; omega
  rw [e, show (rankD a).length = x.length by omega]
theorem FnMuirheadsOrder_l {a b x : List Int} (o : Int) (ha : symB a x = true) (hb : symB b x = true) (hm : majB a b = true) (ho : o = cmpI (symS a x) (symS b x)) (hlx : x.length ≤ 1048576) (hga : goodB a = true) (hgb : goodB b = true) : ∀ (d i : Nat) (even : Bool), i + d = x.length → (even = true ↔ ∀ s, s < i → x.getD s 0 = x.getD 0 0) → Ev (fun k => laws_FnMuirheadsOrder.l0 k a b x o even x (x.length : Int) (i : Int)) true
  | 0, i, even, hi, h => by
    have m := muir ha hb hm
    obtain ⟨a1, a2, a3, a4⟩ := symB_parts ha
    have o0 : o ≤ 0 := by rw [ho]; unfold cmpI; split; omega; rw [if_neg (by have := m.1; omega)]; omega
    have oz : (o == 0) = decide (symS a x = symS b x) := by
      rw [Bool.eq_iff_iff, beq_iff_eq, decide_eq_true_eq, ho]
      unfold cmpI
      have := m.1
      split
      · constructor <;> intro z <;> omega
      · rw [if_neg (by omega)]; constructor <;> intro z <;> omega
    refine Ev.succ ?_
    simp only [laws_FnMuirheadsOrder.l0, nlt (show x.length ≤ i by omega), if_false, o0, if_true]
    have ae : AllEq x x.length ↔ even = true := by
      rw [h]
      constructor
      · intro z s hs; exact z s 0 (by omega) (by omega)
      · intro z s t hs ht; rw [z s (by omega), z t (by omega)]
    by_cases c : even = true
    · simp only [c, if_true]
      refine (Ev.now _).eqv ?_
      rw [oz, beq_iff_eq, decide_eq_true_eq]
      exact m.2.2 (.inr (ae.2 c))
    · simp only [c, if_false]
      refine (Ev.ret (f := fun t => (o == 0) == t) (laws_pBelow_ev b a (by have := (goodB_iff.1 hgb).2.1; omega) (by have := (goodB_iff.1 hga).2.1; omega))).eqv ?_
      rw [hga, hgb, oz, beq_iff_eq]
      simp only [Bool.true_and]
      rw [Bool.eq_iff_iff, decide_eq_true_eq, m.2]
      exact ⟨fun z => z.resolve_right fun q => c (ae.1 q), fun z => .inl z⟩
  | d + 1, i, even, hi, h => by
    have hlt : i < x.length := by omega
    have h0 : (0 : Int) < (x.length : Int) := by omega
    refine Ev.succ ?_
    simp only [laws_FnMuirheadsOrder.l0, ilt hlt, inn, if_true, h0, wnext hlt (by omega), rd_get]
    by_cases c : even = true
    · simp only [c, if_true]
      refine FnMuirheadsOrder_l o ha hb hm ho hlx hga hgb d (i + 1) _ (by omega) ?_
      rw [beq_iff_eq]
      have e0 : rd x 0 = x.getD 0 0 := rd_get x 0
      rw [e0]
      constructor
      · intro z s hs
        by_cases q : s = i
        · rw [q]; exact z
        · exact h.1 c s (by omega)
      · intro z; exact z i (by omega)
    · simp only [c, if_false]
      refine FnMuirheadsOrder_l o ha hb hm ho hlx hga hgb d (i + 1) false (by omega) ?_
      constructor
      · intro z; exact absurd z (by simp)
      · intro z
        exact absurd (h.2 fun s hs => z s (by omega)) c
theorem FnMuirheadsOrder : laws_FnMuirheadsOrder.Pure := by
  intro a b hma hsa hwa hmb hsb hwb
  refine Ev.rounds ?_
  have hc := Bts.of hsa hwa
  simp only [laws_FnMuirheadsOrder.f]
  obtain ⟨t, ht⟩ := laws_big_x a b
  rw [ht]
  simp only [Option.bind_some]
  by_cases h0 : t = true
  · simp only [h0, if_true]; exact Ev.now _
  · simp only [h0, if_false]
    refine Ex.ev (spec_DrawCompareSums_x hc) fun r hr => ?_
    obtain ⟨p, q, x⟩ := r
    have hp : p.length ≤ 1048576 := by have := hr.1; simp only at this; omega
    have hq : q.length ≤ 1048576 := by have := hr.2.1; simp only at this; omega
    have hx : x.length ≤ 1048576 := by have := hr.2.2; simp only at this; omega
    refine Ev.bind (impl_CompareSums_ev p q x hp hq hx) ?_
    refine Ev.bind (spec_CompareSums_ev p q x hp hq hx) ?_
    simp only [bne_self_eq_false, Bool.false_eq_true, if_false]
    refine Ev.succ ?_
    simp only [laws_FnMuirheadsOrder.j0, Bool.false_eq_true, if_false]
    unfold cmpV
    cases h1 : symB p x && symB q x with
    | false => simp only [Bool.false_eq_true, if_false]; exact Ev.now _
    | true =>
      rw [Bool.and_eq_true] at h1
      simp only [if_true]
      refine Ev.bind (impl_SymmetricSum_ev p x hp hx) ?_
      refine Ev.bind (impl_SymmetricSum_ev q x hq hx) ?_
      refine Ev.bind (spec_SymmetricSum_ev p x hp hx) ?_
      have e1 : symV p x = (symS p x, true) := by unfold symV; rw [h1.1]; rfl
      have e2 : symV q x = (symS q x, true) := by unfold symV; rw [h1.2]; rfl
      simp only [e1, e2, if_true]
      have k1 : (decide (cmpI (symS p x) (symS q x) < 0) != decide (symS p x < symS q x)) = false := by
        rw [bne_eq_false_iff_eq, decide_eq_decide]
        unfold cmpI
        split
        · constructor <;> intro <;> omega
        · split <;> constructor <;> intro <;> omega
      have k2 : ((cmpI (symS p x) (symS q x) == 0) != (symS p x == symS q x)) = false := by
        rw [bne_eq_false_iff_eq, Bool.eq_iff_iff, beq_iff_eq, beq_iff_eq]
        unfold cmpI
        split
        · constructor <;> intro <;> omega
        · split <;> constructor <;> intro <;> omega
      simp only [k1, k2, Bool.false_eq_true, if_false]
      refine Ev.succ ?_
      simp only [laws_FnMuirheadsOrder.j1, Bool.false_eq_true, if_false]
      refine Ev.bind (laws_pBelow_ev p q hp hq) ?_
      cases h3 : goodB p && goodB q && majB p q with
      | false => simp only [Bool.false_eq_true, if_false]; exact Ev.now _
      | true =>
        rw [Bool.and_eq_true, Bool.and_eq_true] at h3
        simp only [if_true]
        exact FnMuirheadsOrder_l _ h1.1 h1.2 h3.2 rfl hx h3.1.1 h3.1.2 x.length 0 true (by omega) ⟨fun _ s hs => by omega, fun _ => rfl⟩

end Go.Proofs.Ytojklddddedoeaa.Pure
