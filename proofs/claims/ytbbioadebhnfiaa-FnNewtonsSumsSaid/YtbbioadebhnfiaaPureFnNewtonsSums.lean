/- Power sums, elementary and complete sums obey the identities of Newton; the printed functions' own bounds on lengths are the only conditions. -/
import Derived.Test.YtbbioadebhnfiaaPFnNewtonsSumsx5
import Derived.Test.YtbbioadebhnfiaaMathFnNewtonsSums
namespace Go.Proofs.Ytbbioadebhnfiaa.Pure
open Go.RowKit Go.Proofs.Ytbbioadebhnfiaa.PFnNewtonsSums Go.Proofs.YtbbioadebhnfiaaW.PrintWords Go.Proofs.YtbbioadebhnfiaaW.PrintLast Go.Proofs.YtbbioadebhnfiaaW.PrintMore Go.Proofs.Ytbbioadebhnfiaa.Math
set_option linter.unusedVariables false
set_option linter.unusedSimpArgs false
set_option linter.unusedSectionVars false

theorem laws_big_x (a b : List Int) : ∃ t, laws_big.f a b = some t := by
  unfold laws_big.f
  by_cases c : (a.length : Int) > 1048576
  · rw [if_pos c]; exact ⟨_, rfl⟩
  · rw [if_neg c]; exact ⟨_, rfl⟩

theorem spec_l1Cur_next_x {c : List Int} (hc : Bts c) (a s b : Int) (ha : At a b) (hb : b ≤ 4611686018427387904) : ∃ r : Int × Int × Int, spec_l1Cur_next.f c a s = some r ∧ 0 ≤ r.1 ∧ r.1 ≤ 255 ∧ At r.2.1 (b + 1) := by
  have h0 := ha.1
  have h1 := ha.2
  have e : wrap64 (a + 1) = a + 1 := w64 (by omega) (by omega)
  have a1 : At (a + 1) (b + 1) := ⟨by omega, by omega⟩
  have u : ∀ z : Int, 0 ≤ wrap64 (Go.bits .and .u64 (IntKind.u64.wrap z / 1099511627776) 255) ∧ wrap64 (Go.bits .and .u64 (IntKind.u64.wrap z / 1099511627776) 255) ≤ 255 := fun z => and255 _ (by rw [wrapU64]; omega) (by rw [wrapU64]; omega)
  unfold spec_l1Cur_next.f
  by_cases c1 : a < (c.length : Int)
  · have r := rd_code hc h0 c1
    simp only [c1, h0, if_true, e]
    by_cases c2 : a + 1 ≤ (c.length : Int)
    · simp only [c2, if_true]
      refine ⟨_, rfl, ?_, ?_, a1⟩
      · show 0 ≤ wrap64 _
        rw [w64 (by omega) (by omega)]; exact r.1
      · show wrap64 _ ≤ 255
        rw [w64 (by omega) (by omega)]; exact r.2
    · simp only [c2, if_false]
      exact ⟨_, rfl, (u _).1, (u _).2, a1⟩
  · simp only [c1, if_false, e]
    by_cases c2 : a + 1 ≤ (c.length : Int)
    · simp only [c2, if_true]
      exact ⟨_, rfl, by show (0 : Int) ≤ 0; omega, by show (0 : Int) ≤ 255; omega, a1⟩
    · simp only [c2, if_false]
      exact ⟨_, rfl, (u _).1, (u _).2, a1⟩

theorem spec_l1Cur_pick_x {c : List Int} (hc : Bts c) (a s b n : Int) (ha : At a b) (hb : b ≤ 1073741824) : Ex (fun _ => spec_l1Cur_pick.f c a s n) (fun r => 0 ≤ r.1 ∧ (1 ≤ n → r.1 < n) ∧ At r.2.1 (b + 2)) := by
  have h0 := ha.1
  have h1 := ha.2
  unfold spec_l1Cur_pick.f
  by_cases c1 : n ≤ 1
  · simp only [c1, if_true]
    exact Ex.now ⟨by show (0 : Int) ≤ 0; omega, fun h => by show (0 : Int) < n; omega, by omega, by show a ≤ b + 2; omega⟩
  · simp only [c1, if_false]
    obtain ⟨r, hr, r0, r1, r2⟩ := spec_l1Cur_next_x hc a s b ha (by omega)
    rw [hr]
    simp only [Option.bind_some]
    have n0 : ¬ n = 0 := by omega
    by_cases c2 : n > 200
    · simp only [c2, if_true]
      obtain ⟨q, hq, q0, q1, q2⟩ := spec_l1Cur_next_x hc r.2.1 r.2.2 (b + 1) r2 (by omega)
      rw [hq]
      simp only [Option.bind_some, n0, if_false]
      have e : wrap64 (wrap64 (r.1 * 256) + q.1) = r.1 * 256 + q.1 := by rw [w64 (x := r.1 * 256) (by omega) (by omega), w64 (by omega) (by omega)]
      rw [e]
      refine Ex.now ⟨Int.tmod_nonneg _ (by omega), fun _ => Int.tmod_lt_of_pos _ (by omega), q2.1, ?_⟩
      have := q2.2
      show q.2.1 ≤ b + 2
      omega
    · simp only [c2, if_false, n0]
      refine Ex.now ⟨Int.tmod_nonneg _ (by omega), fun _ => Int.tmod_lt_of_pos _ (by omega), r2.1, ?_⟩
      have := r2.2
      show r.2.1 ≤ b + 2
      omega

theorem spec_l1Cur_among_x {c : List Int} (hc : Bts c) (a s b : Int) (l : List Int) (hl : 1 ≤ l.length) (ha : At a b) (hb : b ≤ 1073741824) : Ex (fun _ => spec_l1Cur_among.f c a s l) (fun r => r.1 ∈ l ∧ At r.2.1 (b + 2)) := by
  unfold spec_l1Cur_among.f
  refine Ex.bind (spec_l1Cur_pick_x hc a s b _ ha hb) fun r hr => ?_
  have h0 := hr.1
  have h1 := hr.2.1 (by omega)
  simp only [h0, h1, if_true]
  refine Ex.now ⟨?_, hr.2.2⟩
  have hi : r.1.toNat < l.length := by omega
  show rd l r.1 ∈ l
  unfold rd
  rw [List.getD_eq_getElem?_getD, List.getElem?_eq_getElem hi, Option.getD_some]
  exact List.getElem_mem hi

theorem spec_l1Cur_arguments_l {c : List Int} (hc : Bts c) (m : Int) (h1 : 1 ≤ m) (hm : m ≤ 5) : ∀ (d : Nat) (x : List Int) (a s b : Int), (x.length : Int) + d = m → At a b → b + 4 * d + 16 ≤ 1073741824 → Ex (fun k => spec_l1Cur_arguments.l0 k m x c a s) (fun r => r.1.length ≤ 6)
  | 0, x, a, s, b, hx, ha, hb => by
    have c0 : ¬ ((x.length : Int) < m) := by omega
    have hl : x.length < 17592186044416 := by omega
    refine Ex.succ ?_
    simp only [spec_l1Cur_arguments.l0, c0, if_false]
    refine Ex.bind (spec_l1Cur_pick_x hc a s b 14 ha (by omega)) fun r hr => ?_
    by_cases c1 : r.1 = 0
    · simp only [c1, if_true]
      refine Ex.bind (spec_l1Cur_pick_x hc _ _ (b + 2) _ hr.2.2 (by omega)) fun q hq => ?_
      refine Ex.bind (spec_l1Cur_among_x hc _ _ (b + 2 + 2) _ (by simp) hq.2.2 (by omega)) fun z hz => ?_
      have q0 := hq.1
      have q1 : q.1 < (x.length : Int) := by have := hq.2.1 h1; omega
      simp only [q0, q1, if_true]
      exact Ex.now (by show (x.set _ _).length ≤ 6; rw [List.length_set]; omega)
    · simp only [c1, if_false]
      by_cases c2 : r.1 = 1
      · simp only [c2, if_true, hl]
        exact Ex.now (by show (x ++ [2]).length ≤ 6; rw [List.length_append, List.length_singleton]; omega)
      · simp only [c2, if_false]
        exact Ex.now (by show x.length ≤ 6; omega)
  | d + 1, x, a, s, b, hx, ha, hb => by
    have c0 : (x.length : Int) < m := by omega
    have hl : x.length < 17592186044416 := by omega
    refine Ex.succ ?_
    simp only [spec_l1Cur_arguments.l0, c0, if_true]
    refine Ex.bind (spec_l1Cur_pick_x hc a s b 9 ha (by omega)) fun r hr => ?_
    simp only [hl, if_true]
    exact spec_l1Cur_arguments_l hc m h1 hm d _ _ _ (b + 2) (by rw [List.length_append, List.length_singleton]; omega) hr.2.2 (by omega)
theorem spec_l1Cur_arguments_x {c : List Int} (hc : Bts c) (a s b m : Int) (h1 : 1 ≤ m) (hm : m ≤ 5) (ha : At a b) (hb : b ≤ 134217728) : Ex (fun k => spec_l1Cur_arguments.f k c a s m) (fun r => r.1.length ≤ 6) := by
  simp only [spec_l1Cur_arguments.f]
  exact spec_l1Cur_arguments_l hc m h1 hm m.toNat [] a s b (by simp; omega) ha (by omega)

theorem spec_l1Cur_one_x {c : List Int} (hc : Bts c) (a s b n : Int) (ha : At a b) (hb : b ≤ 1073741824) : Ex (fun _ => spec_l1Cur_one.f c a s n) (fun r => At r.2.1 (b + 2)) := by
  unfold spec_l1Cur_one.f
  refine Ex.bind (spec_l1Cur_pick_x hc a s b n ha hb) fun r hr => ?_
  exact Ex.now hr.2.2

theorem spec_l1Cur_many_x {c : List Int} (hc : Bts c) (a s b : Int) (ha : At a b) (hb : b ≤ 134217728) : Ex (fun _ => spec_l1Cur_many.f c a s) (fun r => 1 ≤ r.1 ∧ r.1 ≤ 5 ∧ At r.2.1 (b + 4)) := by
  unfold spec_l1Cur_many.f
  refine Ex.bind (spec_l1Cur_one_x hc a s b 10 ha (by omega)) fun r hr => ?_
  by_cases c1 : r.1 = true
  · simp only [c1, if_true]
    exact Ex.now ⟨by show (1 : Int) ≤ 5; omega, by show (5 : Int) ≤ 5; omega, hr.1, by have := hr.2; show r.2.1 ≤ _; omega⟩
  · simp only [c1, if_false]
    refine Ex.bind (spec_l1Cur_pick_x hc _ _ (b + 2) 4 hr (by omega)) fun q hq => ?_
    have q0 := hq.1
    have q1 := hq.2.1 (by omega)
    have e : wrap64 (1 + q.1) = 1 + q.1 := w64 (by omega) (by omega)
    rw [e]
    exact Ex.now ⟨by show (1 : Int) ≤ 1 + q.1; omega, by show 1 + q.1 ≤ (5 : Int); omega, hq.2.2.1, by have := hq.2.2.2; show q.2.1 ≤ _; omega⟩

theorem spec_DrawCompleteSum_x {c : List Int} (hc : Bts c) : Ex (fun k => spec_DrawCompleteSum.f k c) (fun r => -1 ≤ r.1 ∧ r.1 ≤ 20 ∧ r.2.length ≤ 6) := by
  simp only [spec_DrawCompleteSum.f]
  refine Ex.bind (spec_l1Cur_pick_x hc 0 0 0 11 ⟨by omega, by omega⟩ (by omega)) fun r hr => ?_
  refine Ex.bind (spec_l1Cur_many_x hc _ _ (0 + 2) hr.2.2 (by omega)) fun q hq => ?_
  refine Ex.bind (spec_l1Cur_arguments_x hc _ _ (0 + 2 + 4) _ hq.1 hq.2.1 hq.2.2 (by omega)) fun z hz => ?_
  have r0 := hr.1
  have r1 := hr.2.1 (by omega)
  have e : wrap64 (r.1 - 1) = r.1 - 1 := w64 (by omega) (by omega)
  rw [e]
  exact Ex.now ⟨by show -1 ≤ r.1 - 1; omega, by show r.1 - 1 ≤ 20; omega, hz⟩

theorem impl_within_e (a b c : Int) : impl_within.f a b c = some (wth a b c) := wth_opt a b c

theorem impl_allWithin_l (l : List Int) (lo hi : Int) (hl : l.length ≤ 4611686018427387904) : ∀ i, i ≤ l.length → Ev (fun k => impl_allWithin.l0 k lo hi l (l.length : Int) (i : Int)) (allW (l.drop i) lo hi) := by
  refine down ?_ ?_
  · refine Ev.succ ?_
    simp only [impl_allWithin.l0, nlt (Nat.le_refl l.length), if_false, List.drop_length]
    exact Ev.now _
  · intro i hi ih
    refine Ev.succ ?_
    simp only [impl_allWithin.l0, ilt hi, inn, if_true, impl_within_e, Option.bind_some, rd_lt hi, wnext hi hl]
    rw [drop_cons hi]
    exact Ev.andS fun _ => ih
theorem impl_allWithin_ev (l : List Int) (lo hi : Int) (hl : l.length ≤ 4611686018427387904) : Ev (fun k => impl_allWithin.f k l lo hi) (allW l lo hi) := by
  have := impl_allWithin_l l lo hi hl 0 (Nat.zero_le _)
  simpa only [impl_allWithin.f, List.drop_zero, Int.natCast_zero] using this

theorem impl_areArguments_ev (l : List Int) (hl : l.length ≤ 1048576) : Ev (fun k => impl_areArguments.f k l) (argsB l) := by
  simp only [impl_areArguments.f, impl_within_e, Option.bind_some, argsB]
  exact Ev.andS fun _ => Ev.ret (f := fun t => t) (impl_allWithin_ev l 1 9 (by omega))

theorem impl_products_l (ag : Bool) (K : Nat) (hK : K ≤ 1048576) (l : List Int) (hl : l.length ≤ 1048576)
    (IH : ∀ l' : List Int, l'.length ≤ 1048576 → Ev (fun k => impl_products.f k (K : Int) l' ag) (wrap64 (chZ ag K l'))) :
    ∀ i, i ≤ l.length → ∀ acc, InR acc → Ev (fun k => impl_products.l0 k ((K + 1 : Nat) : Int) l ag acc l (l.length : Int) (i : Int)) (wrap64 (acc + chZ ag (K + 1) (l.drop i))) := by
  refine down ?_ ?_
  · intro acc ha
    refine Ev.succ ?_
    simp only [impl_products.l0, nlt (Nat.le_refl l.length), if_false, List.drop_length, chZ, Int.add_zero, wR ha]
    exact Ev.now _
  · intro i hi ih acc ha
    refine Ev.succ ?_
    simp only [impl_products.l0, ilt hi, inn, if_true, ile (Nat.le_of_lt hi), wprev (by omega : K ≤ 4611686018427387904), wnext hi (by omega : l.length ≤ 4611686018427387904), ile (Nat.succ_le_of_lt hi), Int.toNat_natCast, rd_lt hi]
    rw [drop_cons hi, chZ, ← drop_cons hi]
    cases ag with
    | true =>
      simp only [if_true]
      refine Ev.bind (IH _ (by simp; omega)) ?_
      refine (ih _ (inR_wrap _)).eqv ?_
      rw [wrap_add, Int.add_assoc, Int.add_comm (wrap64 _), ← Int.add_assoc, wrap_add', ← wrap_add', wrap_mul', wrap_add', Int.add_assoc]
    | false =>
      simp only [Bool.false_eq_true, if_false]
      refine Ev.bind (IH _ (by simp; omega)) ?_
      refine (ih _ (inR_wrap _)).eqv ?_
      rw [wrap_add, Int.add_assoc, Int.add_comm (wrap64 _), ← Int.add_assoc, wrap_add', ← wrap_add', wrap_mul', wrap_add', Int.add_assoc]
theorem impl_products_ev (ag : Bool) : ∀ (K : Nat), K ≤ 1048576 → ∀ (l : List Int), l.length ≤ 1048576 → Ev (fun k => impl_products.f k (K : Int) l ag) (wrap64 (chZ ag K l))
  | 0, _, l, hl => by
    refine Ev.succ ?_
    simp only [impl_products.f, Int.natCast_zero, if_true, chZ, w64 (x := 1) (by decide) (by decide)]
    exact Ev.now _
  | K + 1, hK, l, hl => by
    refine Ev.succ ?_
    have c : ¬ ((K + 1 : Nat) : Int) = 0 := by omega
    simp only [impl_products.f, c, if_false]
    have := impl_products_l ag K (by omega) l hl (impl_products_ev ag K (by omega)) 0 (Nat.zero_le _) 0 inR_0
    simpa only [List.drop_zero, Int.zero_add, Int.natCast_zero] using this

theorem impl_CompleteSum_ev (n : Int) (l : List Int) (hl : l.length ≤ 1048576) : Ev (fun k => impl_CompleteSum.f k n l) (if argsB l && wth n 0 8 then (wrap64 (chZ true n.toNat l), true) else (0, false)) := by
  simp only [impl_CompleteSum.f]
  refine Ev.bind (impl_areArguments_ev l hl) ?_
  cases h : argsB l with
  | false => simp only [Bool.false_eq_true, if_false, Bool.false_and]; exact Ev.now _
  | true =>
    simp only [if_true, Bool.true_and, impl_within_e, Option.bind_some]
    cases h2 : wth n 0 8 with
    | false => simp only [Bool.false_eq_true, if_false]; exact Ev.now _
    | true =>
      simp only [if_true]
      have h3 := wth_iff.1 h2
      have h4 : (l.length : Int) ≤ 4 := by
        rw [argsB, Bool.and_eq_true, wth_iff] at h
        exact h.1.2
      have e : ((n.toNat : Nat) : Int) = n := Int.toNat_of_nonneg h3.1
      have := impl_products_ev true n.toNat (by omega) l hl
      rw [e] at this
      exact Ev.ret (f := fun t => (t, true)) this

theorem spec_l1In_e (a b c : Int) : spec_l1In.f a b c = some (wth a b c) := wth_opt a b c

theorem spec_l1All_l (l : List Int) (lo hi : Int) (hl : l.length ≤ 4611686018427387904) : ∀ i, i ≤ l.length → Ev (fun k => spec_l1All.l0 k lo hi l (l.length : Int) (i : Int)) (allW (l.drop i) lo hi) := by
  refine down ?_ ?_
  · refine Ev.succ ?_
    simp only [spec_l1All.l0, nlt (Nat.le_refl l.length), if_false, List.drop_length]
    exact Ev.now _
  · intro i hi ih
    refine Ev.succ ?_
    simp only [spec_l1All.l0, ilt hi, inn, if_true, spec_l1In_e, Option.bind_some, rd_lt hi, wnext hi hl]
    rw [drop_cons hi]
    exact Ev.andS fun _ => ih
theorem spec_l1All_ev (l : List Int) (lo hi : Int) (hl : l.length ≤ 4611686018427387904) : Ev (fun k => spec_l1All.f k l lo hi) (allW l lo hi) := by
  have := spec_l1All_l l lo hi hl 0 (Nat.zero_le _)
  simpa only [spec_l1All.f, List.drop_zero, Int.natCast_zero] using this

theorem spec_syArguments_ev (l : List Int) (hl : l.length ≤ 1048576) : Ev (fun k => spec_syArguments.f k l) (argsB l) := by
  simp only [spec_syArguments.f, spec_l1In_e, Option.bind_some, argsB]
  exact Ev.andS fun _ => Ev.ret (f := fun t => t) (spec_l1All_ev l 1 9 (by omega))

theorem spec_syChoose_ev (ag : Bool) : ∀ (m : Nat) (K : Nat) (l : List Int), K + l.length ≤ m → m ≤ 1048576 → Ev (fun k => spec_syChoose.f k (K : Int) l ag) (wrap64 (chZ ag K l)) := by
  intro m
  induction m with
  | zero =>
    intro K l h hm
    obtain rfl : K = 0 := by omega
    refine Ev.succ ?_
    simp only [spec_syChoose.f, Int.natCast_zero, if_true, chZ, w64 (x := 1) (by decide) (by decide)]
    exact Ev.now _
  | succ m ih =>
    intro K l h hm
    refine Ev.succ ?_
    cases K with
    | zero =>
      simp only [spec_syChoose.f, Int.natCast_zero, if_true, chZ, w64 (x := 1) (by decide) (by decide)]
      exact Ev.now _
    | succ K =>
      have c : ¬ ((K + 1 : Nat) : Int) = 0 := by omega
      cases l with
      | nil =>
        simp only [spec_syChoose.f, c, if_false, List.length_nil, Int.natCast_zero, if_true, chZ, wrap_0]
        exact Ev.now _
      | cons x t =>
        simp only [List.length_cons] at h
        have c1 : ¬ ((t.length + 1 : Nat) : Int) = 0 := by omega
        have c2 : 1 ≤ ((t.length + 1 : Nat) : Int) := by omega
        have c3 : 0 < ((t.length + 1 : Nat) : Int) := by omega
        have e : rd (x :: t) 0 = x := by simp [rd]
        simp only [spec_syChoose.f, c, if_false, List.length_cons, c1, c2, c3, if_true, wprev (by omega : K ≤ 4611686018427387904), e, List.drop_one, List.tail_cons, chZ]
        cases ag with
        | true =>
          simp only [if_true]
          refine Ev.bind (ih (K + 1) t (by omega) (by omega)) ?_
          refine (Ev.ret (f := fun v => wrap64 (wrap64 (chZ true (K + 1) t) + wrap64 (x * v))) (ih K (x :: t) (by simp; omega) (by omega))).eqv ?_
          rw [wrap_add, wrap_add', ← wrap_add', wrap_mul', wrap_add']
        | false =>
          simp only [Bool.false_eq_true, if_false]
          refine Ev.bind (ih (K + 1) t (by omega) (by omega)) ?_
          refine (Ev.ret (f := fun v => wrap64 (wrap64 (chZ false (K + 1) t) + wrap64 (x * v))) (ih K t (by omega) (by omega))).eqv ?_
          rw [wrap_add, wrap_add', ← wrap_add', wrap_mul', wrap_add']

theorem spec_CompleteSum_ev (n : Int) (l : List Int) (hl : l.length ≤ 1048576) : Ev (fun k => spec_CompleteSum.f k n l) (if argsB l && wth n 0 8 then (wrap64 (chZ true n.toNat l), true) else (0, false)) := by
  simp only [spec_CompleteSum.f]
  refine Ev.bind (spec_syArguments_ev l hl) ?_
  cases h : argsB l with
  | false => simp only [Bool.false_eq_true, if_false, Bool.false_and]; exact Ev.now _
  | true =>
    simp only [if_true, Bool.true_and, spec_l1In_e, Option.bind_some]
    cases h2 : wth n 0 8 with
    | false => simp only [Bool.false_eq_true, if_false]; exact Ev.now _
    | true =>
      simp only [if_true]
      have h3 := wth_iff.1 h2
      have h4 : (l.length : Int) ≤ 4 := by
        rw [argsB, Bool.and_eq_true, wth_iff] at h
        exact h.1.2
      have e : ((n.toNat : Nat) : Int) = n := Int.toNat_of_nonneg h3.1
      have := spec_syChoose_ev true (n.toNat + l.length) n.toNat l (Nat.le_refl _) (by omega)
      rw [e] at this
      exact Ev.ret (f := fun t => (t, true)) this

theorem spec_DrawPowerSum_x {c : List Int} (hc : Bts c) : Ex (fun k => spec_DrawPowerSum.f k c) (fun r => -1 ≤ r.1 ∧ r.1 ≤ 20 ∧ r.2.length ≤ 6) := by
  simp only [spec_DrawPowerSum.f]
  refine Ex.bind (spec_l1Cur_pick_x hc 0 0 0 19 ⟨by omega, by omega⟩ (by omega)) fun r hr => ?_
  refine Ex.bind (spec_l1Cur_many_x hc _ _ (0 + 2) hr.2.2 (by omega)) fun q hq => ?_
  refine Ex.bind (spec_l1Cur_arguments_x hc _ _ (0 + 2 + 4) _ hq.1 hq.2.1 hq.2.2 (by omega)) fun z hz => ?_
  have r0 := hr.1
  have r1 := hr.2.1 (by omega)
  have e : wrap64 (r.1 - 1) = r.1 - 1 := w64 (by omega) (by omega)
  rw [e]
  exact Ex.now ⟨by show -1 ≤ r.1 - 1; omega, by show r.1 - 1 ≤ 20; omega, hz⟩

theorem impl_power_l (x : Int) (n : Nat) (hn : n ≤ 4611686018427387904) : ∀ i, i ≤ n → ∀ acc, InR acc → Ev (fun k => impl_power.l0 k x acc (n : Int) (i : Int)) (wrap64 (acc * x ^ (n - i))) := by
  refine down ?_ ?_
  · intro acc ha
    refine Ev.succ ?_
    simp only [impl_power.l0, nlt (Nat.le_refl n), if_false, Nat.sub_self, Int.pow_zero, Int.mul_one, wR ha]
    exact Ev.now _
  · intro i hi ih acc ha
    refine Ev.succ ?_
    simp only [impl_power.l0, ilt hi, if_true, wnext hi hn]
    rw [show n - i = n - (i + 1) + 1 by omega, show acc * x ^ (n - (i + 1) + 1) = (acc * x) * x ^ (n - (i + 1)) by rw [Int.pow_succ, Int.mul_assoc, Int.mul_comm x]]
    exact (ih _ (inR_wrap _)).eqv (wrap_mul _ _)
theorem impl_power_ev (x n : Int) (hn : n ≤ 4611686018427387904) : Ev (fun k => impl_power.f k x n) (wrap64 (x ^ n.toNat)) := by
  simp only [impl_power.f]
  by_cases h : 0 ≤ n
  · have := impl_power_l x n.toNat (by omega) 0 (Nat.zero_le _) 1 ⟨by decide, by decide⟩
    simpa only [Int.toNat_of_nonneg h, Int.one_mul, Nat.sub_zero, Int.natCast_zero] using this
  · rw [Int.toNat_of_nonpos (by omega), Int.pow_zero]
    have c : ¬ 0 < n := by omega
    refine Ev.succ ?_
    simp only [impl_power.l0, c, if_false]
    exact (Ev.now _).eqv (w64 (by omega) (by omega)).symm

theorem impl_PowerSum_l (n : Int) (hn : n ≤ 4611686018427387904) (l : List Int) (hl : l.length ≤ 1048576) : ∀ i, i ≤ l.length → ∀ acc, InR acc → Ev (fun k => impl_PowerSum.l0 k n acc l (l.length : Int) (i : Int)) (wrap64 (acc + ((l.drop i).map fun x => x ^ n.toNat).sum), true) := by
  refine down ?_ ?_
  · intro acc ha
    refine Ev.succ ?_
    simp only [impl_PowerSum.l0, nlt (Nat.le_refl l.length), if_false, List.drop_length, List.map_nil, List.sum_nil, Int.add_zero, wR ha]
    exact Ev.now _
  · intro i hi ih acc ha
    refine Ev.succ ?_
    simp only [impl_PowerSum.l0, ilt hi, inn, if_true, rd_lt hi, wnext hi (by omega : l.length ≤ 4611686018427387904)]
    refine Ev.bind (impl_power_ev _ _ hn) ?_
    rw [drop_cons hi, List.map_cons, List.sum_cons, ← Int.add_assoc]
    refine (ih _ (inR_wrap _)).eqv ?_
    rw [wrap_add, Int.add_right_comm, wrap_add', Int.add_right_comm]
theorem impl_PowerSum_ev (n : Int) (l : List Int) (hl : l.length ≤ 1048576) : Ev (fun k => impl_PowerSum.f k n l) (if argsB l && wth n 0 16 then (wrap64 (l.map fun x => x ^ n.toNat).sum, true) else (0, false)) := by
  simp only [impl_PowerSum.f]
  refine Ev.bind (impl_areArguments_ev l hl) ?_
  cases h : argsB l with
  | false =>
    simp only [Bool.false_eq_true, if_false, Bool.false_and]
    refine Ev.succ ?_
    simp only [impl_PowerSum.j0, if_true]
    exact Ev.now _
  | true =>
    simp only [if_true, Bool.true_and, impl_within_e, Option.bind_some]
    refine Ev.succ ?_
    cases h2 : wth n 0 16 with
    | false => simp only [impl_PowerSum.j0, Bool.not_false, if_true, Bool.false_eq_true, if_false]; exact Ev.now _
    | true =>
      simp only [impl_PowerSum.j0, Bool.not_true, Bool.false_eq_true, if_false, if_true]
      have := impl_PowerSum_l n (by have := (wth_iff.1 h2).2; omega) l hl 0 (Nat.zero_le _) 0 inR_0
      simpa only [List.drop_zero, Int.zero_add, Int.natCast_zero] using this

theorem spec_syPower_l (x : Int) : ∀ (n : Nat), n ≤ 4611686018427387904 → ∀ acc, InR acc → Ev (fun k => spec_syPower.l0 k x (n : Int) acc) (wrap64 (acc * x ^ n))
  | 0, _, acc, ha => by
    refine Ev.succ ?_
    simp only [spec_syPower.l0, (by decide : ¬ (((0 : Nat) : Int) > 0)), if_false, Int.pow_zero, Int.mul_one, wR ha]
    exact Ev.now _
  | n + 1, hn, acc, ha => by
    refine Ev.succ ?_
    have c : ((n + 1 : Nat) : Int) > 0 := by omega
    simp only [spec_syPower.l0, c, if_true, wprev (by omega : n ≤ 4611686018427387904)]
    rw [show acc * x ^ (n + 1) = (acc * x) * x ^ n by rw [Int.pow_succ, Int.mul_assoc, Int.mul_comm x]]
    exact (spec_syPower_l x n (by omega) _ (inR_wrap _)).eqv (wrap_mul _ _)
theorem spec_syPower_ev (x n : Int) (hn : n ≤ 4611686018427387904) : Ev (fun k => spec_syPower.f k x n) (wrap64 (x ^ n.toNat)) := by
  simp only [spec_syPower.f]
  by_cases h : 0 ≤ n
  · have := spec_syPower_l x n.toNat (by omega) 1 ⟨by decide, by decide⟩
    simpa only [Int.toNat_of_nonneg h, Int.one_mul] using this
  · rw [Int.toNat_of_nonpos (by omega), Int.pow_zero]
    have c : ¬ n > 0 := by omega
    refine Ev.succ ?_
    simp only [spec_syPower.l0, c, if_false]
    exact (Ev.now _).eqv (w64 (by omega) (by omega)).symm

theorem spec_PowerSum_l (n : Int) (hn : n ≤ 4611686018427387904) (l : List Int) (hl : l.length ≤ 1048576) : ∀ i, i ≤ l.length → ∀ acc, InR acc → Ev (fun k => spec_PowerSum.l0 k n acc l (l.length : Int) (i : Int)) (wrap64 (acc + ((l.drop i).map fun x => x ^ n.toNat).sum), true) := by
  refine down ?_ ?_
  · intro acc ha
    refine Ev.succ ?_
    simp only [spec_PowerSum.l0, nlt (Nat.le_refl l.length), if_false, List.drop_length, List.map_nil, List.sum_nil, Int.add_zero, wR ha]
    exact Ev.now _
  · intro i hi ih acc ha
    refine Ev.succ ?_
    simp only [spec_PowerSum.l0, ilt hi, inn, if_true, rd_lt hi, wnext hi (by omega : l.length ≤ 4611686018427387904)]
    refine Ev.bind (spec_syPower_ev _ _ hn) ?_
    rw [drop_cons hi, List.map_cons, List.sum_cons, ← Int.add_assoc]
    refine (ih _ (inR_wrap _)).eqv ?_
    rw [wrap_add, Int.add_right_comm, wrap_add', Int.add_right_comm]
theorem spec_PowerSum_ev (n : Int) (l : List Int) (hl : l.length ≤ 1048576) : Ev (fun k => spec_PowerSum.f k n l) (if argsB l && wth n 0 16 then (wrap64 (l.map fun x => x ^ n.toNat).sum, true) else (0, false)) := by
  simp only [spec_PowerSum.f]
  refine Ev.bind (spec_syArguments_ev l hl) ?_
  cases h : argsB l with
  | false =>
    simp only [Bool.false_eq_true, if_false, Bool.false_and]
    refine Ev.succ ?_
    simp only [spec_PowerSum.j0, if_true]
    exact Ev.now _
  | true =>
    simp only [if_true, Bool.true_and, spec_l1In_e, Option.bind_some]
    refine Ev.succ ?_
    cases h2 : wth n 0 16 with
    | false => simp only [spec_PowerSum.j0, Bool.not_false, if_true, Bool.false_eq_true, if_false]; exact Ev.now _
    | true =>
      simp only [spec_PowerSum.j0, Bool.not_true, Bool.false_eq_true, if_false, if_true]
      have := spec_PowerSum_l n (by have := (wth_iff.1 h2).2; omega) l hl 0 (Nat.zero_le _) 0 inR_0
      simpa only [List.drop_zero, Int.zero_add, Int.natCast_zero] using this

theorem impl_ElementarySum_ev (n : Int) (l : List Int) (hl : l.length ≤ 1048576) : Ev (fun k => impl_ElementarySum.f k n l) (if argsB l && wth n 0 4 then (wrap64 (chZ false n.toNat l), true) else (0, false)) := by
  simp only [impl_ElementarySum.f]
  refine Ev.bind (impl_areArguments_ev l hl) ?_
  cases h : argsB l with
  | false => simp only [Bool.false_eq_true, if_false, Bool.false_and]; exact Ev.now _
  | true =>
    simp only [if_true, Bool.true_and, impl_within_e, Option.bind_some]
    cases h2 : wth n 0 4 with
    | false => simp only [Bool.false_eq_true, if_false]; exact Ev.now _
    | true =>
      simp only [if_true]
      have h3 := wth_iff.1 h2
      have h4 : (l.length : Int) ≤ 4 := by
        rw [argsB, Bool.and_eq_true, wth_iff] at h
        exact h.1.2
      have e : ((n.toNat : Nat) : Int) = n := Int.toNat_of_nonneg h3.1
      have := impl_products_ev false n.toNat (by omega) l hl
      rw [e] at this
      exact Ev.ret (f := fun t => (t, true)) this

theorem spec_ElementarySum_ev (n : Int) (l : List Int) (hl : l.length ≤ 1048576) : Ev (fun k => spec_ElementarySum.f k n l) (if argsB l && wth n 0 4 then (wrap64 (chZ false n.toNat l), true) else (0, false)) := by
  simp only [spec_ElementarySum.f]
  refine Ev.bind (spec_syArguments_ev l hl) ?_
  cases h : argsB l with
  | false => simp only [Bool.false_eq_true, if_false, Bool.false_and]; exact Ev.now _
  | true =>
    simp only [if_true, Bool.true_and, spec_l1In_e, Option.bind_some]
    cases h2 : wth n 0 4 with
    | false => simp only [Bool.false_eq_true, if_false]; exact Ev.now _
    | true =>
      simp only [if_true]
      have h3 := wth_iff.1 h2
      have h4 : (l.length : Int) ≤ 4 := by
        rw [argsB, Bool.and_eq_true, wth_iff] at h
        exact h.1.2
      have e : ((n.toNat : Nat) : Int) = n := Int.toNat_of_nonneg h3.1
      have := spec_syChoose_ev false (n.toNat + l.length) n.toNat l (Nat.le_refl _) (by omega)
      rw [e] at this
      exact Ev.ret (f := fun t => (t, true)) this

theorem sg_one (i : Nat) : sg i = 1 ∨ sg i = -1 := by
  induction i with
  | zero => exact .inl rfl
  | succ i ih => simp only [sg]; omega
theorem FnNewtonsSums_l0 {x : List Int} (ha : argsB x = true) (n : Nat) (h1 : 1 ≤ n) (hn : n ≤ 8) : ∀ (d i : Nat), i + d = n + 1 → Ev (fun k => laws_FnNewtonsSums.l0 k (n : Int) x (wrap64 (chZ true n x)) (wrap64 (S1 (fun t => pwS x t * chZ true (n - t) x) i)) (wrap64 (S1 (fun t => sg t * chZ false t x * chZ true (n - t) x) i)) (sg i) (i : Int)) true
  | 0, i, h => by
    have hi : i = n + 1 := by omega
    subst hi
    have c : ¬ (((n + 1 : Nat) : Int) ≤ (n : Int)) := by omega
    refine Ev.succ ?_
    have e1 : S1 (fun t => pwS x t * chZ true (n - t) x) (n + 1) = (n : Int) * chZ true n x := newton_p x n
    have e2 : S1 (fun t => sg t * chZ false t x * chZ true (n - t) x) (n + 1) = 0 := by
      obtain ⟨m, rfl⟩ : ∃ m, n = m + 1 := ⟨n - 1, by omega⟩
      exact newton_e x m
    simp only [laws_FnNewtonsSums.l0, c, if_false, e1, e2, wrap_mul', if_true, wrap_0]
    exact Ev.now _
  | d + 1, i, h => by
    have hx : x.length ≤ 1048576 ∧ x.length ≤ 4 := by
      have := ha
      unfold argsB at this
      rw [Bool.and_eq_true, wth_iff] at this
      omega
    have hlt : ¬ ((i : Int) ≤ 4) → x.length < i := fun h => by have := hx.2; omega
    have ei : wrap64 ((i : Int) + 1) = ((i + 1 : Nat) : Int) := wnext (by omega : i < 10) (by omega)
    have c : (i : Int) ≤ (n : Int) := by omega
    have ih := FnNewtonsSums_l0 ha n h1 hn d (i + 1) (by omega)
    have ew : wrap64 ((n : Int) - (i : Int)) = ((n - i : Nat) : Int) := by rw [w64 (by omega) (by omega)]; omega
    have w1 : wth ((n - i : Nat) : Int) 0 8 = true := wth_iff.2 (by omega)
    have w2 : wth (i : Int) 0 16 = true := wth_iff.2 (by omega)
    refine Ev.succ ?_
    simp only [laws_FnNewtonsSums.l0, c, if_true, ew]
    refine Ev.bind (impl_CompleteSum_ev _ x hx.1) ?_
    refine Ev.bind (impl_PowerSum_ev _ x hx.1) ?_
    rw [ha, w1, w2]
    simp only [Bool.and_self, if_true, Bool.not_true, Int.toNat_natCast]
    refine Ev.succ ?_
    have last : ∀ s : Int, s = wrap64 (S1 (fun t => pwS x t * chZ true (n - t) x) (i + 1)) → Ev (fun k => laws_FnNewtonsSums.j5 k (n : Int) x (wrap64 (chZ true n x)) s (wrap64 (S1 (fun t => sg t * chZ false t x * chZ true (n - t) x) i)) (sg i) (i : Int) (wrap64 (chZ true (n - i) x))) true := by
      intro s hs
      refine Ev.succ ?_
      have es : wrap64 (-(sg i)) = sg (i + 1) := by
        rcases sg_one i with e | e <;> (simp only [sg]; rw [e]; exact w64 (by omega) (by omega))
      by_cases c4 : (i : Int) ≤ 4
      · have w3 : wth (i : Int) 0 4 = true := wth_iff.2 ⟨Int.natCast_nonneg i, c4⟩
        simp only [laws_FnNewtonsSums.j5, c4, if_true]
        refine Ev.bind (impl_ElementarySum_ev _ x hx.1) ?_
        rw [ha, w3]
        simp only [Bool.and_self, if_true, Int.toNat_natCast, es, ei]
        have er : wrap64 (wrap64 (S1 (fun t => sg t * chZ false t x * chZ true (n - t) x) i) + wrap64 (wrap64 (sg i * wrap64 (chZ false i x)) * wrap64 (chZ true (n - i) x))) = wrap64 (S1 (fun t => sg t * chZ false t x * chZ true (n - t) x) (i + 1)) := by
          rw [S1_succ, wrap_mul, wrap_mul', ← wrap_mul (sg i * wrap64 (chZ false i x)), wrap_mul', wrap_mul, wrap_add, wrap_add']
        rw [hs, er]
        exact ih
      · simp only [laws_FnNewtonsSums.j5, c4, if_false, es, ei]
        have er : S1 (fun t => sg t * chZ false t x * chZ true (n - t) x) (i + 1) = S1 (fun t => sg t * chZ false t x * chZ true (n - t) x) i := by
          rw [S1_succ, chZ_long x i (hlt c4)]; simp
        rw [er] at ih
        rw [hs]
        exact ih
    by_cases c0 : (i : Int) > 0
    · simp only [laws_FnNewtonsSums.j4, Bool.false_eq_true, if_false, c0, if_true]
      refine last _ ?_
      obtain ⟨m, rfl⟩ : ∃ m, i = m + 1 := ⟨i - 1, by omega⟩
      rw [S1_succ, wrap_mul, wrap_mul', wrap_add, wrap_add']
      rfl
    · simp only [laws_FnNewtonsSums.j4, Bool.false_eq_true, if_false, c0]
      refine last _ ?_
      obtain rfl : i = 0 := by omega
      rw [S1_succ]
      simp [S1, pwS]
theorem FnNewtonsSums : laws_FnNewtonsSums.Pure := by
  intro a b hma hsa hwa hmb hsb hwb
  refine Ev.rounds ?_
  have hc := Bts.of hsa hwa
  have hd := Bts.of hsb hwb
  simp only [laws_FnNewtonsSums.f]
  obtain ⟨t, ht⟩ := laws_big_x a b
  rw [ht]
  simp only [Option.bind_some]
  by_cases h0 : t = true
  · simp only [h0, if_true]; exact Ev.now _
  · simp only [h0, if_false]
    refine Ex.ev (spec_DrawCompleteSum_x hc) fun r hr => ?_
    obtain ⟨n, x⟩ := r
    have hx : x.length ≤ 1048576 := by have := hr.2.2; show x.length ≤ _; simp only at this; omega
    simp only
    refine Ev.bind (impl_CompleteSum_ev n x hx) ?_
    refine Ev.bind (spec_CompleteSum_ev n x hx) ?_
    obtain ⟨v, hv⟩ : ∃ v, v = if argsB x && wth n 0 8 then (wrap64 (chZ true n.toNat x), true) else (0, false) := ⟨_, rfl⟩
    rw [← hv]
    simp only [bne_self_eq_false, Bool.false_eq_true, if_false]
    refine Ev.succ ?_
    simp only [laws_FnNewtonsSums.j0, Bool.false_eq_true, if_false]
    refine Ex.ev (spec_DrawPowerSum_x hd) fun r hr => ?_
    obtain ⟨m, y⟩ := r
    have hy : y.length ≤ 1048576 := by have := hr.2.2; show y.length ≤ _; simp only at this; omega
    simp only
    refine Ev.bind (impl_PowerSum_ev m y hy) ?_
    refine Ev.bind (spec_PowerSum_ev m y hy) ?_
    refine Ev.bind (impl_ElementarySum_ev m y hy) ?_
    refine Ev.bind (spec_ElementarySum_ev m y hy) ?_
    simp only [bne_self_eq_false, Bool.false_eq_true, if_false, if_true]
    refine Ev.succ ?_
    simp only [laws_FnNewtonsSums.j1, Bool.false_eq_true, if_false]
    cases h1 : argsB x && wth n 0 8 with
    | false =>
      rw [h1] at hv
      rw [hv]
      simp only [Bool.false_eq_true, if_false]
      refine Ev.succ ?_
      simp only [laws_FnNewtonsSums.j2, if_true, Bool.false_eq_true, if_false]
      exact Ev.now _
    | true =>
      rw [h1] at hv
      rw [hv]
      rw [Bool.and_eq_true, wth_iff] at h1
      obtain ⟨h2, h3, h4⟩ := h1
      simp only [if_true]
      refine Ev.succ ?_
      by_cases e : n = 0
      · subst e
        simp only [laws_FnNewtonsSums.j2, beq_self_eq_true, if_true]
        rw [show (0 : Int).toNat = 0 from rfl, chZ_zero, w64 (x := 1) (by omega) (by omega)]
        exact Ev.now _
      · have eb : (n == 0) = false := beq_eq_false_iff_ne.2 e
        simp only [laws_FnNewtonsSums.j2, eb, Bool.false_eq_true, if_false]
        obtain ⟨p, rfl⟩ := Int.eq_ofNat_of_zero_le h3
        rw [Int.toNat_natCast]
        have := FnNewtonsSums_l0 h2 p (by omega) (by omega) (p + 1) 0 (by omega)
        simpa [S1, sg, wrap_0] using this

end Go.Proofs.Ytbbioadebhnfiaa.Pure
