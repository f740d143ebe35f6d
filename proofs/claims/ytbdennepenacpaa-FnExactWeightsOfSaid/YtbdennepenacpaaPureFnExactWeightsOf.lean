/- The program's WeightsOf returns what the reference's returns, for all arguments; the printed functions' own bounds on lengths are the only conditions. -/
import Derived.Test.YtbdennepenacpaaPFnExactWeightsOfx4
import Derived.Test.YtbdennepenacpaaMath
namespace Go.Proofs.Ytbdennepenacpaa.Pure
open Go.RowKit Go.Proofs.Ytbdennepenacpaa.PFnExactWeightsOf Go.Proofs.YtbdennepenacpaaW.PrintWords Go.Proofs.YtbdennepenacpaaW.PrintLast Go.Proofs.YtbdennepenacpaaW.PrintMore Go.Proofs.Ytbdennepenacpaa.Math
set_option linter.unusedVariables false
set_option linter.unusedSimpArgs false
set_option linter.unusedSectionVars false

theorem laws_toIntS_l (l : List Int) (hl : l.length ≤ 4611686018427387904) : ∀ i, i ≤ l.length → ∀ m : List Int, m.length = l.length → m.take i = l.take i → Ev (fun k => laws_toIntS.l0 k l m (i : Int)) l := by
  refine down ?_ ?_
  · intro m hm h
    refine Ev.succ ?_
    simp only [laws_toIntS.l0, nlt (Nat.le_refl l.length), if_false]
    rw [← hm, List.take_length, hm, List.take_length] at h
    rw [h]
    exact Ev.now _
  · intro i hi ih m hm h
    refine Ev.succ ?_
    simp only [laws_toIntS.l0, ilt hi, inn, if_true, hm, rd_lt hi, wnext hi hl, Int.toNat_natCast]
    exact ih _ (by simpa using hm) (set_take l m i hi hm h)
theorem laws_toIntS_ev (l : List Int) (hl : l.length ≤ 35184372088832) : Ev (fun k => laws_toIntS.f k l) l := by
  have := laws_toIntS_l l (by omega) 0 (Nat.zero_le _) (List.replicate l.length 0) (by simp) (by simp)
  simp only [laws_toIntS.f, inn, if_true, Int.toNat_natCast, hl]
  exact this

theorem laws_eqIntS_l (l m : List Int) (he : m.length = l.length) (hl : l.length ≤ 4611686018427387904) : ∀ i, i ≤ l.length → Ev (fun k => laws_eqIntS.l0 k l m (i : Int)) (decide (l.drop i = m.drop i)) := by
  refine down ?_ ?_
  · refine Ev.succ ?_
    simp only [laws_eqIntS.l0, nlt (Nat.le_refl l.length), if_false, List.drop_length]
    rw [← he, List.drop_length]
    exact Ev.now _
  · intro i hi ih
    refine Ev.succ ?_
    simp only [laws_eqIntS.l0, ilt hi, inn, if_true, he, rd_lt hi, rd_lt (he ▸ hi : i < m.length), wnext hi hl]
    rw [drop_cons hi, drop_cons (he ▸ hi : i < m.length)]
    by_cases hx : l[i] = m[i]
    · simp only [hx, if_true, List.cons.injEq, true_and]
      exact ih
    · simp only [hx, if_false, List.cons.injEq, false_and, decide_false]
      exact Ev.now _
theorem laws_eqIntS_ev (l m : List Int) (hl : l.length ≤ 4611686018427387904) : Ev (fun k => laws_eqIntS.f k l m) (decide (l = m)) := by
  simp only [laws_eqIntS.f]
  by_cases he : (l.length : Int) = (m.length : Int)
  · simp only [he, if_true]
    exact laws_eqIntS_l l m (by omega) hl 0 (Nat.zero_le _)
  · simp only [he, if_false]
    rw [decide_eq_false (fun h => he (by rw [h]))]
    exact Ev.now _
theorem laws_eqIntS_self (l : List Int) (hl : l.length ≤ 4611686018427387904) : Ev (fun k => laws_eqIntS.f k l l) true := by
  simpa using laws_eqIntS_ev l l hl

theorem laws_markIntS_l (n : Nat) (hn : n ≤ 1048576) (s : Nat) (hs : s ≤ 1048576) : ∀ i, i ≤ n → ∀ m : List Int, m.length = n → m.take i = (iotaF s n).take i → Ev (fun k => laws_markIntS.l0 k m ((s + i : Nat) : Int) (i : Int)) (((s + n : Nat) : Int), iotaF s n) := by
  refine down ?_ ?_
  · intro m hm h
    refine Ev.succ ?_
    simp only [laws_markIntS.l0, hm, nlt (Nat.le_refl n), if_false]
    rw [← hm, List.take_length, hm, List.take_of_length_le (by rw [iotaF_length]; exact Nat.le_refl _)] at h
    rw [h]
    exact Ev.now _
  · intro i hi ih m hm h
    refine Ev.succ ?_
    simp only [laws_markIntS.l0, hm, ilt hi, inn, if_true, Int.toNat_natCast, wnext hi (by omega : n ≤ 4611686018427387904), wnext (by omega : s + i < 4611686018427387904) (by omega)]
    have := set_take (iotaF s n) m i (by rw [iotaF_length]; exact hi) (by rw [iotaF_length]; exact hm) h
    rw [iotaF_get hi] at this
    exact ih _ (by simpa using hm) this
theorem laws_markIntS_ev (l : List Int) (hl : l.length ≤ 1048576) (s : Nat) (hs : s ≤ 1048576) : Ev (fun k => laws_markIntS.f k l (s : Int)) (((s + l.length : Nat) : Int), iotaF s l.length) := by
  have := laws_markIntS_l l.length hl s hs 0 (Nat.zero_le _) l rfl rfl
  simpa only [laws_markIntS.f, Int.natCast_zero, Nat.add_zero] using this
theorem laws_markIntS_from (l : List Int) (hl : l.length ≤ 1048576) (s : Nat) (hs : s ≤ 1048576) {x : Int} (hx : (s : Int) = x) : Ev (fun k => laws_markIntS.f k l x) (((s + l.length : Nat) : Int), iotaF s l.length) :=
  hx ▸ laws_markIntS_ev l hl s hs

theorem laws_heldIntS_l (n : Nat) (hn : n ≤ 1048576) (s : Nat) (hs : s ≤ 1048576) : ∀ i, i ≤ n → Ev (fun k => laws_heldIntS.l0 k (iotaF s n) ((s + i : Nat) : Int) (i : Int)) (((s + n : Nat) : Int)) := by
  refine down ?_ ?_
  · refine Ev.succ ?_
    simp only [laws_heldIntS.l0, iotaF_length, nlt (Nat.le_refl n), if_false]
    exact Ev.now _
  · intro i hi ih
    refine Ev.succ ?_
    simp only [laws_heldIntS.l0, iotaF_length, ilt hi, inn, if_true, rd_lt (by rw [iotaF_length]; exact hi : i < (iotaF s n).length), iotaF_get hi, wnext hi (by omega : n ≤ 4611686018427387904), wnext (by omega : s + i < 4611686018427387904) (by omega)]
    exact ih
theorem laws_heldIntS_ev (n : Nat) (hn : n ≤ 1048576) (s : Nat) (hs : s ≤ 1048576) : Ev (fun k => laws_heldIntS.f k (iotaF s n) (s : Int)) (((s + n : Nat) : Int)) := by
  have := laws_heldIntS_l n hn s hs 0 (Nat.zero_le _)
  simpa only [laws_heldIntS.f, Int.natCast_zero, Nat.add_zero] using this
theorem laws_heldIntS_from (n : Nat) (hn : n ≤ 1048576) (s : Nat) (hs : s ≤ 1048576) {x : Int} (hx : (s : Int) = x) : Ev (fun k => laws_heldIntS.f k (iotaF s n) x) (((s + n : Nat) : Int)) :=
  hx ▸ laws_heldIntS_ev n hn s hs

theorem spec_l1In_e (a b c : Int) : spec_l1In.f a b c = some (wth a b c) := wth_opt a b c

theorem spec_l1All_l (l : List Int) (lo hi : Int) (hl : l.length ≤ 4611686018427387904) : ∀ i, i ≤ l.length → Ev (fun k => spec_l1All.l0 k lo hi l (l.length : Int) (i : Int)) (allW (l.drop i) lo hi) := by
  refine down ?_ ?_
  · refine Ev.succ ?_
    simp only [spec_l1All.l0, nlt (Nat.le_refl l.length), if_false, List.drop_length]
    exact Ev.now _
  · intro i hi ih
    refine Ev.succ ?_
    simp only [spec_l1All.l0, ilt hi, inn, if_true, spec_l1In_e, Option.bind_some, rd_lt hi, wnext hi hl]
    rw [drop_cons hi]
    exact Ev.andS fun _ => ih
theorem spec_l1All_ev (l : List Int) (lo hi : Int) (hl : l.length ≤ 4611686018427387904) : Ev (fun k => spec_l1All.f k l lo hi) (allW l lo hi) := by
  have := spec_l1All_l l lo hi hl 0 (Nat.zero_le _)
  simpa only [spec_l1All.f, List.drop_zero, Int.natCast_zero] using this

theorem spec_syTable_ev (l : List Int) (hl : l.length ≤ 1048576) : Ev (fun k => spec_syTable.f k l) (tableB l) := by
  simp only [spec_syTable.f, tableB]
  by_cases h : (l.length : Int) = 61
  · simp only [h, if_true, decide_true, Bool.true_and]
    exact Ev.ret (f := fun t => t) (spec_l1All_ev l _ _ (by omega))
  · simp only [h, if_false, decide_false, Bool.false_and]
    exact Ev.now _

theorem spec_syConvex_l (l : List Int) (hl : l.length = 61) (hb : ∀ x ∈ l, -1000000 ≤ x ∧ x ≤ 1000000) : ∀ i, i ≤ 59 → Ev (fun k => spec_syConvex.l0 k l ((i + 1 : Nat) : Int)) (conv3 (l.drop i)) := by
  refine down ?_ ?_
  · refine Ev.succ ?_
    simp only [spec_syConvex.l0, (by decide : ¬ (((59 + 1 : Nat) : Int) < 60)), if_false]
    rw [conv3_short (by simp; omega)]
    exact Ev.now _
  · intro i hi ih
    have h0 : i < l.length := by omega
    have h1 : i + 1 < l.length := by omega
    have h2 : i + 1 + 1 < l.length := by omega
    have b0 := hb _ (List.getElem_mem h0)
    have b1 := hb _ (List.getElem_mem h1)
    have b2 := hb _ (List.getElem_mem h2)
    have c : ((i + 1 : Nat) : Int) < 60 := by omega
    refine Ev.succ ?_
    simp only [spec_syConvex.l0, c, ilt h1, inn, if_true, wprev (by omega : i ≤ 4611686018427387904), wnext h1 (by omega), ilt h0, ilt h2, rd_lt h0, rd_lt h1, rd_lt h2]
    rw [drop_cons h0, drop_cons h1, drop_cons h2, conv3, ← drop_cons h2, ← drop_cons h1, w64 (by omega) (by omega), w64 (by omega) (by omega)]
    by_cases hc : 2 * l[i + 1] ≤ l[i] + l[i + 1 + 1]
    · have c2 : ¬ 2 * l[i + 1] > l[i] + l[i + 1 + 1] := by omega
      simp only [decide_eq_true hc, Bool.true_and, c2, if_false]
      exact ih
    · have c2 : 2 * l[i + 1] > l[i] + l[i + 1 + 1] := by omega
      simp only [decide_eq_false hc, Bool.false_and, c2, if_true]
      exact Ev.now _
theorem spec_syConvex_ev (l : List Int) (hl : l.length = 61) (hb : ∀ x ∈ l, -1000000 ≤ x ∧ x ≤ 1000000) : Ev (fun k => spec_syConvex.f k l) (conv3 l) := by
  simp only [spec_syConvex.f]
  exact spec_syConvex_l l hl hb 0 (Nat.zero_le _)

theorem spec_WeightsOf_l (l : List Int) (hl : l.length = 61) (hb : ∀ x ∈ l, -1000000 ≤ x ∧ x ≤ 1000000) : ∀ i, i ≤ 59 → ∀ out : List Int, out.length = i + 1 → Ev (fun k => spec_WeightsOf.l0 k l out ((i + 1 : Nat) : Int)) (out ++ sd3 (l.drop i), true) := by
  refine down ?_ ?_
  · intro out ho
    refine Ev.succ ?_
    simp only [spec_WeightsOf.l0, (by decide : ¬ (((59 + 1 : Nat) : Int) < 60)), if_false]
    rw [sd3_short (by simp; omega), List.append_nil]
    exact Ev.now _
  · intro i hi ih out ho
    have h0 : i < l.length := by omega
    have h1 : i + 1 < l.length := by omega
    have h2 : i + 1 + 1 < l.length := by omega
    have b0 := hb _ (List.getElem_mem h0)
    have b1 := hb _ (List.getElem_mem h1)
    have b2 := hb _ (List.getElem_mem h2)
    have c : ((i + 1 : Nat) : Int) < 60 := by omega
    have c2 : out.length < 17592186044416 := by omega
    refine Ev.succ ?_
    simp only [spec_WeightsOf.l0, c, c2, ilt h1, inn, if_true, wprev (by omega : i ≤ 4611686018427387904), wnext h1 (by omega), ilt h0, ilt h2, rd_lt h0, rd_lt h1, rd_lt h2]
    rw [drop_cons h0, drop_cons h1, drop_cons h2, sd3, ← drop_cons h2, ← drop_cons h1, w64 (x := 2 * l[i + 1]) (by omega) (by omega), w64 (x := l[i + 1 + 1] - 2 * l[i + 1]) (by omega) (by omega), w64 (x := l[i + 1 + 1] - 2 * l[i + 1] + l[i]) (by omega) (by omega)]
    exact (ih _ (by simp [ho])).eqv (by simp)
theorem spec_WeightsOf_ev (l : List Int) (hl : l.length ≤ 1048576) : Ev (fun k => spec_WeightsOf.f k l) (if wtsB l then (wts l, true) else ([], false)) := by
  simp only [spec_WeightsOf.f]
  have off : Ev (fun k => spec_WeightsOf.j0 k l true) ([], false) := by
    refine Ev.succ ?_
    simp only [spec_WeightsOf.j0, if_true]
    exact Ev.now _
  refine Ev.bind (spec_syTable_ev l hl) ?_
  cases h : tableB l with
  | false =>
    have hf : wtsB l = false := by simp [wtsB, h]
    simp only [hf, Bool.false_eq_true, if_false]; exact off
  | true =>
    simp only [if_true]
    have h2 := h
    rw [tableB, Bool.and_eq_true, decide_eq_true_eq, allW_iff] at h2
    have hl2 : l.length = 61 := by omega
    refine Ev.bind (spec_syConvex_ev l hl2 h2.2) ?_
    cases h3 : conv3 l with
    | false =>
      have hf : wtsB l = false := by simp [wtsB, h3]
      simp only [hf, Bool.false_eq_true, if_false]; exact off
    | true =>
      have e0 : rd l 0 = l.getD 0 0 := by simp [rd]
      have e1 : rd l 1 = l.getD 1 0 := by simp [rd]
      have hf : wtsB l = (decide (l.getD 0 0 = 0) && decide (0 ≤ l.getD 1 0)) := by rw [wtsB, h, h3, Bool.true_and, Bool.true_and]
      simp only [if_true, hl2, (by decide : (0 : Int) < ((61 : Nat) : Int)), (by decide : (1 : Int) < ((61 : Nat) : Int)), e0, e1]
      by_cases c0 : l.getD 0 0 = 0
      · rw [decide_eq_true c0, Bool.true_and] at hf
        simp only [c0, if_true]
        by_cases c1 : 0 ≤ l.getD 1 0
        · rw [decide_eq_true c1] at hf
          have hd : decide (l.getD 1 0 < 0) = false := decide_eq_false (by omega)
          simp only [hf, if_true, hd]
          refine Ev.succ ?_
          simp only [spec_WeightsOf.j0, Bool.false_eq_true, if_false, hl2, (by decide : (1 : Int) < ((61 : Nat) : Int)), if_true, e1]
          exact spec_WeightsOf_l l hl2 h2.2 0 (Nat.zero_le _) [l.getD 1 0] rfl
        · rw [decide_eq_false c1] at hf
          have hd : decide (l.getD 1 0 < 0) = true := decide_eq_true (by omega)
          simp only [hf, Bool.false_eq_true, if_false, hd]
          exact off
      · rw [decide_eq_false c0, Bool.false_and] at hf
        simp only [c0, if_false, hf, Bool.false_eq_true]
        exact off

theorem impl_within_e (a b c : Int) : impl_within.f a b c = some (wth a b c) := wth_opt a b c

theorem impl_allWithin_l (l : List Int) (lo hi : Int) (hl : l.length ≤ 4611686018427387904) : ∀ i, i ≤ l.length → Ev (fun k => impl_allWithin.l0 k lo hi l (l.length : Int) (i : Int)) (allW (l.drop i) lo hi) := by
  refine down ?_ ?_
  · refine Ev.succ ?_
    simp only [impl_allWithin.l0, nlt (Nat.le_refl l.length), if_false, List.drop_length]
    exact Ev.now _
  · intro i hi ih
    refine Ev.succ ?_
    simp only [impl_allWithin.l0, ilt hi, inn, if_true, impl_within_e, Option.bind_some, rd_lt hi, wnext hi hl]
    rw [drop_cons hi]
    exact Ev.andS fun _ => ih
theorem impl_allWithin_ev (l : List Int) (lo hi : Int) (hl : l.length ≤ 4611686018427387904) : Ev (fun k => impl_allWithin.f k l lo hi) (allW l lo hi) := by
  have := impl_allWithin_l l lo hi hl 0 (Nat.zero_le _)
  simpa only [impl_allWithin.f, List.drop_zero, Int.natCast_zero] using this

theorem impl_isTable_ev (l : List Int) (hl : l.length ≤ 1048576) : Ev (fun k => impl_isTable.f k l) (tableB l) := by
  simp only [impl_isTable.f, tableB]
  by_cases h : (l.length : Int) = 61
  · simp only [h, if_true, decide_true, Bool.true_and]
    exact Ev.ret (f := fun t => t) (impl_allWithin_ev l _ _ (by omega))
  · simp only [h, if_false, decide_false, Bool.false_and]
    exact Ev.now _

theorem impl_isConvex_l (l : List Int) (hl : l.length = 61) (hb : ∀ x ∈ l, -1000000 ≤ x ∧ x ≤ 1000000) : ∀ i, i ≤ 59 → Ev (fun k => impl_isConvex.l0 k l ((i + 1 : Nat) : Int)) (conv3 (l.drop i)) := by
  refine down ?_ ?_
  · refine Ev.succ ?_
    simp only [impl_isConvex.l0, (by decide : ¬ (((59 + 1 : Nat) : Int) < 60)), if_false]
    rw [conv3_short (by simp; omega)]
    exact Ev.now _
  · intro i hi ih
    have h0 : i < l.length := by omega
    have h1 : i + 1 < l.length := by omega
    have h2 : i + 1 + 1 < l.length := by omega
    have b0 := hb _ (List.getElem_mem h0)
    have b1 := hb _ (List.getElem_mem h1)
    have b2 := hb _ (List.getElem_mem h2)
    have c : ((i + 1 : Nat) : Int) < 60 := by omega
    refine Ev.succ ?_
    simp only [impl_isConvex.l0, c, ilt h1, inn, if_true, wprev (by omega : i ≤ 4611686018427387904), wnext h1 (by omega), ilt h0, ilt h2, rd_lt h0, rd_lt h1, rd_lt h2]
    rw [drop_cons h0, drop_cons h1, drop_cons h2, conv3, ← drop_cons h2, ← drop_cons h1, w64 (by omega) (by omega), w64 (by omega) (by omega)]
    by_cases hc : 2 * l[i + 1] ≤ l[i] + l[i + 1 + 1]
    · have c2 : ¬ 2 * l[i + 1] > l[i] + l[i + 1 + 1] := by omega
      simp only [decide_eq_true hc, Bool.true_and, c2, if_false]
      exact ih
    · have c2 : 2 * l[i + 1] > l[i] + l[i + 1 + 1] := by omega
      simp only [decide_eq_false hc, Bool.false_and, c2, if_true]
      exact Ev.now _
theorem impl_isConvex_ev (l : List Int) (hl : l.length = 61) (hb : ∀ x ∈ l, -1000000 ≤ x ∧ x ≤ 1000000) : Ev (fun k => impl_isConvex.f k l) (conv3 l) := by
  simp only [impl_isConvex.f]
  exact impl_isConvex_l l hl hb 0 (Nat.zero_le _)

theorem impl_WeightsOf_l (l : List Int) (hl : l.length = 61) (hb : ∀ x ∈ l, -1000000 ≤ x ∧ x ≤ 1000000) : ∀ i, i ≤ 59 → ∀ out : List Int, out.length = i + 1 → Ev (fun k => impl_WeightsOf.l0 k l out ((i + 1 : Nat) : Int)) (out ++ sd3 (l.drop i), true) := by
  refine down ?_ ?_
  · intro out ho
    refine Ev.succ ?_
    simp only [impl_WeightsOf.l0, (by decide : ¬ (((59 + 1 : Nat) : Int) < 60)), if_false]
    rw [sd3_short (by simp; omega), List.append_nil]
    exact Ev.now _
  · intro i hi ih out ho
    have h0 : i < l.length := by omega
    have h1 : i + 1 < l.length := by omega
    have h2 : i + 1 + 1 < l.length := by omega
    have b0 := hb _ (List.getElem_mem h0)
    have b1 := hb _ (List.getElem_mem h1)
    have b2 := hb _ (List.getElem_mem h2)
    have c : ((i + 1 : Nat) : Int) < 60 := by omega
    have c2 : out.length < 17592186044416 := by omega
    refine Ev.succ ?_
    simp only [impl_WeightsOf.l0, c, c2, ilt h1, inn, if_true, wprev (by omega : i ≤ 4611686018427387904), wnext h1 (by omega), ilt h0, ilt h2, rd_lt h0, rd_lt h1, rd_lt h2]
    rw [drop_cons h0, drop_cons h1, drop_cons h2, sd3, ← drop_cons h2, ← drop_cons h1, w64 (x := 2 * l[i + 1]) (by omega) (by omega), w64 (x := l[i] - 2 * l[i + 1]) (by omega) (by omega), w64 (x := l[i] - 2 * l[i + 1] + l[i + 1 + 1]) (by omega) (by omega), show l[i] - 2 * l[i + 1] + l[i + 1 + 1] = l[i + 1 + 1] - 2 * l[i + 1] + l[i] by omega]
    exact (ih _ (by simp [ho])).eqv (by simp)
theorem impl_WeightsOf_ev (l : List Int) (hl : l.length ≤ 1048576) : Ev (fun k => impl_WeightsOf.f k l) (if wtsB l then (wts l, true) else ([], false)) := by
  simp only [impl_WeightsOf.f]
  have off : Ev (fun k => impl_WeightsOf.j0 k l true) ([], false) := by
    refine Ev.succ ?_
    simp only [impl_WeightsOf.j0, if_true]
    exact Ev.now _
  refine Ev.bind (impl_isTable_ev l hl) ?_
  cases h : tableB l with
  | false =>
    have hf : wtsB l = false := by simp [wtsB, h]
    simp only [hf, Bool.false_eq_true, if_false]; exact off
  | true =>
    simp only [if_true]
    have h2 := h
    rw [tableB, Bool.and_eq_true, decide_eq_true_eq, allW_iff] at h2
    have hl2 : l.length = 61 := by omega
    refine Ev.bind (impl_isConvex_ev l hl2 h2.2) ?_
    cases h3 : conv3 l with
    | false =>
      have hf : wtsB l = false := by simp [wtsB, h3]
      simp only [hf, Bool.false_eq_true, if_false]; exact off
    | true =>
      have e0 : rd l 0 = l.getD 0 0 := by simp [rd]
      have e1 : rd l 1 = l.getD 1 0 := by simp [rd]
      have hf : wtsB l = (decide (l.getD 0 0 = 0) && decide (0 ≤ l.getD 1 0)) := by rw [wtsB, h, h3, Bool.true_and, Bool.true_and]
      simp only [if_true, hl2, (by decide : (0 : Int) < ((61 : Nat) : Int)), (by decide : (1 : Int) < ((61 : Nat) : Int)), e0, e1]
      by_cases c0 : l.getD 0 0 = 0
      · rw [decide_eq_true c0, Bool.true_and] at hf
        simp only [c0, if_true]
        by_cases c1 : 0 ≤ l.getD 1 0
        · rw [decide_eq_true c1] at hf
          have hd : decide (l.getD 1 0 < 0) = false := decide_eq_false (by omega)
          simp only [hf, if_true, hd]
          refine Ev.succ ?_
          simp only [impl_WeightsOf.j0, Bool.false_eq_true, if_false, hl2, (by decide : (1 : Int) < ((61 : Nat) : Int)), if_true, e1]
          exact impl_WeightsOf_l l hl2 h2.2 0 (Nat.zero_le _) [l.getD 1 0] rfl
        · rw [decide_eq_false c1] at hf
          have hd : decide (l.getD 1 0 < 0) = true := decide_eq_true (by omega)
          simp only [hf, Bool.false_eq_true, if_false, hd]
          exact off
      · rw [decide_eq_false c0, Bool.false_and] at hf
        simp only [c0, if_false, hf, Bool.false_eq_true]
        exact off

theorem FnExactWeightsOf : laws_FnExactWeightsOf.Pure := by
  intro a hma hsa hwa
  refine Ev.rounds ?_
  simp only [laws_FnExactWeightsOf.f]
  by_cases hba : (a.length : Int) > 1048576
  · simp only [hba, if_true]; exact Ev.now _
  · simp only [hba, if_false]
    refine Ev.bind (laws_toIntS_ev a (by omega)) ?_
    refine Ev.bind (spec_WeightsOf_ev a (by omega)) ?_
    refine Ev.bind (laws_toIntS_ev a (by omega)) ?_
    refine Ev.bind (impl_WeightsOf_ev a (by omega)) ?_
    have hr := wts_len a
    refine Ev.bind (laws_eqIntS_self _ (by omega)) ?_
    simp only [bne_self_eq_false, Bool.false_eq_true, if_false, if_true]
    refine Ev.succ ?_
    simp only [laws_FnExactWeightsOf.j0, Bool.false_eq_true, if_false]
    refine Ev.bind (laws_toIntS_ev a (by omega)) ?_
    refine Ev.bind (laws_eqIntS_self a (by omega)) ?_
    simp only [if_true]
    refine Ev.bind (laws_markIntS_from a (by omega) 1 (by omega) rfl) ?_
    simp only [nneg, if_false]
    refine Ev.bind (laws_eqIntS_self _ (by omega)) ?_
    simp only [if_true]
    refine Ev.succ ?_
    simp only [laws_FnExactWeightsOf.j1, bne_self_eq_false, Bool.false_eq_true, if_false]
    refine Ev.bind (laws_markIntS_from _ (by omega) 1 (by omega) rfl) ?_
    refine Ev.bind (laws_heldIntS_from _ (by omega) 1 (by omega) rfl) ?_
    simp only [nneg, if_false, if_true]
    refine Ev.bind (laws_toIntS_ev a (by omega)) ?_
    refine Ev.bind (impl_WeightsOf_ev a (by omega)) ?_
    refine Ev.bind (laws_eqIntS_self _ (by omega)) ?_
    simp only [if_true]
    refine Ev.succ ?_
    simp only [laws_FnExactWeightsOf.j2, bne_self_eq_false, Bool.false_eq_true, if_false]
    refine Ev.bind (laws_heldIntS_from _ (by omega) 1 (by omega) rfl) ?_
    simp only [nneg, if_false, if_true]
    exact Ev.now _

end Go.Proofs.Ytbdennepenacpaa.Pure
