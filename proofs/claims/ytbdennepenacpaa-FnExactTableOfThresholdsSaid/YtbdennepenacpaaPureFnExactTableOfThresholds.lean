/- The program's TableOfThresholds returns what the reference's returns, for all arguments; the printed functions' own bounds on lengths are the only conditions. -/
import Derived.Test.YtbdennepenacpaaPFnExactTableOfThresholdsx3
import Derived.Test.YtbdennepenacpaaMath
namespace Go.Proofs.Ytbdennepenacpaa.Pure
open Go.RowKit Go.Proofs.Ytbdennepenacpaa.PFnExactTableOfThresholds Go.Proofs.YtbdennepenacpaaW.PrintWords Go.Proofs.YtbdennepenacpaaW.PrintLast Go.Proofs.YtbdennepenacpaaW.PrintMore Go.Proofs.Ytbdennepenacpaa.Math
set_option linter.unusedVariables false
set_option linter.unusedSimpArgs false
set_option linter.unusedSectionVars false

theorem laws_toIntS_l (l : List Int) (hl : l.length ≤ 4611686018427387904) : ∀ i, i ≤ l.length → ∀ m : List Int, m.length = l.length → m.take i = l.take i → Ev (fun k => laws_toIntS.l0 k l m (i : Int)) l := by
  refine down ?_ ?_
  · intro m hm h
    refine Ev.succ ?_
    simp only [laws_toIntS.l0, nlt (Nat.le_refl l.length), if_false]
    rw [← hm, List.take_length, hm, List.take_length] at h
    rw [h]
    exact Ev.now _
  · intro i hi ih m hm h
    refine Ev.succ ?_
    simp only [laws_toIntS.l0, ilt hi, inn, if_true, hm, rd_lt hi, wnext hi hl, Int.toNat_natCast]
    exact ih _ (by simpa using hm) (set_take l m i hi hm h)
theorem laws_toIntS_ev (l : List Int) (hl : l.length ≤ 35184372088832) : Ev (fun k => laws_toIntS.f k l) l := by
  have := laws_toIntS_l l (by omega) 0 (Nat.zero_le _) (List.replicate l.length 0) (by simp) (by simp)
  simp only [laws_toIntS.f, inn, if_true, Int.toNat_natCast, hl]
  exact this

theorem laws_eqIntS_l (l m : List Int) (he : m.length = l.length) (hl : l.length ≤ 4611686018427387904) : ∀ i, i ≤ l.length → Ev (fun k => laws_eqIntS.l0 k l m (i : Int)) (decide (l.drop i = m.drop i)) := by
  refine down ?_ ?_
  · refine Ev.succ ?_
    simp only [laws_eqIntS.l0, nlt (Nat.le_refl l.length), if_false, List.drop_length]
    rw [← he, List.drop_length]
    exact Ev.now _
  · intro i hi ih
    refine Ev.succ ?_
    simp only [laws_eqIntS.l0, ilt hi, inn, if_true, he, rd_lt hi, rd_lt (he ▸ hi : i < m.length), wnext hi hl]
    rw [drop_cons hi, drop_cons (he ▸ hi : i < m.length)]
    by_cases hx : l[i] = m[i]
    · simp only [hx, if_true, List.cons.injEq, true_and]
      exact ih
    · simp only [hx, if_false, List.cons.injEq, false_and, decide_false]
      exact Ev.now _
theorem laws_eqIntS_ev (l m : List Int) (hl : l.length ≤ 4611686018427387904) : Ev (fun k => laws_eqIntS.f k l m) (decide (l = m)) := by
  simp only [laws_eqIntS.f]
  by_cases he : (l.length : Int) = (m.length : Int)
  · simp only [he, if_true]
    exact laws_eqIntS_l l m (by omega) hl 0 (Nat.zero_le _)
  · simp only [he, if_false]
    rw [decide_eq_false (fun h => he (by rw [h]))]
    exact Ev.now _
theorem laws_eqIntS_self (l : List Int) (hl : l.length ≤ 4611686018427387904) : Ev (fun k => laws_eqIntS.f k l l) true := by
  simpa using laws_eqIntS_ev l l hl

theorem spec_l1In_e (a b c : Int) : spec_l1In.f a b c = some (wth a b c) := wth_opt a b c

theorem spec_l1All_l (l : List Int) (lo hi : Int) (hl : l.length ≤ 4611686018427387904) : ∀ i, i ≤ l.length → Ev (fun k => spec_l1All.l0 k lo hi l (l.length : Int) (i : Int)) (allW (l.drop i) lo hi) := by
  refine down ?_ ?_
  · refine Ev.succ ?_
    simp only [spec_l1All.l0, nlt (Nat.le_refl l.length), if_false, List.drop_length]
    exact Ev.now _
  · intro i hi ih
    refine Ev.succ ?_
    simp only [spec_l1All.l0, ilt hi, inn, if_true, spec_l1In_e, Option.bind_some, rd_lt hi, wnext hi hl]
    rw [drop_cons hi]
    exact Ev.andS fun _ => ih
theorem spec_l1All_ev (l : List Int) (lo hi : Int) (hl : l.length ≤ 4611686018427387904) : Ev (fun k => spec_l1All.f k l lo hi) (allW l lo hi) := by
  have := spec_l1All_l l lo hi hl 0 (Nat.zero_le _)
  simpa only [spec_l1All.f, List.drop_zero, Int.natCast_zero] using this

theorem spec_l1Most_e (a b : Int) : spec_l1Most.f a b = some (max a b) := by
  unfold spec_l1Most.f
  by_cases h : a > b
  · rw [if_pos h]; congr 1; omega
  · rw [if_neg h]; congr 1; omega

theorem spec_syTable_ev (l : List Int) (hl : l.length ≤ 1048576) : Ev (fun k => spec_syTable.f k l) (tableB l) := by
  simp only [spec_syTable.f, tableB]
  by_cases h : (l.length : Int) = 61
  · simp only [h, if_true, decide_true, Bool.true_and]
    exact Ev.ret (f := fun t => t) (spec_l1All_ev l _ _ (by omega))
  · simp only [h, if_false, decide_false, Bool.false_and]
    exact Ev.now _

theorem spec_TableOfThresholds_l1 (w : List Int) (hl : w.length = 60) (out : List Int) (n : Nat) (hn : n ≤ 60) (r : List Int × Bool)
    (hk : ∀ v, v = wrap64 (thrGo w n 0) → Ev (fun k => if out.length < 17592186044416 then spec_TableOfThresholds.l0 k w (out ++ [v]) (wrap64 ((n : Int) + 1)) else none) r) :
    ∀ i, i ≤ w.length → ∀ acc, InR acc → wrap64 (acc + thrGo (w.drop i) n i) = wrap64 (thrGo w n 0) → Ev (fun k => spec_TableOfThresholds.l1 k w out (n : Int) acc w (w.length : Int) (i : Int)) r := by
  refine down ?_ ?_
  · intro acc ha h
    refine Ev.succ ?_
    simp only [spec_TableOfThresholds.l1, nlt (Nat.le_refl w.length), if_false]
    refine hk acc ?_
    rw [List.drop_length, thrGo, Int.add_zero, wR ha] at h
    exact h
  · intro i hi ih acc ha h
    refine Ev.succ ?_
    simp only [spec_TableOfThresholds.l1, ilt hi, inn, if_true, rd_lt hi, spec_l1Most_e, Option.bind_some, wnext hi (by omega : w.length ≤ 4611686018427387904), w64 (x := (n : Int) - (i : Int)) (by omega) (by omega)]
    refine ih _ (inR_wrap _) ?_
    rw [← h, drop_cons hi, thrGo, wrap_add, Int.add_right_comm, wrap_add', Int.add_right_comm, Int.add_assoc]
theorem spec_TableOfThresholds_l0 (w : List Int) (hl : w.length = 60) (hb : ∀ x ∈ w, 0 ≤ x ∧ x ≤ 500) : ∀ n, n ≤ 61 → ∀ out : List Int, out.length = n → out ++ tabFrom w n (61 - n) = tabFrom w 0 61 → Ev (fun k => spec_TableOfThresholds.l0 k w out (n : Int)) (tabFrom w 0 61, true) := by
  refine down ?_ ?_
  · intro out ho h
    refine Ev.succ ?_
    rw [Nat.sub_self, show tabFrom w 61 0 = [] from rfl, List.append_nil] at h
    simp only [spec_TableOfThresholds.l0, (by decide : ¬ (((61 : Nat) : Int) ≤ 60)), if_false, h]
    refine Ev.bind (spec_syTable_ev _ (by rw [tabFrom_len]; omega)) ?_
    simp only [tab_ok hb, if_true]
    exact Ev.now _
  · intro n hn ih out ho h
    have c : (n : Int) ≤ 60 := by omega
    have lim : out.length < 17592186044416 := by omega
    refine Ev.succ ?_
    simp only [spec_TableOfThresholds.l0, c, if_true]
    refine spec_TableOfThresholds_l1 w hl out n (by omega) _ ?_ 0 (Nat.zero_le _) 0 inR_0 (by rw [Int.zero_add, List.drop_zero])
    intro v hv
    simp only [lim, if_true, wnext hn (by omega)]
    refine ih _ (by simp [ho]) ?_
    rw [show 61 - n = 61 - (n + 1) + 1 by omega, tabFrom] at h
    rw [hv, thr_wrap hb (by omega), ← h, List.append_assoc]
    rfl
theorem spec_TableOfThresholds_ev (w : List Int) (hl : w.length ≤ 1048576) : Ev (fun k => spec_TableOfThresholds.f k w) (if thrB w then (tabFrom w 0 61, true) else ([], false)) := by
  simp only [spec_TableOfThresholds.f]
  have off : Ev (fun k => spec_TableOfThresholds.j0 k w true) ([], false) := by
    refine Ev.succ ?_
    simp only [spec_TableOfThresholds.j0, if_true]
    exact Ev.now _
  by_cases h : (w.length : Int) = 60
  · simp only [h, if_true]
    refine Ev.bind (spec_l1All_ev w _ _ (by omega)) ?_
    cases h2 : allW w 0 500 with
    | false =>
      have hf : thrB w = false := by simp [thrB, h2]
      simp only [hf, Bool.not_false, Bool.false_eq_true, if_false]
      exact off
    | true =>
      have hf : thrB w = true := by simp [thrB, h2, h]
      simp only [hf, Bool.not_true, if_true]
      refine Ev.succ ?_
      simp only [spec_TableOfThresholds.j0, Bool.false_eq_true, if_false]
      exact spec_TableOfThresholds_l0 w (by omega) (allW_iff.1 h2) 0 (by omega) [] rfl rfl
  · have hf : thrB w = false := by simp [thrB, h]
    simp only [h, if_false, hf, Bool.false_eq_true]
    exact off

theorem impl_within_e (a b c : Int) : impl_within.f a b c = some (wth a b c) := wth_opt a b c

theorem impl_allWithin_l (l : List Int) (lo hi : Int) (hl : l.length ≤ 4611686018427387904) : ∀ i, i ≤ l.length → Ev (fun k => impl_allWithin.l0 k lo hi l (l.length : Int) (i : Int)) (allW (l.drop i) lo hi) := by
  refine down ?_ ?_
  · refine Ev.succ ?_
    simp only [impl_allWithin.l0, nlt (Nat.le_refl l.length), if_false, List.drop_length]
    exact Ev.now _
  · intro i hi ih
    refine Ev.succ ?_
    simp only [impl_allWithin.l0, ilt hi, inn, if_true, impl_within_e, Option.bind_some, rd_lt hi, wnext hi hl]
    rw [drop_cons hi]
    exact Ev.andS fun _ => ih
theorem impl_allWithin_ev (l : List Int) (lo hi : Int) (hl : l.length ≤ 4611686018427387904) : Ev (fun k => impl_allWithin.f k l lo hi) (allW l lo hi) := by
  have := impl_allWithin_l l lo hi hl 0 (Nat.zero_le _)
  simpa only [impl_allWithin.f, List.drop_zero, Int.natCast_zero] using this

theorem impl_TableOfThresholds_l1 (w : List Int) (hl : w.length = 60) (out : List Int) (n : Nat) (hn : n ≤ 60) (r : List Int × Bool) (m : List Int) (hm : m = w.take n)
    (hk : ∀ v, v = wrap64 (thrGo w n 0) → Ev (fun k => if out.length < 17592186044416 then impl_TableOfThresholds.l0 k w (out ++ [v]) (wrap64 ((n : Int) + 1)) else none) r) :
    ∀ i, i ≤ m.length → ∀ acc, InR acc → wrap64 (acc + thrI (m.drop i) n i) = wrap64 (thrGo w n 0) → Ev (fun k => impl_TableOfThresholds.l1 k w out (n : Int) acc (n : Int) m (m.length : Int) (i : Int)) r := by
  have hml : m.length ≤ 60 := by rw [hm, List.length_take]; omega
  refine down ?_ ?_
  · intro acc ha h
    refine Ev.succ ?_
    simp only [impl_TableOfThresholds.l1, nlt (Nat.le_refl m.length), if_false]
    refine hk acc ?_
    rw [List.drop_length, thrI, Int.add_zero, wR ha] at h
    exact h
  · intro i hi ih acc ha h
    refine Ev.succ ?_
    simp only [impl_TableOfThresholds.l1, ilt hi, inn, if_true, rd_lt hi, wnext hi (by omega : m.length ≤ 4611686018427387904), w64 (x := (n : Int) - (i : Int)) (by omega) (by omega)]
    refine ih _ (inR_wrap _) ?_
    rw [← h, drop_cons hi, thrI, wrap_add, Int.add_right_comm, wrap_add', Int.add_right_comm, Int.add_assoc]
theorem impl_TableOfThresholds_l0 (w : List Int) (hl : w.length = 60) (hb : ∀ x ∈ w, 0 ≤ x ∧ x ≤ 500) : ∀ n, n ≤ 61 → ∀ out : List Int, out.length = n → out ++ tabFrom w n (61 - n) = tabFrom w 0 61 → Ev (fun k => impl_TableOfThresholds.l0 k w out (n : Int)) (tabFrom w 0 61, true) := by
  refine down ?_ ?_
  · intro out ho h
    refine Ev.succ ?_
    rw [Nat.sub_self, show tabFrom w 61 0 = [] from rfl, List.append_nil] at h
    simp only [impl_TableOfThresholds.l0, (by decide : ¬ (((61 : Nat) : Int) < 61)), if_false, h]
    exact Ev.now _
  · intro n hn ih out ho h
    have c : (n : Int) < 61 := by omega
    have lim : out.length < 17592186044416 := by omega
    refine Ev.succ ?_
    simp only [impl_TableOfThresholds.l0, c, inn, if_true, ile (by omega : n ≤ w.length), Int.toNat_natCast]
    refine impl_TableOfThresholds_l1 w hl out n (by omega) _ _ rfl ?_ 0 (Nat.zero_le _) 0 inR_0 (by rw [Int.zero_add, List.drop_zero, thrI_take w n 0, Nat.sub_zero])
    intro v hv
    simp only [lim, if_true, wnext hn (by omega)]
    refine ih _ (by simp [ho]) ?_
    rw [show 61 - n = 61 - (n + 1) + 1 by omega, tabFrom] at h
    rw [hv, thr_wrap hb (by omega), ← h, List.append_assoc]
    rfl
theorem impl_TableOfThresholds_ev (w : List Int) (hl : w.length ≤ 1048576) : Ev (fun k => impl_TableOfThresholds.f k w) (if thrB w then (tabFrom w 0 61, true) else ([], false)) := by
  simp only [impl_TableOfThresholds.f]
  have off : Ev (fun k => impl_TableOfThresholds.j0 k w true) ([], false) := by
    refine Ev.succ ?_
    simp only [impl_TableOfThresholds.j0, if_true]
    exact Ev.now _
  by_cases h : (w.length : Int) = 60
  · simp only [h, if_true]
    refine Ev.bind (impl_allWithin_ev w _ _ (by omega)) ?_
    cases h2 : allW w 0 500 with
    | false =>
      have hf : thrB w = false := by simp [thrB, h2]
      simp only [hf, Bool.not_false, Bool.false_eq_true, if_false]
      exact off
    | true =>
      have hf : thrB w = true := by simp [thrB, h2, h]
      simp only [hf, Bool.not_true, if_true]
      refine Ev.succ ?_
      simp only [impl_TableOfThresholds.j0, Bool.false_eq_true, if_false]
      exact impl_TableOfThresholds_l0 w (by omega) (allW_iff.1 h2) 0 (by omega) [] rfl rfl
  · have hf : thrB w = false := by simp [thrB, h]
    simp only [h, if_false, hf, Bool.false_eq_true]
    exact off

theorem laws_markIntS_l (n : Nat) (hn : n ≤ 1048576) (s : Nat) (hs : s ≤ 4611686018427) : ∀ i, i ≤ n → ∀ m : List Int, m.length = n → m.take i = (iotaF s n).take i → Ev (fun k => laws_markIntS.l0 k m ((s + i : Nat) : Int) (i : Int)) (((s + n : Nat) : Int), iotaF s n) := by
  refine down ?_ ?_
  · intro m hm h
    refine Ev.succ ?_
    simp only [laws_markIntS.l0, hm, nlt (Nat.le_refl n), if_false]
    rw [← hm, List.take_length, hm, List.take_of_length_le (by rw [iotaF_length]; exact Nat.le_refl _)] at h
    rw [h]
    exact Ev.now _
  · intro i hi ih m hm h
    refine Ev.succ ?_
    simp only [laws_markIntS.l0, hm, ilt hi, inn, if_true, Int.toNat_natCast, wnext hi (by omega : n ≤ 4611686018427387904), wnext (by omega : s + i < 4611686018427387904) (by omega)]
    have := set_take (iotaF s n) m i (by rw [iotaF_length]; exact hi) (by rw [iotaF_length]; exact hm) h
    rw [iotaF_get hi] at this
    exact ih _ (by simpa using hm) this
theorem laws_markIntS_ev (l : List Int) (hl : l.length ≤ 1048576) (s : Nat) (hs : s ≤ 4611686018427) : Ev (fun k => laws_markIntS.f k l (s : Int)) (((s + l.length : Nat) : Int), iotaF s l.length) := by
  have := laws_markIntS_l l.length hl s hs 0 (Nat.zero_le _) l rfl rfl
  simpa only [laws_markIntS.f, Int.natCast_zero, Nat.add_zero] using this
theorem laws_markIntS_from (l : List Int) (hl : l.length ≤ 1048576) (s : Nat) (hs : s ≤ 4611686018427) {x : Int} (hx : (s : Int) = x) : Ev (fun k => laws_markIntS.f k l x) (((s + l.length : Nat) : Int), iotaF s l.length) :=
  hx ▸ laws_markIntS_ev l hl s hs

theorem laws_heldIntS_l (n : Nat) (hn : n ≤ 1048576) (s : Nat) (hs : s ≤ 4611686018427) : ∀ i, i ≤ n → Ev (fun k => laws_heldIntS.l0 k (iotaF s n) ((s + i : Nat) : Int) (i : Int)) (((s + n : Nat) : Int)) := by
  refine down ?_ ?_
  · refine Ev.succ ?_
    simp only [laws_heldIntS.l0, iotaF_length, nlt (Nat.le_refl n), if_false]
    exact Ev.now _
  · intro i hi ih
    refine Ev.succ ?_
    simp only [laws_heldIntS.l0, iotaF_length, ilt hi, inn, if_true, rd_lt (by rw [iotaF_length]; exact hi : i < (iotaF s n).length), iotaF_get hi, wnext hi (by omega : n ≤ 4611686018427387904), wnext (by omega : s + i < 4611686018427387904) (by omega)]
    exact ih
theorem laws_heldIntS_ev (n : Nat) (hn : n ≤ 1048576) (s : Nat) (hs : s ≤ 4611686018427) : Ev (fun k => laws_heldIntS.f k (iotaF s n) (s : Int)) (((s + n : Nat) : Int)) := by
  have := laws_heldIntS_l n hn s hs 0 (Nat.zero_le _)
  simpa only [laws_heldIntS.f, Int.natCast_zero, Nat.add_zero] using this
theorem laws_heldIntS_from (n : Nat) (hn : n ≤ 1048576) (s : Nat) (hs : s ≤ 4611686018427) {x : Int} (hx : (s : Int) = x) : Ev (fun k => laws_heldIntS.f k (iotaF s n) x) (((s + n : Nat) : Int)) :=
  hx ▸ laws_heldIntS_ev n hn s hs

theorem FnExactTableOfThresholds : laws_FnExactTableOfThresholds.Pure := by
  intro a hma hsa hwa
  refine Ev.rounds ?_
  simp only [laws_FnExactTableOfThresholds.f]
  by_cases hba : (a.length : Int) > 1048576
  · simp only [hba, if_true]; exact Ev.now _
  · simp only [hba, if_false]
    refine Ev.bind (laws_toIntS_ev a (by omega)) ?_
    refine Ev.bind (spec_TableOfThresholds_ev a (by omega)) ?_
    refine Ev.bind (laws_toIntS_ev a (by omega)) ?_
    refine Ev.bind (impl_TableOfThresholds_ev a (by omega)) ?_
    have hr := tab_len a
    refine Ev.bind (laws_eqIntS_self _ (by omega)) ?_
    simp only [bne_self_eq_false, Bool.false_eq_true, if_false, if_true]
    refine Ev.succ ?_
    simp only [laws_FnExactTableOfThresholds.j0, Bool.false_eq_true, if_false]
    refine Ev.bind (laws_toIntS_ev a (by omega)) ?_
    refine Ev.bind (laws_eqIntS_self a (by omega)) ?_
    simp only [if_true]
    refine Ev.bind (laws_markIntS_from a (by omega) 1 (by omega) rfl) ?_
    simp only [nneg, if_false]
    refine Ev.bind (laws_eqIntS_self _ (by omega)) ?_
    simp only [if_true]
    refine Ev.succ ?_
    simp only [laws_FnExactTableOfThresholds.j1, bne_self_eq_false, Bool.false_eq_true, if_false]
    refine Ev.bind (laws_markIntS_from _ (by omega) 1 (by omega) rfl) ?_
    refine Ev.bind (laws_heldIntS_from _ (by omega) 1 (by omega) rfl) ?_
    simp only [nneg, if_false, if_true]
    refine Ev.bind (laws_toIntS_ev a (by omega)) ?_
    refine Ev.bind (impl_TableOfThresholds_ev a (by omega)) ?_
    refine Ev.bind (laws_eqIntS_self _ (by omega)) ?_
    simp only [if_true]
    refine Ev.succ ?_
    simp only [laws_FnExactTableOfThresholds.j2, bne_self_eq_false, Bool.false_eq_true, if_false]
    refine Ev.bind (laws_heldIntS_from _ (by omega) 1 (by omega) rfl) ?_
    simp only [nneg, if_false, if_true]
    exact Ev.now _

end Go.Proofs.Ytbdennepenacpaa.Pure
