/- The program's LoweringPlan returns what the reference's returns, for all arguments; the printed functions' own bounds on lengths are the only conditions. -/
import Derived.Test.YtbnlfhdjcpegkaaPFnExactLoweringPlanx9
import Derived.Test.YtbnlfhdjcpegkaaMathP
namespace Go.Proofs.Ytbnlfhdjcpegkaa.Pure
open Go.RowKit Go.Proofs.Ytbnlfhdjcpegkaa.PFnExactLoweringPlan Go.Proofs.YtbnlfhdjcpegkaaW.PrintWords Go.Proofs.YtbnlfhdjcpegkaaW.PrintLast Go.Proofs.YtbnlfhdjcpegkaaW.PrintMore Go.Proofs.Ytbnlfhdjcpegkaa.Math
set_option linter.unusedVariables false
set_option linter.unusedSimpArgs false
set_option linter.unusedSectionVars false

theorem laws_eqIntS_l (l m : List Int) (he : m.length = l.length) (hl : l.length ≤ 4611686018427387904) : ∀ i, i ≤ l.length → Ev (fun k => laws_eqIntS.l0 k l m (i : Int)) (decide (l.drop i = m.drop i)) := by
  refine down ?_ ?_
  · refine Ev.succ ?_
    simp only [laws_eqIntS.l0, nlt (Nat.le_refl l.length), if_false, List.drop_length]
    rw [← he, List.drop_length]
    exact Ev.now _
  · intro i hi ih
    refine Ev.succ ?_
    simp only [laws_eqIntS.l0, ilt hi, inn, if_true, he, rd_lt hi, rd_lt (he ▸ hi : i < m.length), wnext hi hl]
    rw [drop_cons hi, drop_cons (he ▸ hi : i < m.length)]
    by_cases hx : l[i] = m[i]
    · simp only [hx, if_true, List.cons.injEq, true_and]
      exact ih
    · simp only [hx, if_false, List.cons.injEq, false_and, decide_false]
      exact Ev.now _
theorem laws_eqIntS_ev (l m : List Int) (hl : l.length ≤ 4611686018427387904) : Ev (fun k => laws_eqIntS.f k l m) (decide (l = m)) := by
  simp only [laws_eqIntS.f]
  by_cases he : (l.length : Int) = (m.length : Int)
  · simp only [he, if_true]
    exact laws_eqIntS_l l m (by omega) hl 0 (Nat.zero_le _)
  · simp only [he, if_false]
    rw [decide_eq_false (fun h => he (by rw [h]))]
    exact Ev.now _
theorem laws_eqIntS_self (l : List Int) (hl : l.length ≤ 4611686018427387904) : Ev (fun k => laws_eqIntS.f k l l) true := by
  simpa using laws_eqIntS_ev l l hl

theorem laws_eqIntSS_l (m q : List (List Int)) (he : q.length = m.length) (h : Siz m) : ∀ i, i ≤ m.length → Ev (fun k => laws_eqIntSS.l0 k m q (i : Int)) (decide (m.drop i = q.drop i)) := by
  have hm := h.1
  refine down ?_ ?_
  · refine Ev.succ ?_
    simp only [laws_eqIntSS.l0, nlt (Nat.le_refl m.length), if_false, List.drop_length]
    rw [← he, List.drop_length]
    exact Ev.now _
  · intro i hi ih
    have h2 : i < q.length := by omega
    have hrow : rd_L1 m (i : Int) = m[i] := by simp [rd_L1, List.getD_eq_getElem?_getD, hi]
    have hrow2 : rd_L1 q (i : Int) = q[i] := by simp [rd_L1, List.getD_eq_getElem?_getD, h2]
    refine Ev.succ ?_
    simp only [laws_eqIntSS.l0, ilt hi, inn, if_true, he, hrow, hrow2, wnext hi (by omega : m.length ≤ 4611686018427387904)]
    refine Ev.bind (laws_eqIntS_ev m[i] q[i] (by have := h.2 _ (List.getElem_mem hi); omega)) ?_
    rw [drop_cons hi, drop_cons h2]
    by_cases hx : m[i] = q[i]
    · simp only [hx, decide_true, if_true, List.cons.injEq, true_and]
      exact ih
    · simp only [hx, decide_false, Bool.false_eq_true, if_false, List.cons.injEq, false_and]
      exact Ev.now _
theorem laws_eqIntSS_ev (m q : List (List Int)) (h : Siz m) : Ev (fun k => laws_eqIntSS.f k m q) (decide (m = q)) := by
  simp only [laws_eqIntSS.f]
  by_cases he : (m.length : Int) = (q.length : Int)
  · simp only [he, if_true]
    exact laws_eqIntSS_l m q (by omega) h 0 (Nat.zero_le _)
  · simp only [he, if_false]
    rw [decide_eq_false (fun h => he (by rw [h]))]
    exact Ev.now _
theorem laws_eqIntSS_self (m : List (List Int)) (h : Siz m) : Ev (fun k => laws_eqIntSS.f k m m) true := by
  simpa using laws_eqIntSS_ev m m h

theorem laws_markIntS_l (n : Nat) (hn : n ≤ 1048576) (s : Nat) (hs : s ≤ 4611686018427) : ∀ i, i ≤ n → ∀ m : List Int, m.length = n → m.take i = (iotaF s n).take i → Ev (fun k => laws_markIntS.l0 k m ((s + i : Nat) : Int) (i : Int)) (((s + n : Nat) : Int), iotaF s n) := by
  refine down ?_ ?_
  · intro m hm h
    refine Ev.succ ?_
    simp only [laws_markIntS.l0, hm, nlt (Nat.le_refl n), if_false]
    rw [← hm, List.take_length, hm, List.take_of_length_le (by rw [iotaF_length]; exact Nat.le_refl _)] at h
    rw [h]
    exact Ev.now _
  · intro i hi ih m hm h
    refine Ev.succ ?_
    simp only [laws_markIntS.l0, hm, ilt hi, inn, if_true, Int.toNat_natCast, wnext hi (by omega : n ≤ 4611686018427387904), wnext (by omega : s + i < 4611686018427387904) (by omega)]
    have := set_take (iotaF s n) m i (by rw [iotaF_length]; exact hi) (by rw [iotaF_length]; exact hm) h
    rw [iotaF_get hi] at this
    exact ih _ (by simpa using hm) this
theorem laws_markIntS_ev (l : List Int) (hl : l.length ≤ 1048576) (s : Nat) (hs : s ≤ 4611686018427) : Ev (fun k => laws_markIntS.f k l (s : Int)) (((s + l.length : Nat) : Int), iotaF s l.length) := by
  have := laws_markIntS_l l.length hl s hs 0 (Nat.zero_le _) l rfl rfl
  simpa only [laws_markIntS.f, Int.natCast_zero, Nat.add_zero] using this
theorem laws_markIntS_from (l : List Int) (hl : l.length ≤ 1048576) (s : Nat) (hs : s ≤ 4611686018427) {x : Int} (hx : (s : Int) = x) : Ev (fun k => laws_markIntS.f k l x) (((s + l.length : Nat) : Int), iotaF s l.length) :=
  hx ▸ laws_markIntS_ev l hl s hs

/-- Rows that are marked: the numbers from s on. -/
def mkRows (s : Nat) : List (List Int) → List (List Int)
  | [] => []
  | r :: t => iotaF s r.length :: mkRows (s + r.length) t
def cntR : List (List Int) → Nat
  | [] => 0
  | r :: t => r.length + cntR t
theorem cntR_le : ∀ m : List (List Int), (∀ r ∈ m, r.length ≤ 1048576) → cntR m ≤ 1048576 * m.length
  | [], _ => by simp [cntR]
  | r :: t, h => by
    have := cntR_le t fun q hq => h q (List.mem_cons_of_mem _ hq)
    have := h r (List.mem_cons_self ..)
    simp only [cntR, List.length_cons]
    omega
theorem cntR_siz {m : List (List Int)} (h : Siz m) : cntR m ≤ 1099511627776 := by
  have := cntR_le m h.2
  have := h.1
  omega
theorem rdR_mid (A : List (List Int)) (b : List Int) (B : List (List Int)) : rd_L1 (A ++ b :: B) (A.length : Int) = b := by
  simp [rd_L1, List.getD_eq_getElem?_getD]
theorem laws_markIntSS_l : ∀ (B A : List (List Int)) (s : Nat), (A ++ B).length ≤ 1048576 → (∀ r ∈ B, r.length ≤ 1048576) → s + cntR B ≤ 4611686018427 →
    Ev (fun k => laws_markIntSS.l0 k (A ++ B) (s : Int) (A.length : Int)) (((s + cntR B : Nat) : Int), A ++ mkRows s B)
  | [], A, s, _, _, _ => by
    refine Ev.succ ?_
    simp only [laws_markIntSS.l0, List.append_nil, nlt (Nat.le_refl A.length), if_false, mkRows, cntR, Nat.add_zero]
    exact Ev.now _
  | b :: B, A, s, hl, hr, hs => by
    have hb := hr b (List.mem_cons_self ..)
    have hlt : A.length < (A ++ b :: B).length := by simp
    simp only [cntR] at hs
    refine Ev.succ ?_
    simp only [laws_markIntSS.l0, ilt hlt, inn, if_true, rdR_mid, Int.toNat_natCast, wnext hlt (by omega)]
    refine Ev.bind (laws_markIntS_ev b hb s (by omega)) ?_
    have e : (A ++ b :: B).set A.length (iotaF s b.length) = (A ++ [iotaF s b.length]) ++ B := by
      rw [List.set_append_right _ _ (Nat.le_refl _)]; simp
    have ih := laws_markIntSS_l B (A ++ [iotaF s b.length]) (s + b.length) (by simp at hl ⊢; omega) (fun r q => hr r (List.mem_cons_of_mem _ q)) (by omega)
    simp only [e]
    have e2 : (A ++ [iotaF s b.length]).length = A.length + 1 := by simp
    rw [e2] at ih
    refine ih.eqv ?_
    simp only [mkRows, cntR, List.append_assoc, List.singleton_append, Nat.add_assoc]
theorem laws_markIntSS_from (m : List (List Int)) (h : Siz m) (s : Nat) (hs : s + cntR m ≤ 4611686018427) {x : Int} (hx : (s : Int) = x) : Ev (fun k => laws_markIntSS.f k m x) (((s + cntR m : Nat) : Int), mkRows s m) := by
  subst hx
  have := laws_markIntSS_l m [] s (by simpa using h.1) h.2 hs
  simpa only [laws_markIntSS.f, List.nil_append, List.length_nil, Int.natCast_zero] using this

theorem laws_heldIntS_l (n : Nat) (hn : n ≤ 1048576) (s : Nat) (hs : s ≤ 4611686018427) : ∀ i, i ≤ n → Ev (fun k => laws_heldIntS.l0 k (iotaF s n) ((s + i : Nat) : Int) (i : Int)) (((s + n : Nat) : Int)) := by
  refine down ?_ ?_
  · refine Ev.succ ?_
    simp only [laws_heldIntS.l0, iotaF_length, nlt (Nat.le_refl n), if_false]
    exact Ev.now _
  · intro i hi ih
    refine Ev.succ ?_
    simp only [laws_heldIntS.l0, iotaF_length, ilt hi, inn, if_true, rd_lt (by rw [iotaF_length]; exact hi : i < (iotaF s n).length), iotaF_get hi, wnext hi (by omega : n ≤ 4611686018427387904), wnext (by omega : s + i < 4611686018427387904) (by omega)]
    exact ih
theorem laws_heldIntS_ev (n : Nat) (hn : n ≤ 1048576) (s : Nat) (hs : s ≤ 4611686018427) : Ev (fun k => laws_heldIntS.f k (iotaF s n) (s : Int)) (((s + n : Nat) : Int)) := by
  have := laws_heldIntS_l n hn s hs 0 (Nat.zero_le _)
  simpa only [laws_heldIntS.f, Int.natCast_zero, Nat.add_zero] using this
theorem laws_heldIntS_from (n : Nat) (hn : n ≤ 1048576) (s : Nat) (hs : s ≤ 4611686018427) {x : Int} (hx : (s : Int) = x) : Ev (fun k => laws_heldIntS.f k (iotaF s n) x) (((s + n : Nat) : Int)) :=
  hx ▸ laws_heldIntS_ev n hn s hs

theorem mkRows_length : ∀ (m : List (List Int)) (s : Nat), (mkRows s m).length = m.length
  | [], _ => rfl
  | r :: t, s => by simp [mkRows, mkRows_length t]
theorem laws_heldIntSS_l : ∀ (B A : List (List Int)) (s : Nat), (A ++ B).length ≤ 1048576 → (∀ r ∈ B, r.length ≤ 1048576) → s + cntR B ≤ 4611686018427 →
    Ev (fun k => laws_heldIntSS.l0 k (A ++ mkRows s B) (s : Int) (A.length : Int)) ((s + cntR B : Nat) : Int)
  | [], A, s, _, _, _ => by
    refine Ev.succ ?_
    simp only [laws_heldIntSS.l0, mkRows, List.append_nil, nlt (Nat.le_refl A.length), if_false, cntR, Nat.add_zero]
    exact Ev.now _
  | b :: B, A, s, hl, hr, hs => by
    have hb := hr b (List.mem_cons_self ..)
    have hlt : A.length < (A ++ iotaF s b.length :: mkRows (s + b.length) B).length := by simp
    have hle : (A ++ iotaF s b.length :: mkRows (s + b.length) B).length ≤ 1048576 := by simp [mkRows_length] at hl ⊢; omega
    simp only [cntR] at hs
    refine Ev.succ ?_
    simp only [laws_heldIntSS.l0, mkRows, ilt hlt, inn, if_true, rdR_mid, wnext hlt (by omega)]
    refine Ev.bind (laws_heldIntS_ev b.length hb s (by omega)) ?_
    simp only [nneg, if_false]
    have ih := laws_heldIntSS_l B (A ++ [iotaF s b.length]) (s + b.length) (by simp at hl ⊢; omega) (fun r q => hr r (List.mem_cons_of_mem _ q)) (by omega)
    have e2 : (A ++ [iotaF s b.length]).length = A.length + 1 := by simp
    rw [e2, List.append_assoc, List.singleton_append] at ih
    refine ih.eqv ?_
    simp only [cntR, Nat.add_assoc]
theorem laws_heldIntSS_from (m : List (List Int)) (h : Siz m) (s : Nat) (hs : s + cntR m ≤ 4611686018427) {x : Int} (hx : (s : Int) = x) : Ev (fun k => laws_heldIntSS.f k (mkRows s m) x) ((s + cntR m : Nat) : Int) := by
  subst hx
  have := laws_heldIntSS_l m [] s (by simpa using h.1) h.2 hs
  simpa only [laws_heldIntSS.f, List.nil_append, List.length_nil, Int.natCast_zero] using this

theorem laws_toIntS_l (l : List Int) (hl : l.length ≤ 4611686018427387904) : ∀ i, i ≤ l.length → ∀ m : List Int, m.length = l.length → m.take i = l.take i → Ev (fun k => laws_toIntS.l0 k l m (i : Int)) l := by
  refine down ?_ ?_
  · intro m hm h
    refine Ev.succ ?_
    simp only [laws_toIntS.l0, nlt (Nat.le_refl l.length), if_false]
    rw [← hm, List.take_length, hm, List.take_length] at h
    rw [h]
    exact Ev.now _
  · intro i hi ih m hm h
    refine Ev.succ ?_
    simp only [laws_toIntS.l0, ilt hi, inn, if_true, hm, rd_lt hi, wnext hi hl, Int.toNat_natCast]
    exact ih _ (by simpa using hm) (set_take l m i hi hm h)
theorem laws_toIntS_ev (l : List Int) (hl : l.length ≤ 35184372088832) : Ev (fun k => laws_toIntS.f k l) l := by
  have := laws_toIntS_l l (by omega) 0 (Nat.zero_le _) (List.replicate l.length 0) (by simp) (by simp)
  simp only [laws_toIntS.f, inn, if_true, Int.toNat_natCast, hl]
  exact this

theorem spec_l1In_e (a b c : Int) : spec_l1In.f a b c = some (wth a b c) := wth_opt a b c

theorem spec_l1All_l (l : List Int) (lo hi : Int) (hl : l.length ≤ 4611686018427387904) : ∀ i, i ≤ l.length → Ev (fun k => spec_l1All.l0 k lo hi l (l.length : Int) (i : Int)) (allW (l.drop i) lo hi) := by
  refine down ?_ ?_
  · refine Ev.succ ?_
    simp only [spec_l1All.l0, nlt (Nat.le_refl l.length), if_false, List.drop_length]
    exact Ev.now _
  · intro i hi ih
    refine Ev.succ ?_
    simp only [spec_l1All.l0, ilt hi, inn, if_true, spec_l1In_e, Option.bind_some, rd_lt hi, wnext hi hl]
    rw [drop_cons hi]
    exact Ev.andS fun _ => ih
theorem spec_l1All_ev (l : List Int) (lo hi : Int) (hl : l.length ≤ 4611686018427387904) : Ev (fun k => spec_l1All.f k l lo hi) (allW l lo hi) := by
  have := spec_l1All_l l lo hi hl 0 (Nat.zero_le _)
  simpa only [spec_l1All.f, List.drop_zero, Int.natCast_zero] using this

theorem spec_liGood_ev (l : List Int) (hl : l.length ≤ 4611686018427387904) : Ev (fun k => spec_liGood.f k l) (goodB l) := by
  simp only [spec_liGood.f, spec_l1In_e, Option.bind_some, goodB]
  exact Ev.andS fun _ => Ev.ret (f := fun t => t) (spec_l1All_ev l 0 60 hl)

theorem spec_liSum_l (l : List Int) (hl : l.length ≤ 4611686018427387904) : ∀ i, i ≤ l.length → ∀ acc, InR acc → Ev (fun k => spec_liSum.l0 k acc l (l.length : Int) (i : Int)) (wrap64 (acc + (l.drop i).sum)) := by
  refine down ?_ ?_
  · intro acc ha
    refine Ev.succ ?_
    simp only [spec_liSum.l0, nlt (Nat.le_refl l.length), if_false, List.drop_length, List.sum_nil, Int.add_zero, wR ha]
    exact Ev.now _
  · intro i hi ih acc ha
    refine Ev.succ ?_
    simp only [spec_liSum.l0, ilt hi, inn, if_true, rd_lt hi, wnext hi hl]
    rw [drop_cons hi, List.sum_cons, ← Int.add_assoc]
    exact (ih _ (inR_wrap _)).eqv (wr_add _ _)
theorem spec_liSum_ev (l : List Int) (hl : l.length ≤ 4611686018427387904) : Ev (fun k => spec_liSum.f k l) (wrap64 l.sum) := by
  have := spec_liSum_l l hl 0 (Nat.zero_le _) 0 inR_0
  simpa only [spec_liSum.f, List.drop_zero, Int.zero_add, Int.natCast_zero] using this
theorem spec_liSum_good {l : List Int} (h : Lst l) : Ev (fun k => spec_liSum.f k l) l.sum :=
  (spec_liSum_ev l (by have := h.2.1; omega)).eqv (w64 (by have := h.sum; omega) (by have := h.sum; omega))

theorem spec_liFit_ev {a b : List Int} (ha : Lst a) (hb : Lst b) : Ev (fun k => spec_liFit.f k a b) (decide (a.length = b.length) && decide (a.sum = b.sum)) := by
  simp only [spec_liFit.f]
  by_cases h : a.length = b.length
  · have h2 : (a.length : Int) = (b.length : Int) := by omega
    simp only [h2, if_true, h, decide_true, Bool.true_and]
    refine Ev.bind (spec_liSum_good ha) ?_
    exact Ev.ret (f := fun t => a.sum == t) (spec_liSum_good hb)
  · have h2 : ¬ (a.length : Int) = (b.length : Int) := by omega
    simp only [h2, if_false, h, decide_false, Bool.false_and]
    exact Ev.now _

theorem spec_plBoth_ev (a b : List Int) (ha : a.length ≤ 1048576) (hb : b.length ≤ 1048576) : Ev (fun k => spec_plBoth.f k a b) (fits a b) := by
  simp only [spec_plBoth.f]
  refine Ev.and (spec_liGood_ev a (by omega)) fun h => ?_
  refine Ev.and (spec_liGood_ev b (by omega)) fun h2 => ?_
  exact Ev.ret (f := fun t => t) (spec_liFit_ev (goodB_iff.1 h) (goodB_iff.1 h2))

theorem spec_plEmpty_l0 (n : Nat) (hn : n ≤ 1048576) : ∀ i, i ≤ n → Ev (fun k => spec_plEmpty.l0 k (n : Int) (List.replicate i (List.replicate n 0)) (i : Int)) (zerosP n n) := by
  refine down ?_ ?_
  · refine Ev.succ ?_
    simp only [spec_plEmpty.l0, nlt (Nat.le_refl n), if_false]
    exact Ev.now _
  · intro i hi ih
    have c1 : n ≤ 35184372088832 := by omega
    have c2 : (List.replicate i (List.replicate n (0 : Int))).length < 5864062014805 := by rw [List.length_replicate]; omega
    refine Ev.succ ?_
    simp only [spec_plEmpty.l0, ilt hi, inn, if_true, Int.toNat_natCast, c1, c2, wnext hi (by omega : n ≤ 4611686018427387904), ← List.replicate_succ']
    exact ih
theorem spec_plEmpty_ev (n : Nat) (hn : n ≤ 1048576) : Ev (fun k => spec_plEmpty.f k (n : Int)) (zerosP n n) := by
  have := spec_plEmpty_l0 n hn 0 (Nat.zero_le _)
  simpa only [spec_plEmpty.f, List.replicate_zero, Int.natCast_zero] using this

theorem spec_l1Own_e (l : List Int) (hl : l.length < 17592186044416) : spec_l1Own.f l = some l := by
  simp only [spec_l1Own.f, Option.bind_some, List.nil_append, List.length_nil, Nat.zero_add, hl, if_true]

theorem spec_l1Least_e (a b : Int) : spec_l1Least.f a b = some (min a b) := by
  unfold spec_l1Least.f
  by_cases h : a < b
  · rw [if_pos h, show min a b = a by omega]
  · rw [if_neg h, show min a b = b by omega]

theorem spec_plMonotone_l0 : ∀ (d : Nat) (m : List (List Int)) (a b : List Int) (i j : Nat), (a.length - i) + (b.length - j) < d → i ≤ a.length → j ≤ b.length → a.length ≤ 1048576 → b.length ≤ 1048576 → Shp m a.length b.length → Ev (fun k => spec_plMonotone.l0 (a.length : Int) (b.length : Int) k m a b (i : Int) (j : Int)) (carryN d m a b i j)
  | 0, _, _, _, _, _, h, _, _, _, _, _ => by omega
  | d + 1, m, a, b, i, j, h, hi, hj, ha, hb, hs => by
    unfold carryN
    refine Ev.succ ?_
    by_cases c1 : i < a.length
    · by_cases c2 : j < b.length
      · have r1 : i < m.length := by rw [hs.1]; exact c1
        have hrow : rd_L1 m (i : Int) = m.getD i [] := by simp [rd_L1]
        have hl := hs.row c1
        have r2 : j < (m.getD i []).length := by rw [hl]; exact c2
        have hs2 : Shp (m.set i ((m.getD i []).set j (wrap64 ((m.getD i []).getD j 0 + min (a.getD i 0) (b.getD j 0))))) a.length b.length := hs.set (by rw [List.length_set]; exact hl)
        rw [if_pos ⟨c1, c2⟩]
        simp only [spec_plMonotone.l0, ilt c1, ilt c2, inn, if_true, hrow, ilt r1, ilt r2, rd_get, Int.toNat_natCast, spec_l1Least_e, Option.bind_some, wnext c1 (by omega : a.length ≤ 4611686018427387904), wnext c2 (by omega : b.length ≤ 4611686018427387904)]
        by_cases c3 : (a.set i (wrap64 (a.getD i 0 - min (a.getD i 0) (b.getD j 0)))).getD i 0 = 0
        · simp only [c3, if_true]
          have := spec_plMonotone_l0 d (m.set i ((m.getD i []).set j (wrap64 ((m.getD i []).getD j 0 + min (a.getD i 0) (b.getD j 0))))) (a.set i (wrap64 (a.getD i 0 - min (a.getD i 0) (b.getD j 0)))) (b.set j (wrap64 (b.getD j 0 - min (a.getD i 0) (b.getD j 0)))) (i + 1) j (by simp only [List.length_set]; omega) (by simp only [List.length_set]; omega) (by simp only [List.length_set]; omega) (by simp only [List.length_set]; omega) (by simp only [List.length_set]; omega) (by simp only [List.length_set]; exact hs2)
          simpa only [List.length_set] using this
        · simp only [c3, if_false]
          have := spec_plMonotone_l0 d (m.set i ((m.getD i []).set j (wrap64 ((m.getD i []).getD j 0 + min (a.getD i 0) (b.getD j 0))))) (a.set i (wrap64 (a.getD i 0 - min (a.getD i 0) (b.getD j 0)))) (b.set j (wrap64 (b.getD j 0 - min (a.getD i 0) (b.getD j 0)))) i (j + 1) (by simp only [List.length_set]; omega) (by simp only [List.length_set]; omega) (by simp only [List.length_set]; omega) (by simp only [List.length_set]; omega) (by simp only [List.length_set]; omega) (by simp only [List.length_set]; exact hs2)
          simpa only [List.length_set] using this
      · rw [if_neg (by omega)]
        simp only [spec_plMonotone.l0, ilt c1, nlt (Nat.le_of_not_lt c2), if_true, if_false]
        exact Ev.now _
    · rw [if_neg (by omega)]
      simp only [spec_plMonotone.l0, nlt (Nat.le_of_not_lt c1), if_false]
      exact Ev.now _

theorem spec_plMonotone_ev (a b : List Int) (h : a.length = b.length) (h0 : 0 < a.length) (ha : a.length ≤ 1048576) : Ev (fun k => spec_plMonotone.f k a b) (monoP a b) := by
  simp only [spec_plMonotone.f, spec_l1Own_e a (by omega), spec_l1Own_e b (by omega), Option.bind_some]
  refine Ev.bind (spec_plEmpty_ev a.length ha) ?_
  have hz : 0 < (zerosP a.length a.length).length := by simp [zerosP]; exact h0
  simp only [hz, if_true]
  exact spec_plMonotone_l0 _ (zerosP a.length a.length) a b 0 0 (by omega) (by omega) (by omega) ha (by omega) (h ▸ shp_zeros a.length a.length)

theorem spec_plCells_l1 (m : List (List Int)) (hm : m.length ≤ 8) (o : Nat) (ho : o < 8) (R : List S59) (l : List Int) (hl : l.length ≤ 8)
    (hk : ∀ out, out.length ≤ 8 * (o + 1) → Ev (fun k => spec_plCells.l0 k out m (m.length : Int) (wrap64 ((o : Int) + 1))) (out ++ R)) :
    ∀ i, i ≤ l.length → ∀ out, out.length ≤ 8 * o + i → Ev (fun k => spec_plCells.l1 k out (o : Int) m (m.length : Int) (o : Int) l (l.length : Int) (i : Int)) (out ++ ((cellsRow o i (l.drop i)).map fun p => (⟨(p.1 : Int), (p.2 : Int)⟩ : S59)) ++ R) := by
  refine down ?_ ?_
  · intro out hout
    refine Ev.succ ?_
    simp only [spec_plCells.l1, nlt (Nat.le_refl l.length), if_false, List.drop_length, cellsRow, List.map_nil, List.append_nil]
    exact hk out (by omega)
  · intro i hi ih out hout
    have lim : out.length < 8796093022208 := by omega
    refine Ev.succ ?_
    simp only [spec_plCells.l1, ilt hi, inn, if_true, rd_lt hi, wnext hi (by omega : l.length ≤ 4611686018427387904), lim]
    rw [drop_cons hi, cellsRow]
    by_cases c : l[i] > 0
    · simp only [c, if_true]
      exact (ih _ (by rw [List.length_append]; simp only [List.length_cons, List.length_nil]; omega)).eqv (by simp)
    · simp only [c, if_false]
      exact ih _ (by omega)
theorem spec_plCells_l0 (m : List (List Int)) (h : Plan m) : ∀ i, i ≤ m.length → ∀ out, out.length ≤ 8 * i → Ev (fun k => spec_plCells.l0 k out m (m.length : Int) (i : Int)) (out ++ ((cellsGo i (m.drop i)).map fun p => (⟨(p.1 : Int), (p.2 : Int)⟩ : S59))) := by
  have hm := h.2.1
  refine down ?_ ?_
  · intro out hout
    refine Ev.succ ?_
    simp only [spec_plCells.l0, nlt (Nat.le_refl m.length), if_false, List.drop_length, cellsGo, List.map_nil, List.append_nil]
    exact Ev.now _
  · intro i hi ih out hout
    have hrow : rd_L1 m (i : Int) = m[i] := by simp [rd_L1, List.getD_eq_getElem?_getD, hi]
    have hl := (h.2.2 _ (List.getElem_mem hi)).1
    refine Ev.succ ?_
    simp only [spec_plCells.l0, ilt hi, inn, if_true, hrow]
    refine (spec_plCells_l1 m hm i (by omega) ((cellsGo (i + 1) (m.drop (i + 1))).map fun p => (⟨(p.1 : Int), (p.2 : Int)⟩ : S59)) m[i] (by omega) (fun out hout => ?_) 0 (Nat.zero_le _) out (by omega)).eqv ?_
    · rw [wnext hi (by omega)]
      exact ih out hout
    · rw [List.drop_zero, drop_cons hi, cellsGo, List.map_append, List.append_assoc]
theorem spec_plCells_ev (m : List (List Int)) (h : Plan m) : Ev (fun k => spec_plCells.f k m) ((cellsGo 0 m).map fun p => (⟨(p.1 : Int), (p.2 : Int)⟩ : S59)) := by
  have := spec_plCells_l0 m h 0 (Nat.zero_le _) [] (by simp)
  simpa only [spec_plCells.f, List.drop_zero, List.nil_append, Int.natCast_zero] using this

theorem spec_plLowering_l (L : List (Nat × Nat)) (hL : L.length ≤ 1048576) : ∀ i, i ≤ L.length → Ev (fun k => spec_plLowering.l0 k (L.map fun p => (⟨(p.1 : Int), (p.2 : Int)⟩ : S59)) (L.length : Int) (i : Int)) ((L.drop i).all fun p => decide (p.2 ≤ p.1)) := by
  refine down ?_ ?_
  · refine Ev.succ ?_
    simp only [spec_plLowering.l0, nlt (Nat.le_refl L.length), if_false, List.drop_length, List.all_nil]
    exact Ev.now _
  · intro i hi ih
    have hrow : rd_T59 (L.map fun p => (⟨(p.1 : Int), (p.2 : Int)⟩ : S59)) (i : Int) = ⟨(L[i].1 : Int), (L[i].2 : Int)⟩ := by simp [rd_T59, List.getD_eq_getElem?_getD, hi]
    refine Ev.succ ?_
    simp only [spec_plLowering.l0, List.length_map, ilt hi, inn, if_true, hrow, wnext hi (by omega : L.length ≤ 4611686018427387904)]
    rw [drop_cons hi, List.all_cons]
    by_cases c : L[i].2 ≤ L[i].1
    · have c2 : ¬ (L[i].2 : Int) > (L[i].1 : Int) := by omega
      simp only [c2, if_false, c, decide_true, Bool.true_and]
      exact ih
    · have c2 : (L[i].2 : Int) > (L[i].1 : Int) := by omega
      simp only [c2, if_true, c, decide_false, Bool.false_and]
      exact Ev.now _
theorem spec_plLowering_ev (m : List (List Int)) (h : Plan m) : Ev (fun k => spec_plLowering.f k m) (lowGo 0 m) := by
  simp only [spec_plLowering.f]
  refine Ev.bind (spec_plCells_ev m h) ?_
  have := spec_plLowering_l (cellsGo 0 m) (by have := cellsGo_len h; omega) 0 (Nat.zero_le _)
  rw [List.drop_zero, low_cells m 0 (fun r hr x hx => ((h.2.2 r hr).2 x hx).1)] at this
  simpa only [List.length_map, Int.natCast_zero] using this

theorem spec_LoweringPlan_ev (a b : List Int) (ha : a.length ≤ 1048576) (hb : b.length ≤ 1048576) : Ev (fun k => spec_LoweringPlan.f k a b) (if fits a b then (if lowGo 0 (monoP a b) then (monoP a b, true) else ([], false)) else (([] : List (List Int)), false)) := by
  simp only [spec_LoweringPlan.f]
  refine Ev.bind (spec_plBoth_ev a b ha hb) ?_
  cases c : fits a b with
  | false => simp only [Bool.false_eq_true, if_false]; exact Ev.now _
  | true =>
    simp only [if_true]
    have h := fits_iff.1 c
    have h1 := h.1.1
    refine Ev.bind (spec_plMonotone_ev a b h.2.2.1 (by omega) ha) ?_
    refine Ev.bind (spec_plLowering_ev _ (monoP_plan c)) ?_
    cases e : lowGo 0 (monoP a b) with
    | false => simp only [Bool.false_eq_true, if_false]; exact Ev.now _
    | true =>
      simp only [if_true]
      exact Ev.ret (f := fun t => (t, true)) (spec_plMonotone_ev a b h.2.2.1 (by omega) ha)

theorem impl_within_e (a b c : Int) : impl_within.f a b c = some (wth a b c) := wth_opt a b c

theorem impl_allWithin_l (l : List Int) (lo hi : Int) (hl : l.length ≤ 4611686018427387904) : ∀ i, i ≤ l.length → Ev (fun k => impl_allWithin.l0 k lo hi l (l.length : Int) (i : Int)) (allW (l.drop i) lo hi) := by
  refine down ?_ ?_
  · refine Ev.succ ?_
    simp only [impl_allWithin.l0, nlt (Nat.le_refl l.length), if_false, List.drop_length]
    exact Ev.now _
  · intro i hi ih
    refine Ev.succ ?_
    simp only [impl_allWithin.l0, ilt hi, inn, if_true, impl_within_e, Option.bind_some, rd_lt hi, wnext hi hl]
    rw [drop_cons hi]
    exact Ev.andS fun _ => ih
theorem impl_allWithin_ev (l : List Int) (lo hi : Int) (hl : l.length ≤ 4611686018427387904) : Ev (fun k => impl_allWithin.f k l lo hi) (allW l lo hi) := by
  have := impl_allWithin_l l lo hi hl 0 (Nat.zero_le _)
  simpa only [impl_allWithin.f, List.drop_zero, Int.natCast_zero] using this

theorem impl_IsList_ev (l : List Int) (hl : l.length ≤ 4611686018427387904) : Ev (fun k => impl_IsList.f k l) (goodB l) := by
  simp only [impl_IsList.f, impl_within_e, Option.bind_some, goodB]
  exact Ev.andS fun _ => Ev.ret (f := fun t => t) (impl_allWithin_ev l 0 60 hl)

theorem impl_areLists_ev (a b : List Int) (ha : a.length ≤ 1048576) (hb : b.length ≤ 1048576) : Ev (fun k => impl_areLists.f k a b) (goodB a && goodB b) := by
  simp only [impl_areLists.f]
  exact Ev.and (impl_IsList_ev a (by omega)) fun h => Ev.ret (f := fun t => t) (impl_IsList_ev b (by omega))

theorem impl_total_l (l : List Int) (hl : l.length ≤ 4611686018427387904) : ∀ i, i ≤ l.length → ∀ acc, InR acc → Ev (fun k => impl_total.l0 k acc l (l.length : Int) (i : Int)) (wrap64 (acc + (l.drop i).sum)) := by
  refine down ?_ ?_
  · intro acc ha
    refine Ev.succ ?_
    simp only [impl_total.l0, nlt (Nat.le_refl l.length), if_false, List.drop_length, List.sum_nil, Int.add_zero, wR ha]
    exact Ev.now _
  · intro i hi ih acc ha
    refine Ev.succ ?_
    simp only [impl_total.l0, ilt hi, inn, if_true, rd_lt hi, wnext hi hl]
    rw [drop_cons hi, List.sum_cons, ← Int.add_assoc]
    exact (ih _ (inR_wrap _)).eqv (wr_add _ _)
theorem impl_total_ev (l : List Int) (hl : l.length ≤ 4611686018427387904) : Ev (fun k => impl_total.f k l) (wrap64 l.sum) := by
  have := impl_total_l l hl 0 (Nat.zero_le _) 0 inR_0
  simpa only [impl_total.f, List.drop_zero, Int.zero_add, Int.natCast_zero] using this
theorem impl_total_good {l : List Int} (h : Lst l) : Ev (fun k => impl_total.f k l) l.sum :=
  (impl_total_ev l (by have := h.2.1; omega)).eqv (w64 (by have := h.sum; omega) (by have := h.sum; omega))

theorem impl_doFit_ev {a b : List Int} (ha : Lst a) (hb : Lst b) : Ev (fun k => impl_doFit.f k a b) (decide (a.length = b.length) && decide (a.sum = b.sum)) := by
  simp only [impl_doFit.f]
  by_cases h : a.length = b.length
  · have h2 : (a.length : Int) = (b.length : Int) := by omega
    simp only [h2, if_true, h, decide_true, Bool.true_and]
    refine Ev.bind (impl_total_good ha) ?_
    exact Ev.ret (f := fun t => a.sum == t) (impl_total_good hb)
  · have h2 : ¬ (a.length : Int) = (b.length : Int) := by omega
    simp only [h2, if_false, h, decide_false, Bool.false_and]
    exact Ev.now _

theorem impl_areFitting_ev (a b : List Int) (ha : a.length ≤ 1048576) (hb : b.length ≤ 1048576) : Ev (fun k => impl_areFitting.f k a b) (fits a b) := by
  simp only [impl_areFitting.f]
  refine (Ev.and (b := decide (a.length = b.length) && decide (a.sum = b.sum)) (impl_areLists_ev a b ha hb) fun h => ?_).eqv (Bool.and_assoc _ _ _)
  rw [Bool.and_eq_true, goodB_iff, goodB_iff] at h
  exact Ev.ret (f := fun t => t) (impl_doFit_ev h.1 h.2)

theorem impl_monotone_1_e (a b : Int) : impl_monotone_1.f a b = some 0 := rfl
theorem impl_square_l1 (n : Nat) (hn : n ≤ 1048576) (o : Nat) (ho : o < n) (R : List (List Int)) (hk : Ev (fun k => impl_square.l0 k (n : Int) (List.replicate (o + 1) (List.replicate n 0)) (n : Int) ((o + 1 : Nat) : Int)) R) :
    ∀ j, j ≤ n → Ev (fun k => impl_square.l1 k (n : Int) (List.replicate o (List.replicate n 0)) (o : Int) (List.replicate j 0) (n : Int) (o : Int) (n : Int) (j : Int)) R := by
  refine down ?_ ?_
  · have c2 : (List.replicate o (List.replicate n (0 : Int))).length < 5864062014805 := by rw [List.length_replicate]; omega
    refine Ev.succ ?_
    simp only [impl_square.l1, nlt (Nat.le_refl n), if_false, c2, if_true, ← List.replicate_succ', wnext ho (by omega : n ≤ 4611686018427387904)]
    exact hk
  · intro j hj ih
    have c2 : (List.replicate j (0 : Int)).length < 17592186044416 := by rw [List.length_replicate]; omega
    refine Ev.succ ?_
    simp only [impl_square.l1, ilt hj, if_true, impl_monotone_1_e, Option.bind_some, c2, ← List.replicate_succ', wnext hj (by omega : n ≤ 4611686018427387904)]
    exact ih
theorem impl_square_l0 (n : Nat) (hn : n ≤ 1048576) : ∀ i, i ≤ n → Ev (fun k => impl_square.l0 k (n : Int) (List.replicate i (List.replicate n 0)) (n : Int) (i : Int)) (zerosP n n) := by
  refine down ?_ ?_
  · refine Ev.succ ?_
    simp only [impl_square.l0, nlt (Nat.le_refl n), if_false]
    exact Ev.now _
  · intro i hi ih
    refine Ev.succ ?_
    simp only [impl_square.l0, ilt hi, if_true]
    exact impl_square_l1 n hn i hi _ ih 0 (Nat.zero_le _)
theorem impl_square_ev (n : Nat) (hn : n ≤ 1048576) (z : Int) : Ev (fun k => impl_square.f k (n : Int) z) (zerosP n n) := by
  have := impl_square_l0 n hn 0 (Nat.zero_le _)
  simpa only [impl_square.f, List.replicate_zero, Int.natCast_zero] using this

theorem slices_Clone_int_int_e (l : List Int) (hl : l.length < 17592186044416) : slices_Clone_int_int.f l = some l := by
  simp only [slices_Clone_int_int.f, Option.bind_some, List.nil_append, List.length_nil, Nat.zero_add, hl, if_true]

theorem impl_monotone_l0 : ∀ (d : Nat) (m : List (List Int)) (a b : List Int) (i j : Nat), (a.length - i) + (b.length - j) < d → i ≤ a.length → j ≤ b.length → a.length ≤ 1048576 → b.length ≤ 1048576 → Shp m a.length b.length → Ev (fun k => impl_monotone.l0  k m a b (i : Int) (j : Int)) (carryN d m a b i j)
  | 0, _, _, _, _, _, h, _, _, _, _, _ => by omega
  | d + 1, m, a, b, i, j, h, hi, hj, ha, hb, hs => by
    unfold carryN
    refine Ev.succ ?_
    by_cases c1 : i < a.length
    · by_cases c2 : j < b.length
      · have r1 : i < m.length := by rw [hs.1]; exact c1
        have hrow : rd_L1 m (i : Int) = m.getD i [] := by simp [rd_L1]
        have hl := hs.row c1
        have r2 : j < (m.getD i []).length := by rw [hl]; exact c2
        have hs2 : Shp (m.set i ((m.getD i []).set j (wrap64 ((m.getD i []).getD j 0 + min (a.getD i 0) (b.getD j 0))))) a.length b.length := hs.set (by rw [List.length_set]; exact hl)
        rw [if_pos ⟨c1, c2⟩]
        simp only [impl_monotone.l0, ilt c1, ilt c2, inn, if_true, hrow, ilt r1, ilt r2, rd_get, Int.toNat_natCast, mn_eq, wnext c1 (by omega : a.length ≤ 4611686018427387904), wnext c2 (by omega : b.length ≤ 4611686018427387904)]
        by_cases c3 : (a.set i (wrap64 (a.getD i 0 - min (a.getD i 0) (b.getD j 0)))).getD i 0 = 0
        · simp only [c3, if_true]
          have := impl_monotone_l0 d (m.set i ((m.getD i []).set j (wrap64 ((m.getD i []).getD j 0 + min (a.getD i 0) (b.getD j 0))))) (a.set i (wrap64 (a.getD i 0 - min (a.getD i 0) (b.getD j 0)))) (b.set j (wrap64 (b.getD j 0 - min (a.getD i 0) (b.getD j 0)))) (i + 1) j (by simp only [List.length_set]; omega) (by simp only [List.length_set]; omega) (by simp only [List.length_set]; omega) (by simp only [List.length_set]; omega) (by simp only [List.length_set]; omega) (by simp only [List.length_set]; exact hs2)
          simpa only [List.length_set] using this
        · simp only [c3, if_false]
          have := impl_monotone_l0 d (m.set i ((m.getD i []).set j (wrap64 ((m.getD i []).getD j 0 + min (a.getD i 0) (b.getD j 0))))) (a.set i (wrap64 (a.getD i 0 - min (a.getD i 0) (b.getD j 0)))) (b.set j (wrap64 (b.getD j 0 - min (a.getD i 0) (b.getD j 0)))) i (j + 1) (by simp only [List.length_set]; omega) (by simp only [List.length_set]; omega) (by simp only [List.length_set]; omega) (by simp only [List.length_set]; omega) (by simp only [List.length_set]; omega) (by simp only [List.length_set]; exact hs2)
          simpa only [List.length_set] using this
      · rw [if_neg (by omega)]
        simp only [impl_monotone.l0, ilt c1, nlt (Nat.le_of_not_lt c2), if_true, if_false]
        exact Ev.now _
    · rw [if_neg (by omega)]
      simp only [impl_monotone.l0, nlt (Nat.le_of_not_lt c1), if_false]
      exact Ev.now _

theorem impl_monotone_ev (a b : List Int) (h : a.length = b.length) (h0 : 0 < a.length) (ha : a.length ≤ 1048576) : Ev (fun k => impl_monotone.f k a b) (monoP a b) := by
  simp only [impl_monotone.f, impl_monotone.c, slices_Clone_int_int_e a (by omega), slices_Clone_int_int_e b (by omega), Option.bind_some]
  refine Ev.bind (impl_square_ev a.length ha 0) ?_
  have hz : 0 < (zerosP a.length a.length).length := by simp [zerosP]; exact h0
  simp only [hz, if_true]
  exact impl_monotone_l0 _ (zerosP a.length a.length) a b 0 0 (by omega) (by omega) (by omega) ha (by omega) (h ▸ shp_zeros a.length a.length)

theorem impl_isLowering_l (m : List (List Int)) (h : Plan m) : ∀ i, i ≤ m.length → Ev (fun k => impl_isLowering.l0 k m (m.length : Int) (i : Int)) (lowGo i (m.drop i)) := by
  have hm := h.2.1
  refine down ?_ ?_
  · refine Ev.succ ?_
    simp only [impl_isLowering.l0, nlt (Nat.le_refl m.length), if_false, List.drop_length, lowGo]
    exact Ev.now _
  · intro i hi ih
    have hrow : rd_L1 m (i : Int) = m[i] := by simp [rd_L1, List.getD_eq_getElem?_getD, hi]
    have hl := (h.2.2 _ (List.getElem_mem hi)).1
    refine Ev.succ ?_
    simp only [impl_isLowering.l0, ilt hi, inn, if_true, hrow, wnext hi (by omega : m.length ≤ 4611686018427387904), ile (by omega : i + 1 ≤ m[i].length), Int.toNat_natCast]
    rw [drop_cons hi, lowGo]
    exact Ev.and (impl_allWithin_ev _ 0 0 (by rw [List.length_drop]; omega)) fun _ => ih
theorem impl_isLowering_ev (m : List (List Int)) (h : Plan m) : Ev (fun k => impl_isLowering.f k m) (lowGo 0 m) := by
  have := impl_isLowering_l m h 0 (Nat.zero_le _)
  simpa only [impl_isLowering.f, List.drop_zero, Int.natCast_zero] using this

theorem impl_LoweringPlan_ev (a b : List Int) (ha : a.length ≤ 1048576) (hb : b.length ≤ 1048576) : Ev (fun k => impl_LoweringPlan.f k a b) (if fits a b then (if lowGo 0 (monoP a b) then (monoP a b, true) else ([], false)) else (([] : List (List Int)), false)) := by
  simp only [impl_LoweringPlan.f]
  refine Ev.bind (impl_areFitting_ev a b ha hb) ?_
  cases c : fits a b with
  | false => simp only [Bool.false_eq_true, if_false]; exact Ev.now _
  | true =>
    simp only [if_true]
    have h := fits_iff.1 c
    have h1 := h.1.1
    refine Ev.bind (impl_monotone_ev a b h.2.2.1 (by omega) ha) ?_
    refine Ev.bind (impl_isLowering_ev _ (monoP_plan c)) ?_
    cases e : lowGo 0 (monoP a b) with
    | false => simp only [Bool.false_eq_true, if_false]; exact Ev.now _
    | true => simp only [if_true]; exact Ev.now _

theorem low_siz (a b : List Int) : Siz (if fits a b then (if lowGo 0 (monoP a b) then (monoP a b, true) else ([], false)) else (([] : List (List Int)), false)).1 := by
  cases e : fits a b with
  | false => exact ⟨by simp, by simp⟩
  | true =>
    have h := (fits_iff.1 e).1.2.1
    simp only [if_true]
    split
    · exact (monoP_shp a b).siz (by omega) (by omega)
    · exact ⟨by simp, by simp⟩
theorem FnExactLoweringPlan_pure (a b : List Int) (hma : a.length ≤ maxLen) (hsa : a.length * 8 ≤ 140737488351232) (hwa : ∀ x ∈ a, (Lit.int .i64 x).wf = true) (hmb : b.length ≤ maxLen) (hsb : b.length * 8 ≤ 140737488351232) (hwb : ∀ x ∈ b, (Lit.int .i64 x).wf = true) : ∃ k, laws_FnExactLoweringPlan.f k a b = some true := by
  refine Ev.rounds ?_
  simp only [laws_FnExactLoweringPlan.f]
  by_cases ca : a.length > 1048576
  · simp only [ca, if_true]; exact Ev.now _
  by_cases cb : b.length > 1048576
  · simp only [ca, cb, if_true, if_false]; exact Ev.now _
  simp only [ca, cb, if_false]
  have ha : a.length ≤ 1048576 := by omega
  have hb : b.length ≤ 1048576 := by omega
  have hg := low_siz a b
  have c2 := cntR_siz hg
  refine Ev.bind (laws_toIntS_ev a (by omega)) ?_
  refine Ev.bind (laws_toIntS_ev b (by omega)) ?_
  refine Ev.bind (spec_LoweringPlan_ev a b ha hb) ?_
  refine Ev.bind (laws_toIntS_ev a (by omega)) ?_
  refine Ev.bind (laws_toIntS_ev b (by omega)) ?_
  refine Ev.bind (impl_LoweringPlan_ev a b ha hb) ?_
  generalize hG : (if fits a b then (if lowGo 0 (monoP a b) then (monoP a b, true) else ([], false)) else (([] : List (List Int)), false)) = g at hg c2 ⊢
  obtain ⟨g, t⟩ := g
  simp only at hg c2
  refine Ev.bind (laws_eqIntSS_self g hg) ?_
  simp only [if_true]
  refine Ev.bind (laws_toIntS_ev a (by omega)) ?_
  refine Ev.bind (laws_eqIntS_self a (by omega)) ?_
  simp only [if_true]
  refine Ev.bind (laws_toIntS_ev b (by omega)) ?_
  refine Ev.bind (laws_eqIntS_self b (by omega)) ?_
  simp only [if_true]
  refine Ev.bind (laws_markIntS_from a (by omega) 1 (by omega) rfl) ?_
  refine Ev.bind (laws_markIntS_from b (by omega) (1 + a.length) (by omega) rfl) ?_
  simp only [nneg, if_false]
  refine Ev.bind (laws_eqIntSS_self g hg) ?_
  simp only [if_true]
  refine Ev.bind (laws_markIntSS_from g hg 1 (by omega) rfl) ?_
  refine Ev.bind (laws_heldIntSS_from g hg 1 (by omega) rfl) ?_
  simp only [nneg, if_false, if_true]
  refine Ev.bind (laws_toIntS_ev a (by omega)) ?_
  refine Ev.bind (laws_toIntS_ev b (by omega)) ?_
  refine Ev.bind ((impl_LoweringPlan_ev a b ha hb).eqv hG) ?_
  simp only
  refine Ev.bind (laws_eqIntSS_self g hg) ?_
  simp only [if_true]
  refine Ev.bind (laws_heldIntSS_from g hg 1 (by omega) rfl) ?_
  simp only [nneg, if_false, if_true]
  exact Ev.now _

end Go.Proofs.Ytbnlfhdjcpegkaa.Pure
