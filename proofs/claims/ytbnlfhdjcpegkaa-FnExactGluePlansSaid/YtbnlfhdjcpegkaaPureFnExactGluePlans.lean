/- The program's GluePlans returns what the reference's returns, for all arguments; the printed functions' own bounds on lengths are the only conditions. -/
import Derived.Test.YtbnlfhdjcpegkaaPFnExactGluePlansx9
import Derived.Test.YtbnlfhdjcpegkaaMathP
namespace Go.Proofs.Ytbnlfhdjcpegkaa.Pure
open Go.RowKit Go.Proofs.Ytbnlfhdjcpegkaa.PFnExactGluePlans Go.Proofs.YtbnlfhdjcpegkaaW.PrintWords Go.Proofs.YtbnlfhdjcpegkaaW.PrintLast Go.Proofs.YtbnlfhdjcpegkaaW.PrintMore Go.Proofs.Ytbnlfhdjcpegkaa.Math
set_option linter.unusedVariables false
set_option linter.unusedSimpArgs false
set_option linter.unusedSectionVars false

theorem laws_szIntS_e (l : List Int) (a : Int) (h0 : -1 ≤ a) (h1 : a ≤ 1048576) (hl : l.length ≤ 9223372036854775807) : laws_szIntS.f l a = some (if a - l.length < 0 then -1 else a - l.length) := by
  unfold laws_szIntS.f
  rw [w64 (x := a - (l.length : Int)) (by omega) (by omega)]
  split <;> rfl

/-- What is left of a room is told; if it is not negative, all rows are short. -/
theorem laws_szIntSS_l (m : List (List Int)) (hm : m.length ≤ 1048576) (hr : ∀ r ∈ m, r.length ≤ 9223372036854775807) : ∀ i, i ≤ m.length → ∀ a : Int, 0 ≤ a → a ≤ 1048576 → ∃ r, Ev (fun k => laws_szIntSS.l0 k m a (i : Int)) r ∧ -1 ≤ r ∧ r ≤ a ∧ (0 ≤ r → ∀ x ∈ m.drop i, x.length ≤ 1048576) := by
  refine down ?_ ?_
  · intro a h0 h1
    refine ⟨a, ?_, by omega, by omega, fun _ x hx => by rw [List.drop_length] at hx; cases hx⟩
    refine Ev.succ ?_
    simp only [laws_szIntSS.l0, nlt (Nat.le_refl m.length), if_false]
    exact Ev.now _
  · intro i hi ih a h0 h1
    have hrow : rd_L1 m (i : Int) = m[i] := by simp [rd_L1, List.getD_eq_getElem?_getD, hi]
    have hq := hr m[i] (List.getElem_mem hi)
    by_cases c : a - (m[i].length : Int) < 0
    · refine ⟨-1, ?_, by omega, by omega, fun h => by omega⟩
      refine Ev.succ ?_
      simp only [laws_szIntSS.l0, ilt hi, inn, if_true, hrow, laws_szIntS_e m[i] a (by omega) h1 hq, c, Option.bind_some, (by decide : (-1 : Int) < 0)]
      exact Ev.now _
    · obtain ⟨r, hE, q1, q2, q3⟩ := ih (a - m[i].length) (by omega) (by omega)
      refine ⟨r, ?_, q1, by omega, fun h x hx => ?_⟩
      · refine Ev.succ ?_
        simp only [laws_szIntSS.l0, ilt hi, inn, if_true, hrow, laws_szIntS_e m[i] a (by omega) h1 hq, c, if_false, Option.bind_some, wnext hi (by omega : m.length ≤ 4611686018427387904)]
        exact hE
      · rw [drop_cons hi] at hx
        rcases List.mem_cons.1 hx with rfl | hx
        · omega
        · exact q3 h x hx
theorem laws_szIntSS_ev (m : List (List Int)) (hm : m.length ≤ 9223372036854775807) (hr : ∀ r ∈ m, r.length ≤ 9223372036854775807) (a : Int) (h0 : 0 ≤ a) (h1 : a ≤ 1048576) : ∃ r, Ev (fun k => laws_szIntSS.f k m a) r ∧ -1 ≤ r ∧ r ≤ a ∧ (0 ≤ r → Siz m) := by
  by_cases c : a - (m.length : Int) < 0
  · refine ⟨-1, ?_, by omega, by omega, fun h => by omega⟩
    simp only [laws_szIntSS.f, w64 (x := a - (m.length : Int)) (by omega) (by omega), c, if_true]
    exact Ev.now _
  · obtain ⟨r, hE, q1, q2, q3⟩ := laws_szIntSS_l m (by omega) hr 0 (Nat.zero_le _) (a - m.length) (by omega) (by omega)
    refine ⟨r, ?_, q1, by omega, fun h => ⟨by omega, fun x hx => q3 h x (by rw [List.drop_zero]; exact hx)⟩⟩
    simp only [laws_szIntSS.f, w64 (x := a - (m.length : Int)) (by omega) (by omega), c, if_false]
    exact hE

theorem laws_toIntS_l (l : List Int) (hl : l.length ≤ 4611686018427387904) : ∀ i, i ≤ l.length → ∀ m : List Int, m.length = l.length → m.take i = l.take i → Ev (fun k => laws_toIntS.l0 k l m (i : Int)) l := by
  refine down ?_ ?_
  · intro m hm h
    refine Ev.succ ?_
    simp only [laws_toIntS.l0, nlt (Nat.le_refl l.length), if_false]
    rw [← hm, List.take_length, hm, List.take_length] at h
    rw [h]
    exact Ev.now _
  · intro i hi ih m hm h
    refine Ev.succ ?_
    simp only [laws_toIntS.l0, ilt hi, inn, if_true, hm, rd_lt hi, wnext hi hl, Int.toNat_natCast]
    exact ih _ (by simpa using hm) (set_take l m i hi hm h)
theorem laws_toIntS_ev (l : List Int) (hl : l.length ≤ 35184372088832) : Ev (fun k => laws_toIntS.f k l) l := by
  have := laws_toIntS_l l (by omega) 0 (Nat.zero_le _) (List.replicate l.length 0) (by simp) (by simp)
  simp only [laws_toIntS.f, inn, if_true, Int.toNat_natCast, hl]
  exact this

theorem laws_toIntSS_l (m : List (List Int)) (h : Siz m) : ∀ i, i ≤ m.length → ∀ q : List (List Int), q.length = m.length → q.take i = m.take i → Ev (fun k => laws_toIntSS.l0 k m q (i : Int)) m := by
  have hm := h.1
  refine down ?_ ?_
  · intro q hq e
    refine Ev.succ ?_
    simp only [laws_toIntSS.l0, nlt (Nat.le_refl m.length), if_false]
    rw [← hq, List.take_length, hq, List.take_length] at e
    rw [e]
    exact Ev.now _
  · intro i hi ih q hq e
    have hrow : rd_L1 m (i : Int) = m[i] := by simp [rd_L1, List.getD_eq_getElem?_getD, hi]
    refine Ev.succ ?_
    simp only [laws_toIntSS.l0, ilt hi, inn, if_true, hrow, hq, wnext hi (by omega : m.length ≤ 4611686018427387904), Int.toNat_natCast]
    refine Ev.bind (laws_toIntS_ev m[i] (by have := h.2 _ (List.getElem_mem hi); omega)) ?_
    exact ih _ (by simpa using hq) (set_takeG m q i hi hq e)
theorem laws_toIntSS_ev (m : List (List Int)) (h : Siz m) : Ev (fun k => laws_toIntSS.f k m) m := by
  have hm := h.1
  have c : m.length ≤ 11728124029610 := by omega
  have := laws_toIntSS_l m h 0 (Nat.zero_le _) (List.replicate m.length []) (by simp) (by simp)
  simp only [laws_toIntSS.f, inn, if_true, Int.toNat_natCast, c]
  exact this

theorem laws_eqIntS_l (l m : List Int) (he : m.length = l.length) (hl : l.length ≤ 4611686018427387904) : ∀ i, i ≤ l.length → Ev (fun k => laws_eqIntS.l0 k l m (i : Int)) (decide (l.drop i = m.drop i)) := by
  refine down ?_ ?_
  · refine Ev.succ ?_
    simp only [laws_eqIntS.l0, nlt (Nat.le_refl l.length), if_false, List.drop_length]
    rw [← he, List.drop_length]
    exact Ev.now _
  · intro i hi ih
    refine Ev.succ ?_
    simp only [laws_eqIntS.l0, ilt hi, inn, if_true, he, rd_lt hi, rd_lt (he ▸ hi : i < m.length), wnext hi hl]
    rw [drop_cons hi, drop_cons (he ▸ hi : i < m.length)]
    by_cases hx : l[i] = m[i]
    · simp only [hx, if_true, List.cons.injEq, true_and]
      exact ih
    · simp only [hx, if_false, List.cons.injEq, false_and, decide_false]
      exact Ev.now _
theorem laws_eqIntS_ev (l m : List Int) (hl : l.length ≤ 4611686018427387904) : Ev (fun k => laws_eqIntS.f k l m) (decide (l = m)) := by
  simp only [laws_eqIntS.f]
  by_cases he : (l.length : Int) = (m.length : Int)
  · simp only [he, if_true]
    exact laws_eqIntS_l l m (by omega) hl 0 (Nat.zero_le _)
  · simp only [he, if_false]
    rw [decide_eq_false (fun h => he (by rw [h]))]
    exact Ev.now _
theorem laws_eqIntS_self (l : List Int) (hl : l.length ≤ 4611686018427387904) : Ev (fun k => laws_eqIntS.f k l l) true := by
  simpa using laws_eqIntS_ev l l hl

theorem laws_eqIntSS_l (m q : List (List Int)) (he : q.length = m.length) (h : Siz m) : ∀ i, i ≤ m.length → Ev (fun k => laws_eqIntSS.l0 k m q (i : Int)) (decide (m.drop i = q.drop i)) := by
  have hm := h.1
  refine down ?_ ?_
  · refine Ev.succ ?_
    simp only [laws_eqIntSS.l0, nlt (Nat.le_refl m.length), if_false, List.drop_length]
    rw [← he, List.drop_length]
    exact Ev.now _
  · intro i hi ih
    have h2 : i < q.length := by omega
    have hrow : rd_L1 m (i : Int) = m[i] := by simp [rd_L1, List.getD_eq_getElem?_getD, hi]
    have hrow2 : rd_L1 q (i : Int) = q[i] := by simp [rd_L1, List.getD_eq_getElem?_getD, h2]
    refine Ev.succ ?_
    simp only [laws_eqIntSS.l0, ilt hi, inn, if_true, he, hrow, hrow2, wnext hi (by omega : m.length ≤ 4611686018427387904)]
    refine Ev.bind (laws_eqIntS_ev m[i] q[i] (by have := h.2 _ (List.getElem_mem hi); omega)) ?_
    rw [drop_cons hi, drop_cons h2]
    by_cases hx : m[i] = q[i]
    · simp only [hx, decide_true, if_true, List.cons.injEq, true_and]
      exact ih
    · simp only [hx, decide_false, Bool.false_eq_true, if_false, List.cons.injEq, false_and]
      exact Ev.now _
theorem laws_eqIntSS_ev (m q : List (List Int)) (h : Siz m) : Ev (fun k => laws_eqIntSS.f k m q) (decide (m = q)) := by
  simp only [laws_eqIntSS.f]
  by_cases he : (m.length : Int) = (q.length : Int)
  · simp only [he, if_true]
    exact laws_eqIntSS_l m q (by omega) h 0 (Nat.zero_le _)
  · simp only [he, if_false]
    rw [decide_eq_false (fun h => he (by rw [h]))]
    exact Ev.now _
theorem laws_eqIntSS_self (m : List (List Int)) (h : Siz m) : Ev (fun k => laws_eqIntSS.f k m m) true := by
  simpa using laws_eqIntSS_ev m m h

theorem laws_markIntS_l (n : Nat) (hn : n ≤ 1048576) (s : Nat) (hs : s ≤ 4611686018427) : ∀ i, i ≤ n → ∀ m : List Int, m.length = n → m.take i = (iotaF s n).take i → Ev (fun k => laws_markIntS.l0 k m ((s + i : Nat) : Int) (i : Int)) (((s + n : Nat) : Int), iotaF s n) := by
  refine down ?_ ?_
  · intro m hm h
    refine Ev.succ ?_
    simp only [laws_markIntS.l0, hm, nlt (Nat.le_refl n), if_false]
    rw [← hm, List.take_length, hm, List.take_of_length_le (by rw [iotaF_length]; exact Nat.le_refl _)] at h
    rw [h]
    exact Ev.now _
  · intro i hi ih m hm h
    refine Ev.succ ?_
    simp only [laws_markIntS.l0, hm, ilt hi, inn, if_true, Int.toNat_natCast, wnext hi (by omega : n ≤ 4611686018427387904), wnext (by omega : s + i < 4611686018427387904) (by omega)]
    have := set_take (iotaF s n) m i (by rw [iotaF_length]; exact hi) (by rw [iotaF_length]; exact hm) h
    rw [iotaF_get hi] at this
    exact ih _ (by simpa using hm) this
theorem laws_markIntS_ev (l : List Int) (hl : l.length ≤ 1048576) (s : Nat) (hs : s ≤ 4611686018427) : Ev (fun k => laws_markIntS.f k l (s : Int)) (((s + l.length : Nat) : Int), iotaF s l.length) := by
  have := laws_markIntS_l l.length hl s hs 0 (Nat.zero_le _) l rfl rfl
  simpa only [laws_markIntS.f, Int.natCast_zero, Nat.add_zero] using this
theorem laws_markIntS_from (l : List Int) (hl : l.length ≤ 1048576) (s : Nat) (hs : s ≤ 4611686018427) {x : Int} (hx : (s : Int) = x) : Ev (fun k => laws_markIntS.f k l x) (((s + l.length : Nat) : Int), iotaF s l.length) :=
  hx ▸ laws_markIntS_ev l hl s hs

/-- Rows that are marked: the numbers from s on. -/
def mkRows (s : Nat) : List (List Int) → List (List Int)
  | [] => []
  | r :: t => iotaF s r.length :: mkRows (s + r.length) t
def cntR : List (List Int) → Nat
  | [] => 0
  | r :: t => r.length + cntR t
theorem cntR_le : ∀ m : List (List Int), (∀ r ∈ m, r.length ≤ 1048576) → cntR m ≤ 1048576 * m.length
  | [], _ => by simp [cntR]
  | r :: t, h => by
    have := cntR_le t fun q hq => h q (List.mem_cons_of_mem _ hq)
    have := h r (List.mem_cons_self ..)
    simp only [cntR, List.length_cons]
    omega
theorem cntR_siz {m : List (List Int)} (h : Siz m) : cntR m ≤ 1099511627776 := by
  have := cntR_le m h.2
  have := h.1
  omega
theorem rdR_mid (A : List (List Int)) (b : List Int) (B : List (List Int)) : rd_L1 (A ++ b :: B) (A.length : Int) = b := by
  simp [rd_L1, List.getD_eq_getElem?_getD]
theorem laws_markIntSS_l : ∀ (B A : List (List Int)) (s : Nat), (A ++ B).length ≤ 1048576 → (∀ r ∈ B, r.length ≤ 1048576) → s + cntR B ≤ 4611686018427 →
    Ev (fun k => laws_markIntSS.l0 k (A ++ B) (s : Int) (A.length : Int)) (((s + cntR B : Nat) : Int), A ++ mkRows s B)
  | [], A, s, _, _, _ => by
    refine Ev.succ ?_
    simp only [laws_markIntSS.l0, List.append_nil, nlt (Nat.le_refl A.length), if_false, mkRows, cntR, Nat.add_zero]
    exact Ev.now _
  | b :: B, A, s, hl, hr, hs => by
    have hb := hr b (List.mem_cons_self ..)
    have hlt : A.length < (A ++ b :: B).length := by simp
    simp only [cntR] at hs
    refine Ev.succ ?_
    simp only [laws_markIntSS.l0, ilt hlt, inn, if_true, rdR_mid, Int.toNat_natCast, wnext hlt (by omega)]
    refine Ev.bind (laws_markIntS_ev b hb s (by omega)) ?_
    have e : (A ++ b :: B).set A.length (iotaF s b.length) = (A ++ [iotaF s b.length]) ++ B := by
      rw [List.set_append_right _ _ (Nat.le_refl _)]; simp
    have ih := laws_markIntSS_l B (A ++ [iotaF s b.length]) (s + b.length) (by simp at hl ⊢; omega) (fun r q => hr r (List.mem_cons_of_mem _ q)) (by omega)
    simp only [e]
    have e2 : (A ++ [iotaF s b.length]).length = A.length + 1 := by simp
    rw [e2] at ih
    refine ih.eqv ?_
    simp only [mkRows, cntR, List.append_assoc, List.singleton_append, Nat.add_assoc]
theorem laws_markIntSS_from (m : List (List Int)) (h : Siz m) (s : Nat) (hs : s + cntR m ≤ 4611686018427) {x : Int} (hx : (s : Int) = x) : Ev (fun k => laws_markIntSS.f k m x) (((s + cntR m : Nat) : Int), mkRows s m) := by
  subst hx
  have := laws_markIntSS_l m [] s (by simpa using h.1) h.2 hs
  simpa only [laws_markIntSS.f, List.nil_append, List.length_nil, Int.natCast_zero] using this

theorem laws_heldIntS_l (n : Nat) (hn : n ≤ 1048576) (s : Nat) (hs : s ≤ 4611686018427) : ∀ i, i ≤ n → Ev (fun k => laws_heldIntS.l0 k (iotaF s n) ((s + i : Nat) : Int) (i : Int)) (((s + n : Nat) : Int)) := by
  refine down ?_ ?_
  · refine Ev.succ ?_
    simp only [laws_heldIntS.l0, iotaF_length, nlt (Nat.le_refl n), if_false]
    exact Ev.now _
  · intro i hi ih
    refine Ev.succ ?_
    simp only [laws_heldIntS.l0, iotaF_length, ilt hi, inn, if_true, rd_lt (by rw [iotaF_length]; exact hi : i < (iotaF s n).length), iotaF_get hi, wnext hi (by omega : n ≤ 4611686018427387904), wnext (by omega : s + i < 4611686018427387904) (by omega)]
    exact ih
theorem laws_heldIntS_ev (n : Nat) (hn : n ≤ 1048576) (s : Nat) (hs : s ≤ 4611686018427) : Ev (fun k => laws_heldIntS.f k (iotaF s n) (s : Int)) (((s + n : Nat) : Int)) := by
  have := laws_heldIntS_l n hn s hs 0 (Nat.zero_le _)
  simpa only [laws_heldIntS.f, Int.natCast_zero, Nat.add_zero] using this
theorem laws_heldIntS_from (n : Nat) (hn : n ≤ 1048576) (s : Nat) (hs : s ≤ 4611686018427) {x : Int} (hx : (s : Int) = x) : Ev (fun k => laws_heldIntS.f k (iotaF s n) x) (((s + n : Nat) : Int)) :=
  hx ▸ laws_heldIntS_ev n hn s hs

theorem mkRows_length : ∀ (m : List (List Int)) (s : Nat), (mkRows s m).length = m.length
  | [], _ => rfl
  | r :: t, s => by simp [mkRows, mkRows_length t]
theorem laws_heldIntSS_l : ∀ (B A : List (List Int)) (s : Nat), (A ++ B).length ≤ 1048576 → (∀ r ∈ B, r.length ≤ 1048576) → s + cntR B ≤ 4611686018427 →
    Ev (fun k => laws_heldIntSS.l0 k (A ++ mkRows s B) (s : Int) (A.length : Int)) ((s + cntR B : Nat) : Int)
  | [], A, s, _, _, _ => by
    refine Ev.succ ?_
    simp only [laws_heldIntSS.l0, mkRows, List.append_nil, nlt (Nat.le_refl A.length), if_false, cntR, Nat.add_zero]
    exact Ev.now _
  | b :: B, A, s, hl, hr, hs => by
    have hb := hr b (List.mem_cons_self ..)
    have hlt : A.length < (A ++ iotaF s b.length :: mkRows (s + b.length) B).length := by simp
    have hle : (A ++ iotaF s b.length :: mkRows (s + b.length) B).length ≤ 1048576 := by simp [mkRows_length] at hl ⊢; omega
    simp only [cntR] at hs
    refine Ev.succ ?_
    simp only [laws_heldIntSS.l0, mkRows, ilt hlt, inn, if_true, rdR_mid, wnext hlt (by omega)]
    refine Ev.bind (laws_heldIntS_ev b.length hb s (by omega)) ?_
    simp only [nneg, if_false]
    have ih := laws_heldIntSS_l B (A ++ [iotaF s b.length]) (s + b.length) (by simp at hl ⊢; omega) (fun r q => hr r (List.mem_cons_of_mem _ q)) (by omega)
    have e2 : (A ++ [iotaF s b.length]).length = A.length + 1 := by simp
    rw [e2, List.append_assoc, List.singleton_append] at ih
    refine ih.eqv ?_
    simp only [cntR, Nat.add_assoc]
theorem laws_heldIntSS_from (m : List (List Int)) (h : Siz m) (s : Nat) (hs : s + cntR m ≤ 4611686018427) {x : Int} (hx : (s : Int) = x) : Ev (fun k => laws_heldIntSS.f k (mkRows s m) x) ((s + cntR m : Nat) : Int) := by
  subst hx
  have := laws_heldIntSS_l m [] s (by simpa using h.1) h.2 hs
  simpa only [laws_heldIntSS.f, List.nil_append, List.length_nil, Int.natCast_zero] using this

theorem spec_l1In_e (a b c : Int) : spec_l1In.f a b c = some (wth a b c) := wth_opt a b c

theorem spec_l1All_l (l : List Int) (lo hi : Int) (hl : l.length ≤ 4611686018427387904) : ∀ i, i ≤ l.length → Ev (fun k => spec_l1All.l0 k lo hi l (l.length : Int) (i : Int)) (allW (l.drop i) lo hi) := by
  refine down ?_ ?_
  · refine Ev.succ ?_
    simp only [spec_l1All.l0, nlt (Nat.le_refl l.length), if_false, List.drop_length]
    exact Ev.now _
  · intro i hi ih
    refine Ev.succ ?_
    simp only [spec_l1All.l0, ilt hi, inn, if_true, spec_l1In_e, Option.bind_some, rd_lt hi, wnext hi hl]
    rw [drop_cons hi]
    exact Ev.andS fun _ => ih
theorem spec_l1All_ev (l : List Int) (lo hi : Int) (hl : l.length ≤ 4611686018427387904) : Ev (fun k => spec_l1All.f k l lo hi) (allW l lo hi) := by
  have := spec_l1All_l l lo hi hl 0 (Nat.zero_le _)
  simpa only [spec_l1All.f, List.drop_zero, Int.natCast_zero] using this

theorem spec_plGood_l (m : List (List Int)) (h : Siz m) : ∀ i, i ≤ m.length → Ev (fun k => spec_plGood.l0 k m m (m.length : Int) (i : Int)) ((m.drop i).all (rowOk m.length)) := by
  have hm := h.1
  refine down ?_ ?_
  · refine Ev.succ ?_
    simp only [spec_plGood.l0, nlt (Nat.le_refl m.length), if_false, List.drop_length, List.all_nil]
    exact Ev.now _
  · intro i hi ih
    have hrow : rd_L1 m (i : Int) = m[i] := by simp [rd_L1, List.getD_eq_getElem?_getD, hi]
    refine Ev.succ ?_
    simp only [spec_plGood.l0, ilt hi, inn, if_true, hrow, wnext hi (by omega : m.length ≤ 4611686018427387904)]
    rw [drop_cons hi, List.all_cons]
    by_cases c : m[i].length = m.length
    · have c2 : (m[i].length : Int) = (m.length : Int) := by omega
      simp only [c2, if_true, rowOk, c, decide_true, Bool.true_and]
      exact Ev.and (spec_l1All_ev m[i] 0 60 (by have := h.2 _ (List.getElem_mem hi); omega)) fun _ => ih
    · have c2 : ¬ (m[i].length : Int) = (m.length : Int) := by omega
      simp only [c2, if_false, rowOk, c, decide_false, Bool.false_and]
      exact Ev.now _
theorem spec_plGood_ev (m : List (List Int)) (h : Siz m) : Ev (fun k => spec_plGood.f k m) (planB m) := by
  simp only [spec_plGood.f, spec_l1In_e, Option.bind_some, planB]
  exact Ev.andS fun _ => spec_plGood_l m h 0 (Nat.zero_le _)

theorem spec_liSum_l (l : List Int) (hl : l.length ≤ 4611686018427387904) : ∀ i, i ≤ l.length → ∀ acc, InR acc → Ev (fun k => spec_liSum.l0 k acc l (l.length : Int) (i : Int)) (wrap64 (acc + (l.drop i).sum)) := by
  refine down ?_ ?_
  · intro acc ha
    refine Ev.succ ?_
    simp only [spec_liSum.l0, nlt (Nat.le_refl l.length), if_false, List.drop_length, List.sum_nil, Int.add_zero, wR ha]
    exact Ev.now _
  · intro i hi ih acc ha
    refine Ev.succ ?_
    simp only [spec_liSum.l0, ilt hi, inn, if_true, rd_lt hi, wnext hi hl]
    rw [drop_cons hi, List.sum_cons, ← Int.add_assoc]
    exact (ih _ (inR_wrap _)).eqv (wr_add _ _)
theorem spec_liSum_ev (l : List Int) (hl : l.length ≤ 4611686018427387904) : Ev (fun k => spec_liSum.f k l) (wrap64 l.sum) := by
  have := spec_liSum_l l hl 0 (Nat.zero_le _) 0 inR_0
  simpa only [spec_liSum.f, List.drop_zero, Int.zero_add, Int.natCast_zero] using this
theorem spec_liSum_good {l : List Int} (h : Lst l) : Ev (fun k => spec_liSum.f k l) l.sum :=
  (spec_liSum_ev l (by have := h.2.1; omega)).eqv (w64 (by have := h.sum; omega) (by have := h.sum; omega))

theorem spec_plSums_l1 (m : List (List Int)) (h : Plan m) (o : Nat) (ho : o < m.length) (rows : List Int) (R : List Int × List Int)
    (hk : Ev (fun k => spec_plSums.l0 k rows ((colsUpto m (o + 1)).map List.sum) m (m.length : Int) (wrap64 ((o : Int) + 1))) R) :
    ∀ j, j ≤ m[o].length → ∀ out : List Int, out.length = m.length → out.take j = ((colsUpto m (o + 1)).map List.sum).take j → out.drop j = ((colsUpto m o).map List.sum).drop j → Ev (fun k => spec_plSums.l1 k rows out m (m.length : Int) (o : Int) m[o] (m[o].length : Int) (j : Int)) R := by
  have hm := h.2.1
  have hl := (h.2.2 _ (List.getElem_mem ho)).1
  refine down ?_ ?_
  · intro out hout e1 e2
    refine Ev.succ ?_
    simp only [spec_plSums.l1, nlt (Nat.le_refl m[o].length), if_false]
    rw [hl, ← hout, List.take_length, hout, List.take_of_length_le (by rw [List.length_map, colsUpto_len]; exact Nat.le_refl _)] at e1
    rw [e1]
    exact hk
  · intro j hj ih out hout e1 e2
    have hj2 : j < out.length := by omega
    have hj3 : j < m.length := by omega
    have hc : ∀ q, j < ((colsUpto m q).map List.sum).length := fun q => by rw [List.length_map, colsUpto_len]; exact hj3
    have hx : out[j] = ((m.take o).map fun r => r.getD j 0).sum := by
      rw [drop_cons hj2, drop_cons (hc o)] at e2
      rw [(List.cons.inj e2).1, List.getElem_map, colsUpto_get hj3]
    have hb : 0 ≤ out[j] ∧ out[j] ≤ 480 := by
      rw [hx]
      have := sum_bound (l := (m.take o).map fun r => r.getD j 0) (lo := 0) (hi := 60) (by
        intro z hz
        obtain ⟨r, hr, rfl⟩ := List.mem_map.1 hz
        exact h.getD (List.mem_of_mem_take hr) j)
      rw [List.length_map, List.length_take] at this
      omega
    have hy := (h.2.2 _ (List.getElem_mem ho)).2 _ (List.getElem_mem hj)
    have hn : ((colsUpto m (o + 1)).map List.sum)[j]'(hc (o + 1)) = out[j] + m[o][j] := by
      rw [List.getElem_map, colsUpto_get hj3, hx, List.take_succ_eq_append_getElem ho, List.map_append, List.sum_append]
      simp [List.getD_eq_getElem?_getD, hj]
    refine Ev.succ ?_
    simp only [spec_plSums.l1, ilt hj, ilt hj2, inn, if_true, rd_lt hj, rd_lt hj2, wnext hj (by omega : m[o].length ≤ 4611686018427387904), Int.toNat_natCast]
    rw [w64 (x := out[j] + m[o][j]) (by omega) (by omega)]
    have st := set_takeG ((colsUpto m (o + 1)).map List.sum) out j (hc (o + 1)) (by rw [List.length_map, colsUpto_len]; exact hout) e1
    rw [hn] at st
    refine ih _ (by simpa using hout) st ?_
    rw [List.drop_set_of_lt (by omega)]
    rw [drop_cons hj2, drop_cons (hc o)] at e2
    exact (List.cons.inj e2).2
theorem spec_plSums_l0 (m : List (List Int)) (h : Plan m) : ∀ i, i ≤ m.length → ∀ rows : List Int, rows.length = i → Ev (fun k => spec_plSums.l0 k rows ((colsUpto m i).map List.sum) m (m.length : Int) (i : Int)) (rows ++ (m.drop i).map List.sum, (colsUpto m m.length).map List.sum) := by
  have hm := h.2.1
  refine down ?_ ?_
  · intro rows hr
    refine Ev.succ ?_
    simp only [spec_plSums.l0, nlt (Nat.le_refl m.length), if_false, List.drop_length, List.map_nil, List.append_nil]
    exact Ev.now _
  · intro i hi ih rows hr
    have hrow : rd_L1 m (i : Int) = m[i] := by simp [rd_L1, List.getD_eq_getElem?_getD, hi]
    have hs := h.short _ (List.getElem_mem hi)
    have lim : rows.length < 17592186044416 := by omega
    refine Ev.succ ?_
    simp only [spec_plSums.l0, ilt hi, inn, if_true, hrow]
    refine Ev.bind ((spec_liSum_ev m[i] (by have := hs.1; omega)).eqv (w64 (by have := hs.sum; omega) (by have := hs.sum; omega))) ?_
    simp only [lim, if_true]
    refine spec_plSums_l1 m h i hi _ _ ?_ 0 (Nat.zero_le _) _ (by rw [List.length_map, colsUpto_len]) rfl rfl
    rw [wnext hi (by omega : m.length ≤ 4611686018427387904), drop_cons hi, List.map_cons]
    exact (ih _ (by simp [hr])).eqv (by simp)
theorem spec_plSums_ev (m : List (List Int)) (h : Plan m) : Ev (fun k => spec_plSums.f k m) (m.map List.sum, (colsUpto m m.length).map List.sum) := by
  have hm := h.2.1
  have c1 : m.length ≤ 35184372088832 := by omega
  simp only [spec_plSums.f, inn, Int.toNat_natCast, c1, if_true]
  have := spec_plSums_l0 m h 0 (Nat.zero_le _) [] rfl
  rw [colsUpto_zero, List.map_replicate, List.sum_nil, List.drop_zero, List.nil_append] at this
  exact this

theorem spec_l1Same_l (l m : List Int) (he : m.length = l.length) (hl : l.length ≤ 4611686018427387904) : ∀ i, i ≤ l.length → Ev (fun k => spec_l1Same.l0 k l m (l.length : Int) (i : Int)) (decide (l.drop i = m.drop i)) := by
  refine down ?_ ?_
  · refine Ev.succ ?_
    simp only [spec_l1Same.l0, nlt (Nat.le_refl l.length), if_false, List.drop_length]
    rw [← he, List.drop_length]
    exact Ev.now _
  · intro i hi ih
    refine Ev.succ ?_
    simp only [spec_l1Same.l0, ilt hi, inn, if_true, he, rd_lt hi, rd_lt (he ▸ hi : i < m.length), wnext hi hl]
    rw [drop_cons hi, drop_cons (he ▸ hi : i < m.length)]
    by_cases hx : l[i] = m[i]
    · simp only [hx, if_true, List.cons.injEq, true_and]
      exact ih
    · simp only [hx, if_false, List.cons.injEq, false_and, decide_false]
      exact Ev.now _
theorem spec_l1Same_ev (l m : List Int) (hl : l.length ≤ 4611686018427387904) : Ev (fun k => spec_l1Same.f k l m) (decide (l = m)) := by
  simp only [spec_l1Same.f]
  by_cases he : (l.length : Int) = (m.length : Int)
  · simp only [he, if_true]
    have := spec_l1Same_l l m (by omega) hl 0 (Nat.zero_le _)
    rw [he] at this
    exact this
  · simp only [he, if_false]
    rw [decide_eq_false (fun h => he (by rw [h]))]
    exact Ev.now _

theorem spec_plEmpty_l0 (n : Nat) (hn : n ≤ 1048576) : ∀ i, i ≤ n → Ev (fun k => spec_plEmpty.l0 k (n : Int) (List.replicate i (List.replicate n 0)) (i : Int)) (zerosP n n) := by
  refine down ?_ ?_
  · refine Ev.succ ?_
    simp only [spec_plEmpty.l0, nlt (Nat.le_refl n), if_false]
    exact Ev.now _
  · intro i hi ih
    have c1 : n ≤ 35184372088832 := by omega
    have c2 : (List.replicate i (List.replicate n (0 : Int))).length < 5864062014805 := by rw [List.length_replicate]; omega
    refine Ev.succ ?_
    simp only [spec_plEmpty.l0, ilt hi, inn, if_true, Int.toNat_natCast, c1, c2, wnext hi (by omega : n ≤ 4611686018427387904), ← List.replicate_succ']
    exact ih
theorem spec_plEmpty_ev (n : Nat) (hn : n ≤ 1048576) : Ev (fun k => spec_plEmpty.f k (n : Int)) (zerosP n n) := by
  have := spec_plEmpty_l0 n hn 0 (Nat.zero_le _)
  simpa only [spec_plEmpty.f, List.replicate_zero, Int.natCast_zero] using this

theorem spec_plColumn_l0 (m : List (List Int)) (h : Plan m) (c : Nat) (hc : c < m.length) : ∀ i, i ≤ m.length → Ev (fun k => spec_plColumn.l0 k (c : Int) ((m.take i).map fun r => r.getD c 0) m (m.length : Int) (i : Int)) (m.map fun r => r.getD c 0) := by
  have hm := h.2.1
  refine down ?_ ?_
  · refine Ev.succ ?_
    simp only [spec_plColumn.l0, nlt (Nat.le_refl m.length), if_false, List.take_length]
    exact Ev.now _
  · intro i hi ih
    have hrow : rd_L1 m (i : Int) = m[i] := by simp [rd_L1, List.getD_eq_getElem?_getD, hi]
    have hl := (h.2.2 _ (List.getElem_mem hi)).1
    have hc2 : c < m[i].length := by omega
    have lim : ((m.take i).map fun r => r.getD c 0).length < 17592186044416 := by rw [List.length_map, List.length_take]; omega
    refine Ev.succ ?_
    simp only [spec_plColumn.l0, ilt hi, ilt hc2, inn, if_true, hrow, lim, rd_get, wnext hi (by omega : m.length ≤ 4611686018427387904)]
    have e : (m.take (i + 1)).map (fun r => r.getD c 0) = (m.take i).map (fun r => r.getD c 0) ++ [m[i].getD c 0] := by
      rw [List.take_succ_eq_append_getElem hi, List.map_append]; rfl
    rw [← e]
    exact ih
theorem spec_plColumn_ev (m : List (List Int)) (h : Plan m) (c : Nat) (hc : c < m.length) : Ev (fun k => spec_plColumn.f k m (c : Int)) (m.map fun r => r.getD c 0) := by
  have := spec_plColumn_l0 m h c hc 0 (Nat.zero_le _)
  simpa only [spec_plColumn.f, List.take_zero, List.map_nil, Int.natCast_zero] using this

theorem spec_l1Own_e (l : List Int) (hl : l.length < 17592186044416) : spec_l1Own.f l = some l := by
  simp only [spec_l1Own.f, Option.bind_some, List.nil_append, List.length_nil, Nat.zero_add, hl, if_true]

theorem spec_l1Least_e (a b : Int) : spec_l1Least.f a b = some (min a b) := by
  unfold spec_l1Least.f
  by_cases h : a < b
  · rw [if_pos h, show min a b = a by omega]
  · rw [if_neg h, show min a b = b by omega]

theorem spec_plMonotone_l0 : ∀ (d : Nat) (m : List (List Int)) (a b : List Int) (i j : Nat), (a.length - i) + (b.length - j) < d → i ≤ a.length → j ≤ b.length → a.length ≤ 1048576 → b.length ≤ 1048576 → Shp m a.length b.length → Ev (fun k => spec_plMonotone.l0 (a.length : Int) (b.length : Int) k m a b (i : Int) (j : Int)) (carryN d m a b i j)
  | 0, _, _, _, _, _, h, _, _, _, _, _ => by omega
  | d + 1, m, a, b, i, j, h, hi, hj, ha, hb, hs => by
    unfold carryN
    refine Ev.succ ?_
    by_cases c1 : i < a.length
    · by_cases c2 : j < b.length
      · have r1 : i < m.length := by rw [hs.1]; exact c1
        have hrow : rd_L1 m (i : Int) = m.getD i [] := by simp [rd_L1]
        have hl := hs.row c1
        have r2 : j < (m.getD i []).length := by rw [hl]; exact c2
        have hs2 : Shp (m.set i ((m.getD i []).set j (wrap64 ((m.getD i []).getD j 0 + min (a.getD i 0) (b.getD j 0))))) a.length b.length := hs.set (by rw [List.length_set]; exact hl)
        rw [if_pos ⟨c1, c2⟩]
        simp only [spec_plMonotone.l0, ilt c1, ilt c2, inn, if_true, hrow, ilt r1, ilt r2, rd_get, Int.toNat_natCast, spec_l1Least_e, Option.bind_some, wnext c1 (by omega : a.length ≤ 4611686018427387904), wnext c2 (by omega : b.length ≤ 4611686018427387904)]
        by_cases c3 : (a.set i (wrap64 (a.getD i 0 - min (a.getD i 0) (b.getD j 0)))).getD i 0 = 0
        · simp only [c3, if_true]
          have := spec_plMonotone_l0 d (m.set i ((m.getD i []).set j (wrap64 ((m.getD i []).getD j 0 + min (a.getD i 0) (b.getD j 0))))) (a.set i (wrap64 (a.getD i 0 - min (a.getD i 0) (b.getD j 0)))) (b.set j (wrap64 (b.getD j 0 - min (a.getD i 0) (b.getD j 0)))) (i + 1) j (by simp only [List.length_set]; omega) (by simp only [List.length_set]; omega) (by simp only [List.length_set]; omega) (by simp only [List.length_set]; omega) (by simp only [List.length_set]; omega) (by simp only [List.length_set]; exact hs2)
          simpa only [List.length_set] using this
        · simp only [c3, if_false]
          have := spec_plMonotone_l0 d (m.set i ((m.getD i []).set j (wrap64 ((m.getD i []).getD j 0 + min (a.getD i 0) (b.getD j 0))))) (a.set i (wrap64 (a.getD i 0 - min (a.getD i 0) (b.getD j 0)))) (b.set j (wrap64 (b.getD j 0 - min (a.getD i 0) (b.getD j 0)))) i (j + 1) (by simp only [List.length_set]; omega) (by simp only [List.length_set]; omega) (by simp only [List.length_set]; omega) (by simp only [List.length_set]; omega) (by simp only [List.length_set]; omega) (by simp only [List.length_set]; exact hs2)
          simpa only [List.length_set] using this
      · rw [if_neg (by omega)]
        simp only [spec_plMonotone.l0, ilt c1, nlt (Nat.le_of_not_lt c2), if_true, if_false]
        exact Ev.now _
    · rw [if_neg (by omega)]
      simp only [spec_plMonotone.l0, nlt (Nat.le_of_not_lt c1), if_false]
      exact Ev.now _

theorem spec_plMonotone_ev (a b : List Int) (h : a.length = b.length) (h0 : 0 < a.length) (ha : a.length ≤ 1048576) : Ev (fun k => spec_plMonotone.f k a b) (monoP a b) := by
  simp only [spec_plMonotone.f, spec_l1Own_e a (by omega), spec_l1Own_e b (by omega), Option.bind_some]
  refine Ev.bind (spec_plEmpty_ev a.length ha) ?_
  have hz : 0 < (zerosP a.length a.length).length := by simp [zerosP]; exact h0
  simp only [hz, if_true]
  exact spec_plMonotone_l0 _ (zerosP a.length a.length) a b 0 0 (by omega) (by omega) (by omega) ha (by omega) (h ▸ shp_zeros a.length a.length)

theorem getE {l : List Int} {j : Nat} (h : j < l.length) : l[j] = l.getD j 0 := by simp [List.getD_eq_getElem?_getD, h]
theorem spec_GluePlans_l2 (m : List (List Int)) (n i : Nat) (hml : m.length = n) (hn : n ≤ 1048576) (hi : i < n) (r0 s : List Int) (hr : r0.length = n) (hsl : s.length = n) : ∀ j, j ≤ n → ∀ R : List Int, R.length = n → R.take j = (wadd r0 s).take j → R.drop j = r0.drop j → Ev (fun k => spec_GluePlans.l2 k s (m.set i R) (i : Int) (j : Int)) (m.set i (wadd r0 s)) := by
  have hw : (wadd r0 s).length = n := by rw [wadd_len (by rw [hr, hsl]), hr]
  refine down ?_ ?_
  · intro R hR e1 e2
    refine Ev.succ ?_
    simp only [spec_GluePlans.l2, hsl, nlt (Nat.le_refl n), if_false]
    rw [← hR, List.take_length, hR, List.take_of_length_le (by rw [hw]; exact Nat.le_refl _)] at e1
    rw [e1]
    exact Ev.now _
  · intro j hj ih R hR e1 e2
    have q1 : i < (m.set i R).length := by rw [List.length_set, hml]; exact hi
    have q2 : rd_L1 (m.set i R) (i : Int) = R := by
      have := getD_set_self m i R [] (by rw [hml]; exact hi)
      simpa [rd_L1] using this
    have q3 : j < R.length := by omega
    have q4 : j < s.length := by omega
    have q5 : j < r0.length := by omega
    have q6 : j < (wadd r0 s).length := by omega
    rw [drop_cons q3, drop_cons q5] at e2
    have ej : R.getD j 0 = r0.getD j 0 := by
      rw [← getE q3, ← getE q5]; exact (List.cons.inj e2).1
    have ew : (wadd r0 s)[j] = wrap64 (r0.getD j 0 + s.getD j 0) := by
      rw [getE q6]; exact wadd_getD (by rw [hr, hsl]) q5
    refine Ev.succ ?_
    simp only [spec_GluePlans.l2, hsl, ilt hj, ilt q1, inn, if_true, q2, ilt q3, rd_get, Int.toNat_natCast, ej, wnext hj (by omega : n ≤ 4611686018427387904), List.set_set]
    have st := set_takeG (wadd r0 s) R j q6 (by rw [hR, hw]) e1
    rw [ew] at st
    refine ih _ (by rw [List.length_set]; exact hR) st ?_
    rw [List.drop_set_of_lt (by omega)]
    exact (List.cons.inj e2).2
theorem spec_GluePlans_l1 (m p : List (List Int)) (n : Nat) (hs : Shp m n n) (hp : Shp p n n) (hn : n ≤ 1048576) : ∀ i, i ≤ n → ∀ M : List (List Int), Shp M n n → M.take i = (addT m p).take i → M.drop i = m.drop i → Ev (fun k => spec_GluePlans.l1 k p M (i : Int)) (addT m p) := by
  have hw := addT_shp hs hp
  refine down ?_ ?_
  · intro M hM e1 e2
    refine Ev.succ ?_
    simp only [spec_GluePlans.l1, hp.1, nlt (Nat.le_refl n), if_false]
    rw [← hM.1, List.take_length, hM.1, List.take_of_length_le (by rw [hw.1]; exact Nat.le_refl _)] at e1
    rw [e1]
    exact Ev.now _
  · intro i hi ih M hM e1 e2
    have q1 : i < M.length := by rw [hM.1]; exact hi
    have q2 : i < m.length := by rw [hs.1]; exact hi
    have q3 : i < p.length := by rw [hp.1]; exact hi
    have er : M.getD i [] = m.getD i [] := by
      rw [drop_cons q1, drop_cons q2] at e2
      have := (List.cons.inj e2).1
      rw [List.getD_eq_getElem?_getD, List.getElem?_eq_getElem q1, Option.getD_some, this, List.getD_eq_getElem?_getD, List.getElem?_eq_getElem q2, Option.getD_some]
    have q4 : rd_L1 p (i : Int) = p.getD i [] := by simp [rd_L1]
    refine Ev.succ ?_
    simp only [spec_GluePlans.l1, hp.1, ilt hi, inn, if_true, q4, wnext hi (by omega : n ≤ 4611686018427387904)]
    have hrM := hM.row hi
    have := spec_GluePlans_l2 M n i hM.1 hn hi (M.getD i []) (p.getD i []) hrM (hp.row hi) 0 (Nat.zero_le _) (M.getD i []) hrM rfl rfl
    have es : M.set i (M.getD i []) = M := by
      rw [List.getD_eq_getElem?_getD, List.getElem?_eq_getElem q1]; exact List.set_getElem_self q1
    rw [es] at this
    refine Ev.bind this ?_
    have ew : (addT m p)[i]'(by rw [hw.1]; exact hi) = wadd (M.getD i []) (p.getD i []) := by
      rw [er, ← addT_getD hs hp hi, List.getD_eq_getElem?_getD, List.getElem?_eq_getElem (by rw [hw.1]; exact hi)]; rfl
    have st := set_takeG (addT m p) M i (by rw [hw.1]; exact hi) (by rw [hM.1, hw.1]) e1
    rw [ew] at st
    refine ih _ (hM.set (by rw [wadd_len (by rw [hrM, hp.row hi]), hrM])) st ?_
    rw [List.drop_set_of_lt (by omega)]
    rw [drop_cons q1, drop_cons q2] at e2
    exact (List.cons.inj e2).2
theorem spec_GluePlans_l0 (m n : List (List Int)) (hm : Plan m) (hn : Plan n) (e : n.length = m.length) : ∀ i, i ≤ m.length → Ev (fun k => spec_GluePlans.l0 k m n (glueF m n i) (i : Int)) (glueF m n m.length) := by
  have h8 := hm.2.1
  have h1 := hm.1
  refine down ?_ ?_
  · refine Ev.succ ?_
    simp only [spec_GluePlans.l0, nlt (Nat.le_refl m.length), if_false]
    exact Ev.now _
  · intro i hi ih
    have hn2 : i < n.length := by omega
    have r2 : rd_L1 n (i : Int) = n.getD i [] := by simp [rd_L1]
    have lc : (colOf m i).length = m.length := by simp [colOf]
    have ln : (n.getD i []).length = m.length := by rw [← e]; exact hn.shp.row hn2
    refine Ev.succ ?_
    simp only [spec_GluePlans.l0, ilt hi, ilt hn2, inn, if_true, r2, wnext hi (by omega : m.length ≤ 4611686018427387904)]
    refine Ev.bind (spec_plColumn_ev m hm i hi) ?_
    refine Ev.bind (spec_plMonotone_ev (colOf m i) (n.getD i []) (by omega) (by omega) (by omega)) ?_
    have hp : Shp (monoP (colOf m i) (n.getD i [])) m.length m.length := lc ▸ monoP_shp (colOf m i) (n.getD i [])
    refine Ev.bind (spec_GluePlans_l1 (glueF m n i) _ m.length (glueF_shp m n i) hp (by omega) 0 (Nat.zero_le _) _ (glueF_shp m n i) rfl rfl) ?_
    exact ih
theorem spec_GluePlans_ev (m n : List (List Int)) (h : Siz m) (h2 : Siz n) : Ev (fun k => spec_GluePlans.f k m n) (glueV m n) := by
  simp only [spec_GluePlans.f]
  refine Ev.bind (spec_plGood_ev m h) ?_
  unfold glueV
  cases c : planB m with
  | false => simp only [Bool.false_eq_true, if_false, Bool.false_and]; exact Ev.now _
  | true =>
    simp only [if_true, Bool.true_and]
    refine Ev.bind (spec_plGood_ev n h2) ?_
    cases c2 : planB n with
    | false => simp only [Bool.false_eq_true, if_false, Bool.false_and]; exact Ev.now _
    | true =>
      simp only [if_true, Bool.true_and]
      have hm := planB_iff.1 c
      have hn := planB_iff.1 c2
      have h8 := hm.2.1
      have h1 := hm.1
      have hl := colsUpto_len m m.length
      refine Ev.bind (spec_plSums_ev m hm) ?_
      refine Ev.bind (spec_plSums_ev n hn) ?_
      refine Ev.bind (spec_l1Same_ev _ _ (by rw [List.length_map, hl]; omega)) ?_
      cases c3 : decide ((colsUpto m m.length).map List.sum = n.map List.sum) with
      | false => simp only [Bool.false_eq_true, if_false]; exact Ev.now _
      | true =>
        simp only [if_true]
        have e : n.length = m.length := by
          have := congrArg List.length (of_decide_eq_true c3)
          rw [List.length_map, List.length_map, hl] at this
          exact this.symm
        refine Ev.bind (spec_plEmpty_ev m.length (by omega)) ?_
        have hz : 0 < (zerosP m.length m.length).length := by simp [zerosP]; exact h1
        simp only [hz, if_true]
        refine Ev.bind (spec_GluePlans_l0 m n hm hn e 0 (Nat.zero_le _)) ?_
        refine Ev.bind (spec_plGood_ev _ ((glueF_shp m n m.length).siz (by omega) (by omega))) ?_
        cases c4 : planB (glueF m n m.length) with
        | false => simp only [Bool.false_eq_true, if_false]; exact Ev.now _
        | true => simp only [if_true]; exact Ev.now _

theorem impl_within_e (a b c : Int) : impl_within.f a b c = some (wth a b c) := wth_opt a b c

theorem impl_allWithin_l (l : List Int) (lo hi : Int) (hl : l.length ≤ 4611686018427387904) : ∀ i, i ≤ l.length → Ev (fun k => impl_allWithin.l0 k lo hi l (l.length : Int) (i : Int)) (allW (l.drop i) lo hi) := by
  refine down ?_ ?_
  · refine Ev.succ ?_
    simp only [impl_allWithin.l0, nlt (Nat.le_refl l.length), if_false, List.drop_length]
    exact Ev.now _
  · intro i hi ih
    refine Ev.succ ?_
    simp only [impl_allWithin.l0, ilt hi, inn, if_true, impl_within_e, Option.bind_some, rd_lt hi, wnext hi hl]
    rw [drop_cons hi]
    exact Ev.andS fun _ => ih
theorem impl_allWithin_ev (l : List Int) (lo hi : Int) (hl : l.length ≤ 4611686018427387904) : Ev (fun k => impl_allWithin.f k l lo hi) (allW l lo hi) := by
  have := impl_allWithin_l l lo hi hl 0 (Nat.zero_le _)
  simpa only [impl_allWithin.f, List.drop_zero, Int.natCast_zero] using this

theorem impl_isPlan_row_ev (n : Nat) (l : List Int) (hl : l.length ≤ 1048576) : Ev (fun k => impl_isPlan.row k n l) (!rowOk n l) := by
  simp only [impl_isPlan.row, rowOk]
  by_cases c : l.length = n
  · simp only [c, if_true, decide_true, Bool.true_and]
    exact Ev.ret (f := fun t => !t) (impl_allWithin_ev l 0 60 (by omega))
  · simp only [c, if_false, decide_false, Bool.false_and, Bool.not_false]
    exact Ev.now _
theorem impl_isPlan_l (m : List (List Int)) (h : Siz m) : ∀ i, i ≤ m.length → ∃ j : Int, Ev (fun k => impl_isPlan.l0 k m (i : Int)) j ∧ decide (j ≥ 0) = !((m.drop i).all (rowOk m.length)) := by
  have hm := h.1
  refine down ?_ ?_
  · refine ⟨-1, ?_, by simp⟩
    refine Ev.succ ?_
    simp only [impl_isPlan.l0, nlt (Nat.le_refl m.length), if_false]
    exact Ev.now _
  · intro i hi ⟨j, ih, hj⟩
    have hg : rd_L1 m (i : Int) = m[i] := by simp [rd_L1, List.getD_eq_getElem?_getD, hi]
    have hb := impl_isPlan_row_ev m.length m[i] (h.2 _ (List.getElem_mem hi))
    cases c : rowOk m.length m[i] with
    | true =>
      refine ⟨j, ?_, by rw [hj, drop_cons hi, List.all_cons, c, Bool.true_and]⟩
      rw [c] at hb
      refine Ev.succ ?_
      simp only [impl_isPlan.l0, ilt hi, inn, if_true, hg, wnext hi (by omega : m.length ≤ 4611686018427387904)]
      refine Ev.bind hb ?_
      simp only [Bool.not_true, Bool.false_eq_true, if_false]
      exact ih
    | false =>
      refine ⟨(i : Int), ?_, by rw [drop_cons hi, List.all_cons, c, Bool.false_and]; simp⟩
      rw [c] at hb
      refine Ev.succ ?_
      simp only [impl_isPlan.l0, ilt hi, inn, if_true, hg]
      refine Ev.bind hb ?_
      simp only [Bool.not_false, if_true]
      exact Ev.now _
theorem impl_isPlan_ev (m : List (List Int)) (h : Siz m) : Ev (fun k => impl_isPlan.f k m) (planB m) := by
  simp only [impl_isPlan.f, impl_within_e, Option.bind_some, planB]
  refine Ev.andS fun _ => ?_
  obtain ⟨j, hE, hj⟩ := impl_isPlan_l m h 0 (Nat.zero_le _)
  refine (Ev.ret (f := fun j : Int => !decide (j ≥ 0)) hE).eqv ?_
  rw [hj, Bool.not_not, List.drop_zero]

theorem impl_turn_l1 (m : List (List Int)) (h : Plan m) (o : Nat) (ho : o < m.length) (R : List (List Int))
    (hk : Ev (fun k => impl_turn.l0 k (colsUpto m (o + 1)) m (m.length : Int) (wrap64 ((o : Int) + 1))) R) :
    ∀ j, j ≤ m[o].length → ∀ out : List (List Int), out.length = m.length → out.take j = (colsUpto m (o + 1)).take j → out.drop j = (colsUpto m o).drop j → Ev (fun k => impl_turn.l1 k out m (m.length : Int) (o : Int) m[o] (m[o].length : Int) (j : Int)) R := by
  have hm := h.2.1
  have hl := (h.2.2 _ (List.getElem_mem ho)).1
  refine down ?_ ?_
  · intro out hout e1 e2
    refine Ev.succ ?_
    simp only [impl_turn.l1, nlt (Nat.le_refl m[o].length), if_false]
    rw [hl, ← hout, List.take_length, hout, List.take_of_length_le (by rw [colsUpto_len]; exact Nat.le_refl _)] at e1
    rw [e1]
    exact hk
  · intro j hj ih out hout e1 e2
    have hj2 : j < out.length := by omega
    have hj3 : j < m.length := by omega
    have hrow : rd_L1 out (j : Int) = out[j] := by simp [rd_L1, List.getD_eq_getElem?_getD, hj2]
    have hx : out[j] = (m.take o).map fun r => r.getD j 0 := by
      rw [drop_cons hj2, drop_cons (l := colsUpto m o) (by rw [colsUpto_len]; exact hj3)] at e2
      rw [(List.cons.inj e2).1, colsUpto_get hj3]
    have lim : out[j].length < 17592186044416 := by rw [hx, List.length_map, List.length_take]; omega
    have hn : (colsUpto m (o + 1))[j]'(by rw [colsUpto_len]; exact hj3) = out[j] ++ [m[o][j]] := by
      rw [colsUpto_get hj3, hx, List.take_succ_eq_append_getElem ho, List.map_append]
      simp [List.getD_eq_getElem?_getD, hj]
    refine Ev.succ ?_
    simp only [impl_turn.l1, ilt hj, ilt hj2, inn, if_true, rd_lt hj, hrow, lim, wnext hj (by omega : m[o].length ≤ 4611686018427387904), Int.toNat_natCast]
    have st := set_takeG (colsUpto m (o + 1)) out j (by rw [colsUpto_len]; exact hj3) (by rw [colsUpto_len]; exact hout) e1
    rw [hn] at st
    refine ih _ (by simpa using hout) st ?_
    rw [List.drop_set_of_lt (by omega)]
    rw [drop_cons hj2, drop_cons (l := colsUpto m o) (by rw [colsUpto_len]; exact hj3)] at e2
    exact (List.cons.inj e2).2
theorem impl_turn_l0 (m : List (List Int)) (h : Plan m) : ∀ i, i ≤ m.length → Ev (fun k => impl_turn.l0 k (colsUpto m i) m (m.length : Int) (i : Int)) (colsUpto m m.length) := by
  have hm := h.2.1
  refine down ?_ ?_
  · refine Ev.succ ?_
    simp only [impl_turn.l0, nlt (Nat.le_refl m.length), if_false]
    exact Ev.now _
  · intro i hi ih
    have hrow : rd_L1 m (i : Int) = m[i] := by simp [rd_L1, List.getD_eq_getElem?_getD, hi]
    refine Ev.succ ?_
    simp only [impl_turn.l0, ilt hi, inn, if_true, hrow]
    refine impl_turn_l1 m h i hi _ ?_ 0 (Nat.zero_le _) _ (colsUpto_len _ _) rfl rfl
    rw [wnext hi (by omega : m.length ≤ 4611686018427387904)]
    exact ih
theorem impl_turn_ev (m : List (List Int)) (h : Plan m) : Ev (fun k => impl_turn.f k m) (colsUpto m m.length) := by
  have h0 : 0 < m.length := h.1
  have hrow : rd_L1 m 0 = m[0] := by simp [rd_L1, List.getD_eq_getElem?_getD, h0]
  have hl := (h.2.2 _ (List.getElem_mem h0)).1
  have hm := h.2.1
  have c0 : 0 < (m.length : Int) := by omega
  have c1 : m.length ≤ 11728124029610 := by omega
  simp only [impl_turn.f, hrow, hl, c0, inn, Int.toNat_natCast, c1, if_true]
  have := impl_turn_l0 m h 0 (Nat.zero_le _)
  rw [colsUpto_zero] at this
  exact this

theorem impl_total_l (l : List Int) (hl : l.length ≤ 4611686018427387904) : ∀ i, i ≤ l.length → ∀ acc, InR acc → Ev (fun k => impl_total.l0 k acc l (l.length : Int) (i : Int)) (wrap64 (acc + (l.drop i).sum)) := by
  refine down ?_ ?_
  · intro acc ha
    refine Ev.succ ?_
    simp only [impl_total.l0, nlt (Nat.le_refl l.length), if_false, List.drop_length, List.sum_nil, Int.add_zero, wR ha]
    exact Ev.now _
  · intro i hi ih acc ha
    refine Ev.succ ?_
    simp only [impl_total.l0, ilt hi, inn, if_true, rd_lt hi, wnext hi hl]
    rw [drop_cons hi, List.sum_cons, ← Int.add_assoc]
    exact (ih _ (inR_wrap _)).eqv (wr_add _ _)
theorem impl_total_ev (l : List Int) (hl : l.length ≤ 4611686018427387904) : Ev (fun k => impl_total.f k l) (wrap64 l.sum) := by
  have := impl_total_l l hl 0 (Nat.zero_le _) 0 inR_0
  simpa only [impl_total.f, List.drop_zero, Int.zero_add, Int.natCast_zero] using this
theorem impl_total_good {l : List Int} (h : Lst l) : Ev (fun k => impl_total.f k l) l.sum :=
  (impl_total_ev l (by have := h.2.1; omega)).eqv (w64 (by have := h.sum; omega) (by have := h.sum; omega))

theorem impl_rowSums_l (m : List (List Int)) (hm : m.length ≤ 8) (h : ∀ r ∈ m, Short r) : ∀ i, i ≤ m.length → ∀ out : List Int, out.length = i → Ev (fun k => impl_rowSums.l0 k out m (m.length : Int) (i : Int)) (out ++ (m.drop i).map List.sum) := by
  refine down ?_ ?_
  · intro out ho
    refine Ev.succ ?_
    simp only [impl_rowSums.l0, nlt (Nat.le_refl m.length), if_false, List.drop_length, List.map_nil, List.append_nil]
    exact Ev.now _
  · intro i hi ih out ho
    have hrow : rd_L1 m (i : Int) = m[i] := by simp [rd_L1, List.getD_eq_getElem?_getD, hi]
    have c : out.length < 17592186044416 := by omega
    have hs := h _ (List.getElem_mem hi)
    refine Ev.succ ?_
    simp only [impl_rowSums.l0, ilt hi, inn, if_true, hrow, wnext hi (by omega : m.length ≤ 4611686018427387904)]
    refine Ev.bind ((impl_total_ev m[i] (by have := hs.1; omega)).eqv (w64 (by have := hs.sum; omega) (by have := hs.sum; omega))) ?_
    simp only [c, if_true]
    rw [drop_cons hi, List.map_cons]
    exact (ih _ (by simp [ho])).eqv (by simp)
theorem impl_rowSums_ev (m : List (List Int)) (hm : m.length ≤ 8) (h : ∀ r ∈ m, Short r) : Ev (fun k => impl_rowSums.f k m) (m.map List.sum) := by
  have := impl_rowSums_l m hm h 0 (Nat.zero_le _) [] rfl
  simpa only [impl_rowSums.f, List.drop_zero, List.nil_append, Int.natCast_zero] using this

theorem slices_Equal_int_int_l (l m : List Int) (he : m.length = l.length) (hl : l.length ≤ 4611686018427387904) : ∀ i, i ≤ l.length → Ev (fun k => slices_Equal_int_int.l0 k l m (l.length : Int) (i : Int)) (decide (l.drop i = m.drop i)) := by
  refine down ?_ ?_
  · refine Ev.succ ?_
    simp only [slices_Equal_int_int.l0, nlt (Nat.le_refl l.length), if_false, List.drop_length]
    rw [← he, List.drop_length]
    exact Ev.now _
  · intro i hi ih
    refine Ev.succ ?_
    simp only [slices_Equal_int_int.l0, ilt hi, inn, if_true, he, rd_lt hi, rd_lt (he ▸ hi : i < m.length), wnext hi hl]
    rw [drop_cons hi, drop_cons (he ▸ hi : i < m.length)]
    by_cases hx : l[i] = m[i]
    · simp only [hx, if_true, List.cons.injEq, true_and]
      exact ih
    · simp only [hx, if_false, List.cons.injEq, false_and, decide_false]
      exact Ev.now _
theorem slices_Equal_int_int_ev (l m : List Int) (hl : l.length ≤ 4611686018427387904) : Ev (fun k => slices_Equal_int_int.f k l m) (decide (l = m)) := by
  simp only [slices_Equal_int_int.f]
  by_cases he : (l.length : Int) = (m.length : Int)
  · simp only [he, if_true]
    have := slices_Equal_int_int_l l m (by omega) hl 0 (Nat.zero_le _)
    rw [he] at this
    exact this
  · simp only [he, if_false]
    rw [decide_eq_false (fun h => he (by rw [h]))]
    exact Ev.now _

theorem impl_GluePlans_1_e (a b : Int) : impl_GluePlans_1.f a b = some 0 := rfl
theorem impl_square_l1 (n : Nat) (hn : n ≤ 1048576) (o : Nat) (ho : o < n) (R : List (List Int)) (hk : Ev (fun k => impl_square.l0 k (n : Int) (List.replicate (o + 1) (List.replicate n 0)) (n : Int) ((o + 1 : Nat) : Int)) R) :
    ∀ j, j ≤ n → Ev (fun k => impl_square.l1 k (n : Int) (List.replicate o (List.replicate n 0)) (o : Int) (List.replicate j 0) (n : Int) (o : Int) (n : Int) (j : Int)) R := by
  refine down ?_ ?_
  · have c2 : (List.replicate o (List.replicate n (0 : Int))).length < 5864062014805 := by rw [List.length_replicate]; omega
    refine Ev.succ ?_
    simp only [impl_square.l1, nlt (Nat.le_refl n), if_false, c2, if_true, ← List.replicate_succ', wnext ho (by omega : n ≤ 4611686018427387904)]
    exact hk
  · intro j hj ih
    have c2 : (List.replicate j (0 : Int)).length < 17592186044416 := by rw [List.length_replicate]; omega
    refine Ev.succ ?_
    simp only [impl_square.l1, ilt hj, if_true, impl_GluePlans_1_e, Option.bind_some, c2, ← List.replicate_succ', wnext hj (by omega : n ≤ 4611686018427387904)]
    exact ih
theorem impl_square_l0 (n : Nat) (hn : n ≤ 1048576) : ∀ i, i ≤ n → Ev (fun k => impl_square.l0 k (n : Int) (List.replicate i (List.replicate n 0)) (n : Int) (i : Int)) (zerosP n n) := by
  refine down ?_ ?_
  · refine Ev.succ ?_
    simp only [impl_square.l0, nlt (Nat.le_refl n), if_false]
    exact Ev.now _
  · intro i hi ih
    refine Ev.succ ?_
    simp only [impl_square.l0, ilt hi, if_true]
    exact impl_square_l1 n hn i hi _ ih 0 (Nat.zero_le _)
theorem impl_square_ev (n : Nat) (hn : n ≤ 1048576) (z : Int) : Ev (fun k => impl_square.f k (n : Int) z) (zerosP n n) := by
  have := impl_square_l0 n hn 0 (Nat.zero_le _)
  simpa only [impl_square.f, List.replicate_zero, Int.natCast_zero] using this

theorem slices_Clone_int_int_e (l : List Int) (hl : l.length < 17592186044416) : slices_Clone_int_int.f l = some l := by
  simp only [slices_Clone_int_int.f, Option.bind_some, List.nil_append, List.length_nil, Nat.zero_add, hl, if_true]

theorem impl_GluePlans_l0 : ∀ (d : Nat) (m : List (List Int)) (a b : List Int) (i j : Nat), (a.length - i) + (b.length - j) < d → i ≤ a.length → j ≤ b.length → a.length ≤ 1048576 → b.length ≤ 1048576 → Shp m a.length b.length → Ev (fun k => impl_GluePlans.l0  k m a b (i : Int) (j : Int)) (carryN d m a b i j)
  | 0, _, _, _, _, _, h, _, _, _, _, _ => by omega
  | d + 1, m, a, b, i, j, h, hi, hj, ha, hb, hs => by
    unfold carryN
    refine Ev.succ ?_
    by_cases c1 : i < a.length
    · by_cases c2 : j < b.length
      · have r1 : i < m.length := by rw [hs.1]; exact c1
        have hrow : rd_L1 m (i : Int) = m.getD i [] := by simp [rd_L1]
        have hl := hs.row c1
        have r2 : j < (m.getD i []).length := by rw [hl]; exact c2
        have hs2 : Shp (m.set i ((m.getD i []).set j (wrap64 ((m.getD i []).getD j 0 + min (a.getD i 0) (b.getD j 0))))) a.length b.length := hs.set (by rw [List.length_set]; exact hl)
        rw [if_pos ⟨c1, c2⟩]
        simp only [impl_GluePlans.l0, ilt c1, ilt c2, inn, if_true, hrow, ilt r1, ilt r2, rd_get, Int.toNat_natCast, mn_eq, wnext c1 (by omega : a.length ≤ 4611686018427387904), wnext c2 (by omega : b.length ≤ 4611686018427387904)]
        by_cases c3 : (a.set i (wrap64 (a.getD i 0 - min (a.getD i 0) (b.getD j 0)))).getD i 0 = 0
        · simp only [c3, if_true]
          have := impl_GluePlans_l0 d (m.set i ((m.getD i []).set j (wrap64 ((m.getD i []).getD j 0 + min (a.getD i 0) (b.getD j 0))))) (a.set i (wrap64 (a.getD i 0 - min (a.getD i 0) (b.getD j 0)))) (b.set j (wrap64 (b.getD j 0 - min (a.getD i 0) (b.getD j 0)))) (i + 1) j (by simp only [List.length_set]; omega) (by simp only [List.length_set]; omega) (by simp only [List.length_set]; omega) (by simp only [List.length_set]; omega) (by simp only [List.length_set]; omega) (by simp only [List.length_set]; exact hs2)
          simpa only [List.length_set] using this
        · simp only [c3, if_false]
          have := impl_GluePlans_l0 d (m.set i ((m.getD i []).set j (wrap64 ((m.getD i []).getD j 0 + min (a.getD i 0) (b.getD j 0))))) (a.set i (wrap64 (a.getD i 0 - min (a.getD i 0) (b.getD j 0)))) (b.set j (wrap64 (b.getD j 0 - min (a.getD i 0) (b.getD j 0)))) i (j + 1) (by simp only [List.length_set]; omega) (by simp only [List.length_set]; omega) (by simp only [List.length_set]; omega) (by simp only [List.length_set]; omega) (by simp only [List.length_set]; omega) (by simp only [List.length_set]; exact hs2)
          simpa only [List.length_set] using this
      · rw [if_neg (by omega)]
        simp only [impl_GluePlans.l0, ilt c1, nlt (Nat.le_of_not_lt c2), if_true, if_false]
        exact Ev.now _
    · rw [if_neg (by omega)]
      simp only [impl_GluePlans.l0, nlt (Nat.le_of_not_lt c1), if_false]
      exact Ev.now _

theorem impl_GluePlans_l1 (m n : List (List Int)) (hm : Plan m) (hn : Plan n) (e : n.length = m.length) : ∀ i, i ≤ m.length → Ev (fun k => impl_GluePlans.l1 k (colsUpto m m.length) n (glueF m n i) (i : Int)) (glueF m n m.length) := by
  have h8 := hm.2.1
  have hl := colsUpto_len m m.length
  refine down ?_ ?_
  · refine Ev.succ ?_
    simp only [impl_GluePlans.l1, hl, nlt (Nat.le_refl m.length), if_false]
    exact Ev.now _
  · intro i hi ih
    have hn2 : i < n.length := by omega
    have r1 : rd_L1 (colsUpto m m.length) (i : Int) = colOf m i := by
      have : (colsUpto m m.length).getD i [] = colOf m i := by
        rw [List.getD_eq_getElem?_getD, List.getElem?_eq_getElem (by rw [hl]; exact hi), Option.getD_some, colsUpto_get hi, List.take_length]; rfl
      simpa [rd_L1] using this
    have r2 : rd_L1 n (i : Int) = n.getD i [] := by simp [rd_L1]
    have lc : (colOf m i).length = m.length := by simp [colOf]
    have ln : (n.getD i []).length = m.length := by rw [← e]; exact hn.shp.row hn2
    refine Ev.succ ?_
    simp only [impl_GluePlans.l1, hl, ilt hi, ilt hn2, inn, if_true, r1, r2, wnext hi (by omega : m.length ≤ 4611686018427387904)]
    simp only [impl_GluePlans.c, slices_Clone_int_int_e (colOf m i) (by omega), slices_Clone_int_int_e (n.getD i []) (by omega), Option.bind_some]
    refine Ev.bind (impl_GluePlans_l0 ((colOf m i).length + (n.getD i []).length + 1) (glueF m n i) (colOf m i) (n.getD i []) 0 0 (by omega) (by omega) (by omega) (by omega) (by omega) (by rw [lc, ln]; exact glueF_shp m n i)) ?_
    rw [carryN_addT lc ln (glueF_shp m n i) (glueF_inR m n i)]
    exact ih
theorem impl_GluePlans_ev (m n : List (List Int)) (h : Siz m) (h2 : Siz n) : Ev (fun k => impl_GluePlans.f k m n) (glueV m n) := by
  simp only [impl_GluePlans.f]
  refine Ev.bind (impl_isPlan_ev m h) ?_
  unfold glueV
  cases c : planB m with
  | false => simp only [Bool.false_eq_true, if_false, Bool.false_and]; exact Ev.now _
  | true =>
    simp only [if_true, Bool.true_and]
    refine Ev.bind (impl_isPlan_ev n h2) ?_
    cases c2 : planB n with
    | false => simp only [Bool.false_eq_true, if_false, Bool.false_and]; exact Ev.now _
    | true =>
      simp only [if_true, Bool.true_and]
      have hm := planB_iff.1 c
      have hn := planB_iff.1 c2
      have h8 := hm.2.1
      have h1 := hm.1
      have hl := colsUpto_len m m.length
      refine Ev.bind (impl_turn_ev m hm) ?_
      refine Ev.bind (impl_rowSums_ev _ (by rw [hl]; exact h8) hm.colsShort) ?_
      refine Ev.bind (impl_rowSums_ev n hn.2.1 hn.short) ?_
      refine Ev.bind (slices_Equal_int_int_ev _ _ (by rw [List.length_map, hl]; omega)) ?_
      cases c3 : decide ((colsUpto m m.length).map List.sum = n.map List.sum) with
      | false => simp only [Bool.false_eq_true, if_false]; exact Ev.now _
      | true =>
        simp only [if_true]
        have e : n.length = m.length := by
          have := congrArg List.length (of_decide_eq_true c3)
          rw [List.length_map, List.length_map, hl] at this
          exact this.symm
        refine Ev.bind (impl_square_ev m.length (by omega) 0) ?_
        have hz : 0 < (zerosP m.length m.length).length := by simp [zerosP]; exact h1
        simp only [hz, if_true]
        refine Ev.bind (impl_GluePlans_l1 m n hm hn e 0 (Nat.zero_le _)) ?_
        refine Ev.bind (impl_isPlan_ev _ ((glueF_shp m n m.length).siz (by omega) (by omega))) ?_
        cases c4 : planB (glueF m n m.length) with
        | false => simp only [Bool.false_eq_true, if_false]; exact Ev.now _
        | true => simp only [if_true]; exact Ev.now _

theorem glue_siz (m n : List (List Int)) : Siz (glueV m n).1 := by
  unfold glueV
  split
  · rename_i e
    rw [Bool.and_eq_true] at e
    have h := (planB_iff.1 e.1).2.1
    split
    · exact (glueF_shp m n m.length).siz (by omega) (by omega)
    · exact ⟨by simp, by simp⟩
  · exact ⟨by simp, by simp⟩
theorem FnExactGluePlans_pure (m n : List (List Int)) (hm : m.length ≤ maxLen) (hr : ∀ r ∈ m, r.length ≤ maxLen) (hn : n.length ≤ maxLen) (hs : ∀ r ∈ n, r.length ≤ maxLen) : ∃ k, laws_FnExactGluePlans.f k m n = some true := by
  refine Ev.rounds ?_
  simp only [laws_FnExactGluePlans.f]
  obtain ⟨s, hE, q1, q2, q3⟩ := laws_szIntSS_ev m (by simpa [maxLen] using hm) (by simpa [maxLen] using hr) 1048576 (by omega) (by omega)
  refine Ev.bind hE ?_
  by_cases c : s < 0
  · simp only [c, if_true]; exact Ev.now _
  simp only [c, if_false]
  obtain ⟨s2, hE2, p1, p2, p3⟩ := laws_szIntSS_ev n (by simpa [maxLen] using hn) (by simpa [maxLen] using hs) s (by omega) (by omega)
  refine Ev.bind hE2 ?_
  by_cases c2 : s2 < 0
  · simp only [c2, if_true]; exact Ev.now _
  simp only [c2, if_false]
  have h := q3 (by omega)
  have h2 := p3 (by omega)
  have hg := glue_siz m n
  have t1 := cntR_siz h
  have t2 := cntR_siz hg
  have t3 := cntR_siz h2
  refine Ev.bind (laws_toIntSS_ev m h) ?_
  refine Ev.bind (laws_toIntSS_ev n h2) ?_
  refine Ev.bind (spec_GluePlans_ev m n h h2) ?_
  refine Ev.bind (laws_toIntSS_ev m h) ?_
  refine Ev.bind (laws_toIntSS_ev n h2) ?_
  refine Ev.bind (impl_GluePlans_ev m n h h2) ?_
  generalize hG : glueV m n = g at hg t2 ⊢
  obtain ⟨g, b⟩ := g
  simp only at hg t2
  refine Ev.bind (laws_eqIntSS_self g hg) ?_
  simp only [if_true]
  refine Ev.bind (laws_toIntSS_ev m h) ?_
  refine Ev.bind (laws_eqIntSS_self m h) ?_
  simp only [if_true]
  refine Ev.bind (laws_toIntSS_ev n h2) ?_
  refine Ev.bind (laws_eqIntSS_self n h2) ?_
  simp only [if_true]
  refine Ev.bind (laws_markIntSS_from m h 1 (by omega) rfl) ?_
  refine Ev.bind (laws_markIntSS_from n h2 (1 + cntR m) (by omega) rfl) ?_
  simp only [nneg, if_false]
  refine Ev.bind (laws_eqIntSS_self g hg) ?_
  simp only [if_true]
  refine Ev.bind (laws_markIntSS_from g hg 1 (by omega) rfl) ?_
  refine Ev.bind (laws_heldIntSS_from g hg 1 (by omega) rfl) ?_
  simp only [nneg, if_false, if_true]
  refine Ev.bind (laws_toIntSS_ev m h) ?_
  refine Ev.bind (laws_toIntSS_ev n h2) ?_
  refine Ev.bind ((impl_GluePlans_ev m n h h2).eqv hG) ?_
  simp only
  refine Ev.bind (laws_eqIntSS_self g hg) ?_
  simp only [if_true]
  refine Ev.bind (laws_heldIntSS_from g hg 1 (by omega) rfl) ?_
  simp only [nneg, if_false, if_true]
  exact Ev.now _

end Go.Proofs.Ytbnlfhdjcpegkaa.Pure
