/- The program's Uncross returns what the reference's returns, for all arguments; the printed functions' own bounds on lengths are the only conditions. -/
import Derived.Test.YtbnlfhdjcpegkaaPFnExactUncrossx9
import Derived.Test.YtbnlfhdjcpegkaaMathP
namespace Go.Proofs.Ytbnlfhdjcpegkaa.Pure
open Go.RowKit Go.Proofs.Ytbnlfhdjcpegkaa.PFnExactUncross Go.Proofs.YtbnlfhdjcpegkaaW.PrintWords Go.Proofs.YtbnlfhdjcpegkaaW.PrintLast Go.Proofs.YtbnlfhdjcpegkaaW.PrintMore Go.Proofs.Ytbnlfhdjcpegkaa.Math
set_option linter.unusedVariables false
set_option linter.unusedSimpArgs false
set_option linter.unusedSectionVars false

theorem laws_szIntS_e (l : List Int) (a : Int) (h0 : -1 ≤ a) (h1 : a ≤ 1048576) (hl : l.length ≤ 9223372036854775807) : laws_szIntS.f l a = some (if a - l.length < 0 then -1 else a - l.length) := by
  unfold laws_szIntS.f
  rw [w64 (x := a - (l.length : Int)) (by omega) (by omega)]
  split <;> rfl

/-- What is left of a room is told; if it is not negative, all rows are short. -/
theorem laws_szIntSS_l (m : List (List Int)) (hm : m.length ≤ 1048576) (hr : ∀ r ∈ m, r.length ≤ 9223372036854775807) : ∀ i, i ≤ m.length → ∀ a : Int, 0 ≤ a → a ≤ 1048576 → ∃ r, Ev (fun k => laws_szIntSS.l0 k m a (i : Int)) r ∧ -1 ≤ r ∧ r ≤ a ∧ (0 ≤ r → ∀ x ∈ m.drop i, x.length ≤ 1048576) := by
  refine down ?_ ?_
  · intro a h0 h1
    refine ⟨a, ?_, by omega, by omega, fun _ x hx => by rw [List.drop_length] at hx; cases hx⟩
    refine Ev.succ ?_
    simp only [laws_szIntSS.l0, nlt (Nat.le_refl m.length), if_false]
    exact Ev.now _
  · intro i hi ih a h0 h1
    have hrow : rd_L1 m (i : Int) = m[i] := by simp [rd_L1, List.getD_eq_getElem?_getD, hi]
    have hq := hr m[i] (List.getElem_mem hi)
    by_cases c : a - (m[i].length : Int) < 0
    · refine ⟨-1, ?_, by omega, by omega, fun h => by omega⟩
      refine Ev.succ ?_
      simp only [laws_szIntSS.l0, ilt hi, inn, if_true, hrow, laws_szIntS_e m[i] a (by omega) h1 hq, c, Option.bind_some, (by decide : (-1 : Int) < 0)]
      exact Ev.now _
    · obtain ⟨r, hE, q1, q2, q3⟩ := ih (a - m[i].length) (by omega) (by omega)
      refine ⟨r, ?_, q1, by omega, fun h x hx => ?_⟩
      · refine Ev.succ ?_
        simp only [laws_szIntSS.l0, ilt hi, inn, if_true, hrow, laws_szIntS_e m[i] a (by omega) h1 hq, c, if_false, Option.bind_some, wnext hi (by omega : m.length ≤ 4611686018427387904)]
        exact hE
      · rw [drop_cons hi] at hx
        rcases List.mem_cons.1 hx with rfl | hx
        · omega
        · exact q3 h x hx
theorem laws_szIntSS_ev (m : List (List Int)) (hm : m.length ≤ 9223372036854775807) (hr : ∀ r ∈ m, r.length ≤ 9223372036854775807) (a : Int) (h0 : 0 ≤ a) (h1 : a ≤ 1048576) : ∃ r, Ev (fun k => laws_szIntSS.f k m a) r ∧ -1 ≤ r ∧ r ≤ a ∧ (0 ≤ r → Siz m) := by
  by_cases c : a - (m.length : Int) < 0
  · refine ⟨-1, ?_, by omega, by omega, fun h => by omega⟩
    simp only [laws_szIntSS.f, w64 (x := a - (m.length : Int)) (by omega) (by omega), c, if_true]
    exact Ev.now _
  · obtain ⟨r, hE, q1, q2, q3⟩ := laws_szIntSS_l m (by omega) hr 0 (Nat.zero_le _) (a - m.length) (by omega) (by omega)
    refine ⟨r, ?_, q1, by omega, fun h => ⟨by omega, fun x hx => q3 h x (by rw [List.drop_zero]; exact hx)⟩⟩
    simp only [laws_szIntSS.f, w64 (x := a - (m.length : Int)) (by omega) (by omega), c, if_false]
    exact hE

theorem laws_toIntS_l (l : List Int) (hl : l.length ≤ 4611686018427387904) : ∀ i, i ≤ l.length → ∀ m : List Int, m.length = l.length → m.take i = l.take i → Ev (fun k => laws_toIntS.l0 k l m (i : Int)) l := by
  refine down ?_ ?_
  · intro m hm h
    refine Ev.succ ?_
    simp only [laws_toIntS.l0, nlt (Nat.le_refl l.length), if_false]
    rw [← hm, List.take_length, hm, List.take_length] at h
    rw [h]
    exact Ev.now _
  · intro i hi ih m hm h
    refine Ev.succ ?_
    simp only [laws_toIntS.l0, ilt hi, inn, if_true, hm, rd_lt hi, wnext hi hl, Int.toNat_natCast]
    exact ih _ (by simpa using hm) (set_take l m i hi hm h)
theorem laws_toIntS_ev (l : List Int) (hl : l.length ≤ 35184372088832) : Ev (fun k => laws_toIntS.f k l) l := by
  have := laws_toIntS_l l (by omega) 0 (Nat.zero_le _) (List.replicate l.length 0) (by simp) (by simp)
  simp only [laws_toIntS.f, inn, if_true, Int.toNat_natCast, hl]
  exact this

theorem laws_toIntSS_l (m : List (List Int)) (h : Siz m) : ∀ i, i ≤ m.length → ∀ q : List (List Int), q.length = m.length → q.take i = m.take i → Ev (fun k => laws_toIntSS.l0 k m q (i : Int)) m := by
  have hm := h.1
  refine down ?_ ?_
  · intro q hq e
    refine Ev.succ ?_
    simp only [laws_toIntSS.l0, nlt (Nat.le_refl m.length), if_false]
    rw [← hq, List.take_length, hq, List.take_length] at e
    rw [e]
    exact Ev.now _
  · intro i hi ih q hq e
    have hrow : rd_L1 m (i : Int) = m[i] := by simp [rd_L1, List.getD_eq_getElem?_getD, hi]
    refine Ev.succ ?_
    simp only [laws_toIntSS.l0, ilt hi, inn, if_true, hrow, hq, wnext hi (by omega : m.length ≤ 4611686018427387904), Int.toNat_natCast]
    refine Ev.bind (laws_toIntS_ev m[i] (by have := h.2 _ (List.getElem_mem hi); omega)) ?_
    exact ih _ (by simpa using hq) (set_takeG m q i hi hq e)
theorem laws_toIntSS_ev (m : List (List Int)) (h : Siz m) : Ev (fun k => laws_toIntSS.f k m) m := by
  have hm := h.1
  have c : m.length ≤ 11728124029610 := by omega
  have := laws_toIntSS_l m h 0 (Nat.zero_le _) (List.replicate m.length []) (by simp) (by simp)
  simp only [laws_toIntSS.f, inn, if_true, Int.toNat_natCast, c]
  exact this

theorem laws_eqIntS_l (l m : List Int) (he : m.length = l.length) (hl : l.length ≤ 4611686018427387904) : ∀ i, i ≤ l.length → Ev (fun k => laws_eqIntS.l0 k l m (i : Int)) (decide (l.drop i = m.drop i)) := by
  refine down ?_ ?_
  · refine Ev.succ ?_
    simp only [laws_eqIntS.l0, nlt (Nat.le_refl l.length), if_false, List.drop_length]
    rw [← he, List.drop_length]
    exact Ev.now _
  · intro i hi ih
    refine Ev.succ ?_
    simp only [laws_eqIntS.l0, ilt hi, inn, if_true, he, rd_lt hi, rd_lt (he ▸ hi : i < m.length), wnext hi hl]
    rw [drop_cons hi, drop_cons (he ▸ hi : i < m.length)]
    by_cases hx : l[i] = m[i]
    · simp only [hx, if_true, List.cons.injEq, true_and]
      exact ih
    · simp only [hx, if_false, List.cons.injEq, false_and, decide_false]
      exact Ev.now _
theorem laws_eqIntS_ev (l m : List Int) (hl : l.length ≤ 4611686018427387904) : Ev (fun k => laws_eqIntS.f k l m) (decide (l = m)) := by
  simp only [laws_eqIntS.f]
  by_cases he : (l.length : Int) = (m.length : Int)
  · simp only [he, if_true]
    exact laws_eqIntS_l l m (by omega) hl 0 (Nat.zero_le _)
  · simp only [he, if_false]
    rw [decide_eq_false (fun h => he (by rw [h]))]
    exact Ev.now _
theorem laws_eqIntS_self (l : List Int) (hl : l.length ≤ 4611686018427387904) : Ev (fun k => laws_eqIntS.f k l l) true := by
  simpa using laws_eqIntS_ev l l hl

theorem laws_eqIntSS_l (m q : List (List Int)) (he : q.length = m.length) (h : Siz m) : ∀ i, i ≤ m.length → Ev (fun k => laws_eqIntSS.l0 k m q (i : Int)) (decide (m.drop i = q.drop i)) := by
  have hm := h.1
  refine down ?_ ?_
  · refine Ev.succ ?_
    simp only [laws_eqIntSS.l0, nlt (Nat.le_refl m.length), if_false, List.drop_length]
    rw [← he, List.drop_length]
    exact Ev.now _
  · intro i hi ih
    have h2 : i < q.length := by omega
    have hrow : rd_L1 m (i : Int) = m[i] := by simp [rd_L1, List.getD_eq_getElem?_getD, hi]
    have hrow2 : rd_L1 q (i : Int) = q[i] := by simp [rd_L1, List.getD_eq_getElem?_getD, h2]
    refine Ev.succ ?_
    simp only [laws_eqIntSS.l0, ilt hi, inn, if_true, he, hrow, hrow2, wnext hi (by omega : m.length ≤ 4611686018427387904)]
    refine Ev.bind (laws_eqIntS_ev m[i] q[i] (by have := h.2 _ (List.getElem_mem hi); omega)) ?_
    rw [drop_cons hi, drop_cons h2]
    by_cases hx : m[i] = q[i]
    · simp only [hx, decide_true, if_true, List.cons.injEq, true_and]
      exact ih
    · simp only [hx, decide_false, Bool.false_eq_true, if_false, List.cons.injEq, false_and]
      exact Ev.now _
theorem laws_eqIntSS_ev (m q : List (List Int)) (h : Siz m) : Ev (fun k => laws_eqIntSS.f k m q) (decide (m = q)) := by
  simp only [laws_eqIntSS.f]
  by_cases he : (m.length : Int) = (q.length : Int)
  · simp only [he, if_true]
    exact laws_eqIntSS_l m q (by omega) h 0 (Nat.zero_le _)
  · simp only [he, if_false]
    rw [decide_eq_false (fun h => he (by rw [h]))]
    exact Ev.now _
theorem laws_eqIntSS_self (m : List (List Int)) (h : Siz m) : Ev (fun k => laws_eqIntSS.f k m m) true := by
  simpa using laws_eqIntSS_ev m m h

theorem laws_markIntS_l (n : Nat) (hn : n ≤ 1048576) (s : Nat) (hs : s ≤ 4611686018427) : ∀ i, i ≤ n → ∀ m : List Int, m.length = n → m.take i = (iotaF s n).take i → Ev (fun k => laws_markIntS.l0 k m ((s + i : Nat) : Int) (i : Int)) (((s + n : Nat) : Int), iotaF s n) := by
  refine down ?_ ?_
  · intro m hm h
    refine Ev.succ ?_
    simp only [laws_markIntS.l0, hm, nlt (Nat.le_refl n), if_false]
    rw [← hm, List.take_length, hm, List.take_of_length_le (by rw [iotaF_length]; exact Nat.le_refl _)] at h
    rw [h]
    exact Ev.now _
  · intro i hi ih m hm h
    refine Ev.succ ?_
    simp only [laws_markIntS.l0, hm, ilt hi, inn, if_true, Int.toNat_natCast, wnext hi (by omega : n ≤ 4611686018427387904), wnext (by omega : s + i < 4611686018427387904) (by omega)]
    have := set_take (iotaF s n) m i (by rw [iotaF_length]; exact hi) (by rw [iotaF_length]; exact hm) h
    rw [iotaF_get hi] at this
    exact ih _ (by simpa using hm) this
theorem laws_markIntS_ev (l : List Int) (hl : l.length ≤ 1048576) (s : Nat) (hs : s ≤ 4611686018427) : Ev (fun k => laws_markIntS.f k l (s : Int)) (((s + l.length : Nat) : Int), iotaF s l.length) := by
  have := laws_markIntS_l l.length hl s hs 0 (Nat.zero_le _) l rfl rfl
  simpa only [laws_markIntS.f, Int.natCast_zero, Nat.add_zero] using this
theorem laws_markIntS_from (l : List Int) (hl : l.length ≤ 1048576) (s : Nat) (hs : s ≤ 4611686018427) {x : Int} (hx : (s : Int) = x) : Ev (fun k => laws_markIntS.f k l x) (((s + l.length : Nat) : Int), iotaF s l.length) :=
  hx ▸ laws_markIntS_ev l hl s hs

/-- Rows that are marked: the numbers from s on. -/
def mkRows (s : Nat) : List (List Int) → List (List Int)
  | [] => []
  | r :: t => iotaF s r.length :: mkRows (s + r.length) t
def cntR : List (List Int) → Nat
  | [] => 0
  | r :: t => r.length + cntR t
theorem cntR_le : ∀ m : List (List Int), (∀ r ∈ m, r.length ≤ 1048576) → cntR m ≤ 1048576 * m.length
  | [], _ => by simp [cntR]
  | r :: t, h => by
    have := cntR_le t fun q hq => h q (List.mem_cons_of_mem _ hq)
    have := h r (List.mem_cons_self ..)
    simp only [cntR, List.length_cons]
    omega
theorem cntR_siz {m : List (List Int)} (h : Siz m) : cntR m ≤ 1099511627776 := by
  have := cntR_le m h.2
  have := h.1
  omega
theorem rdR_mid (A : List (List Int)) (b : List Int) (B : List (List Int)) : rd_L1 (A ++ b :: B) (A.length : Int) = b := by
  simp [rd_L1, List.getD_eq_getElem?_getD]
theorem laws_markIntSS_l : ∀ (B A : List (List Int)) (s : Nat), (A ++ B).length ≤ 1048576 → (∀ r ∈ B, r.length ≤ 1048576) → s + cntR B ≤ 4611686018427 →
    Ev (fun k => laws_markIntSS.l0 k (A ++ B) (s : Int) (A.length : Int)) (((s + cntR B : Nat) : Int), A ++ mkRows s B)
  | [], A, s, _, _, _ => by
    refine Ev.succ ?_
    simp only [laws_markIntSS.l0, List.append_nil, nlt (Nat.le_refl A.length), if_false, mkRows, cntR, Nat.add_zero]
    exact Ev.now _
  | b :: B, A, s, hl, hr, hs => by
    have hb := hr b (List.mem_cons_self ..)
    have hlt : A.length < (A ++ b :: B).length := by simp
    simp only [cntR] at hs
    refine Ev.succ ?_
    simp only [laws_markIntSS.l0, ilt hlt, inn, if_true, rdR_mid, Int.toNat_natCast, wnext hlt (by omega)]
    refine Ev.bind (laws_markIntS_ev b hb s (by omega)) ?_
    have e : (A ++ b :: B).set A.length (iotaF s b.length) = (A ++ [iotaF s b.length]) ++ B := by
      rw [List.set_append_right _ _ (Nat.le_refl _)]; simp
    have ih := laws_markIntSS_l B (A ++ [iotaF s b.length]) (s + b.length) (by simp at hl ⊢; omega) (fun r q => hr r (List.mem_cons_of_mem _ q)) (by omega)
    simp only [e]
    have e2 : (A ++ [iotaF s b.length]).length = A.length + 1 := by simp
    rw [e2] at ih
    refine ih.eqv ?_
    simp only [mkRows, cntR, List.append_assoc, List.singleton_append, Nat.add_assoc]
theorem laws_markIntSS_from (m : List (List Int)) (h : Siz m) (s : Nat) (hs : s + cntR m ≤ 4611686018427) {x : Int} (hx : (s : Int) = x) : Ev (fun k => laws_markIntSS.f k m x) (((s + cntR m : Nat) : Int), mkRows s m) := by
  subst hx
  have := laws_markIntSS_l m [] s (by simpa using h.1) h.2 hs
  simpa only [laws_markIntSS.f, List.nil_append, List.length_nil, Int.natCast_zero] using this

theorem laws_heldIntS_l (n : Nat) (hn : n ≤ 1048576) (s : Nat) (hs : s ≤ 4611686018427) : ∀ i, i ≤ n → Ev (fun k => laws_heldIntS.l0 k (iotaF s n) ((s + i : Nat) : Int) (i : Int)) (((s + n : Nat) : Int)) := by
  refine down ?_ ?_
  · refine Ev.succ ?_
    simp only [laws_heldIntS.l0, iotaF_length, nlt (Nat.le_refl n), if_false]
    exact Ev.now _
  · intro i hi ih
    refine Ev.succ ?_
    simp only [laws_heldIntS.l0, iotaF_length, ilt hi, inn, if_true, rd_lt (by rw [iotaF_length]; exact hi : i < (iotaF s n).length), iotaF_get hi, wnext hi (by omega : n ≤ 4611686018427387904), wnext (by omega : s + i < 4611686018427387904) (by omega)]
    exact ih
theorem laws_heldIntS_ev (n : Nat) (hn : n ≤ 1048576) (s : Nat) (hs : s ≤ 4611686018427) : Ev (fun k => laws_heldIntS.f k (iotaF s n) (s : Int)) (((s + n : Nat) : Int)) := by
  have := laws_heldIntS_l n hn s hs 0 (Nat.zero_le _)
  simpa only [laws_heldIntS.f, Int.natCast_zero, Nat.add_zero] using this
theorem laws_heldIntS_from (n : Nat) (hn : n ≤ 1048576) (s : Nat) (hs : s ≤ 4611686018427) {x : Int} (hx : (s : Int) = x) : Ev (fun k => laws_heldIntS.f k (iotaF s n) x) (((s + n : Nat) : Int)) :=
  hx ▸ laws_heldIntS_ev n hn s hs

theorem mkRows_length : ∀ (m : List (List Int)) (s : Nat), (mkRows s m).length = m.length
  | [], _ => rfl
  | r :: t, s => by simp [mkRows, mkRows_length t]
theorem laws_heldIntSS_l : ∀ (B A : List (List Int)) (s : Nat), (A ++ B).length ≤ 1048576 → (∀ r ∈ B, r.length ≤ 1048576) → s + cntR B ≤ 4611686018427 →
    Ev (fun k => laws_heldIntSS.l0 k (A ++ mkRows s B) (s : Int) (A.length : Int)) ((s + cntR B : Nat) : Int)
  | [], A, s, _, _, _ => by
    refine Ev.succ ?_
    simp only [laws_heldIntSS.l0, mkRows, List.append_nil, nlt (Nat.le_refl A.length), if_false, cntR, Nat.add_zero]
    exact Ev.now _
  | b :: B, A, s, hl, hr, hs => by
    have hb := hr b (List.mem_cons_self ..)
    have hlt : A.length < (A ++ iotaF s b.length :: mkRows (s + b.length) B).length := by simp
    have hle : (A ++ iotaF s b.length :: mkRows (s + b.length) B).length ≤ 1048576 := by simp [mkRows_length] at hl ⊢; omega
    simp only [cntR] at hs
    refine Ev.succ ?_
    simp only [laws_heldIntSS.l0, mkRows, ilt hlt, inn, if_true, rdR_mid, wnext hlt (by omega)]
    refine Ev.bind (laws_heldIntS_ev b.length hb s (by omega)) ?_
    simp only [nneg, if_false]
    have ih := laws_heldIntSS_l B (A ++ [iotaF s b.length]) (s + b.length) (by simp at hl ⊢; omega) (fun r q => hr r (List.mem_cons_of_mem _ q)) (by omega)
    have e2 : (A ++ [iotaF s b.length]).length = A.length + 1 := by simp
    rw [e2, List.append_assoc, List.singleton_append] at ih
    refine ih.eqv ?_
    simp only [cntR, Nat.add_assoc]
theorem laws_heldIntSS_from (m : List (List Int)) (h : Siz m) (s : Nat) (hs : s + cntR m ≤ 4611686018427) {x : Int} (hx : (s : Int) = x) : Ev (fun k => laws_heldIntSS.f k (mkRows s m) x) ((s + cntR m : Nat) : Int) := by
  subst hx
  have := laws_heldIntSS_l m [] s (by simpa using h.1) h.2 hs
  simpa only [laws_heldIntSS.f, List.nil_append, List.length_nil, Int.natCast_zero] using this

theorem spec_l1In_e (a b c : Int) : spec_l1In.f a b c = some (wth a b c) := wth_opt a b c

theorem spec_l1All_l (l : List Int) (lo hi : Int) (hl : l.length ≤ 4611686018427387904) : ∀ i, i ≤ l.length → Ev (fun k => spec_l1All.l0 k lo hi l (l.length : Int) (i : Int)) (allW (l.drop i) lo hi) := by
  refine down ?_ ?_
  · refine Ev.succ ?_
    simp only [spec_l1All.l0, nlt (Nat.le_refl l.length), if_false, List.drop_length]
    exact Ev.now _
  · intro i hi ih
    refine Ev.succ ?_
    simp only [spec_l1All.l0, ilt hi, inn, if_true, spec_l1In_e, Option.bind_some, rd_lt hi, wnext hi hl]
    rw [drop_cons hi]
    exact Ev.andS fun _ => ih
theorem spec_l1All_ev (l : List Int) (lo hi : Int) (hl : l.length ≤ 4611686018427387904) : Ev (fun k => spec_l1All.f k l lo hi) (allW l lo hi) := by
  have := spec_l1All_l l lo hi hl 0 (Nat.zero_le _)
  simpa only [spec_l1All.f, List.drop_zero, Int.natCast_zero] using this

theorem spec_plGood_l (m : List (List Int)) (h : Siz m) : ∀ i, i ≤ m.length → Ev (fun k => spec_plGood.l0 k m m (m.length : Int) (i : Int)) ((m.drop i).all (rowOk m.length)) := by
  have hm := h.1
  refine down ?_ ?_
  · refine Ev.succ ?_
    simp only [spec_plGood.l0, nlt (Nat.le_refl m.length), if_false, List.drop_length, List.all_nil]
    exact Ev.now _
  · intro i hi ih
    have hrow : rd_L1 m (i : Int) = m[i] := by simp [rd_L1, List.getD_eq_getElem?_getD, hi]
    refine Ev.succ ?_
    simp only [spec_plGood.l0, ilt hi, inn, if_true, hrow, wnext hi (by omega : m.length ≤ 4611686018427387904)]
    rw [drop_cons hi, List.all_cons]
    by_cases c : m[i].length = m.length
    · have c2 : (m[i].length : Int) = (m.length : Int) := by omega
      simp only [c2, if_true, rowOk, c, decide_true, Bool.true_and]
      exact Ev.and (spec_l1All_ev m[i] 0 60 (by have := h.2 _ (List.getElem_mem hi); omega)) fun _ => ih
    · have c2 : ¬ (m[i].length : Int) = (m.length : Int) := by omega
      simp only [c2, if_false, rowOk, c, decide_false, Bool.false_and]
      exact Ev.now _
theorem spec_plGood_ev (m : List (List Int)) (h : Siz m) : Ev (fun k => spec_plGood.f k m) (planB m) := by
  simp only [spec_plGood.f, spec_l1In_e, Option.bind_some, planB]
  exact Ev.andS fun _ => spec_plGood_l m h 0 (Nat.zero_le _)

theorem spec_plCells_l1 (m : List (List Int)) (hm : m.length ≤ 8) (o : Nat) (ho : o < 8) (R : List S59) (l : List Int) (hl : l.length ≤ 8)
    (hk : ∀ out, out.length ≤ 8 * (o + 1) → Ev (fun k => spec_plCells.l0 k out m (m.length : Int) (wrap64 ((o : Int) + 1))) (out ++ R)) :
    ∀ i, i ≤ l.length → ∀ out, out.length ≤ 8 * o + i → Ev (fun k => spec_plCells.l1 k out (o : Int) m (m.length : Int) (o : Int) l (l.length : Int) (i : Int)) (out ++ ((cellsRow o i (l.drop i)).map fun p => (⟨(p.1 : Int), (p.2 : Int)⟩ : S59)) ++ R) := by
  refine down ?_ ?_
  · intro out hout
    refine Ev.succ ?_
    simp only [spec_plCells.l1, nlt (Nat.le_refl l.length), if_false, List.drop_length, cellsRow, List.map_nil, List.append_nil]
    exact hk out (by omega)
  · intro i hi ih out hout
    have lim : out.length < 8796093022208 := by omega
    refine Ev.succ ?_
    simp only [spec_plCells.l1, ilt hi, inn, if_true, rd_lt hi, wnext hi (by omega : l.length ≤ 4611686018427387904), lim]
    rw [drop_cons hi, cellsRow]
    by_cases c : l[i] > 0
    · simp only [c, if_true]
      exact (ih _ (by rw [List.length_append]; simp only [List.length_cons, List.length_nil]; omega)).eqv (by simp)
    · simp only [c, if_false]
      exact ih _ (by omega)
theorem spec_plCells_l0 (m : List (List Int)) (h : Plan m) : ∀ i, i ≤ m.length → ∀ out, out.length ≤ 8 * i → Ev (fun k => spec_plCells.l0 k out m (m.length : Int) (i : Int)) (out ++ ((cellsGo i (m.drop i)).map fun p => (⟨(p.1 : Int), (p.2 : Int)⟩ : S59))) := by
  have hm := h.2.1
  refine down ?_ ?_
  · intro out hout
    refine Ev.succ ?_
    simp only [spec_plCells.l0, nlt (Nat.le_refl m.length), if_false, List.drop_length, cellsGo, List.map_nil, List.append_nil]
    exact Ev.now _
  · intro i hi ih out hout
    have hrow : rd_L1 m (i : Int) = m[i] := by simp [rd_L1, List.getD_eq_getElem?_getD, hi]
    have hl := (h.2.2 _ (List.getElem_mem hi)).1
    refine Ev.succ ?_
    simp only [spec_plCells.l0, ilt hi, inn, if_true, hrow]
    refine (spec_plCells_l1 m hm i (by omega) ((cellsGo (i + 1) (m.drop (i + 1))).map fun p => (⟨(p.1 : Int), (p.2 : Int)⟩ : S59)) m[i] (by omega) (fun out hout => ?_) 0 (Nat.zero_le _) out (by omega)).eqv ?_
    · rw [wnext hi (by omega)]
      exact ih out hout
    · rw [List.drop_zero, drop_cons hi, cellsGo, List.map_append, List.append_assoc]
theorem spec_plCells_ev (m : List (List Int)) (h : Plan m) : Ev (fun k => spec_plCells.f k m) ((cellsGo 0 m).map fun p => (⟨(p.1 : Int), (p.2 : Int)⟩ : S59)) := by
  have := spec_plCells_l0 m h 0 (Nat.zero_le _) [] (by simp)
  simpa only [spec_plCells.f, List.drop_zero, List.nil_append, Int.natCast_zero] using this

theorem spec_plCrossing_l1 (L : List (Nat × Nat)) (hL : L.length ≤ 1048576) (p : Nat × Nat) (o : Int) (r : List S59 × Bool)
    (hk : (L.find? fun y => decide (p.1 < y.1) && decide (p.2 > y.2)) = none → Ev (fun k => spec_plCrossing.l0 k (L.map fun p => (⟨(p.1 : Int), (p.2 : Int)⟩ : S59)) (L.map fun p => (⟨(p.1 : Int), (p.2 : Int)⟩ : S59)) (L.length : Int) (wrap64 (o + 1))) r)
    (hs : ∀ y, (L.find? fun y => decide (p.1 < y.1) && decide (p.2 > y.2)) = some y → r = ([⟨(p.1 : Int), (p.2 : Int)⟩, ⟨(y.1 : Int), (y.2 : Int)⟩], true)) :
    ∀ i, i ≤ L.length → (L.find? fun y => decide (p.1 < y.1) && decide (p.2 > y.2)) = ((L.drop i).find? fun y => decide (p.1 < y.1) && decide (p.2 > y.2)) →
    Ev (fun k => spec_plCrossing.l1 k (L.map fun p => (⟨(p.1 : Int), (p.2 : Int)⟩ : S59)) (L.map fun p => (⟨(p.1 : Int), (p.2 : Int)⟩ : S59)) (L.length : Int) o (L.map fun p => (⟨(p.1 : Int), (p.2 : Int)⟩ : S59)) (L.length : Int) (i : Int) (p.1 : Int) (p.2 : Int)) r := by
  refine down ?_ ?_
  · intro e
    refine Ev.succ ?_
    simp only [spec_plCrossing.l1, nlt (Nat.le_refl L.length), if_false]
    exact hk (by rw [e, List.drop_length]; rfl)
  · intro i hi ih e
    have hrow : rd_T59 (L.map fun p => (⟨(p.1 : Int), (p.2 : Int)⟩ : S59)) (i : Int) = ⟨(L[i].1 : Int), (L[i].2 : Int)⟩ := by simp [rd_T59, List.getD_eq_getElem?_getD, hi]
    rw [drop_cons hi, List.find?_cons] at e
    refine Ev.succ ?_
    simp only [spec_plCrossing.l1, List.length_map, ilt hi, inn, if_true, hrow, wnext hi (by omega : L.length ≤ 4611686018427387904)]
    by_cases c1 : p.1 < L[i].1
    · have d1 : (p.1 : Int) < (L[i].1 : Int) := by omega
      by_cases c2 : p.2 > L[i].2
      · have d2 : (p.2 : Int) > (L[i].2 : Int) := by omega
        simp only [d1, d2, if_true]
        rw [hs L[i] (by rw [e]; simp [c1, c2])]
        exact Ev.now _
      · have d2 : ¬ (p.2 : Int) > (L[i].2 : Int) := by omega
        simp only [d1, d2, if_true, if_false]
        exact ih (by rw [e]; simp [c2])
    · have d1 : ¬ (p.1 : Int) < (L[i].1 : Int) := by omega
      simp only [d1, if_false]
      exact ih (by rw [e]; simp [c1])
theorem spec_plCrossing_l0 (L : List (Nat × Nat)) (hL : L.length ≤ 1048576) : ∀ i, i ≤ L.length →
    Ev (fun k => spec_plCrossing.l0 k (L.map fun p => (⟨(p.1 : Int), (p.2 : Int)⟩ : S59)) (L.map fun p => (⟨(p.1 : Int), (p.2 : Int)⟩ : S59)) (L.length : Int) (i : Int))
      (match crossGo L (L.drop i) with | some (x, y) => ([⟨(x.1 : Int), (x.2 : Int)⟩, ⟨(y.1 : Int), (y.2 : Int)⟩], true) | none => ([], false)) := by
  refine down ?_ ?_
  · refine Ev.succ ?_
    simp only [spec_plCrossing.l0, nlt (Nat.le_refl L.length), if_false, List.drop_length, crossGo]
    exact Ev.now _
  · intro i hi ih
    have hrow : rd_T59 (L.map fun p => (⟨(p.1 : Int), (p.2 : Int)⟩ : S59)) (i : Int) = ⟨(L[i].1 : Int), (L[i].2 : Int)⟩ := by simp [rd_T59, List.getD_eq_getElem?_getD, hi]
    refine Ev.succ ?_
    simp only [spec_plCrossing.l0, List.length_map, ilt hi, inn, if_true, hrow]
    refine spec_plCrossing_l1 L hL L[i] (i : Int) _ ?_ ?_ 0 (Nat.zero_le _) (by rw [List.drop_zero])
    · intro e
      rw [wnext hi (by omega : L.length ≤ 4611686018427387904), drop_cons hi, crossGo, e]
      exact ih
    · intro y e
      rw [drop_cons hi, crossGo, e]
theorem spec_plCrossing_ev (m : List (List Int)) (h : Plan m) : Ev (fun k => spec_plCrossing.f k m) (match crossGo (cellsGo 0 m) (cellsGo 0 m) with | some (x, y) => ([⟨(x.1 : Int), (x.2 : Int)⟩, ⟨(y.1 : Int), (y.2 : Int)⟩], true) | none => ([], false)) := by
  simp only [spec_plCrossing.f]
  refine Ev.bind (spec_plCells_ev m h) ?_
  have := spec_plCrossing_l0 (cellsGo 0 m) (by have := cellsGo_len h; omega) 0 (Nat.zero_le _)
  rw [List.drop_zero] at this
  simpa only [List.length_map, Int.natCast_zero] using this

theorem spec_l1Least_e (a b : Int) : spec_l1Least.f a b = some (min a b) := by
  unfold spec_l1Least.f
  by_cases h : a < b
  · rw [if_pos h, show min a b = a by omega]
  · rw [if_neg h, show min a b = b by omega]

theorem spec_l1Own_e (l : List Int) (hl : l.length < 17592186044416) : spec_l1Own.f l = some l := by
  simp only [spec_l1Own.f, Option.bind_some, List.nil_append, List.length_nil, Nat.zero_add, hl, if_true]

theorem spec_plOwn_l0 (m : List (List Int)) (h : Siz m) : ∀ i, i ≤ m.length → Ev (fun k => spec_plOwn.l0 k (m.take i) m (m.length : Int) (i : Int)) m := by
  have hm := h.1
  refine down ?_ ?_
  · refine Ev.succ ?_
    simp only [spec_plOwn.l0, nlt (Nat.le_refl m.length), if_false, List.take_length]
    exact Ev.now _
  · intro i hi ih
    have hrow : rd_L1 m (i : Int) = m[i] := by simp [rd_L1, List.getD_eq_getElem?_getD, hi]
    have hr := h.2 _ (List.getElem_mem hi)
    have lim : (m.take i).length < 5864062014805 := by rw [List.length_take]; omega
    refine Ev.succ ?_
    simp only [spec_plOwn.l0, ilt hi, inn, if_true, hrow, spec_l1Own_e m[i] (by omega), Option.bind_some, lim, wnext hi (by omega : m.length ≤ 4611686018427387904)]
    rw [← List.take_succ_eq_append_getElem hi]
    exact ih
theorem spec_plOwn_ev (m : List (List Int)) (h : Siz m) : Ev (fun k => spec_plOwn.f k m) m := by
  have := spec_plOwn_l0 m h 0 (Nat.zero_le _)
  simpa only [spec_plOwn.f, List.take_zero, Int.natCast_zero] using this

theorem spec_l1Most_e (a b : Int) : spec_l1Most.f a b = some (max a b) := by
  unfold spec_l1Most.f
  by_cases h : a > b
  · rw [if_pos h]; congr 1; omega
  · rw [if_neg h]; congr 1; omega

theorem spec_plCost_l1 (m : List (List Int)) (hm : m.length ≤ 1048576) (o : Nat) (ho : o ≤ 1048576) (R : Int) (l : List Int) (hl : l.length ≤ 1048576)
    (hk : ∀ acc, InR acc → Ev (fun k => spec_plCost.l0 k acc m (m.length : Int) (wrap64 ((o : Int) + 1))) (wrap64 (acc + R))) :
    ∀ i, i ≤ l.length → ∀ acc, InR acc → Ev (fun k => spec_plCost.l1 k acc (o : Int) m (m.length : Int) (o : Int) l (l.length : Int) (i : Int)) (wrap64 (acc + rowCost o i (l.drop i) + R)) := by
  refine down ?_ ?_
  · intro acc ha
    refine Ev.succ ?_
    simp only [spec_plCost.l1, nlt (Nat.le_refl l.length), if_false, List.drop_length, rowCost, Int.add_zero]
    exact hk acc ha
  · intro i hi ih acc ha
    refine Ev.succ ?_
    simp only [spec_plCost.l1, ilt hi, inn, if_true, rd_lt hi, wnext hi (by omega : l.length ≤ 4611686018427387904), spec_l1Most_e, Option.bind_some, w64 (x := (o : Int) - (i : Int)) (by omega) (by omega), w64 (x := (i : Int) - (o : Int)) (by omega) (by omega)]
    rw [drop_cons hi, rowCost, ← Int.add_assoc]
    refine (ih _ (inR_wrap _)).eqv ?_
    rw [Int.add_assoc, wr_add, ← Int.add_assoc, Int.add_right_comm acc (wrap64 _), Int.add_right_comm _ (wrap64 _), wr_add', Int.add_right_comm _ R, Int.add_right_comm acc]
theorem spec_plCost_l0 (m : List (List Int)) (h : Siz m) : ∀ i, i ≤ m.length → ∀ acc, InR acc → Ev (fun k => spec_plCost.l0 k acc m (m.length : Int) (i : Int)) (wrap64 (acc + costGo i (m.drop i))) := by
  have hm := h.1
  refine down ?_ ?_
  · intro acc ha
    refine Ev.succ ?_
    simp only [spec_plCost.l0, nlt (Nat.le_refl m.length), if_false, List.drop_length, costGo, Int.add_zero, wR ha]
    exact Ev.now _
  · intro i hi ih acc ha
    have hrow : rd_L1 m (i : Int) = m[i] := by simp [rd_L1, List.getD_eq_getElem?_getD, hi]
    refine Ev.succ ?_
    simp only [spec_plCost.l0, ilt hi, inn, if_true, hrow]
    refine (spec_plCost_l1 m hm i (by omega) (costGo (i + 1) (m.drop (i + 1))) m[i] (h.2 _ (List.getElem_mem hi)) (fun acc ha => ?_) 0 (Nat.zero_le _) acc ha).eqv ?_
    · rw [wnext hi (by omega)]
      exact ih acc ha
    · rw [List.drop_zero, drop_cons hi, costGo, Int.add_assoc]
theorem spec_plCost_ev (m : List (List Int)) (h : Siz m) : Ev (fun k => spec_plCost.f k m) (wrap64 (costGo 0 m)) := by
  have := spec_plCost_l0 m h 0 (Nat.zero_le _) 0 inR_0
  simpa only [spec_plCost.f, List.drop_zero, Int.zero_add, Int.natCast_zero] using this

theorem spec_Uncross_inn {m : List (List Int)} {n : Nat} (h : Shp m n n) {i j : Nat} (hi : i < n) (hj : j < n) : spec_Uncross.inn m (i : Int) (j : Int) := by
  have e : rd_L1 m (i : Int) = m.getD i [] := by simp [rd_L1]
  unfold spec_Uncross.inn
  rw [e, h.1, h.row hi]
  omega
theorem spec_Uncross_o1 (m : List (List Int)) (i j : Nat) (u : Int) : spec_Uncross.o1 m (i : Int) (j : Int) u = unc1 m i j u := by
  have e : rd_L1 m (i : Int) = m.getD i [] := by simp [rd_L1]
  unfold spec_Uncross.o1 spec_Uncross.pt unc1 ptN cell
  rw [e, rd_get]; rfl
theorem spec_Uncross_o2 (m : List (List Int)) (i j : Nat) (u : Int) : spec_Uncross.o2 m (i : Int) (j : Int) u = unc2 m i j u := by
  have e : rd_L1 m (i : Int) = m.getD i [] := by simp [rd_L1]
  unfold spec_Uncross.o2 spec_Uncross.pt unc2 ptN cell
  rw [e, rd_get]; rfl

theorem spec_Uncross_ev (m : List (List Int)) (h : Siz m) : Ev (fun k => spec_Uncross.f k m) (uncV m) := by
  simp only [spec_Uncross.f]
  refine Ev.bind (spec_plGood_ev m h) ?_
  unfold uncV
  cases c : planB m with
  | false => simp only [Bool.false_eq_true, if_false]; exact Ev.now _
  | true =>
    have hm := planB_iff.1 c
    have h8 := hm.2.1
    have hs := hm.shp
    simp only [if_true]
    refine Ev.bind (spec_plCrossing_ev m hm) ?_
    cases e : crossGo (cellsGo 0 m) (cellsGo 0 m) with
    | none => simp only [Bool.false_eq_true, if_false]; exact Ev.now _
    | some q =>
      obtain ⟨x, y⟩ := q
      obtain ⟨i1, i2, i3, i4⟩ := cross_in hm e
      have er : ∀ i : Nat, rd_L1 m (i : Int) = m.getD i [] := fun i => by simp [rd_L1]
      have r0 : rd_T59 [(⟨(x.1 : Int), (x.2 : Int)⟩ : S59), ⟨(y.1 : Int), (y.2 : Int)⟩] 0 = ⟨(x.1 : Int), (x.2 : Int)⟩ := rfl
      have r1 : rd_T59 [(⟨(x.1 : Int), (x.2 : Int)⟩ : S59), ⟨(y.1 : Int), (y.2 : Int)⟩] 1 = ⟨(y.1 : Int), (y.2 : Int)⟩ := rfl
      simp only [if_true, List.length_cons, List.length_nil, Nat.zero_add, Nat.reduceAdd, r0, r1]
      simp only [spec_Uncross.e, if_pos (spec_Uncross_inn hs i1 i2), if_pos (spec_Uncross_inn hs i3 i4), spec_l1Least_e, Option.bind_some]
      refine Ev.bind (spec_plOwn_ev m h) ?_
      simp only [er, rd_get]
      have s1 : Shp (unc1 m x.1 x.2 (min (cell m x.1 x.2) (cell m y.1 y.2))) m.length m.length := ptN_shp hs i1 _ _
      have s2 : Shp (unc1 (unc1 m x.1 x.2 (min (cell m x.1 x.2) (cell m y.1 y.2))) y.1 y.2 (min (cell m x.1 x.2) (cell m y.1 y.2))) m.length m.length := ptN_shp s1 i3 _ _
      have s3 : Shp (unc2 (unc1 (unc1 m x.1 x.2 (min (cell m x.1 x.2) (cell m y.1 y.2))) y.1 y.2 (min (cell m x.1 x.2) (cell m y.1 y.2))) x.1 y.2 (min (cell m x.1 x.2) (cell m y.1 y.2))) m.length m.length := ptN_shp s2 i1 _ _
      have eu : min ((m.getD x.1 []).getD x.2 0) ((m.getD y.1 []).getD y.2 0) = min (cell m x.1 x.2) (cell m y.1 y.2) := rfl
      simp only [eu, spec_Uncross_o1, spec_Uncross_o2, if_pos (spec_Uncross_inn hs i1 i2), if_pos (spec_Uncross_inn s1 i3 i4), if_pos (spec_Uncross_inn s2 i1 i4), if_pos (spec_Uncross_inn s3 i3 i2)]
      have sz := (uncN_shp hs (x := x) (y := y) i1 i3).siz (by omega) (by omega)
      refine Ev.bind (spec_plGood_ev _ sz) ?_
      show Ev _ (if planB (uncN m x y) = true then _ else _)
      unfold uncN
      split
      · rename_i g
        (try simp only [g, if_true])
        refine Ev.bind (spec_plCost_ev m h) ?_
        refine Ev.bind (spec_plCost_ev _ sz) ?_
        exact Ev.now _
      · rename_i g
        (try simp only [g, Bool.false_eq_true, if_false])
        exact Ev.now _

theorem impl_within_e (a b c : Int) : impl_within.f a b c = some (wth a b c) := wth_opt a b c

theorem impl_allWithin_l (l : List Int) (lo hi : Int) (hl : l.length ≤ 4611686018427387904) : ∀ i, i ≤ l.length → Ev (fun k => impl_allWithin.l0 k lo hi l (l.length : Int) (i : Int)) (allW (l.drop i) lo hi) := by
  refine down ?_ ?_
  · refine Ev.succ ?_
    simp only [impl_allWithin.l0, nlt (Nat.le_refl l.length), if_false, List.drop_length]
    exact Ev.now _
  · intro i hi ih
    refine Ev.succ ?_
    simp only [impl_allWithin.l0, ilt hi, inn, if_true, impl_within_e, Option.bind_some, rd_lt hi, wnext hi hl]
    rw [drop_cons hi]
    exact Ev.andS fun _ => ih
theorem impl_allWithin_ev (l : List Int) (lo hi : Int) (hl : l.length ≤ 4611686018427387904) : Ev (fun k => impl_allWithin.f k l lo hi) (allW l lo hi) := by
  have := impl_allWithin_l l lo hi hl 0 (Nat.zero_le _)
  simpa only [impl_allWithin.f, List.drop_zero, Int.natCast_zero] using this

theorem impl_isPlan_row_ev (n : Nat) (l : List Int) (hl : l.length ≤ 1048576) : Ev (fun k => impl_isPlan.row k n l) (!rowOk n l) := by
  simp only [impl_isPlan.row, rowOk]
  by_cases c : l.length = n
  · simp only [c, if_true, decide_true, Bool.true_and]
    exact Ev.ret (f := fun t => !t) (impl_allWithin_ev l 0 60 (by omega))
  · simp only [c, if_false, decide_false, Bool.false_and, Bool.not_false]
    exact Ev.now _
theorem impl_isPlan_l (m : List (List Int)) (h : Siz m) : ∀ i, i ≤ m.length → ∃ j : Int, Ev (fun k => impl_isPlan.l0 k m (i : Int)) j ∧ decide (j ≥ 0) = !((m.drop i).all (rowOk m.length)) := by
  have hm := h.1
  refine down ?_ ?_
  · refine ⟨-1, ?_, by simp⟩
    refine Ev.succ ?_
    simp only [impl_isPlan.l0, nlt (Nat.le_refl m.length), if_false]
    exact Ev.now _
  · intro i hi ⟨j, ih, hj⟩
    have hg : rd_L1 m (i : Int) = m[i] := by simp [rd_L1, List.getD_eq_getElem?_getD, hi]
    have hb := impl_isPlan_row_ev m.length m[i] (h.2 _ (List.getElem_mem hi))
    cases c : rowOk m.length m[i] with
    | true =>
      refine ⟨j, ?_, by rw [hj, drop_cons hi, List.all_cons, c, Bool.true_and]⟩
      rw [c] at hb
      refine Ev.succ ?_
      simp only [impl_isPlan.l0, ilt hi, inn, if_true, hg, wnext hi (by omega : m.length ≤ 4611686018427387904)]
      refine Ev.bind hb ?_
      simp only [Bool.not_true, Bool.false_eq_true, if_false]
      exact ih
    | false =>
      refine ⟨(i : Int), ?_, by rw [drop_cons hi, List.all_cons, c, Bool.false_and]; simp⟩
      rw [c] at hb
      refine Ev.succ ?_
      simp only [impl_isPlan.l0, ilt hi, inn, if_true, hg]
      refine Ev.bind hb ?_
      simp only [Bool.not_false, if_true]
      exact Ev.now _
theorem impl_isPlan_ev (m : List (List Int)) (h : Siz m) : Ev (fun k => impl_isPlan.f k m) (planB m) := by
  simp only [impl_isPlan.f, impl_within_e, Option.bind_some, planB]
  refine Ev.andS fun _ => ?_
  obtain ⟨j, hE, hj⟩ := impl_isPlan_l m h 0 (Nat.zero_le _)
  refine (Ev.ret (f := fun j : Int => !decide (j ≥ 0)) hE).eqv ?_
  rw [hj, Bool.not_not, List.drop_zero]

/-- The rounds over the columns of a later row. -/
theorem impl_crossing_l3 (m : List (List Int)) (h : Plan m) (x5 x7 : Nat) (h7 : x7 ≤ 8) (x12 x13 : Int) (x18 : List Int) (x19 x20 : Int) (r : Nat) (hr : r < m.length) (res : Int × Int × Int × Int × Bool)
    (hk : findRow r 0 (m[r].take x7) = none → Ev (fun k => impl_crossing.l2 k m (x5 : Int) (x7 : Int) (wrap64 ((r : Int) + 1)) m x12 x13 x18 x19 x20) res)
    (hs : ∀ q, findRow r 0 (m[r].take x7) = some q → res = ((x5 : Int), (x7 : Int), (q.1 : Int), (q.2 : Int), true)) (h7r : x7 ≤ m[r].length) :
    ∀ c, c ≤ x7 → findRow r 0 (m[r].take x7) = findRow r c ((m[r].take x7).drop c) → Ev (fun k => impl_crossing.l3 k m (x5 : Int) (x7 : Int) (r : Int) m x12 x13 x18 x19 x20 (x7 : Int) (c : Int)) res := by
  have hrow : rd_L1 m (r : Int) = m[r] := by simp [rd_L1, List.getD_eq_getElem?_getD, hr]
  refine down ?_ ?_
  · intro e
    refine Ev.succ ?_
    simp only [impl_crossing.l3, nlt (Nat.le_refl x7), if_false]
    exact hk (by rw [e, List.drop_of_length_le (by rw [List.length_take]; omega)]; rfl)
  · intro c hc ih e
    have hc2 : c < (m[r].take x7).length := by rw [List.length_take]; omega
    have hc3 : c < m[r].length := by omega
    have hg : (m[r].take x7)[c] = m[r][c] := by simp
    rw [drop_cons hc2, hg, findRow] at e
    refine Ev.succ ?_
    simp only [impl_crossing.l3, ilt hc, ilt hr, ilt hc3, inn, if_true, hrow, rd_lt hc3, wnext hc (by omega : x7 ≤ 4611686018427387904)]
    by_cases g : m[r][c] > 0
    · simp only [g, if_true] at e ⊢
      rw [hs _ e]
      exact Ev.now _
    · simp only [g, if_false] at e ⊢
      exact ih e
theorem impl_crossing_l2 (m : List (List Int)) (h : Plan m) (x5 x7 : Nat) (h7 : x7 < m.length) (x12 x13 : Int) (x18 : List Int) (x19 x20 : Int) (res : Int × Int × Int × Int × Bool) :
    ∀ r, r ≤ m.length → (findRows x7 r (m.drop r) = none → Ev (fun k => impl_crossing.l1 k m (x5 : Int) m x12 x13 x18 x19 (wrap64 (x20 + 1))) res) →
      (∀ q, findRows x7 r (m.drop r) = some q → res = ((x5 : Int), (x7 : Int), (q.1 : Int), (q.2 : Int), true)) →
      Ev (fun k => impl_crossing.l2 k m (x5 : Int) (x7 : Int) (r : Int) m x12 x13 x18 x19 x20) res := by
  have hm := h.2.1
  refine down ?_ ?_
  · intro hk hs
    refine Ev.succ ?_
    simp only [impl_crossing.l2, nlt (Nat.le_refl m.length), if_false]
    exact hk (by rw [List.drop_length]; rfl)
  · intro r hr ih hk hs
    have hl := (h.2.2 _ (List.getElem_mem hr)).1
    refine Ev.succ ?_
    simp only [impl_crossing.l2, ilt hr, if_true]
    rw [drop_cons hr, findRows] at hk hs
    refine impl_crossing_l3 m h x5 x7 (by omega) x12 x13 x18 x19 x20 r hr res ?_ ?_ (by omega) 0 (Nat.zero_le _) (by rw [List.drop_zero])
    · intro e
      rw [wnext hr (by omega : m.length ≤ 4611686018427387904)]
      exact ih (fun e2 => hk (by rw [e, e2])) (fun q e2 => hs q (by rw [e, e2]))
    · intro q e
      exact hs q (by rw [e])
def crossRes (o : Option ((Nat × Nat) × (Nat × Nat))) : Int × Int × Int × Int × Bool := match o with
  | some (x, y) => ((x.1 : Int), (x.2 : Int), (y.1 : Int), (y.2 : Int), true)
  | none => (0, 0, 0, 0, false)
theorem impl_crossing_l1 (m : List (List Int)) (h : Plan m) (i : Nat) (hi : i < m.length) (res : Int × Int × Int × Int × Bool)
    (hk : crossCols m i 0 m[i] = none → Ev (fun k => impl_crossing.l0 k m m (m.length : Int) (wrap64 ((i : Int) + 1))) res)
    (hs : ∀ q, crossCols m i 0 m[i] = some q → res = crossRes (some q)) :
    ∀ j, j ≤ m[i].length → crossCols m i 0 m[i] = crossCols m i j (m[i].drop j) → Ev (fun k => impl_crossing.l1 k m (i : Int) m (m.length : Int) (i : Int) m[i] (m[i].length : Int) (j : Int)) res := by
  have hm := h.2.1
  have hl := (h.2.2 _ (List.getElem_mem hi)).1
  refine down ?_ ?_
  · intro e
    refine Ev.succ ?_
    simp only [impl_crossing.l1, nlt (Nat.le_refl m[i].length), if_false]
    exact hk (by rw [e, List.drop_length]; rfl)
  · intro j hj ih e
    have hx := (h.2.2 _ (List.getElem_mem hi)).2 _ (List.getElem_mem hj)
    rw [drop_cons hj, crossCols] at e
    refine Ev.succ ?_
    simp only [impl_crossing.l1, ilt hj, inn, if_true, rd_lt hj, wnext hj (by omega : m[i].length ≤ 4611686018427387904), wnext hi (by omega : m.length ≤ 4611686018427387904)]
    by_cases g : m[i][j] = 0
    · simp only [g, if_true] at e ⊢
      exact ih (by simpa [g] using e)
    · have g2 : m[i][j] > 0 := by omega
      simp only [g, if_false, g2, if_true] at e ⊢
      refine impl_crossing_l2 m h i j (by omega) _ _ _ _ _ res (i + 1) (by omega) ?_ ?_
      · intro e2
        rw [wnext hj (by omega : m[i].length ≤ 4611686018427387904)]
        refine ih ?_
        rw [e2] at e
        exact e
      · intro q e2
        rw [e2] at e
        exact hs _ e
theorem impl_crossing_l0 (m : List (List Int)) (h : Plan m) : ∀ i, i ≤ m.length → Ev (fun k => impl_crossing.l0 k m m (m.length : Int) (i : Int)) (crossRes (crossRows m i (m.drop i))) := by
  have hm := h.2.1
  refine down ?_ ?_
  · refine Ev.succ ?_
    simp only [impl_crossing.l0, nlt (Nat.le_refl m.length), if_false, List.drop_length, crossRows, crossRes]
    exact Ev.now _
  · intro i hi ih
    have hrow : rd_L1 m (i : Int) = m[i] := by simp [rd_L1, List.getD_eq_getElem?_getD, hi]
    refine Ev.succ ?_
    simp only [impl_crossing.l0, ilt hi, inn, if_true, hrow]
    rw [drop_cons hi, crossRows]
    refine impl_crossing_l1 m h i hi _ ?_ ?_ 0 (Nat.zero_le _) (by rw [List.drop_zero])
    · intro e
      rw [wnext hi (by omega : m.length ≤ 4611686018427387904), e]
      exact ih
    · intro q e
      rw [e]
theorem impl_crossing_ev (m : List (List Int)) (h : Plan m) : Ev (fun k => impl_crossing.f k m) (crossRes (crossGo (cellsGo 0 m) (cellsGo 0 m))) := by
  have := impl_crossing_l0 m h 0 (Nat.zero_le _)
  rw [List.drop_zero, crossRows_eq m 0 m (by rw [List.drop_zero])] at this
  simpa only [impl_crossing.f, Int.natCast_zero] using this

theorem impl_Uncross_1_e (a b c : Int) : impl_Uncross_1.f a b c = some c := rfl
theorem impl_mapped_l1 (m : List (List Int)) (h : Siz m) (o : Nat) (ho : o < m.length) (R : List (List Int)) (hk : Ev (fun k => impl_mapped.l0 k (m.take (o + 1)) m (m.length : Int) ((o + 1 : Nat) : Int)) R) :
    ∀ j, j ≤ m[o].length → Ev (fun k => impl_mapped.l1 k (m.take o) (o : Int) (m[o].take j) m (m.length : Int) (o : Int) m[o] (m[o].length : Int) (j : Int)) R := by
  have hm := h.1
  have hr := h.2 _ (List.getElem_mem ho)
  refine down ?_ ?_
  · have lim : (m.take o).length < 5864062014805 := by rw [List.length_take]; omega
    refine Ev.succ ?_
    simp only [impl_mapped.l1, nlt (Nat.le_refl m[o].length), if_false, lim, if_true, List.take_length, wnext ho (by omega : m.length ≤ 4611686018427387904)]
    rw [← List.take_succ_eq_append_getElem ho]
    exact hk
  · intro j hj ih
    have lim : (m[o].take j).length < 17592186044416 := by rw [List.length_take]; omega
    refine Ev.succ ?_
    simp only [impl_mapped.l1, ilt hj, inn, if_true, impl_Uncross_1_e, Option.bind_some, lim, rd_lt hj, wnext hj (by omega : m[o].length ≤ 4611686018427387904)]
    rw [← List.take_succ_eq_append_getElem hj]
    exact ih
theorem impl_mapped_l0 (m : List (List Int)) (h : Siz m) : ∀ i, i ≤ m.length → Ev (fun k => impl_mapped.l0 k (m.take i) m (m.length : Int) (i : Int)) m := by
  refine down ?_ ?_
  · refine Ev.succ ?_
    simp only [impl_mapped.l0, nlt (Nat.le_refl m.length), if_false, List.take_length]
    exact Ev.now _
  · intro i hi ih
    have hrow : rd_L1 m (i : Int) = m[i] := by simp [rd_L1, List.getD_eq_getElem?_getD, hi]
    refine Ev.succ ?_
    simp only [impl_mapped.l0, ilt hi, inn, if_true, hrow]
    exact impl_mapped_l1 m h i hi _ ih 0 (Nat.zero_le _)
theorem impl_mapped_ev (m : List (List Int)) (h : Siz m) (z : Int) : Ev (fun k => impl_mapped.f k m z) m := by
  have := impl_mapped_l0 m h 0 (Nat.zero_le _)
  simpa only [impl_mapped.f, List.take_zero, Int.natCast_zero] using this

theorem impl_cost_l1 (m : List (List Int)) (hm : m.length ≤ 1048576) (o : Nat) (ho : o ≤ 1048576) (R : Int) (l : List Int) (hl : l.length ≤ 1048576)
    (hk : ∀ acc, InR acc → Ev (fun k => impl_cost.l0 k acc m (m.length : Int) (wrap64 ((o : Int) + 1))) (wrap64 (acc + R))) :
    ∀ i, i ≤ l.length → ∀ acc, InR acc → Ev (fun k => impl_cost.l1 k acc (o : Int) m (m.length : Int) (o : Int) l (l.length : Int) (i : Int)) (wrap64 (acc + rowCost o i (l.drop i) + R)) := by
  refine down ?_ ?_
  · intro acc ha
    refine Ev.succ ?_
    simp only [impl_cost.l1, nlt (Nat.le_refl l.length), if_false, List.drop_length, rowCost, Int.add_zero]
    exact hk acc ha
  · intro i hi ih acc ha
    refine Ev.succ ?_
    simp only [impl_cost.l1, ilt hi, inn, if_true, rd_lt hi, wnext hi (by omega : l.length ≤ 4611686018427387904), mx_eq, w64 (x := (o : Int) - (i : Int)) (by omega) (by omega), w64 (x := (i : Int) - (o : Int)) (by omega) (by omega)]
    rw [drop_cons hi, rowCost, ← Int.add_assoc]
    refine (ih _ (inR_wrap _)).eqv ?_
    rw [Int.add_assoc, wr_add, ← Int.add_assoc, Int.add_right_comm acc (wrap64 _), Int.add_right_comm _ (wrap64 _), wr_add', Int.add_right_comm _ R, Int.add_right_comm acc]
theorem impl_cost_l0 (m : List (List Int)) (h : Siz m) : ∀ i, i ≤ m.length → ∀ acc, InR acc → Ev (fun k => impl_cost.l0 k acc m (m.length : Int) (i : Int)) (wrap64 (acc + costGo i (m.drop i))) := by
  have hm := h.1
  refine down ?_ ?_
  · intro acc ha
    refine Ev.succ ?_
    simp only [impl_cost.l0, nlt (Nat.le_refl m.length), if_false, List.drop_length, costGo, Int.add_zero, wR ha]
    exact Ev.now _
  · intro i hi ih acc ha
    have hrow : rd_L1 m (i : Int) = m[i] := by simp [rd_L1, List.getD_eq_getElem?_getD, hi]
    refine Ev.succ ?_
    simp only [impl_cost.l0, ilt hi, inn, if_true, hrow]
    refine (impl_cost_l1 m hm i (by omega) (costGo (i + 1) (m.drop (i + 1))) m[i] (h.2 _ (List.getElem_mem hi)) (fun acc ha => ?_) 0 (Nat.zero_le _) acc ha).eqv ?_
    · rw [wnext hi (by omega)]
      exact ih acc ha
    · rw [List.drop_zero, drop_cons hi, costGo, Int.add_assoc]
theorem impl_cost_ev (m : List (List Int)) (h : Siz m) : Ev (fun k => impl_cost.f k m) (wrap64 (costGo 0 m)) := by
  have := impl_cost_l0 m h 0 (Nat.zero_le _) 0 inR_0
  simpa only [impl_cost.f, List.drop_zero, Int.zero_add, Int.natCast_zero] using this

theorem impl_Uncross_inn {m : List (List Int)} {n : Nat} (h : Shp m n n) {i j : Nat} (hi : i < n) (hj : j < n) : impl_Uncross.inn m (i : Int) (j : Int) := by
  have e : rd_L1 m (i : Int) = m.getD i [] := by simp [rd_L1]
  unfold impl_Uncross.inn
  rw [e, h.1, h.row hi]
  omega
theorem impl_Uncross_o1 (m : List (List Int)) (i j : Nat) (u : Int) : impl_Uncross.o1 m (i : Int) (j : Int) u = unc1 m i j u := by
  have e : rd_L1 m (i : Int) = m.getD i [] := by simp [rd_L1]
  unfold impl_Uncross.o1 impl_Uncross.pt unc1 ptN cell
  rw [e, rd_get]; rfl
theorem impl_Uncross_o2 (m : List (List Int)) (i j : Nat) (u : Int) : impl_Uncross.o2 m (i : Int) (j : Int) u = unc2 m i j u := by
  have e : rd_L1 m (i : Int) = m.getD i [] := by simp [rd_L1]
  unfold impl_Uncross.o2 impl_Uncross.pt unc2 ptN cell
  rw [e, rd_get]; rfl

theorem impl_Uncross_ev (m : List (List Int)) (h : Siz m) : Ev (fun k => impl_Uncross.f k m) (uncV m) := by
  simp only [impl_Uncross.f]
  refine Ev.bind (impl_isPlan_ev m h) ?_
  unfold uncV
  cases c : planB m with
  | false => simp only [Bool.false_eq_true, if_false]; exact Ev.now _
  | true =>
    have hm := planB_iff.1 c
    have h8 := hm.2.1
    have hs := hm.shp
    simp only [if_true]
    refine Ev.bind (impl_crossing_ev m hm) ?_
    cases e : crossGo (cellsGo 0 m) (cellsGo 0 m) with
    | none => simp only [crossRes, Bool.false_eq_true, if_false]; exact Ev.now _
    | some q =>
      obtain ⟨x, y⟩ := q
      obtain ⟨i1, i2, i3, i4⟩ := cross_in hm e
      have er : ∀ i : Nat, rd_L1 m (i : Int) = m.getD i [] := fun i => by simp [rd_L1]
      simp only [crossRes, if_true, if_pos (impl_Uncross_inn hs i1 i2), if_pos (impl_Uncross_inn hs i3 i4), mn_eq]
      refine Ev.bind (impl_mapped_ev m h 0) ?_
      simp only [impl_Uncross.e, er, rd_get]
      have s1 : Shp (unc1 m x.1 x.2 (min (cell m x.1 x.2) (cell m y.1 y.2))) m.length m.length := ptN_shp hs i1 _ _
      have s2 : Shp (unc1 (unc1 m x.1 x.2 (min (cell m x.1 x.2) (cell m y.1 y.2))) y.1 y.2 (min (cell m x.1 x.2) (cell m y.1 y.2))) m.length m.length := ptN_shp s1 i3 _ _
      have s3 : Shp (unc2 (unc1 (unc1 m x.1 x.2 (min (cell m x.1 x.2) (cell m y.1 y.2))) y.1 y.2 (min (cell m x.1 x.2) (cell m y.1 y.2))) x.1 y.2 (min (cell m x.1 x.2) (cell m y.1 y.2))) m.length m.length := ptN_shp s2 i1 _ _
      have eu : min ((m.getD x.1 []).getD x.2 0) ((m.getD y.1 []).getD y.2 0) = min (cell m x.1 x.2) (cell m y.1 y.2) := rfl
      simp only [eu, impl_Uncross_o1, impl_Uncross_o2, if_pos (impl_Uncross_inn hs i1 i2), if_pos (impl_Uncross_inn s1 i3 i4), if_pos (impl_Uncross_inn s2 i1 i4), if_pos (impl_Uncross_inn s3 i3 i2)]
      have sz := (uncN_shp hs (x := x) (y := y) i1 i3).siz (by omega) (by omega)
      refine Ev.bind (impl_isPlan_ev _ sz) ?_
      show Ev _ (if planB (uncN m x y) = true then _ else _)
      unfold uncN
      split
      · rename_i g
        (try simp only [g, if_true])
        refine Ev.bind (impl_cost_ev m h) ?_
        refine Ev.bind (impl_cost_ev _ sz) ?_
        exact Ev.now _
      · rename_i g
        (try simp only [g, Bool.false_eq_true, if_false])
        exact Ev.now _

theorem FnExactUncross_pure (m : List (List Int)) (hm : m.length ≤ maxLen) (hr : ∀ r ∈ m, r.length ≤ maxLen) : ∃ k, laws_FnExactUncross.f k m = some true := by
  refine Ev.rounds ?_
  simp only [laws_FnExactUncross.f]
  obtain ⟨s, hE, q1, q2, q3⟩ := laws_szIntSS_ev m (by simpa [maxLen] using hm) (by simpa [maxLen] using hr) 1048576 (by omega) (by omega)
  refine Ev.bind hE ?_
  by_cases c : s < 0
  · simp only [c, if_true]; exact Ev.now _
  · simp only [c, if_false]
    have h := q3 (by omega)
    have hg := uncV_siz m
    have c1 := cntR_siz h
    have c2 := cntR_siz hg
    refine Ev.bind (laws_toIntSS_ev m h) ?_
    refine Ev.bind (spec_Uncross_ev m h) ?_
    refine Ev.bind (laws_toIntSS_ev m h) ?_
    refine Ev.bind (impl_Uncross_ev m h) ?_
    generalize hG : uncV m = g at hg c2 ⊢
    obtain ⟨g, u, b⟩ := g
    simp only at hg c2
    refine Ev.bind (laws_eqIntSS_self g hg) ?_
    simp only [if_true]
    refine Ev.bind (laws_toIntSS_ev m h) ?_
    refine Ev.bind (laws_eqIntSS_self m h) ?_
    simp only [if_true]
    refine Ev.bind (laws_markIntSS_from m h 1 (by omega) rfl) ?_
    simp only [nneg, if_false]
    refine Ev.bind (laws_eqIntSS_self g hg) ?_
    simp only [if_true]
    refine Ev.bind (laws_markIntSS_from g hg 1 (by omega) rfl) ?_
    refine Ev.bind (laws_heldIntSS_from g hg 1 (by omega) rfl) ?_
    simp only [nneg, if_false, if_true]
    refine Ev.bind (laws_toIntSS_ev m h) ?_
    refine Ev.bind ((impl_Uncross_ev m h).eqv hG) ?_
    simp only
    refine Ev.bind (laws_eqIntSS_self g hg) ?_
    simp only [if_true]
    refine Ev.bind (laws_heldIntSS_from g hg 1 (by omega) rfl) ?_
    simp only [nneg, if_false, if_true]
    exact Ev.now _

end Go.Proofs.Ytbnlfhdjcpegkaa.Pure
