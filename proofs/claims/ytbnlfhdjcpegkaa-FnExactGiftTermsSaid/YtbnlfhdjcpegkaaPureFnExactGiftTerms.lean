/- The program's GiftTerms returns what the reference's returns, for all arguments; the printed functions' own bounds on lengths are the only conditions. -/
import Derived.Test.YtbnlfhdjcpegkaaPFnExactGiftTermsx9
import Derived.Test.YtbnlfhdjcpegkaaMath
namespace Go.Proofs.Ytbnlfhdjcpegkaa.Pure
open Go.RowKit Go.Proofs.Ytbnlfhdjcpegkaa.PFnExactGiftTerms Go.Proofs.YtbnlfhdjcpegkaaW.PrintWords Go.Proofs.YtbnlfhdjcpegkaaW.PrintLast Go.Proofs.YtbnlfhdjcpegkaaW.PrintMore Go.Proofs.Ytbnlfhdjcpegkaa.Math
set_option linter.unusedVariables false
set_option linter.unusedSimpArgs false
set_option linter.unusedSectionVars false

theorem laws_toIntS_l (l : List Int) (hl : l.length ≤ 4611686018427387904) : ∀ i, i ≤ l.length → ∀ m : List Int, m.length = l.length → m.take i = l.take i → Ev (fun k => laws_toIntS.l0 k l m (i : Int)) l := by
  refine down ?_ ?_
  · intro m hm h
    refine Ev.succ ?_
    simp only [laws_toIntS.l0, nlt (Nat.le_refl l.length), if_false]
    rw [← hm, List.take_length, hm, List.take_length] at h
    rw [h]
    exact Ev.now _
  · intro i hi ih m hm h
    refine Ev.succ ?_
    simp only [laws_toIntS.l0, ilt hi, inn, if_true, hm, rd_lt hi, wnext hi hl, Int.toNat_natCast]
    exact ih _ (by simpa using hm) (set_take l m i hi hm h)
theorem laws_toIntS_ev (l : List Int) (hl : l.length ≤ 35184372088832) : Ev (fun k => laws_toIntS.f k l) l := by
  have := laws_toIntS_l l (by omega) 0 (Nat.zero_le _) (List.replicate l.length 0) (by simp) (by simp)
  simp only [laws_toIntS.f, inn, if_true, Int.toNat_natCast, hl]
  exact this

theorem laws_eqIntS_l (l m : List Int) (he : m.length = l.length) (hl : l.length ≤ 4611686018427387904) : ∀ i, i ≤ l.length → Ev (fun k => laws_eqIntS.l0 k l m (i : Int)) (decide (l.drop i = m.drop i)) := by
  refine down ?_ ?_
  · refine Ev.succ ?_
    simp only [laws_eqIntS.l0, nlt (Nat.le_refl l.length), if_false, List.drop_length]
    rw [← he, List.drop_length]
    exact Ev.now _
  · intro i hi ih
    refine Ev.succ ?_
    simp only [laws_eqIntS.l0, ilt hi, inn, if_true, he, rd_lt hi, rd_lt (he ▸ hi : i < m.length), wnext hi hl]
    rw [drop_cons hi, drop_cons (he ▸ hi : i < m.length)]
    by_cases hx : l[i] = m[i]
    · simp only [hx, if_true, List.cons.injEq, true_and]
      exact ih
    · simp only [hx, if_false, List.cons.injEq, false_and, decide_false]
      exact Ev.now _
theorem laws_eqIntS_ev (l m : List Int) (hl : l.length ≤ 4611686018427387904) : Ev (fun k => laws_eqIntS.f k l m) (decide (l = m)) := by
  simp only [laws_eqIntS.f]
  by_cases he : (l.length : Int) = (m.length : Int)
  · simp only [he, if_true]
    exact laws_eqIntS_l l m (by omega) hl 0 (Nat.zero_le _)
  · simp only [he, if_false]
    rw [decide_eq_false (fun h => he (by rw [h]))]
    exact Ev.now _
theorem laws_eqIntS_self (l : List Int) (hl : l.length ≤ 4611686018427387904) : Ev (fun k => laws_eqIntS.f k l l) true := by
  simpa using laws_eqIntS_ev l l hl

theorem laws_markIntS_l (n : Nat) (hn : n ≤ 1048576) (s : Nat) (hs : s ≤ 4611686018427) : ∀ i, i ≤ n → ∀ m : List Int, m.length = n → m.take i = (iotaF s n).take i → Ev (fun k => laws_markIntS.l0 k m ((s + i : Nat) : Int) (i : Int)) (((s + n : Nat) : Int), iotaF s n) := by
  refine down ?_ ?_
  · intro m hm h
    refine Ev.succ ?_
    simp only [laws_markIntS.l0, hm, nlt (Nat.le_refl n), if_false]
    rw [← hm, List.take_length, hm, List.take_of_length_le (by rw [iotaF_length]; exact Nat.le_refl _)] at h
    rw [h]
    exact Ev.now _
  · intro i hi ih m hm h
    refine Ev.succ ?_
    simp only [laws_markIntS.l0, hm, ilt hi, inn, if_true, Int.toNat_natCast, wnext hi (by omega : n ≤ 4611686018427387904), wnext (by omega : s + i < 4611686018427387904) (by omega)]
    have := set_take (iotaF s n) m i (by rw [iotaF_length]; exact hi) (by rw [iotaF_length]; exact hm) h
    rw [iotaF_get hi] at this
    exact ih _ (by simpa using hm) this
theorem laws_markIntS_ev (l : List Int) (hl : l.length ≤ 1048576) (s : Nat) (hs : s ≤ 4611686018427) : Ev (fun k => laws_markIntS.f k l (s : Int)) (((s + l.length : Nat) : Int), iotaF s l.length) := by
  have := laws_markIntS_l l.length hl s hs 0 (Nat.zero_le _) l rfl rfl
  simpa only [laws_markIntS.f, Int.natCast_zero, Nat.add_zero] using this
theorem laws_markIntS_from (l : List Int) (hl : l.length ≤ 1048576) (s : Nat) (hs : s ≤ 4611686018427) {x : Int} (hx : (s : Int) = x) : Ev (fun k => laws_markIntS.f k l x) (((s + l.length : Nat) : Int), iotaF s l.length) :=
  hx ▸ laws_markIntS_ev l hl s hs

theorem spec_l1In_e (a b c : Int) : spec_l1In.f a b c = some (wth a b c) := wth_opt a b c

theorem spec_l1All_l (l : List Int) (lo hi : Int) (hl : l.length ≤ 4611686018427387904) : ∀ i, i ≤ l.length → Ev (fun k => spec_l1All.l0 k lo hi l (l.length : Int) (i : Int)) (allW (l.drop i) lo hi) := by
  refine down ?_ ?_
  · refine Ev.succ ?_
    simp only [spec_l1All.l0, nlt (Nat.le_refl l.length), if_false, List.drop_length]
    exact Ev.now _
  · intro i hi ih
    refine Ev.succ ?_
    simp only [spec_l1All.l0, ilt hi, inn, if_true, spec_l1In_e, Option.bind_some, rd_lt hi, wnext hi hl]
    rw [drop_cons hi]
    exact Ev.andS fun _ => ih
theorem spec_l1All_ev (l : List Int) (lo hi : Int) (hl : l.length ≤ 4611686018427387904) : Ev (fun k => spec_l1All.f k l lo hi) (allW l lo hi) := by
  have := spec_l1All_l l lo hi hl 0 (Nat.zero_le _)
  simpa only [spec_l1All.f, List.drop_zero, Int.natCast_zero] using this

def symB (p x : List Int) : Bool := wth p.length 1 4 && (allW p 0 4 && (decide ((x.length : Int) = (p.length : Int)) && allW x 1 9))
/-- The orders that go on l by a number from n - c on. -/
def tries (g : List Int → List (List Int)) (l : List Int) (n : Nat) : Nat → List (List Int)
  | 0 => []
  | c + 1 => (if ((n - (c + 1) : Nat) : Int) ∈ l then [] else g (l ++ [((n - (c + 1) : Nat) : Int)])) ++ tries g l n c
def goOn (n : Nat) : Nat → List Int → List (List Int)
  | 0, l => [l]
  | d + 1, l => tries (goOn n d) l n n
theorem tries_len {g : List Int → List (List Int)} {l : List Int} {n B : Nat} (h : ∀ m, (g m).length ≤ B) : ∀ c, (tries g l n c).length ≤ c * B
  | 0 => by simp [tries]
  | c + 1 => by
    have ih := tries_len h (l := l) (n := n) c
    rw [tries, List.length_append, Nat.succ_mul]
    split
    · simp; omega
    · have := h (l ++ [((n - (c + 1) : Nat) : Int)])
      omega
theorem goOn_len {n : Nat} (hn : n ≤ 4) : ∀ d l, (goOn n d l).length ≤ 4 ^ d
  | 0, l => by simp [goOn]
  | d + 1, l => by
    have := tries_len (l := l) (n := n) (goOn_len hn d) n
    rw [goOn, Nat.pow_succ, Nat.mul_comm]
    exact Nat.le_trans this (Nat.mul_le_mul_right _ hn)
theorem tries_mem {g : List Int → List (List Int)} {l : List Int} {n : Nat} {P : List Int → Prop} (h : ∀ i : Nat, i < n → ∀ o ∈ g (l ++ [(i : Int)]), P o) : ∀ c, c ≤ n → ∀ o ∈ tries g l n c, P o
  | 0, _, o, ho => by simp [tries] at ho
  | c + 1, hc, o, ho => by
    rw [tries, List.mem_append] at ho
    rcases ho with ho | ho
    · split at ho
      · simp at ho
      · exact h _ (by omega) o ho
    · exact tries_mem h c (by omega) o ho
theorem goOn_mem {n : Nat} : ∀ d (l : List Int), l.length + d = n → (∀ j ∈ l, 0 ≤ j ∧ j < (n : Int)) → ∀ o ∈ goOn n d l, o.length = n ∧ ∀ j ∈ o, 0 ≤ j ∧ j < (n : Int)
  | 0, l, hl, hb, o, ho => by
    rw [goOn, List.mem_singleton] at ho
    subst ho
    exact ⟨by omega, hb⟩
  | d + 1, l, hl, hb, o, ho => by
    rw [goOn] at ho
    refine tries_mem (P := fun o => o.length = n ∧ ∀ j ∈ o, 0 ≤ j ∧ j < (n : Int)) (fun i hi o ho => ?_) n (Nat.le_refl _) o ho
    refine goOn_mem d _ (by rw [List.length_append, List.length_singleton]; omega) (fun j hj => ?_) o ho
    rcases List.mem_append.1 hj with hj | hj
    · exact hb j hj
    · rw [List.mem_singleton] at hj; omega
/-- The product of an order's powers, and the sum over orders. -/
def prodW (pw x : List Int) : List Int → Nat → Int → Int
  | [], _, p => p
  | j :: t, i, p => prodW pw x t (i + 1) (wrap64 (p * wrap64 (x.getD j.toNat 0 ^ (pw.getD i 0).toNat)))
def sumW (pw x : List Int) : List (List Int) → Int → Int
  | [], s => s
  | o :: t, s => sumW pw x t (wrap64 (s + prodW pw x o 0 1))
theorem sumW_app (pw x : List Int) : ∀ (a b : List (List Int)) (s : Int), sumW pw x (a ++ b) s = sumW pw x b (sumW pw x a s)
  | [], _, _ => rfl
  | _ :: a, b, s => sumW_app pw x a b _
def symS (pw x : List Int) : Int := sumW pw x (goOn x.length x.length []) 0
def symV (pw x : List Int) : Int × Bool := if symB pw x then (symS pw x, true) else (0, false)
theorem symB_parts {p x : List Int} (h : symB p x = true) : (1 ≤ p.length ∧ p.length ≤ 4) ∧ (∀ y ∈ p, 0 ≤ y ∧ y ≤ 4) ∧ x.length = p.length ∧ (∀ y ∈ x, 1 ≤ y ∧ y ≤ 9) := by
  unfold symB at h
  rw [Bool.and_eq_true, Bool.and_eq_true, Bool.and_eq_true, wth_iff, allW_iff, allW_iff, decide_eq_true_eq] at h
  obtain ⟨h1, h2, h3, h4⟩ := h
  exact ⟨by omega, h2, by omega, h4⟩
def cmpV (a b x : List Int) : Int × Bool := if symB a x && symB b x then (cmpI (symS a x) (symS b x), true) else (0, false)
def atX (x l : List Int) : List Int := l.map fun j => x.getD j.toNat 0

theorem spec_syGiven_ev (p x : List Int) (hp : p.length ≤ 1048576) (hx : x.length ≤ 1048576) : Ev (fun k => spec_syGiven.f k p x) (symB p x) := by
  simp only [spec_syGiven.f, spec_l1In_e, Option.bind_some, symB]
  refine Ev.andS fun _ => ?_
  refine Ev.and (spec_l1All_ev p 0 4 (by omega)) fun _ => ?_
  by_cases c : (x.length : Int) = (p.length : Int)
  · simp only [c, if_true, decide_true, Bool.true_and]
    exact Ev.ret (f := fun t => t) (spec_l1All_ev x 1 9 (by omega))
  · simp only [c, if_false, decide_false, Bool.false_and]
    exact Ev.now _

/-- A unit gift between powers is kind. -/
def kindB (pw : List Int) (i j m : Int) : Bool := wth i 0 ((pw.length : Int) - 1) && (wth j 0 ((pw.length : Int) - 1) && (decide (i ≠ j) && (wth m 1 60 && decide (pw.getD i.toNat 0 - m ≥ pw.getD j.toNat 0 + m))))
def prodX (pw x : List Int) (a b : Nat) : List Int → Nat → Int → Int
  | [], _, p => p
  | j :: t, i, p => prodX pw x a b t (i + 1) (if i = a ∨ i = b then p else wrap64 (p * wrap64 (x.getD j.toNat 0 ^ (pw.getD i 0).toNat)))
def startW (u v p q : Int) : Int := wrap64 (wrap64 (wrap64 ((wrap64 (u * v)) ^ q.toNat) * wrap64 (wrap64 (u ^ (wrap64 (wrap64 (p - q) - 1)).toNat) - wrap64 (v ^ (wrap64 (wrap64 (p - q) - 1)).toNat))) * wrap64 (u - v))
def termW (pw x : List Int) (a b : Nat) (o : List Int) : Int := prodX pw x a b o 0 (startW (x.getD (o.getD a 0).toNat 0) (x.getD (o.getD b 0).toNat 0) (pw.getD a 0) (pw.getD b 0))
def gtB (pw : List Int) (i j m : Int) (x : List Int) : Bool := symB pw x && (decide (m = 1) && kindB pw i j m)
def gtV (pw : List Int) (i j m : Int) (x : List Int) : List Int × Bool := if gtB pw i j m x then ((goOn x.length x.length []).map (termW pw x i.toNat j.toNat), true) else ([], false)
theorem kindB_parts {pw : List Int} {i j m : Int} (h : kindB pw i j m = true) : ∃ a b : Nat, i = (a : Int) ∧ j = (b : Int) ∧ a < pw.length ∧ b < pw.length ∧ a ≠ b ∧ 1 ≤ m ∧ m ≤ 60 ∧ pw.getD a 0 - m ≥ pw.getD b 0 + m := by
  unfold kindB at h
  rw [Bool.and_eq_true, Bool.and_eq_true, Bool.and_eq_true, Bool.and_eq_true, wth_iff, wth_iff, wth_iff, decide_eq_true_eq, decide_eq_true_eq] at h
  obtain ⟨h1, h2, h3, h4, h5⟩ := h
  exact ⟨i.toNat, j.toNat, by omega, by omega, by omega, by omega, by omega, by omega, by omega, by omega⟩
theorem powsD {pw : List Int} (hb : ∀ y ∈ pw, 0 ≤ y ∧ y ≤ 4) (i : Nat) : 0 ≤ pw.getD i 0 ∧ pw.getD i 0 ≤ 4 := by
  by_cases h : i < pw.length
  · have e : pw.getD i 0 = pw[i] := by simp [List.getD_eq_getElem?_getD, h]
    rw [e]; exact hb _ (List.getElem_mem h)
  · have e : pw.getD i 0 = 0 := by simp [List.getD_eq_getElem?_getD, h]
    rw [e]; omega
theorem gtV_len (pw : List Int) (i j m : Int) (x : List Int) : (gtV pw i j m x).1.length ≤ 256 := by
  unfold gtV gtB
  cases h : symB pw x with
  | false => simp
  | true =>
    obtain ⟨s1, s2, s3, s4⟩ := symB_parts h
    have hx4 : x.length ≤ 4 := by omega
    have g := goOn_len hx4 x.length []
    have p4 : 4 ^ x.length ≤ 256 := Nat.le_trans (Nat.pow_le_pow_right (by omega) hx4) (by decide)
    cases (decide (m = 1) && kindB pw i j m) with
    | false => simp
    | true => simp; omega

theorem spec_giKind_e (pw : List Int) (i j m : Int) (hl : 1 ≤ pw.length ∧ pw.length ≤ 4) (hb : ∀ y ∈ pw, 0 ≤ y ∧ y ≤ 4) : spec_giKind.f pw i j m = some (kindB pw i j m) := by
  have el : wrap64 ((pw.length : Int) - 1) = (pw.length : Int) - 1 := w64 (by omega) (by omega)
  simp only [spec_giKind.f, spec_giIs.f, spec_l1In_e, Option.bind_some, el]
  unfold kindB
  cases h1 : wth i 0 ((pw.length : Int) - 1) with
  | false => simp
  | true =>
    cases h2 : wth j 0 ((pw.length : Int) - 1) with
    | false => simp
    | true =>
      rw [wth_iff] at h1 h2
      simp only [if_true, Option.bind_some, Bool.true_and]
      by_cases c : i = j
      · simp only [c, if_true, Option.bind_some, Bool.false_eq_true, if_false]; simp
      · simp only [c, if_false, Option.bind_some, ne_eq, not_false_eq_true, decide_true, Bool.true_and]
        by_cases c2 : m ≥ 1
        · by_cases c3 : m ≤ 60
          · have q1 : i < (pw.length : Int) := by omega
            have q2 : j < (pw.length : Int) := by omega
            have b1 := powsD hb i.toNat
            have b2 := powsD hb j.toNat
            have r1 : rd pw i = pw.getD i.toNat 0 := rfl
            have r2 : rd pw j = pw.getD j.toNat 0 := rfl
            have w1 : wth m 1 60 = true := wth_iff.2 ⟨c2, c3⟩
            simp only [c2, decide_true, if_true, c3, h1.1, h2.1, q1, q2, r1, r2, w1, Bool.true_and]
            rw [w64 (by omega) (by omega), w64 (by omega) (by omega)]
          · have w1 : wth m 1 60 = false := by rw [Bool.eq_false_iff]; intro h; rw [wth_iff] at h; omega
            simp only [c2, decide_true, if_true, c3, if_false, w1, Bool.false_and]
        · have w1 : wth m 1 60 = false := by rw [Bool.eq_false_iff]; intro h; rw [wth_iff] at h; omega
          simp only [c2, decide_false, Bool.false_eq_true, if_false, w1, Bool.false_and]

theorem spec_l1Own_e (l : List Int) (hl : l.length < 17592186044416) : spec_l1Own.f l = some l := by
  simp only [spec_l1Own.f, Option.bind_some, List.nil_append, List.length_nil, Nat.zero_add, hl, if_true]

theorem spec_l1Has_l (a : Int) (l : List Int) (hl : l.length ≤ 4611686018427387904) : ∀ i, i ≤ l.length → Ev (fun k => spec_l1Has.l0 k a l (l.length : Int) (i : Int)) (decide (a ∈ l.drop i)) := by
  refine down ?_ ?_
  · refine Ev.succ ?_
    simp only [spec_l1Has.l0, nlt (Nat.le_refl l.length), if_false, List.drop_length]
    exact (Ev.now _).eqv (by simp)
  · intro i hi ih
    refine Ev.succ ?_
    simp only [spec_l1Has.l0, ilt hi, inn, if_true, rd_lt hi, wnext hi hl]
    rw [drop_cons hi]
    by_cases c : l[i] = a
    · simp only [c, if_true]
      exact (Ev.now _).eqv (by simp)
    · simp only [c, if_false]
      have e : (a ∈ l[i] :: l.drop (i + 1)) ↔ a ∈ l.drop (i + 1) := ⟨fun h => (List.mem_cons.1 h).resolve_left (fun h => c h.symm), List.mem_cons_of_mem _⟩
      exact ih.eqv (decide_eq_decide.2 e.symm)
theorem spec_l1Has_ev (l : List Int) (a : Int) (hl : l.length ≤ 4611686018427387904) : Ev (fun k => spec_l1Has.f k l a) (decide (a ∈ l)) := by
  simp only [spec_l1Has.f]
  have := spec_l1Has_l a l hl 0 (Nat.zero_le _)
  rwa [List.drop_zero] at this

theorem spec_syGoOn_l (n d : Nat) (hn : n ≤ 4) (l : List Int) (hd : l.length + (d + 1) = n) (ih : ∀ m : List Int, m.length + d = n → Ev (fun k => spec_syGoOn.f k m (n : Int)) (goOn n d m)) : ∀ (c i : Nat), i + c = n → ∀ acc : List (List Int), acc.length ≤ 4 ^ d * i → Ev (fun k => spec_syGoOn.l0 k l (n : Int) acc (i : Int)) (acc ++ tries (goOn n d) l n c)
  | 0, i, hi, acc, ha => by
    have e : i = n := by omega
    subst e
    refine Ev.succ ?_
    simp only [spec_syGoOn.l0, nlt (Nat.le_refl i), if_false, tries, List.append_nil]
    exact Ev.now _
  | c + 1, i, hi, acc, ha => by
    have e : n - (c + 1) = i := by omega
    have p4 : 4 ^ d ≤ 256 := Nat.le_trans (Nat.pow_le_pow_right (by omega) (by omega : d ≤ 4)) (by decide)
    have p6 : 4 ^ d * i ≤ 256 * 4 := Nat.mul_le_mul p4 (by omega)
    refine Ev.succ ?_
    simp only [spec_syGoOn.l0, ilt (by omega : i < n), if_true]
    refine Ev.bind (spec_l1Has_ev l (i : Int) (by omega)) ?_
    rw [tries, e]
    by_cases h : (i : Int) ∈ l
    · simp only [decide_eq_true h, if_true, if_pos h, List.nil_append, wnext (by omega : i < n) (by omega : n ≤ 4611686018427387904)]
      exact spec_syGoOn_l n d hn l hd ih c (i + 1) (by omega) acc (Nat.le_trans ha (Nat.mul_le_mul_left _ (Nat.le_succ i)))
    · have g := goOn_len hn d (l ++ [(i : Int)])
      have c1 : l.length < 17592186044416 := by omega
      have c2 : acc.length + (goOn n d (l ++ [(i : Int)])).length < 5864062014805 := by omega
      simp only [decide_eq_false h, Bool.false_eq_true, if_false, if_neg h, spec_l1Own_e l (by omega), Option.bind_some, c1, if_true]
      refine Ev.bind (ih (l ++ [(i : Int)]) (by rw [List.length_append, List.length_singleton]; omega)) ?_
      simp only [c2, if_true, wnext (by omega : i < n) (by omega : n ≤ 4611686018427387904)]
      refine (spec_syGoOn_l n d hn l hd ih c (i + 1) (by omega) (acc ++ goOn n d (l ++ [(i : Int)])) (by rw [List.length_append, Nat.mul_succ]; exact Nat.add_le_add ha g)).eqv ?_
      rw [List.append_assoc]
theorem spec_syGoOn_ev (n : Nat) (hn : n ≤ 4) : ∀ (d : Nat) (l : List Int), l.length + d = n → Ev (fun k => spec_syGoOn.f k l (n : Int)) (goOn n d l)
  | 0, l, hl => by
    refine Ev.succ ?_
    have c : (l.length : Int) = (n : Int) := by omega
    simp only [spec_syGoOn.f, c, if_true, goOn]
    exact Ev.now _
  | d + 1, l, hl => by
    refine Ev.succ ?_
    have c : ¬ ((l.length : Int) = (n : Int)) := by omega
    simp only [spec_syGoOn.f, c, if_false]
    have := spec_syGoOn_l n d hn l hl (fun m hm => spec_syGoOn_ev n hn d m hm) n 0 (by omega) [] (by simp)
    rw [List.nil_append] at this
    exact this

theorem spec_syOrders_ev (n : Nat) (hn : n ≤ 4) : Ev (fun k => spec_syOrders.f k (n : Int)) (goOn n n []) := by
  simp only [spec_syOrders.f]
  exact Ev.ret (f := fun t => t) (spec_syGoOn_ev n hn n [] (by simp))

theorem spec_syPower_l (x : Int) : ∀ (n : Nat), n ≤ 4611686018427387904 → ∀ acc, InR acc → Ev (fun k => spec_syPower.l0 k x (n : Int) acc) (wrap64 (acc * x ^ n))
  | 0, _, acc, ha => by
    refine Ev.succ ?_
    simp only [spec_syPower.l0, (by decide : ¬ (((0 : Nat) : Int) > 0)), if_false, Int.pow_zero, Int.mul_one, wR ha]
    exact Ev.now _
  | n + 1, hn, acc, ha => by
    refine Ev.succ ?_
    have c : ((n + 1 : Nat) : Int) > 0 := by omega
    simp only [spec_syPower.l0, c, if_true, wprev (by omega : n ≤ 4611686018427387904)]
    rw [show acc * x ^ (n + 1) = (acc * x) * x ^ n by rw [Int.pow_succ, Int.mul_assoc, Int.mul_comm x]]
    exact (spec_syPower_l x n (by omega) _ (inR_wrap _)).eqv (wrap_mul _ _)
theorem spec_syPower_ev (x n : Int) (hn : n ≤ 4611686018427387904) : Ev (fun k => spec_syPower.f k x n) (wrap64 (x ^ n.toNat)) := by
  simp only [spec_syPower.f]
  by_cases h : 0 ≤ n
  · have := spec_syPower_l x n.toNat (by omega) 1 ⟨by decide, by decide⟩
    simpa only [Int.toNat_of_nonneg h, Int.one_mul] using this
  · rw [Int.toNat_of_nonpos (by omega), Int.pow_zero]
    have c : ¬ n > 0 := by omega
    refine Ev.succ ?_
    simp only [spec_syPower.l0, c, if_false]
    exact (Ev.now _).eqv (w64 (by omega) (by omega)).symm

theorem spec_GiftTerms_l1 (pw x : List Int) (hp : pw.length = x.length) (h4 : x.length ≤ 4) (hb : ∀ y ∈ pw, 0 ≤ y ∧ y ≤ 4) (a b : Nat) (p q m : Int) (s : List Int) (hs : s.length < 17592186044416) (os : List (List Int)) (j : Nat) (o : List Int) (ho : o.length = x.length) (hm : ∀ y ∈ o, 0 ≤ y ∧ y < (x.length : Int)) (T : Int) (r : List Int × Bool)
    (hK : Ev (fun k => spec_GiftTerms.l0 k pw x p q (s ++ [T]) os (os.length : Int) (wrap64 ((j : Int) + 1)) (a : Int) (b : Int) m) r) : ∀ i, i ≤ o.length → ∀ z, prodX pw x a b (o.drop i) i z = T → Ev (fun k => spec_GiftTerms.l1 k pw x p q s z os (os.length : Int) (j : Int) o (o.length : Int) (i : Int) (a : Int) (b : Int) m) r := by
  refine down ?_ ?_
  · intro z hz
    rw [List.drop_length] at hz
    have e : z = T := hz
    subst e
    refine Ev.succ ?_
    simp only [spec_GiftTerms.l1, nlt (Nat.le_refl o.length), if_false, hs, if_true]
    exact hK
  · intro i hi ih z hz
    have mm := hm _ (List.getElem_mem hi)
    have hip : i < pw.length := by omega
    have bb := hb _ (List.getElem_mem hip)
    rw [drop_cons hi, prodX] at hz
    have eg : pw.getD i 0 = pw[i] := by simp [List.getD_eq_getElem?_getD, hip]
    refine Ev.succ ?_
    simp only [spec_GiftTerms.l1, ilt hi, inn, if_true, wnext hi (by omega : o.length ≤ 4611686018427387904)]
    by_cases ca : i = a
    · have ca' : (i : Int) = (a : Int) := by omega
      rw [if_pos (.inl ca)] at hz
      simp only [ca', if_true]
      rw [← ca']
      subst ca
      exact ih _ hz
    · have ca' : ¬ (i : Int) = (a : Int) := by omega
      simp only [ca', if_false]
      by_cases cb : i = b
      · have cb' : (i : Int) = (b : Int) := by omega
        rw [if_pos (.inr cb)] at hz
        simp only [cb', if_true]
        subst cb
        exact ih _ hz
      · have cb' : ¬ (i : Int) = (b : Int) := by omega
        rw [if_neg (by rintro (h | h); exact ca h; exact cb h)] at hz
        simp only [cb', if_false, rd_lt hi, eq_true mm.1, eq_true mm.2, if_true, ilt hip, rd_lt hip]
        have e2 : rd x o[i] = x.getD (o[i]).toNat 0 := rfl
        rw [e2]
        refine Ev.bind (spec_syPower_ev (x.getD (o[i]).toNat 0) pw[i] (by omega)) ?_
        rw [eg] at hz
        exact ih _ hz
theorem spec_GiftTerms_l0 (pw x : List Int) (hp : pw.length = x.length) (h4 : x.length ≤ 4) (hb : ∀ y ∈ pw, 0 ≤ y ∧ y ≤ 4) (a b : Nat) (ha : a < pw.length) (hbl : b < pw.length) (m : Int) (os : List (List Int)) (hl : os.length ≤ 4096) (hm : ∀ o ∈ os, o.length = x.length ∧ ∀ y ∈ o, 0 ≤ y ∧ y < (x.length : Int)) : ∀ j, j ≤ os.length → ∀ s : List Int, s.length ≤ j → Ev (fun k => spec_GiftTerms.l0 k pw x (pw.getD a 0) (pw.getD b 0) s os (os.length : Int) (j : Int) (a : Int) (b : Int) m) (s ++ (os.drop j).map (termW pw x a b), true) := by
  refine down ?_ ?_
  · intro s hs
    refine Ev.succ ?_
    simp only [spec_GiftTerms.l0, nlt (Nat.le_refl os.length), if_false, List.drop_length, List.map_nil, List.append_nil]
    exact Ev.now _
  · intro j hj ih s hs
    have mm := hm _ (List.getElem_mem hj)
    have er : rd_L1 os (j : Int) = os[j] := by
      show os.getD ((j : Int)).toNat [] = os[j]
      simp [List.getD_eq_getElem?_getD, hj]
    have ed : os.drop j = os[j] :: os.drop (j + 1) := List.drop_eq_getElem_cons hj
    have ao : a < os[j].length := by omega
    have bo : b < os[j].length := by omega
    have m1 := mm.2 _ (List.getElem_mem ao)
    have m2 := mm.2 _ (List.getElem_mem bo)
    have g1 : os[j].getD a 0 = os[j][a] := by simp [List.getD_eq_getElem?_getD, ao]
    have g2 : os[j].getD b 0 = os[j][b] := by simp [List.getD_eq_getElem?_getD, bo]
    have pa := powsD hb a
    have pb := powsD hb b
    have hd : wrap64 (wrap64 (pw.getD a 0 - pw.getD b 0) - 1) ≤ 4611686018427387904 := by
      rw [w64 (x := pw.getD a 0 - pw.getD b 0) (by omega) (by omega), w64 (by omega) (by omega)]; omega
    refine Ev.succ ?_
    simp only [spec_GiftTerms.l0, ilt hj, inn, if_true, er, ilt ao, ilt bo, rd_lt ao, rd_lt bo, eq_true m1.1, eq_true m1.2, eq_true m2.1, eq_true m2.2]
    refine Ev.bind (spec_syPower_ev _ _ (by omega)) ?_
    refine Ev.bind (spec_syPower_ev _ _ hd) ?_
    refine Ev.bind (spec_syPower_ev _ _ hd) ?_
    rw [ed, List.map_cons]
    have e3 : s ++ (termW pw x a b os[j] :: (os.drop (j + 1)).map (termW pw x a b)) = (s ++ [termW pw x a b os[j]]) ++ (os.drop (j + 1)).map (termW pw x a b) := by simp
    rw [e3]
    refine spec_GiftTerms_l1 pw x hp h4 hb a b _ _ m s (by omega) os j os[j] mm.1 mm.2 (termW pw x a b os[j]) _ ?_ 0 (Nat.zero_le _) _ ?_
    · rw [wnext hj (by omega : os.length ≤ 4611686018427387904)]
      exact ih _ (by rw [List.length_append, List.length_singleton]; omega)
    · rw [List.drop_zero]
      unfold termW startW
      rw [g1, g2]
      rfl
theorem spec_GiftTerms_ev (pw : List Int) (i j m : Int) (x : List Int) (hp : pw.length ≤ 1048576) (hx : x.length ≤ 1048576) : Ev (fun k => spec_GiftTerms.f k pw i j m x) (gtV pw i j m x) := by
  simp only [spec_GiftTerms.f]
  have off : gtB pw i j m x = false → Ev (fun k => spec_GiftTerms.j0 k pw x true i j m) (gtV pw i j m x) := fun h => by
    unfold gtV; rw [h]
    refine Ev.succ ?_
    simp only [spec_GiftTerms.j0, if_true]
    exact Ev.now _
  refine Ev.bind (spec_syGiven_ev pw x hp hx) ?_
  cases h1 : symB pw x with
  | false => simp only [Bool.false_eq_true, if_false]; exact off (by unfold gtB; rw [h1]; rfl)
  | true =>
    obtain ⟨s1, s2, s3, s4⟩ := symB_parts h1
    simp only [if_true, spec_giKind_e pw i j m s1 s2, Option.bind_some]
    cases h2 : kindB pw i j m with
    | false => simp only [Bool.false_eq_true, if_false]; exact off (by unfold gtB; rw [h2]; simp)
    | true =>
      simp only [if_true]
      by_cases c : m = 1
      · have e : (m != 1) = false := by rw [c]; rfl
        rw [e]
        obtain ⟨a, b, rfl, rfl, ha, hb, hab, _, _, hk⟩ := kindB_parts h2
        have hx4 : x.length ≤ 4 := by omega
        refine Ev.succ ?_
        simp only [spec_GiftTerms.j0, Bool.false_eq_true, if_false, inn, if_true, ilt ha, ilt hb, rd_get]
        refine Ev.bind (spec_syOrders_ev x.length hx4) ?_
        have g := goOn_len hx4 x.length []
        have p4 : 4 ^ x.length ≤ 256 := Nat.le_trans (Nat.pow_le_pow_right (by omega) hx4) (by decide)
        have := spec_GiftTerms_l0 pw x (by omega) hx4 s2 a b ha hb m (goOn x.length x.length []) (by omega) (goOn_mem x.length [] (by simp) (by simp)) 0 (Nat.zero_le _) [] (Nat.le_refl _)
        rw [List.drop_zero, List.nil_append] at this
        have e2 : gtV pw (a : Int) (b : Int) m x = ((goOn x.length x.length []).map (termW pw x a b), true) := by
          unfold gtV gtB
          rw [h1, h2, decide_eq_true c]
          rfl
        rw [e2]
        exact this
      · have e : (m != 1) = true := by rw [bne_iff_ne]; exact c
        rw [e]
        exact off (by unfold gtB; rw [decide_eq_false c]; simp)

theorem impl_within_e (a b c : Int) : impl_within.f a b c = some (wth a b c) := wth_opt a b c

theorem impl_allWithin_l (l : List Int) (lo hi : Int) (hl : l.length ≤ 4611686018427387904) : ∀ i, i ≤ l.length → Ev (fun k => impl_allWithin.l0 k lo hi l (l.length : Int) (i : Int)) (allW (l.drop i) lo hi) := by
  refine down ?_ ?_
  · refine Ev.succ ?_
    simp only [impl_allWithin.l0, nlt (Nat.le_refl l.length), if_false, List.drop_length]
    exact Ev.now _
  · intro i hi ih
    refine Ev.succ ?_
    simp only [impl_allWithin.l0, ilt hi, inn, if_true, impl_within_e, Option.bind_some, rd_lt hi, wnext hi hl]
    rw [drop_cons hi]
    exact Ev.andS fun _ => ih
theorem impl_allWithin_ev (l : List Int) (lo hi : Int) (hl : l.length ≤ 4611686018427387904) : Ev (fun k => impl_allWithin.f k l lo hi) (allW l lo hi) := by
  have := impl_allWithin_l l lo hi hl 0 (Nat.zero_le _)
  simpa only [impl_allWithin.f, List.drop_zero, Int.natCast_zero] using this

theorem impl_arePowers_ev (p : List Int) (hp : p.length ≤ 1048576) : Ev (fun k => impl_arePowers.f k p) (wth p.length 1 4 && allW p 0 4) := by
  simp only [impl_arePowers.f, impl_within_e, Option.bind_some]
  exact Ev.andS fun _ => Ev.ret (f := fun t => t) (impl_allWithin_ev p 0 4 (by omega))

theorem impl_areArguments_ev (l : List Int) (hl : l.length ≤ 1048576) : Ev (fun k => impl_areArguments.f k l) (argsB l) := by
  simp only [impl_areArguments.f, impl_within_e, Option.bind_some, argsB]
  exact Ev.andS fun _ => Ev.ret (f := fun t => t) (impl_allWithin_ev l 1 9 (by omega))

theorem impl_isKind_e (pw : List Int) (i j : Int) (hl : 1 ≤ pw.length ∧ pw.length ≤ 4) (hb : ∀ y ∈ pw, 0 ≤ y ∧ y ≤ 4) : impl_isKind.f pw i j 1 = some (kindB pw i j 1) := by
  have el : wrap64 ((pw.length : Int) - 1) = (pw.length : Int) - 1 := w64 (by omega) (by omega)
  simp only [impl_isKind.f, impl_canGive.f, impl_isGift.f, impl_within_e, Option.bind_some, el]
  unfold kindB
  cases h1 : wth i 0 ((pw.length : Int) - 1) with
  | false => simp
  | true =>
    cases h2 : wth j 0 ((pw.length : Int) - 1) with
    | false => simp
    | true =>
      rw [wth_iff] at h1 h2
      simp only [if_true, Option.bind_some, Bool.true_and]
      by_cases c : i = j
      · simp only [c, if_true, Option.bind_some, Bool.false_eq_true, if_false]; simp
      · have q1 : i < (pw.length : Int) := by omega
        have q2 : j < (pw.length : Int) := by omega
        have b1 := powsD hb i.toNat
        have b2 := powsD hb j.toNat
        have r1 : rd pw i = pw.getD i.toNat 0 := rfl
        have r2 : rd pw j = pw.getD j.toNat 0 := rfl
        have w1 : wth 1 1 60 = true := by decide
        have g1 : ((1 : Int) ≥ 1) = True := by simp
        simp only [c, if_false, Option.bind_some, ne_eq, not_false_eq_true, decide_true, Bool.true_and, g1, if_true, h1.1, h2.1, q1, q2, r1, r2, w1]
        by_cases c2 : (1 : Int) ≤ pw.getD i.toNat 0
        · have c3 : (1 : Int) ≤ wrap64 (60 - pw.getD j.toNat 0) := by rw [w64 (by omega) (by omega)]; omega
          simp only [c2, if_true, c3, decide_true, Option.bind_some]
          rw [w64 (by omega) (by omega), w64 (by omega) (by omega)]
        · simp only [c2, if_false, Option.bind_some, Bool.false_eq_true]
          have : ¬ (pw.getD i.toNat 0 - 1 ≥ pw.getD j.toNat 0 + 1) := by omega
          simp only [this, decide_false]

theorem impl_power_l (x : Int) (n : Nat) (hn : n ≤ 4611686018427387904) : ∀ i, i ≤ n → ∀ acc, InR acc → Ev (fun k => impl_power.l0 k x acc (n : Int) (i : Int)) (wrap64 (acc * x ^ (n - i))) := by
  refine down ?_ ?_
  · intro acc ha
    refine Ev.succ ?_
    simp only [impl_power.l0, nlt (Nat.le_refl n), if_false, Nat.sub_self, Int.pow_zero, Int.mul_one, wR ha]
    exact Ev.now _
  · intro i hi ih acc ha
    refine Ev.succ ?_
    simp only [impl_power.l0, ilt hi, if_true, wnext hi hn]
    rw [show n - i = n - (i + 1) + 1 by omega, show acc * x ^ (n - (i + 1) + 1) = (acc * x) * x ^ (n - (i + 1)) by rw [Int.pow_succ, Int.mul_assoc, Int.mul_comm x]]
    exact (ih _ (inR_wrap _)).eqv (wrap_mul _ _)
theorem impl_power_ev (x n : Int) (hn : n ≤ 4611686018427387904) : Ev (fun k => impl_power.f k x n) (wrap64 (x ^ n.toNat)) := by
  simp only [impl_power.f]
  by_cases h : 0 ≤ n
  · have := impl_power_l x n.toNat (by omega) 0 (Nat.zero_le _) 1 ⟨by decide, by decide⟩
    simpa only [Int.toNat_of_nonneg h, Int.one_mul, Nat.sub_zero, Int.natCast_zero] using this
  · rw [Int.toNat_of_nonpos (by omega), Int.pow_zero]
    have c : ¬ 0 < n := by omega
    refine Ev.succ ?_
    simp only [impl_power.l0, c, if_false]
    exact (Ev.now _).eqv (w64 (by omega) (by omega)).symm

theorem impl_has_bits : ∀ u : Fin 16, ∀ j : Fin 4, impl_has.f (u.val : Int) (j.val : Int) = some (u.val.testBit j.val) := by decide +kernel
theorem has_or : ∀ u : Fin 16, ∀ i : Fin 4, Go.bits .or .i64 (u.val : Int) (IntKind.i64.wrap (2 ^ i.val)) = ((u.val ||| 2 ^ i.val : Nat) : Int) := by decide +kernel
/-- The numbers of a list, as bits. -/
def Bits (u : Int) (l : List Int) : Prop := ∃ v : Nat, v < 16 ∧ u = (v : Int) ∧ ∀ j : Nat, j < 4 → v.testBit j = decide ((j : Int) ∈ l)
theorem Bits.nil : Bits 0 [] := ⟨0, by omega, rfl, fun j _ => by simp⟩
theorem Bits.has {u : Int} {l : List Int} (h : Bits u l) {j : Nat} (hj : j < 4) : impl_has.f u (j : Int) = some (decide ((j : Int) ∈ l)) := by
  obtain ⟨v, hv, rfl, hb⟩ := h
  rw [← hb j hj]
  exact impl_has_bits ⟨v, hv⟩ ⟨j, hj⟩
theorem Bits.or {u : Int} {l : List Int} (h : Bits u l) {i : Nat} (hi : i < 4) : Bits (Go.bits .or .i64 u (IntKind.i64.wrap (2 ^ i))) (l ++ [(i : Int)]) := by
  obtain ⟨v, hv, rfl, hb⟩ := h
  refine ⟨v ||| 2 ^ i, ?_, has_or ⟨v, hv⟩ ⟨i, hi⟩, fun j hj => ?_⟩
  · have h2 : 2 ^ i < 2 ^ 4 := Nat.pow_lt_pow_right (by omega) hi
    exact Nat.or_lt_two_pow (n := 4) hv h2
  · rw [Nat.testBit_or, hb j hj, Nat.testBit_two_pow]
    have e : decide (((j : Int)) ∈ l ++ [(i : Int)]) = (decide ((j : Int) ∈ l) || decide (i = j)) := by
      rw [Bool.eq_iff_iff]
      simp only [decide_eq_true_eq, Bool.or_eq_true, List.mem_append, List.mem_singleton]
      constructor
      · rintro (h | h)
        · exact .inl h
        · exact .inr (by omega)
      · rintro (h | h)
        · exact .inl h
        · exact .inr (by omega)
    rw [e]

theorem slices_Clone_int_int_e (l : List Int) (hl : l.length < 17592186044416) : slices_Clone_int_int.f l = some l := by
  simp only [slices_Clone_int_int.f, Option.bind_some, List.nil_append, List.length_nil, Nat.zero_add, hl, if_true]

theorem impl_GiftTerms_v (pw x : List Int) (hb : ∀ y ∈ pw, 0 ≤ y ∧ y ≤ 4) (a b : Nat) : ∀ (t : List Int) (i : Nat) (p : Int), i + t.length = pw.length → Ev (fun k => impl_GiftTerms.v k pw (a : Int) (b : Int) (atX x t) i p) (prodX pw x a b t i p)
  | [], _, _, _ => Ev.now _
  | j :: t, i, p, h => by
    have hi : i < pw.length := by rw [List.length_cons] at h; omega
    have bd := hb _ (List.getElem_mem hi)
    have eg : pw.getD i 0 = pw[i] := by simp [List.getD_eq_getElem?_getD, hi]
    have ht : i + 1 + t.length = pw.length := by rw [List.length_cons] at h; omega
    show Ev (fun k => impl_GiftTerms.v k pw (a : Int) (b : Int) (x.getD j.toNat 0 :: atX x t) i p) _
    simp only [impl_GiftTerms.v, prodX]
    by_cases ca : i = a
    · have ca' : (i : Int) = (a : Int) := by omega
      rw [if_pos (.inl ca)]
      simp only [if_pos ca']
      exact impl_GiftTerms_v pw x hb a b t (i + 1) _ ht
    · have ca' : ¬ (i : Int) = (a : Int) := by omega
      simp only [if_neg ca']
      by_cases cb : i = b
      · have cb' : (i : Int) = (b : Int) := by omega
        rw [if_pos (.inr cb)]
        simp only [if_pos cb']
        exact impl_GiftTerms_v pw x hb a b t (i + 1) _ ht
      · have cb' : ¬ (i : Int) = (b : Int) := by omega
        rw [if_neg (by rintro (h | h); exact ca h; exact cb h)]
        simp only [if_neg cb', hi, if_true]
        refine Ev.bind (impl_power_ev (x.getD j.toNat 0) (pw.getD i 0) (by omega)) ?_
        exact impl_GiftTerms_v pw x hb a b t (i + 1) _ ht
theorem impl_GiftTerms_t (pw x : List Int) (hb : ∀ y ∈ pw, 0 ≤ y ∧ y ≤ 4) (a b : Nat) (o : List Int) (ho : o.length = pw.length) (ha : a < pw.length) (hbl : b < pw.length) : Ev (fun k => impl_GiftTerms.t k pw (a : Int) (b : Int) (pw.getD a 0) (pw.getD b 0) (atX x o)) (termW pw x a b o) := by
  have hal : (atX x o).length = o.length := by simp [atX]
  have ao : a < o.length := by omega
  have bo : b < o.length := by omega
  have ra : rd (atX x o) (a : Int) = x.getD (o.getD a 0).toNat 0 := by
    show (atX x o).getD ((a : Int)).toNat 0 = _
    simp [atX, List.getD_eq_getElem?_getD, ao]
  have rb : rd (atX x o) (b : Int) = x.getD (o.getD b 0).toNat 0 := by
    show (atX x o).getD ((b : Int)).toNat 0 = _
    simp [atX, List.getD_eq_getElem?_getD, bo]
  have pa := powsD hb a
  have pb := powsD hb b
  have hd : wrap64 (wrap64 (pw.getD a 0 - pw.getD b 0) - 1) ≤ 4611686018427387904 := by
    rw [w64 (x := pw.getD a 0 - pw.getD b 0) (by omega) (by omega), w64 (by omega) (by omega)]; omega
  simp only [impl_GiftTerms.t, hal, inn, ilt ao, ilt bo, if_true, ra, rb]
  refine Ev.bind (impl_power_ev _ _ (by omega)) ?_
  refine Ev.bind (impl_power_ev _ _ hd) ?_
  refine Ev.bind (impl_power_ev _ _ hd) ?_
  exact impl_GiftTerms_v pw x hb a b o 0 _ (by omega)
theorem impl_GiftTerms_one (pw x : List Int) (hb : ∀ y ∈ pw, 0 ≤ y ∧ y ≤ 4) (a b : Nat) (o s : List Int) (ho : o.length = pw.length) (ha : a < pw.length) (hbl : b < pw.length) (hs : s.length < 17592186044416) : Ev (fun k => impl_GiftTerms.one k pw (a : Int) (b : Int) (pw.getD a 0) (pw.getD b 0) (atX x o) s) (s ++ [termW pw x a b o]) := by
  simp only [impl_GiftTerms.one, hs, if_true]
  exact Ev.ret (f := fun z => s ++ [z]) (impl_GiftTerms_t pw x hb a b o ho ha hbl)
theorem impl_GiftTerms_go (pw x : List Int) (h4 : x.length ≤ 4) (a b : Nat) (p q : Int) (d : Nat) (l : List Int) (hl : l.length + (d + 1) = x.length) (u : Int) (hu : Bits u l)
    (ih : ∀ (m : List Int) (u : Int) (s : List Int), m.length + d = x.length → Bits u m → s.length + (goOn x.length d m).length ≤ 1048576 → Ev (fun k => impl_GiftTerms.e k pw x (a : Int) (b : Int) p q d u (atX x m) s) (s ++ (goOn x.length d m).map (termW pw x a b))) : ∀ (c i : Nat), i + c = x.length → ∀ s : List Int, s.length + (tries (goOn x.length d) l x.length c).length ≤ 1048576 → Ev (fun k => impl_GiftTerms.go (impl_GiftTerms.e k pw x (a : Int) (b : Int) p q d) u (atX x l) (x.drop i) i s) (s ++ (tries (goOn x.length d) l x.length c).map (termW pw x a b))
  | 0, i, hi, s, _ => by
    have e : i = x.length := by omega
    subst e
    rw [List.drop_length]
    simp only [tries, List.map_nil, List.append_nil]
    exact Ev.now _
  | c + 1, i, hi, s, hs => by
    have e : x.length - (c + 1) = i := by omega
    have hix : i < x.length := by omega
    rw [drop_cons hix]
    have eg : x[i] = x.getD i 0 := by simp [List.getD_eq_getElem?_getD, hix]
    simp only [tries, e] at hs
    simp only [impl_GiftTerms.go, hu.has (by omega : i < 4), Option.bind_some, tries, e]
    by_cases h : (i : Int) ∈ l
    · rw [if_pos h, List.nil_append] at hs
      simp only [decide_eq_true h, if_true, if_pos h, List.nil_append]
      exact impl_GiftTerms_go pw x h4 a b p q d l hl u hu ih c (i + 1) (by omega) s hs
    · rw [if_neg h, List.length_append] at hs
      have hal : (atX x l).length = l.length := by simp [atX]
      have c1 : (atX x l).length < 17592186044416 := by omega
      simp only [decide_eq_false h, Bool.false_eq_true, if_false, if_neg h, slices_Clone_int_int_e (atX x l) (by omega), Option.bind_some, c1, if_true]
      have ea : atX x l ++ [x[i]] = atX x (l ++ [(i : Int)]) := by rw [eg]; simp [atX]
      rw [ea, List.map_append, ← List.append_assoc]
      refine Ev.bind (ih (l ++ [(i : Int)]) _ s (by rw [List.length_append, List.length_singleton]; omega) (hu.or (by omega)) (by omega)) ?_
      exact impl_GiftTerms_go pw x h4 a b p q d l hl u hu ih c (i + 1) (by omega) _ (by rw [List.length_append, List.length_map]; omega)
theorem impl_GiftTerms_e (pw x : List Int) (hp : pw.length = x.length) (h4 : x.length ≤ 4) (hb : ∀ y ∈ pw, 0 ≤ y ∧ y ≤ 4) (a b : Nat) (ha : a < pw.length) (hbl : b < pw.length) : ∀ (d : Nat) (l : List Int) (u : Int) (s : List Int), l.length + d = x.length → Bits u l → s.length + (goOn x.length d l).length ≤ 1048576 → Ev (fun k => impl_GiftTerms.e k pw x (a : Int) (b : Int) (pw.getD a 0) (pw.getD b 0) d u (atX x l) s) (s ++ (goOn x.length d l).map (termW pw x a b))
  | 0, l, u, s, hl, hu, hs => by
    have hal : (atX x l).length = x.length := by simp [atX]; omega
    simp only [impl_GiftTerms.e, hal, if_true, goOn, List.map_cons, List.map_nil]
    simp only [goOn, List.length_singleton] at hs
    exact impl_GiftTerms_one pw x hb a b l s (by omega) ha hbl (by omega)
  | d + 1, l, u, s, hl, hu, hs => by
    have hal : ¬ (atX x l).length = x.length := by simp [atX]; omega
    simp only [impl_GiftTerms.e, hal, if_false, goOn]
    simp only [goOn] at hs
    have := impl_GiftTerms_go pw x h4 a b (pw.getD a 0) (pw.getD b 0) d l hl u hu (fun m u s hm hu hs => impl_GiftTerms_e pw x hp h4 hb a b ha hbl d m u s hm hu hs) x.length 0 (by omega) s hs
    rw [List.drop_zero] at this
    exact this
theorem impl_GiftTerms_ev (pw : List Int) (i j m : Int) (x : List Int) (hp : pw.length ≤ 1048576) (hx : x.length ≤ 1048576) : Ev (fun k => impl_GiftTerms.f k pw i j m x) (gtV pw i j m x) := by
  simp only [impl_GiftTerms.f]
  have off : gtB pw i j m x = false → Ev (fun _ => some (([], false) : List Int × Bool)) (gtV pw i j m x) := fun h => by
    unfold gtV; rw [h]; exact Ev.now _
  refine Ev.bind (impl_arePowers_ev pw hp) ?_
  cases h1 : wth pw.length 1 4 && allW pw 0 4 with
  | false =>
    simp only [Bool.false_eq_true, if_false]
    have hf : symB pw x = false := by unfold symB; rw [← Bool.and_assoc, h1]; rfl
    exact off (by unfold gtB; rw [hf]; rfl)
  | true =>
    simp only [if_true]
    refine Ev.bind (impl_areArguments_ev x hx) ?_
    rw [Bool.and_eq_true] at h1
    have e0 : symB pw x = (decide ((x.length : Int) = (pw.length : Int)) && allW x 1 9) := by unfold symB; rw [h1.1, h1.2]; rfl
    have w1 := wth_iff.1 h1.1
    have w2 := allW_iff.1 h1.2
    by_cases c : (x.length : Int) = (pw.length : Int)
    · have wx : wth x.length 1 4 = true := wth_iff.2 (by omega)
      have ea : argsB x = symB pw x := by rw [e0]; unfold argsB; rw [wx, decide_eq_true c]
      rw [ea]
      cases h : symB pw x with
      | false => simp only [Bool.false_eq_true, if_false]; exact off (by unfold gtB; rw [h]; rfl)
      | true =>
        simp only [if_true, c.symm]
        by_cases cm : m = 1
        · subst cm
          simp only [if_true, impl_isKind_e pw i j (by omega) w2, Option.bind_some]
          cases h2 : kindB pw i j 1 with
          | false => simp only [Bool.false_eq_true, if_false]; exact off (by unfold gtB; rw [h2]; simp)
          | true =>
            obtain ⟨a, b, rfl, rfl, ha, hbl, hab, _, _, hk⟩ := kindB_parts h2
            have hx4 : x.length ≤ 4 := by omega
            have ax : a < x.length := by omega
            have bx : b < x.length := by omega
            have ra : rd pw (a : Int) = pw.getD a 0 := rfl
            have rb : rd pw (b : Int) = pw.getD b 0 := rfl
            have g := goOn_len hx4 x.length []
            have p4 : 4 ^ x.length ≤ 256 := Nat.le_trans (Nat.pow_le_pow_right (by omega) hx4) (by decide)
            simp only [if_true, inn, c, ilt ha, ilt hbl, hx4, ra, rb]
            have := impl_GiftTerms_e pw x (by omega) hx4 w2 a b ha hbl x.length [] 0 [] (by simp) Bits.nil (by rw [List.length_nil]; omega)
            rw [List.nil_append] at this
            have e2 : gtV pw (a : Int) (b : Int) 1 x = ((goOn x.length x.length []).map (termW pw x a b), true) := by
              unfold gtV gtB
              rw [h, h2]
              rfl
            rw [e2]
            exact Ev.ret (f := fun r => (r, true)) this
        · simp only [if_neg cm]
          exact off (by unfold gtB; rw [decide_eq_false cm]; simp)
    · have hf : symB pw x = false := by rw [e0, decide_eq_false c]; rfl
      have c2 : ¬ ((pw.length : Int) = (x.length : Int)) := by omega
      cases ha : argsB x with
      | false => simp only [Bool.false_eq_true, if_false]; exact off (by unfold gtB; rw [hf]; rfl)
      | true => simp only [if_true, c2, if_false]; exact off (by unfold gtB; rw [hf]; rfl)

theorem laws_heldIntS_l (n : Nat) (hn : n ≤ 1048576) (s : Nat) (hs : s ≤ 4611686018427) : ∀ i, i ≤ n → Ev (fun k => laws_heldIntS.l0 k (iotaF s n) ((s + i : Nat) : Int) (i : Int)) (((s + n : Nat) : Int)) := by
  refine down ?_ ?_
  · refine Ev.succ ?_
    simp only [laws_heldIntS.l0, iotaF_length, nlt (Nat.le_refl n), if_false]
    exact Ev.now _
  · intro i hi ih
    refine Ev.succ ?_
    simp only [laws_heldIntS.l0, iotaF_length, ilt hi, inn, if_true, rd_lt (by rw [iotaF_length]; exact hi : i < (iotaF s n).length), iotaF_get hi, wnext hi (by omega : n ≤ 4611686018427387904), wnext (by omega : s + i < 4611686018427387904) (by omega)]
    exact ih
theorem laws_heldIntS_ev (n : Nat) (hn : n ≤ 1048576) (s : Nat) (hs : s ≤ 4611686018427) : Ev (fun k => laws_heldIntS.f k (iotaF s n) (s : Int)) (((s + n : Nat) : Int)) := by
  have := laws_heldIntS_l n hn s hs 0 (Nat.zero_le _)
  simpa only [laws_heldIntS.f, Int.natCast_zero, Nat.add_zero] using this
theorem laws_heldIntS_from (n : Nat) (hn : n ≤ 1048576) (s : Nat) (hs : s ≤ 4611686018427) {x : Int} (hx : (s : Int) = x) : Ev (fun k => laws_heldIntS.f k (iotaF s n) x) (((s + n : Nat) : Int)) :=
  hx ▸ laws_heldIntS_ev n hn s hs

theorem FnExactGiftTerms_pure (l0 : List Int) (a0 a1 a2 : Int) (l2 : List Int) (hm0 : l0.length ≤ maxLen) (hs0 : l0.length * 8 ≤ 140737488351232) (hw0 : ∀ n ∈ l0, (Lit.int .i64 n).wf = true) (w0 : (Lit.int .i64 a0).wf = true) (w1 : (Lit.int .i64 a1).wf = true) (w2 : (Lit.int .i64 a2).wf = true) (hm2 : l2.length ≤ maxLen) (hs2 : l2.length * 8 ≤ 140737488351232) (hw2 : ∀ n ∈ l2, (Lit.int .i64 n).wf = true) : ∃ k, laws_FnExactGiftTerms.f k l0 a0 a1 a2 l2 = some true := by
  refine Ev.rounds ?_
  simp only [laws_FnExactGiftTerms.f]
  by_cases hba : (l0.length : Int) > 1048576
  · simp only [hba, if_true]; exact Ev.now _
  · simp only [hba, if_false]
    by_cases hbb : (l2.length : Int) > 1048576
    · simp only [hbb, if_true]; exact Ev.now _
    · simp only [hbb, if_false]
      refine Ev.bind (laws_toIntS_ev l0 (by omega)) ?_
      simp only [laws_toGift.f, Option.bind_some]
      refine Ev.bind (laws_toIntS_ev l2 (by omega)) ?_
      refine Ev.bind (spec_GiftTerms_ev l0 a0 a1 a2 l2 (by omega) (by omega)) ?_
      refine Ev.bind (laws_toIntS_ev l0 (by omega)) ?_
      refine Ev.bind (laws_toIntS_ev l2 (by omega)) ?_
      refine Ev.bind (impl_GiftTerms_ev l0 a0 a1 a2 l2 (by omega) (by omega)) ?_
      have hr := gtV_len l0 a0 a1 a2 l2
      refine Ev.bind (laws_eqIntS_self _ (by omega)) ?_
      simp only [bne_self_eq_false, Bool.false_eq_true, if_false, if_true]
      refine Ev.succ ?_
      simp only [laws_FnExactGiftTerms.j0, Bool.false_eq_true, if_false]
      refine Ev.bind (laws_toIntS_ev l0 (by omega)) ?_
      refine Ev.bind (laws_eqIntS_self l0 (by omega)) ?_
      simp only [if_true]
      refine Ev.bind (laws_toIntS_ev l2 (by omega)) ?_
      refine Ev.bind (laws_eqIntS_self l2 (by omega)) ?_
      simp only [if_true]
      refine Ev.bind (laws_markIntS_from l0 (by omega) 1 (by omega) rfl) ?_
      refine Ev.bind (laws_markIntS_from l2 (by omega) (1 + l0.length) (by omega) rfl) ?_
      simp only [nneg, if_false]
      refine Ev.bind (laws_eqIntS_self _ (by omega)) ?_
      simp only [if_true]
      refine Ev.succ ?_
      simp only [laws_FnExactGiftTerms.j1, bne_self_eq_false, Bool.false_eq_true, if_false]
      refine Ev.bind (laws_markIntS_from _ (by omega) 1 (by omega) rfl) ?_
      refine Ev.bind (laws_heldIntS_from _ (by omega) 1 (by omega) rfl) ?_
      simp only [nneg, if_false, if_true]
      refine Ev.bind (laws_toIntS_ev l0 (by omega)) ?_
      simp only [laws_toGift.f, Option.bind_some]
      refine Ev.bind (laws_toIntS_ev l2 (by omega)) ?_
      refine Ev.bind (impl_GiftTerms_ev l0 a0 a1 a2 l2 (by omega) (by omega)) ?_
      refine Ev.bind (laws_eqIntS_self _ (by omega)) ?_
      simp only [if_true]
      refine Ev.succ ?_
      simp only [laws_FnExactGiftTerms.j2, bne_self_eq_false, Bool.false_eq_true, if_false]
      refine Ev.bind (laws_heldIntS_from _ (by omega) 1 (by omega) rfl) ?_
      simp only [nneg, if_false, if_true]
      exact Ev.now _

end Go.Proofs.Ytbnlfhdjcpegkaa.Pure
