/- The terms of a gift are not negative and make up the difference of the symmetric sums; the printed functions' own bounds on lengths are the only conditions. -/
import Derived.Test.YtbnlfhdjcpegkaaPFnGiftsInSumsx12
import Derived.Test.YtbnlfhdjcpegkaaMathS
namespace Go.Proofs.Ytbnlfhdjcpegkaa.Pure
open Go.RowKit Go.Proofs.Ytbnlfhdjcpegkaa.PFnGiftsInSums Go.Proofs.YtbnlfhdjcpegkaaW.PrintWords Go.Proofs.YtbnlfhdjcpegkaaW.PrintLast Go.Proofs.YtbnlfhdjcpegkaaW.PrintMore Go.Proofs.Ytbnlfhdjcpegkaa.Math
set_option linter.unusedVariables false
set_option linter.unusedSimpArgs false
set_option linter.unusedSectionVars false

theorem spec_l1In_e (a b c : Int) : spec_l1In.f a b c = some (wth a b c) := wth_opt a b c

theorem spec_l1All_l (l : List Int) (lo hi : Int) (hl : l.length ≤ 4611686018427387904) : ∀ i, i ≤ l.length → Ev (fun k => spec_l1All.l0 k lo hi l (l.length : Int) (i : Int)) (allW (l.drop i) lo hi) := by
  refine down ?_ ?_
  · refine Ev.succ ?_
    simp only [spec_l1All.l0, nlt (Nat.le_refl l.length), if_false, List.drop_length]
    exact Ev.now _
  · intro i hi ih
    refine Ev.succ ?_
    simp only [spec_l1All.l0, ilt hi, inn, if_true, spec_l1In_e, Option.bind_some, rd_lt hi, wnext hi hl]
    rw [drop_cons hi]
    exact Ev.andS fun _ => ih
theorem spec_l1All_ev (l : List Int) (lo hi : Int) (hl : l.length ≤ 4611686018427387904) : Ev (fun k => spec_l1All.f k l lo hi) (allW l lo hi) := by
  have := spec_l1All_l l lo hi hl 0 (Nat.zero_le _)
  simpa only [spec_l1All.f, List.drop_zero, Int.natCast_zero] using this

def symB (p x : List Int) : Bool := wth p.length 1 4 && (allW p 0 4 && (decide ((x.length : Int) = (p.length : Int)) && allW x 1 9))
/-- The orders that go on l by a number from n - c on. -/
def tries (g : List Int → List (List Int)) (l : List Int) (n : Nat) : Nat → List (List Int)
  | 0 => []
  | c + 1 => (if ((n - (c + 1) : Nat) : Int) ∈ l then [] else g (l ++ [((n - (c + 1) : Nat) : Int)])) ++ tries g l n c
def goOn (n : Nat) : Nat → List Int → List (List Int)
  | 0, l => [l]
  | d + 1, l => tries (goOn n d) l n n
theorem tries_len {g : List Int → List (List Int)} {l : List Int} {n B : Nat} (h : ∀ m, (g m).length ≤ B) : ∀ c, (tries g l n c).length ≤ c * B
  | 0 => by simp [tries]
  | c + 1 => by
    have ih := tries_len h (l := l) (n := n) c
    rw [tries, List.length_append, Nat.succ_mul]
    split
    · simp; omega
    · have := h (l ++ [((n - (c + 1) : Nat) : Int)])
      omega
theorem goOn_len {n : Nat} (hn : n ≤ 4) : ∀ d l, (goOn n d l).length ≤ 4 ^ d
  | 0, l => by simp [goOn]
  | d + 1, l => by
    have := tries_len (l := l) (n := n) (goOn_len hn d) n
    rw [goOn, Nat.pow_succ, Nat.mul_comm]
    exact Nat.le_trans this (Nat.mul_le_mul_right _ hn)
theorem tries_mem {g : List Int → List (List Int)} {l : List Int} {n : Nat} {P : List Int → Prop} (h : ∀ i : Nat, i < n → ∀ o ∈ g (l ++ [(i : Int)]), P o) : ∀ c, c ≤ n → ∀ o ∈ tries g l n c, P o
  | 0, _, o, ho => by simp [tries] at ho
  | c + 1, hc, o, ho => by
    rw [tries, List.mem_append] at ho
    rcases ho with ho | ho
    · split at ho
      · simp at ho
      · exact h _ (by omega) o ho
    · exact tries_mem h c (by omega) o ho
theorem goOn_mem {n : Nat} : ∀ d (l : List Int), l.length + d = n → (∀ j ∈ l, 0 ≤ j ∧ j < (n : Int)) → ∀ o ∈ goOn n d l, o.length = n ∧ ∀ j ∈ o, 0 ≤ j ∧ j < (n : Int)
  | 0, l, hl, hb, o, ho => by
    rw [goOn, List.mem_singleton] at ho
    subst ho
    exact ⟨by omega, hb⟩
  | d + 1, l, hl, hb, o, ho => by
    rw [goOn] at ho
    refine tries_mem (P := fun o => o.length = n ∧ ∀ j ∈ o, 0 ≤ j ∧ j < (n : Int)) (fun i hi o ho => ?_) n (Nat.le_refl _) o ho
    refine goOn_mem d _ (by rw [List.length_append, List.length_singleton]; omega) (fun j hj => ?_) o ho
    rcases List.mem_append.1 hj with hj | hj
    · exact hb j hj
    · rw [List.mem_singleton] at hj; omega
/-- The product of an order's powers, and the sum over orders. -/
def prodW (pw x : List Int) : List Int → Nat → Int → Int
  | [], _, p => p
  | j :: t, i, p => prodW pw x t (i + 1) (wrap64 (p * wrap64 (x.getD j.toNat 0 ^ (pw.getD i 0).toNat)))
def sumW (pw x : List Int) : List (List Int) → Int → Int
  | [], s => s
  | o :: t, s => sumW pw x t (wrap64 (s + prodW pw x o 0 1))
theorem sumW_app (pw x : List Int) : ∀ (a b : List (List Int)) (s : Int), sumW pw x (a ++ b) s = sumW pw x b (sumW pw x a s)
  | [], _, _ => rfl
  | _ :: a, b, s => sumW_app pw x a b _
def symS (pw x : List Int) : Int := sumW pw x (goOn x.length x.length []) 0
def symV (pw x : List Int) : Int × Bool := if symB pw x then (symS pw x, true) else (0, false)
theorem symB_parts {p x : List Int} (h : symB p x = true) : (1 ≤ p.length ∧ p.length ≤ 4) ∧ (∀ y ∈ p, 0 ≤ y ∧ y ≤ 4) ∧ x.length = p.length ∧ (∀ y ∈ x, 1 ≤ y ∧ y ≤ 9) := by
  unfold symB at h
  rw [Bool.and_eq_true, Bool.and_eq_true, Bool.and_eq_true, wth_iff, allW_iff, allW_iff, decide_eq_true_eq] at h
  obtain ⟨h1, h2, h3, h4⟩ := h
  exact ⟨by omega, h2, by omega, h4⟩
def cmpV (a b x : List Int) : Int × Bool := if symB a x && symB b x then (cmpI (symS a x) (symS b x), true) else (0, false)
def atX (x l : List Int) : List Int := l.map fun j => x.getD j.toNat 0

theorem spec_syGiven_ev (p x : List Int) (hp : p.length ≤ 1048576) (hx : x.length ≤ 1048576) : Ev (fun k => spec_syGiven.f k p x) (symB p x) := by
  simp only [spec_syGiven.f, spec_l1In_e, Option.bind_some, symB]
  refine Ev.andS fun _ => ?_
  refine Ev.and (spec_l1All_ev p 0 4 (by omega)) fun _ => ?_
  by_cases c : (x.length : Int) = (p.length : Int)
  · simp only [c, if_true, decide_true, Bool.true_and]
    exact Ev.ret (f := fun t => t) (spec_l1All_ev x 1 9 (by omega))
  · simp only [c, if_false, decide_false, Bool.false_and]
    exact Ev.now _

/-- A unit gift between powers is kind. -/
def kindB (pw : List Int) (i j m : Int) : Bool := wth i 0 ((pw.length : Int) - 1) && (wth j 0 ((pw.length : Int) - 1) && (decide (i ≠ j) && (wth m 1 60 && decide (pw.getD i.toNat 0 - m ≥ pw.getD j.toNat 0 + m))))
def prodX (pw x : List Int) (a b : Nat) : List Int → Nat → Int → Int
  | [], _, p => p
  | j :: t, i, p => prodX pw x a b t (i + 1) (if i = a ∨ i = b then p else wrap64 (p * wrap64 (x.getD j.toNat 0 ^ (pw.getD i 0).toNat)))
def startW (u v p q : Int) : Int := wrap64 (wrap64 (wrap64 ((wrap64 (u * v)) ^ q.toNat) * wrap64 (wrap64 (u ^ (wrap64 (wrap64 (p - q) - 1)).toNat) - wrap64 (v ^ (wrap64 (wrap64 (p - q) - 1)).toNat))) * wrap64 (u - v))
def termW (pw x : List Int) (a b : Nat) (o : List Int) : Int := prodX pw x a b o 0 (startW (x.getD (o.getD a 0).toNat 0) (x.getD (o.getD b 0).toNat 0) (pw.getD a 0) (pw.getD b 0))
def gtB (pw : List Int) (i j m : Int) (x : List Int) : Bool := symB pw x && (decide (m = 1) && kindB pw i j m)
def gtV (pw : List Int) (i j m : Int) (x : List Int) : List Int × Bool := if gtB pw i j m x then ((goOn x.length x.length []).map (termW pw x i.toNat j.toNat), true) else ([], false)
theorem kindB_parts {pw : List Int} {i j m : Int} (h : kindB pw i j m = true) : ∃ a b : Nat, i = (a : Int) ∧ j = (b : Int) ∧ a < pw.length ∧ b < pw.length ∧ a ≠ b ∧ 1 ≤ m ∧ m ≤ 60 ∧ pw.getD a 0 - m ≥ pw.getD b 0 + m := by
  unfold kindB at h
  rw [Bool.and_eq_true, Bool.and_eq_true, Bool.and_eq_true, Bool.and_eq_true, wth_iff, wth_iff, wth_iff, decide_eq_true_eq, decide_eq_true_eq] at h
  obtain ⟨h1, h2, h3, h4, h5⟩ := h
  exact ⟨i.toNat, j.toNat, by omega, by omega, by omega, by omega, by omega, by omega, by omega, by omega⟩
theorem powsD {pw : List Int} (hb : ∀ y ∈ pw, 0 ≤ y ∧ y ≤ 4) (i : Nat) : 0 ≤ pw.getD i 0 ∧ pw.getD i 0 ≤ 4 := by
  by_cases h : i < pw.length
  · have e : pw.getD i 0 = pw[i] := by simp [List.getD_eq_getElem?_getD, h]
    rw [e]; exact hb _ (List.getElem_mem h)
  · have e : pw.getD i 0 = 0 := by simp [List.getD_eq_getElem?_getD, h]
    rw [e]; omega
theorem gtV_len (pw : List Int) (i j m : Int) (x : List Int) : (gtV pw i j m x).1.length ≤ 256 := by
  unfold gtV gtB
  cases h : symB pw x with
  | false => simp
  | true =>
    obtain ⟨s1, s2, s3, s4⟩ := symB_parts h
    have hx4 : x.length ≤ 4 := by omega
    have g := goOn_len hx4 x.length []
    have p4 : 4 ^ x.length ≤ 256 := Nat.le_trans (Nat.pow_le_pow_right (by omega) hx4) (by decide)
    cases (decide (m = 1) && kindB pw i j m) with
    | false => simp
    | true => simp; omega

theorem spec_giKind_e (pw : List Int) (i j m : Int) (hl : 1 ≤ pw.length ∧ pw.length ≤ 4) (hb : ∀ y ∈ pw, 0 ≤ y ∧ y ≤ 4) : spec_giKind.f pw i j m = some (kindB pw i j m) := by
  have el : wrap64 ((pw.length : Int) - 1) = (pw.length : Int) - 1 := w64 (by omega) (by omega)
  simp only [spec_giKind.f, spec_giIs.f, spec_l1In_e, Option.bind_some, el]
  unfold kindB
  cases h1 : wth i 0 ((pw.length : Int) - 1) with
  | false => simp
  | true =>
    cases h2 : wth j 0 ((pw.length : Int) - 1) with
    | false => simp
    | true =>
      rw [wth_iff] at h1 h2
      simp only [if_true, Option.bind_some, Bool.true_and]
      by_cases c : i = j
      · simp only [c, if_true, Option.bind_some, Bool.false_eq_true, if_false]; simp
      · simp only [c, if_false, Option.bind_some, ne_eq, not_false_eq_true, decide_true, Bool.true_and]
        by_cases c2 : m ≥ 1
        · by_cases c3 : m ≤ 60
          · have q1 : i < (pw.length : Int) := by omega
            have q2 : j < (pw.length : Int) := by omega
            have b1 := powsD hb i.toNat
            have b2 := powsD hb j.toNat
            have r1 : rd pw i = pw.getD i.toNat 0 := rfl
            have r2 : rd pw j = pw.getD j.toNat 0 := rfl
            have w1 : wth m 1 60 = true := wth_iff.2 ⟨c2, c3⟩
            simp only [c2, decide_true, if_true, c3, h1.1, h2.1, q1, q2, r1, r2, w1, Bool.true_and]
            rw [w64 (by omega) (by omega), w64 (by omega) (by omega)]
          · have w1 : wth m 1 60 = false := by rw [Bool.eq_false_iff]; intro h; rw [wth_iff] at h; omega
            simp only [c2, decide_true, if_true, c3, if_false, w1, Bool.false_and]
        · have w1 : wth m 1 60 = false := by rw [Bool.eq_false_iff]; intro h; rw [wth_iff] at h; omega
          simp only [c2, decide_false, Bool.false_eq_true, if_false, w1, Bool.false_and]

theorem spec_l1Own_e (l : List Int) (hl : l.length < 17592186044416) : spec_l1Own.f l = some l := by
  simp only [spec_l1Own.f, Option.bind_some, List.nil_append, List.length_nil, Nat.zero_add, hl, if_true]

theorem spec_l1Has_l (a : Int) (l : List Int) (hl : l.length ≤ 4611686018427387904) : ∀ i, i ≤ l.length → Ev (fun k => spec_l1Has.l0 k a l (l.length : Int) (i : Int)) (decide (a ∈ l.drop i)) := by
  refine down ?_ ?_
  · refine Ev.succ ?_
    simp only [spec_l1Has.l0, nlt (Nat.le_refl l.length), if_false, List.drop_length]
    exact (Ev.now _).eqv (by simp)
  · intro i hi ih
    refine Ev.succ ?_
    simp only [spec_l1Has.l0, ilt hi, inn, if_true, rd_lt hi, wnext hi hl]
    rw [drop_cons hi]
    by_cases c : l[i] = a
    · simp only [c, if_true]
      exact (Ev.now _).eqv (by simp)
    · simp only [c, if_false]
      have e : (a ∈ l[i] :: l.drop (i + 1)) ↔ a ∈ l.drop (i + 1) := ⟨fun h => (List.mem_cons.1 h).resolve_left (fun h => c h.symm), List.mem_cons_of_mem _⟩
      exact ih.eqv (decide_eq_decide.2 e.symm)
theorem spec_l1Has_ev (l : List Int) (a : Int) (hl : l.length ≤ 4611686018427387904) : Ev (fun k => spec_l1Has.f k l a) (decide (a ∈ l)) := by
  simp only [spec_l1Has.f]
  have := spec_l1Has_l a l hl 0 (Nat.zero_le _)
  rwa [List.drop_zero] at this

theorem spec_syGoOn_l (n d : Nat) (hn : n ≤ 4) (l : List Int) (hd : l.length + (d + 1) = n) (ih : ∀ m : List Int, m.length + d = n → Ev (fun k => spec_syGoOn.f k m (n : Int)) (goOn n d m)) : ∀ (c i : Nat), i + c = n → ∀ acc : List (List Int), acc.length ≤ 4 ^ d * i → Ev (fun k => spec_syGoOn.l0 k l (n : Int) acc (i : Int)) (acc ++ tries (goOn n d) l n c)
  | 0, i, hi, acc, ha => by
    have e : i = n := by omega
    subst e
    refine Ev.succ ?_
    simp only [spec_syGoOn.l0, nlt (Nat.le_refl i), if_false, tries, List.append_nil]
    exact Ev.now _
  | c + 1, i, hi, acc, ha => by
    have e : n - (c + 1) = i := by omega
    have p4 : 4 ^ d ≤ 256 := Nat.le_trans (Nat.pow_le_pow_right (by omega) (by omega : d ≤ 4)) (by decide)
    have p6 : 4 ^ d * i ≤ 256 * 4 := Nat.mul_le_mul p4 (by omega)
    refine Ev.succ ?_
    simp only [spec_syGoOn.l0, ilt (by omega : i < n), if_true]
    refine Ev.bind (spec_l1Has_ev l (i : Int) (by omega)) ?_
    rw [tries, e]
    by_cases h : (i : Int) ∈ l
    · simp only [decide_eq_true h, if_true, if_pos h, List.nil_append, wnext (by omega : i < n) (by omega : n ≤ 4611686018427387904)]
      exact spec_syGoOn_l n d hn l hd ih c (i + 1) (by omega) acc (Nat.le_trans ha (Nat.mul_le_mul_left _ (Nat.le_succ i)))
    · have g := goOn_len hn d (l ++ [(i : Int)])
      have c1 : l.length < 17592186044416 := by omega
      have c2 : acc.length + (goOn n d (l ++ [(i : Int)])).length < 5864062014805 := by omega
      simp only [decide_eq_false h, Bool.false_eq_true, if_false, if_neg h, spec_l1Own_e l (by omega), Option.bind_some, c1, if_true]
      refine Ev.bind (ih (l ++ [(i : Int)]) (by rw [List.length_append, List.length_singleton]; omega)) ?_
      simp only [c2, if_true, wnext (by omega : i < n) (by omega : n ≤ 4611686018427387904)]
      refine (spec_syGoOn_l n d hn l hd ih c (i + 1) (by omega) (acc ++ goOn n d (l ++ [(i : Int)])) (by rw [List.length_append, Nat.mul_succ]; exact Nat.add_le_add ha g)).eqv ?_
      rw [List.append_assoc]
theorem spec_syGoOn_ev (n : Nat) (hn : n ≤ 4) : ∀ (d : Nat) (l : List Int), l.length + d = n → Ev (fun k => spec_syGoOn.f k l (n : Int)) (goOn n d l)
  | 0, l, hl => by
    refine Ev.succ ?_
    have c : (l.length : Int) = (n : Int) := by omega
    simp only [spec_syGoOn.f, c, if_true, goOn]
    exact Ev.now _
  | d + 1, l, hl => by
    refine Ev.succ ?_
    have c : ¬ ((l.length : Int) = (n : Int)) := by omega
    simp only [spec_syGoOn.f, c, if_false]
    have := spec_syGoOn_l n d hn l hl (fun m hm => spec_syGoOn_ev n hn d m hm) n 0 (by omega) [] (by simp)
    rw [List.nil_append] at this
    exact this

theorem spec_syOrders_ev (n : Nat) (hn : n ≤ 4) : Ev (fun k => spec_syOrders.f k (n : Int)) (goOn n n []) := by
  simp only [spec_syOrders.f]
  exact Ev.ret (f := fun t => t) (spec_syGoOn_ev n hn n [] (by simp))

theorem spec_syPower_l (x : Int) : ∀ (n : Nat), n ≤ 4611686018427387904 → ∀ acc, InR acc → Ev (fun k => spec_syPower.l0 k x (n : Int) acc) (wrap64 (acc * x ^ n))
  | 0, _, acc, ha => by
    refine Ev.succ ?_
    simp only [spec_syPower.l0, (by decide : ¬ (((0 : Nat) : Int) > 0)), if_false, Int.pow_zero, Int.mul_one, wR ha]
    exact Ev.now _
  | n + 1, hn, acc, ha => by
    refine Ev.succ ?_
    have c : ((n + 1 : Nat) : Int) > 0 := by omega
    simp only [spec_syPower.l0, c, if_true, wprev (by omega : n ≤ 4611686018427387904)]
    rw [show acc * x ^ (n + 1) = (acc * x) * x ^ n by rw [Int.pow_succ, Int.mul_assoc, Int.mul_comm x]]
    exact (spec_syPower_l x n (by omega) _ (inR_wrap _)).eqv (wrap_mul _ _)
theorem spec_syPower_ev (x n : Int) (hn : n ≤ 4611686018427387904) : Ev (fun k => spec_syPower.f k x n) (wrap64 (x ^ n.toNat)) := by
  simp only [spec_syPower.f]
  by_cases h : 0 ≤ n
  · have := spec_syPower_l x n.toNat (by omega) 1 ⟨by decide, by decide⟩
    simpa only [Int.toNat_of_nonneg h, Int.one_mul] using this
  · rw [Int.toNat_of_nonpos (by omega), Int.pow_zero]
    have c : ¬ n > 0 := by omega
    refine Ev.succ ?_
    simp only [spec_syPower.l0, c, if_false]
    exact (Ev.now _).eqv (w64 (by omega) (by omega)).symm

theorem spec_GiftTerms_l1 (pw x : List Int) (hp : pw.length = x.length) (h4 : x.length ≤ 4) (hb : ∀ y ∈ pw, 0 ≤ y ∧ y ≤ 4) (a b : Nat) (p q m : Int) (s : List Int) (hs : s.length < 17592186044416) (os : List (List Int)) (j : Nat) (o : List Int) (ho : o.length = x.length) (hm : ∀ y ∈ o, 0 ≤ y ∧ y < (x.length : Int)) (T : Int) (r : List Int × Bool)
    (hK : Ev (fun k => spec_GiftTerms.l0 k pw x p q (s ++ [T]) os (os.length : Int) (wrap64 ((j : Int) + 1)) (a : Int) (b : Int) m) r) : ∀ i, i ≤ o.length → ∀ z, prodX pw x a b (o.drop i) i z = T → Ev (fun k => spec_GiftTerms.l1 k pw x p q s z os (os.length : Int) (j : Int) o (o.length : Int) (i : Int) (a : Int) (b : Int) m) r := by
  refine down ?_ ?_
  · intro z hz
    rw [List.drop_length] at hz
    have e : z = T := hz
    subst e
    refine Ev.succ ?_
    simp only [spec_GiftTerms.l1, nlt (Nat.le_refl o.length), if_false, hs, if_true]
    exact hK
  · intro i hi ih z hz
    have mm := hm _ (List.getElem_mem hi)
    have hip : i < pw.length := by omega
    have bb := hb _ (List.getElem_mem hip)
    rw [drop_cons hi, prodX] at hz
    have eg : pw.getD i 0 = pw[i] := by simp [List.getD_eq_getElem?_getD, hip]
    refine Ev.succ ?_
    simp only [spec_GiftTerms.l1, ilt hi, inn, if_true, wnext hi (by omega : o.length ≤ 4611686018427387904)]
    by_cases ca : i = a
    · have ca' : (i : Int) = (a : Int) := by omega
      rw [if_pos (.inl ca)] at hz
      simp only [ca', if_true]
      rw [← ca']
      subst ca
      exact ih _ hz
    · have ca' : ¬ (i : Int) = (a : Int) := by omega
      simp only [ca', if_false]
      by_cases cb : i = b
      · have cb' : (i : Int) = (b : Int) := by omega
        rw [if_pos (.inr cb)] at hz
        simp only [cb', if_true]
        subst cb
        exact ih _ hz
      · have cb' : ¬ (i : Int) = (b : Int) := by omega
        rw [if_neg (by rintro (h | h); exact ca h; exact cb h)] at hz
        simp only [cb', if_false, rd_lt hi, eq_true mm.1, eq_true mm.2, if_true, ilt hip, rd_lt hip]
        have e2 : rd x o[i] = x.getD (o[i]).toNat 0 := rfl
        rw [e2]
        refine Ev.bind (spec_syPower_ev (x.getD (o[i]).toNat 0) pw[i] (by omega)) ?_
        rw [eg] at hz
        exact ih _ hz
theorem spec_GiftTerms_l0 (pw x : List Int) (hp : pw.length = x.length) (h4 : x.length ≤ 4) (hb : ∀ y ∈ pw, 0 ≤ y ∧ y ≤ 4) (a b : Nat) (ha : a < pw.length) (hbl : b < pw.length) (m : Int) (os : List (List Int)) (hl : os.length ≤ 4096) (hm : ∀ o ∈ os, o.length = x.length ∧ ∀ y ∈ o, 0 ≤ y ∧ y < (x.length : Int)) : ∀ j, j ≤ os.length → ∀ s : List Int, s.length ≤ j → Ev (fun k => spec_GiftTerms.l0 k pw x (pw.getD a 0) (pw.getD b 0) s os (os.length : Int) (j : Int) (a : Int) (b : Int) m) (s ++ (os.drop j).map (termW pw x a b), true) := by
  refine down ?_ ?_
  · intro s hs
    refine Ev.succ ?_
    simp only [spec_GiftTerms.l0, nlt (Nat.le_refl os.length), if_false, List.drop_length, List.map_nil, List.append_nil]
    exact Ev.now _
  · intro j hj ih s hs
    have mm := hm _ (List.getElem_mem hj)
    have er : rd_L1 os (j : Int) = os[j] := by
      show os.getD ((j : Int)).toNat [] = os[j]
      simp [List.getD_eq_getElem?_getD, hj]
    have ed : os.drop j = os[j] :: os.drop (j + 1) := List.drop_eq_getElem_cons hj
    have ao : a < os[j].length := by omega
    have bo : b < os[j].length := by omega
    have m1 := mm.2 _ (List.getElem_mem ao)
    have m2 := mm.2 _ (List.getElem_mem bo)
    have g1 : os[j].getD a 0 = os[j][a] := by simp [List.getD_eq_getElem?_getD, ao]
    have g2 : os[j].getD b 0 = os[j][b] := by simp [List.getD_eq_getElem?_getD, bo]
    have pa := powsD hb a
    have pb := powsD hb b
    have hd : wrap64 (wrap64 (pw.getD a 0 - pw.getD b 0) - 1) ≤ 4611686018427387904 := by
      rw [w64 (x := pw.getD a 0 - pw.getD b 0) (by omega) (by omega), w64 (by omega) (by omega)]; omega
    refine Ev.succ ?_
    simp only [spec_GiftTerms.l0, ilt hj, inn, if_true, er, ilt ao, ilt bo, rd_lt ao, rd_lt bo, eq_true m1.1, eq_true m1.2, eq_true m2.1, eq_true m2.2]
    refine Ev.bind (spec_syPower_ev _ _ (by omega)) ?_
    refine Ev.bind (spec_syPower_ev _ _ hd) ?_
    refine Ev.bind (spec_syPower_ev _ _ hd) ?_
    rw [ed, List.map_cons]
    have e3 : s ++ (termW pw x a b os[j] :: (os.drop (j + 1)).map (termW pw x a b)) = (s ++ [termW pw x a b os[j]]) ++ (os.drop (j + 1)).map (termW pw x a b) := by simp
    rw [e3]
    refine spec_GiftTerms_l1 pw x hp h4 hb a b _ _ m s (by omega) os j os[j] mm.1 mm.2 (termW pw x a b os[j]) _ ?_ 0 (Nat.zero_le _) _ ?_
    · rw [wnext hj (by omega : os.length ≤ 4611686018427387904)]
      exact ih _ (by rw [List.length_append, List.length_singleton]; omega)
    · rw [List.drop_zero]
      unfold termW startW
      rw [g1, g2]
      rfl
theorem spec_GiftTerms_ev (pw : List Int) (i j m : Int) (x : List Int) (hp : pw.length ≤ 1048576) (hx : x.length ≤ 1048576) : Ev (fun k => spec_GiftTerms.f k pw i j m x) (gtV pw i j m x) := by
  simp only [spec_GiftTerms.f]
  have off : gtB pw i j m x = false → Ev (fun k => spec_GiftTerms.j0 k pw x true i j m) (gtV pw i j m x) := fun h => by
    unfold gtV; rw [h]
    refine Ev.succ ?_
    simp only [spec_GiftTerms.j0, if_true]
    exact Ev.now _
  refine Ev.bind (spec_syGiven_ev pw x hp hx) ?_
  cases h1 : symB pw x with
  | false => simp only [Bool.false_eq_true, if_false]; exact off (by unfold gtB; rw [h1]; rfl)
  | true =>
    obtain ⟨s1, s2, s3, s4⟩ := symB_parts h1
    simp only [if_true, spec_giKind_e pw i j m s1 s2, Option.bind_some]
    cases h2 : kindB pw i j m with
    | false => simp only [Bool.false_eq_true, if_false]; exact off (by unfold gtB; rw [h2]; simp)
    | true =>
      simp only [if_true]
      by_cases c : m = 1
      · have e : (m != 1) = false := by rw [c]; rfl
        rw [e]
        obtain ⟨a, b, rfl, rfl, ha, hb, hab, _, _, hk⟩ := kindB_parts h2
        have hx4 : x.length ≤ 4 := by omega
        refine Ev.succ ?_
        simp only [spec_GiftTerms.j0, Bool.false_eq_true, if_false, inn, if_true, ilt ha, ilt hb, rd_get]
        refine Ev.bind (spec_syOrders_ev x.length hx4) ?_
        have g := goOn_len hx4 x.length []
        have p4 : 4 ^ x.length ≤ 256 := Nat.le_trans (Nat.pow_le_pow_right (by omega) hx4) (by decide)
        have := spec_GiftTerms_l0 pw x (by omega) hx4 s2 a b ha hb m (goOn x.length x.length []) (by omega) (goOn_mem x.length [] (by simp) (by simp)) 0 (Nat.zero_le _) [] (Nat.le_refl _)
        rw [List.drop_zero, List.nil_append] at this
        have e2 : gtV pw (a : Int) (b : Int) m x = ((goOn x.length x.length []).map (termW pw x a b), true) := by
          unfold gtV gtB
          rw [h1, h2, decide_eq_true c]
          rfl
        rw [e2]
        exact this
      · have e : (m != 1) = true := by rw [bne_iff_ne]; exact c
        rw [e]
        exact off (by unfold gtB; rw [decide_eq_false c]; simp)

theorem impl_within_e (a b c : Int) : impl_within.f a b c = some (wth a b c) := wth_opt a b c

theorem impl_allWithin_l (l : List Int) (lo hi : Int) (hl : l.length ≤ 4611686018427387904) : ∀ i, i ≤ l.length → Ev (fun k => impl_allWithin.l0 k lo hi l (l.length : Int) (i : Int)) (allW (l.drop i) lo hi) := by
  refine down ?_ ?_
  · refine Ev.succ ?_
    simp only [impl_allWithin.l0, nlt (Nat.le_refl l.length), if_false, List.drop_length]
    exact Ev.now _
  · intro i hi ih
    refine Ev.succ ?_
    simp only [impl_allWithin.l0, ilt hi, inn, if_true, impl_within_e, Option.bind_some, rd_lt hi, wnext hi hl]
    rw [drop_cons hi]
    exact Ev.andS fun _ => ih
theorem impl_allWithin_ev (l : List Int) (lo hi : Int) (hl : l.length ≤ 4611686018427387904) : Ev (fun k => impl_allWithin.f k l lo hi) (allW l lo hi) := by
  have := impl_allWithin_l l lo hi hl 0 (Nat.zero_le _)
  simpa only [impl_allWithin.f, List.drop_zero, Int.natCast_zero] using this

theorem impl_arePowers_ev (p : List Int) (hp : p.length ≤ 1048576) : Ev (fun k => impl_arePowers.f k p) (wth p.length 1 4 && allW p 0 4) := by
  simp only [impl_arePowers.f, impl_within_e, Option.bind_some]
  exact Ev.andS fun _ => Ev.ret (f := fun t => t) (impl_allWithin_ev p 0 4 (by omega))

theorem impl_areArguments_ev (l : List Int) (hl : l.length ≤ 1048576) : Ev (fun k => impl_areArguments.f k l) (argsB l) := by
  simp only [impl_areArguments.f, impl_within_e, Option.bind_some, argsB]
  exact Ev.andS fun _ => Ev.ret (f := fun t => t) (impl_allWithin_ev l 1 9 (by omega))

theorem impl_isGift_yes {l : List Int} (h : Lst l) {p q : Nat} (hp : p < l.length) (hq : q < l.length) (hpq : p ≠ q) : impl_isGift.f l (p : Int) (q : Int) 1 = some true := by
  have h8 := h.2.1
  have w1 : wrap64 ((l.length : Int) - 1) = (l.length : Int) - 1 := w64 (by omega) (by omega)
  have e1 : wth (p : Int) 0 ((l.length : Int) - 1) = true := wth_iff.2 (by omega)
  have e2 : wth (q : Int) 0 ((l.length : Int) - 1) = true := wth_iff.2 (by omega)
  have e3 : ¬ ((p : Int) = (q : Int)) := by omega
  simp only [impl_isGift.f, w1, impl_within_e, Option.bind_some, e1, e2, if_true, e3, if_false]
  rfl

theorem impl_canGive_yes {l : List Int} (h : Lst l) {p q : Nat} (hp : p < l.length) (hq : q < l.length) (hg : l.getD p 0 - l.getD q 0 ≥ 2) : impl_canGive.f l (p : Int) (q : Int) 1 = some true := by
  have ep : l.getD p 0 = l[p] := by simp [List.getD_eq_getElem?_getD, hp]
  have eq : l.getD q 0 = l[q] := by simp [List.getD_eq_getElem?_getD, hq]
  have bp := h.get hp
  have bq := h.get hq
  have hpq : p ≠ q := by rintro rfl; omega
  have c : (1 : Int) ≤ l.getD p 0 := by omega
  have d : (1 : Int) ≤ 60 - l.getD q 0 := by omega
  simp only [impl_canGive.f, impl_isGift_yes h hp hq hpq, Option.bind_some, if_true, inn, ilt hp, ilt hq, rd_get, Int.toNat_natCast, c, w64 (x := 60 - l.getD q 0) (by omega) (by omega), d, decide_true]

theorem impl_isKind_e (pw : List Int) (i j : Int) (hl : 1 ≤ pw.length ∧ pw.length ≤ 4) (hb : ∀ y ∈ pw, 0 ≤ y ∧ y ≤ 4) : impl_isKind.f pw i j 1 = some (kindB pw i j 1) := by
  have el : wrap64 ((pw.length : Int) - 1) = (pw.length : Int) - 1 := w64 (by omega) (by omega)
  simp only [impl_isKind.f, impl_canGive.f, impl_isGift.f, impl_within_e, Option.bind_some, el]
  unfold kindB
  cases h1 : wth i 0 ((pw.length : Int) - 1) with
  | false => simp
  | true =>
    cases h2 : wth j 0 ((pw.length : Int) - 1) with
    | false => simp
    | true =>
      rw [wth_iff] at h1 h2
      simp only [if_true, Option.bind_some, Bool.true_and]
      by_cases c : i = j
      · simp only [c, if_true, Option.bind_some, Bool.false_eq_true, if_false]; simp
      · have q1 : i < (pw.length : Int) := by omega
        have q2 : j < (pw.length : Int) := by omega
        have b1 := powsD hb i.toNat
        have b2 := powsD hb j.toNat
        have r1 : rd pw i = pw.getD i.toNat 0 := rfl
        have r2 : rd pw j = pw.getD j.toNat 0 := rfl
        have w1 : wth 1 1 60 = true := by decide
        have g1 : ((1 : Int) ≥ 1) = True := by simp
        simp only [c, if_false, Option.bind_some, ne_eq, not_false_eq_true, decide_true, Bool.true_and, g1, if_true, h1.1, h2.1, q1, q2, r1, r2, w1]
        by_cases c2 : (1 : Int) ≤ pw.getD i.toNat 0
        · have c3 : (1 : Int) ≤ wrap64 (60 - pw.getD j.toNat 0) := by rw [w64 (by omega) (by omega)]; omega
          simp only [c2, if_true, c3, decide_true, Option.bind_some]
          rw [w64 (by omega) (by omega), w64 (by omega) (by omega)]
        · simp only [c2, if_false, Option.bind_some, Bool.false_eq_true]
          have : ¬ (pw.getD i.toNat 0 - 1 ≥ pw.getD j.toNat 0 + 1) := by omega
          simp only [this, decide_false]

theorem impl_power_l (x : Int) (n : Nat) (hn : n ≤ 4611686018427387904) : ∀ i, i ≤ n → ∀ acc, InR acc → Ev (fun k => impl_power.l0 k x acc (n : Int) (i : Int)) (wrap64 (acc * x ^ (n - i))) := by
  refine down ?_ ?_
  · intro acc ha
    refine Ev.succ ?_
    simp only [impl_power.l0, nlt (Nat.le_refl n), if_false, Nat.sub_self, Int.pow_zero, Int.mul_one, wR ha]
    exact Ev.now _
  · intro i hi ih acc ha
    refine Ev.succ ?_
    simp only [impl_power.l0, ilt hi, if_true, wnext hi hn]
    rw [show n - i = n - (i + 1) + 1 by omega, show acc * x ^ (n - (i + 1) + 1) = (acc * x) * x ^ (n - (i + 1)) by rw [Int.pow_succ, Int.mul_assoc, Int.mul_comm x]]
    exact (ih _ (inR_wrap _)).eqv (wrap_mul _ _)
theorem impl_power_ev (x n : Int) (hn : n ≤ 4611686018427387904) : Ev (fun k => impl_power.f k x n) (wrap64 (x ^ n.toNat)) := by
  simp only [impl_power.f]
  by_cases h : 0 ≤ n
  · have := impl_power_l x n.toNat (by omega) 0 (Nat.zero_le _) 1 ⟨by decide, by decide⟩
    simpa only [Int.toNat_of_nonneg h, Int.one_mul, Nat.sub_zero, Int.natCast_zero] using this
  · rw [Int.toNat_of_nonpos (by omega), Int.pow_zero]
    have c : ¬ 0 < n := by omega
    refine Ev.succ ?_
    simp only [impl_power.l0, c, if_false]
    exact (Ev.now _).eqv (w64 (by omega) (by omega)).symm

theorem impl_has_bits : ∀ u : Fin 16, ∀ j : Fin 4, impl_has.f (u.val : Int) (j.val : Int) = some (u.val.testBit j.val) := by decide +kernel
theorem has_or : ∀ u : Fin 16, ∀ i : Fin 4, Go.bits .or .i64 (u.val : Int) (IntKind.i64.wrap (2 ^ i.val)) = ((u.val ||| 2 ^ i.val : Nat) : Int) := by decide +kernel
/-- The numbers of a list, as bits. -/
def Bits (u : Int) (l : List Int) : Prop := ∃ v : Nat, v < 16 ∧ u = (v : Int) ∧ ∀ j : Nat, j < 4 → v.testBit j = decide ((j : Int) ∈ l)
theorem Bits.nil : Bits 0 [] := ⟨0, by omega, rfl, fun j _ => by simp⟩
theorem Bits.has {u : Int} {l : List Int} (h : Bits u l) {j : Nat} (hj : j < 4) : impl_has.f u (j : Int) = some (decide ((j : Int) ∈ l)) := by
  obtain ⟨v, hv, rfl, hb⟩ := h
  rw [← hb j hj]
  exact impl_has_bits ⟨v, hv⟩ ⟨j, hj⟩
theorem Bits.or {u : Int} {l : List Int} (h : Bits u l) {i : Nat} (hi : i < 4) : Bits (Go.bits .or .i64 u (IntKind.i64.wrap (2 ^ i))) (l ++ [(i : Int)]) := by
  obtain ⟨v, hv, rfl, hb⟩ := h
  refine ⟨v ||| 2 ^ i, ?_, has_or ⟨v, hv⟩ ⟨i, hi⟩, fun j hj => ?_⟩
  · have h2 : 2 ^ i < 2 ^ 4 := Nat.pow_lt_pow_right (by omega) hi
    exact Nat.or_lt_two_pow (n := 4) hv h2
  · rw [Nat.testBit_or, hb j hj, Nat.testBit_two_pow]
    have e : decide (((j : Int)) ∈ l ++ [(i : Int)]) = (decide ((j : Int) ∈ l) || decide (i = j)) := by
      rw [Bool.eq_iff_iff]
      simp only [decide_eq_true_eq, Bool.or_eq_true, List.mem_append, List.mem_singleton]
      constructor
      · rintro (h | h)
        · exact .inl h
        · exact .inr (by omega)
      · rintro (h | h)
        · exact .inl h
        · exact .inr (by omega)
    rw [e]

theorem slices_Clone_int_int_e (l : List Int) (hl : l.length < 17592186044416) : slices_Clone_int_int.f l = some l := by
  simp only [slices_Clone_int_int.f, Option.bind_some, List.nil_append, List.length_nil, Nat.zero_add, hl, if_true]

theorem impl_GiftTerms_v (pw x : List Int) (hb : ∀ y ∈ pw, 0 ≤ y ∧ y ≤ 4) (a b : Nat) : ∀ (t : List Int) (i : Nat) (p : Int), i + t.length = pw.length → Ev (fun k => impl_GiftTerms.v k pw (a : Int) (b : Int) (atX x t) i p) (prodX pw x a b t i p)
  | [], _, _, _ => Ev.now _
  | j :: t, i, p, h => by
    have hi : i < pw.length := by rw [List.length_cons] at h; omega
    have bd := hb _ (List.getElem_mem hi)
    have eg : pw.getD i 0 = pw[i] := by simp [List.getD_eq_getElem?_getD, hi]
    have ht : i + 1 + t.length = pw.length := by rw [List.length_cons] at h; omega
    show Ev (fun k => impl_GiftTerms.v k pw (a : Int) (b : Int) (x.getD j.toNat 0 :: atX x t) i p) _
    simp only [impl_GiftTerms.v, prodX]
    by_cases ca : i = a
    · have ca' : (i : Int) = (a : Int) := by omega
      rw [if_pos (.inl ca)]
      simp only [if_pos ca']
      exact impl_GiftTerms_v pw x hb a b t (i + 1) _ ht
    · have ca' : ¬ (i : Int) = (a : Int) := by omega
      simp only [if_neg ca']
      by_cases cb : i = b
      · have cb' : (i : Int) = (b : Int) := by omega
        rw [if_pos (.inr cb)]
        simp only [if_pos cb']
        exact impl_GiftTerms_v pw x hb a b t (i + 1) _ ht
      · have cb' : ¬ (i : Int) = (b : Int) := by omega
        rw [if_neg (by rintro (h | h); exact ca h; exact cb h)]
        simp only [if_neg cb', hi, if_true]
        refine Ev.bind (impl_power_ev (x.getD j.toNat 0) (pw.getD i 0) (by omega)) ?_
        exact impl_GiftTerms_v pw x hb a b t (i + 1) _ ht
theorem impl_GiftTerms_t (pw x : List Int) (hb : ∀ y ∈ pw, 0 ≤ y ∧ y ≤ 4) (a b : Nat) (o : List Int) (ho : o.length = pw.length) (ha : a < pw.length) (hbl : b < pw.length) : Ev (fun k => impl_GiftTerms.t k pw (a : Int) (b : Int) (pw.getD a 0) (pw.getD b 0) (atX x o)) (termW pw x a b o) := by
  have hal : (atX x o).length = o.length := by simp [atX]
  have ao : a < o.length := by omega
  have bo : b < o.length := by omega
  have ra : rd (atX x o) (a : Int) = x.getD (o.getD a 0).toNat 0 := by
    show (atX x o).getD ((a : Int)).toNat 0 = _
    simp [atX, List.getD_eq_getElem?_getD, ao]
  have rb : rd (atX x o) (b : Int) = x.getD (o.getD b 0).toNat 0 := by
    show (atX x o).getD ((b : Int)).toNat 0 = _
    simp [atX, List.getD_eq_getElem?_getD, bo]
  have pa := powsD hb a
  have pb := powsD hb b
  have hd : wrap64 (wrap64 (pw.getD a 0 - pw.getD b 0) - 1) ≤ 4611686018427387904 := by
    rw [w64 (x := pw.getD a 0 - pw.getD b 0) (by omega) (by omega), w64 (by omega) (by omega)]; omega
  simp only [impl_GiftTerms.t, hal, inn, ilt ao, ilt bo, if_true, ra, rb]
  refine Ev.bind (impl_power_ev _ _ (by omega)) ?_
  refine Ev.bind (impl_power_ev _ _ hd) ?_
  refine Ev.bind (impl_power_ev _ _ hd) ?_
  exact impl_GiftTerms_v pw x hb a b o 0 _ (by omega)
theorem impl_GiftTerms_one (pw x : List Int) (hb : ∀ y ∈ pw, 0 ≤ y ∧ y ≤ 4) (a b : Nat) (o s : List Int) (ho : o.length = pw.length) (ha : a < pw.length) (hbl : b < pw.length) (hs : s.length < 17592186044416) : Ev (fun k => impl_GiftTerms.one k pw (a : Int) (b : Int) (pw.getD a 0) (pw.getD b 0) (atX x o) s) (s ++ [termW pw x a b o]) := by
  simp only [impl_GiftTerms.one, hs, if_true]
  exact Ev.ret (f := fun z => s ++ [z]) (impl_GiftTerms_t pw x hb a b o ho ha hbl)
theorem impl_GiftTerms_go (pw x : List Int) (h4 : x.length ≤ 4) (a b : Nat) (p q : Int) (d : Nat) (l : List Int) (hl : l.length + (d + 1) = x.length) (u : Int) (hu : Bits u l)
    (ih : ∀ (m : List Int) (u : Int) (s : List Int), m.length + d = x.length → Bits u m → s.length + (goOn x.length d m).length ≤ 1048576 → Ev (fun k => impl_GiftTerms.e k pw x (a : Int) (b : Int) p q d u (atX x m) s) (s ++ (goOn x.length d m).map (termW pw x a b))) : ∀ (c i : Nat), i + c = x.length → ∀ s : List Int, s.length + (tries (goOn x.length d) l x.length c).length ≤ 1048576 → Ev (fun k => impl_GiftTerms.go (impl_GiftTerms.e k pw x (a : Int) (b : Int) p q d) u (atX x l) (x.drop i) i s) (s ++ (tries (goOn x.length d) l x.length c).map (termW pw x a b))
  | 0, i, hi, s, _ => by
    have e : i = x.length := by omega
    subst e
    rw [List.drop_length]
    simp only [tries, List.map_nil, List.append_nil]
    exact Ev.now _
  | c + 1, i, hi, s, hs => by
    have e : x.length - (c + 1) = i := by omega
    have hix : i < x.length := by omega
    rw [drop_cons hix]
    have eg : x[i] = x.getD i 0 := by simp [List.getD_eq_getElem?_getD, hix]
    simp only [tries, e] at hs
    simp only [impl_GiftTerms.go, hu.has (by omega : i < 4), Option.bind_some, tries, e]
    by_cases h : (i : Int) ∈ l
    · rw [if_pos h, List.nil_append] at hs
      simp only [decide_eq_true h, if_true, if_pos h, List.nil_append]
      exact impl_GiftTerms_go pw x h4 a b p q d l hl u hu ih c (i + 1) (by omega) s hs
    · rw [if_neg h, List.length_append] at hs
      have hal : (atX x l).length = l.length := by simp [atX]
      have c1 : (atX x l).length < 17592186044416 := by omega
      simp only [decide_eq_false h, Bool.false_eq_true, if_false, if_neg h, slices_Clone_int_int_e (atX x l) (by omega), Option.bind_some, c1, if_true]
      have ea : atX x l ++ [x[i]] = atX x (l ++ [(i : Int)]) := by rw [eg]; simp [atX]
      rw [ea, List.map_append, ← List.append_assoc]
      refine Ev.bind (ih (l ++ [(i : Int)]) _ s (by rw [List.length_append, List.length_singleton]; omega) (hu.or (by omega)) (by omega)) ?_
      exact impl_GiftTerms_go pw x h4 a b p q d l hl u hu ih c (i + 1) (by omega) _ (by rw [List.length_append, List.length_map]; omega)
theorem impl_GiftTerms_e (pw x : List Int) (hp : pw.length = x.length) (h4 : x.length ≤ 4) (hb : ∀ y ∈ pw, 0 ≤ y ∧ y ≤ 4) (a b : Nat) (ha : a < pw.length) (hbl : b < pw.length) : ∀ (d : Nat) (l : List Int) (u : Int) (s : List Int), l.length + d = x.length → Bits u l → s.length + (goOn x.length d l).length ≤ 1048576 → Ev (fun k => impl_GiftTerms.e k pw x (a : Int) (b : Int) (pw.getD a 0) (pw.getD b 0) d u (atX x l) s) (s ++ (goOn x.length d l).map (termW pw x a b))
  | 0, l, u, s, hl, hu, hs => by
    have hal : (atX x l).length = x.length := by simp [atX]; omega
    simp only [impl_GiftTerms.e, hal, if_true, goOn, List.map_cons, List.map_nil]
    simp only [goOn, List.length_singleton] at hs
    exact impl_GiftTerms_one pw x hb a b l s (by omega) ha hbl (by omega)
  | d + 1, l, u, s, hl, hu, hs => by
    have hal : ¬ (atX x l).length = x.length := by simp [atX]; omega
    simp only [impl_GiftTerms.e, hal, if_false, goOn]
    simp only [goOn] at hs
    have := impl_GiftTerms_go pw x h4 a b (pw.getD a 0) (pw.getD b 0) d l hl u hu (fun m u s hm hu hs => impl_GiftTerms_e pw x hp h4 hb a b ha hbl d m u s hm hu hs) x.length 0 (by omega) s hs
    rw [List.drop_zero] at this
    exact this
theorem impl_GiftTerms_ev (pw : List Int) (i j m : Int) (x : List Int) (hp : pw.length ≤ 1048576) (hx : x.length ≤ 1048576) : Ev (fun k => impl_GiftTerms.f k pw i j m x) (gtV pw i j m x) := by
  simp only [impl_GiftTerms.f]
  have off : gtB pw i j m x = false → Ev (fun _ => some (([], false) : List Int × Bool)) (gtV pw i j m x) := fun h => by
    unfold gtV; rw [h]; exact Ev.now _
  refine Ev.bind (impl_arePowers_ev pw hp) ?_
  cases h1 : wth pw.length 1 4 && allW pw 0 4 with
  | false =>
    simp only [Bool.false_eq_true, if_false]
    have hf : symB pw x = false := by unfold symB; rw [← Bool.and_assoc, h1]; rfl
    exact off (by unfold gtB; rw [hf]; rfl)
  | true =>
    simp only [if_true]
    refine Ev.bind (impl_areArguments_ev x hx) ?_
    rw [Bool.and_eq_true] at h1
    have e0 : symB pw x = (decide ((x.length : Int) = (pw.length : Int)) && allW x 1 9) := by unfold symB; rw [h1.1, h1.2]; rfl
    have w1 := wth_iff.1 h1.1
    have w2 := allW_iff.1 h1.2
    by_cases c : (x.length : Int) = (pw.length : Int)
    · have wx : wth x.length 1 4 = true := wth_iff.2 (by omega)
      have ea : argsB x = symB pw x := by rw [e0]; unfold argsB; rw [wx, decide_eq_true c]
      rw [ea]
      cases h : symB pw x with
      | false => simp only [Bool.false_eq_true, if_false]; exact off (by unfold gtB; rw [h]; rfl)
      | true =>
        simp only [if_true, c.symm]
        by_cases cm : m = 1
        · subst cm
          simp only [if_true, impl_isKind_e pw i j (by omega) w2, Option.bind_some]
          cases h2 : kindB pw i j 1 with
          | false => simp only [Bool.false_eq_true, if_false]; exact off (by unfold gtB; rw [h2]; simp)
          | true =>
            obtain ⟨a, b, rfl, rfl, ha, hbl, hab, _, _, hk⟩ := kindB_parts h2
            have hx4 : x.length ≤ 4 := by omega
            have ax : a < x.length := by omega
            have bx : b < x.length := by omega
            have ra : rd pw (a : Int) = pw.getD a 0 := rfl
            have rb : rd pw (b : Int) = pw.getD b 0 := rfl
            have g := goOn_len hx4 x.length []
            have p4 : 4 ^ x.length ≤ 256 := Nat.le_trans (Nat.pow_le_pow_right (by omega) hx4) (by decide)
            simp only [if_true, inn, c, ilt ha, ilt hbl, hx4, ra, rb]
            have := impl_GiftTerms_e pw x (by omega) hx4 w2 a b ha hbl x.length [] 0 [] (by simp) Bits.nil (by rw [List.length_nil]; omega)
            rw [List.nil_append] at this
            have e2 : gtV pw (a : Int) (b : Int) 1 x = ((goOn x.length x.length []).map (termW pw x a b), true) := by
              unfold gtV gtB
              rw [h, h2]
              rfl
            rw [e2]
            exact Ev.ret (f := fun r => (r, true)) this
        · simp only [if_neg cm]
          exact off (by unfold gtB; rw [decide_eq_false cm]; simp)
    · have hf : symB pw x = false := by rw [e0, decide_eq_false c]; rfl
      have c2 : ¬ ((pw.length : Int) = (x.length : Int)) := by omega
      cases ha : argsB x with
      | false => simp only [Bool.false_eq_true, if_false]; exact off (by unfold gtB; rw [hf]; rfl)
      | true => simp only [if_true, c2, if_false]; exact off (by unfold gtB; rw [hf]; rfl)

theorem laws_big_x (a b : List Int) : ∃ t, laws_big.f a b = some t := by
  unfold laws_big.f
  by_cases c : (a.length : Int) > 1048576
  · rw [if_pos c]; exact ⟨_, rfl⟩
  · rw [if_neg c]; exact ⟨_, rfl⟩

theorem spec_l1Cur_next_x {c : List Int} (hc : Bts c) (a s b : Int) (ha : At a b) (hb : b ≤ 4611686018427387904) : ∃ r : Int × Int × Int, spec_l1Cur_next.f c a s = some r ∧ 0 ≤ r.1 ∧ r.1 ≤ 255 ∧ At r.2.1 (b + 1) := by
  have h0 := ha.1
  have h1 := ha.2
  have e : wrap64 (a + 1) = a + 1 := w64 (by omega) (by omega)
  have a1 : At (a + 1) (b + 1) := ⟨by omega, by omega⟩
  have u : ∀ z : Int, 0 ≤ wrap64 (Go.bits .and .u64 (IntKind.u64.wrap z / 1099511627776) 255) ∧ wrap64 (Go.bits .and .u64 (IntKind.u64.wrap z / 1099511627776) 255) ≤ 255 := fun z => and255 _ (by rw [wrapU64]; omega) (by rw [wrapU64]; omega)
  unfold spec_l1Cur_next.f
  by_cases c1 : a < (c.length : Int)
  · have r := rd_code hc h0 c1
    simp only [c1, h0, if_true, e]
    by_cases c2 : a + 1 ≤ (c.length : Int)
    · simp only [c2, if_true]
      refine ⟨_, rfl, ?_, ?_, a1⟩
      · show 0 ≤ wrap64 _
        rw [w64 (by omega) (by omega)]; exact r.1
      · show wrap64 _ ≤ 255
        rw [w64 (by omega) (by omega)]; exact r.2
    · simp only [c2, if_false]
      exact ⟨_, rfl, (u _).1, (u _).2, a1⟩
  · simp only [c1, if_false, e]
    by_cases c2 : a + 1 ≤ (c.length : Int)
    · simp only [c2, if_true]
      exact ⟨_, rfl, by show (0 : Int) ≤ 0; omega, by show (0 : Int) ≤ 255; omega, a1⟩
    · simp only [c2, if_false]
      exact ⟨_, rfl, (u _).1, (u _).2, a1⟩

theorem spec_l1Cur_pick_x {c : List Int} (hc : Bts c) (a s b n : Int) (ha : At a b) (hb : b ≤ 1073741824) : Ex (fun _ => spec_l1Cur_pick.f c a s n) (fun r => 0 ≤ r.1 ∧ (1 ≤ n → r.1 < n) ∧ At r.2.1 (b + 2)) := by
  have h0 := ha.1
  have h1 := ha.2
  unfold spec_l1Cur_pick.f
  by_cases c1 : n ≤ 1
  · simp only [c1, if_true]
    exact Ex.now ⟨by show (0 : Int) ≤ 0; omega, fun h => by show (0 : Int) < n; omega, by omega, by show a ≤ b + 2; omega⟩
  · simp only [c1, if_false]
    obtain ⟨r, hr, r0, r1, r2⟩ := spec_l1Cur_next_x hc a s b ha (by omega)
    rw [hr]
    simp only [Option.bind_some]
    have n0 : ¬ n = 0 := by omega
    by_cases c2 : n > 200
    · simp only [c2, if_true]
      obtain ⟨q, hq, q0, q1, q2⟩ := spec_l1Cur_next_x hc r.2.1 r.2.2 (b + 1) r2 (by omega)
      rw [hq]
      simp only [Option.bind_some, n0, if_false]
      have e : wrap64 (wrap64 (r.1 * 256) + q.1) = r.1 * 256 + q.1 := by rw [w64 (x := r.1 * 256) (by omega) (by omega), w64 (by omega) (by omega)]
      rw [e]
      refine Ex.now ⟨Int.tmod_nonneg _ (by omega), fun _ => Int.tmod_lt_of_pos _ (by omega), q2.1, ?_⟩
      have := q2.2
      show q.2.1 ≤ b + 2
      omega
    · simp only [c2, if_false, n0]
      refine Ex.now ⟨Int.tmod_nonneg _ (by omega), fun _ => Int.tmod_lt_of_pos _ (by omega), r2.1, ?_⟩
      have := r2.2
      show r.2.1 ≤ b + 2
      omega

theorem spec_l1Cur_one_x {c : List Int} (hc : Bts c) (a s b n : Int) (ha : At a b) (hb : b ≤ 1073741824) : Ex (fun _ => spec_l1Cur_one.f c a s n) (fun r => At r.2.1 (b + 2)) := by
  unfold spec_l1Cur_one.f
  refine Ex.bind (spec_l1Cur_pick_x hc a s b n ha hb) fun r hr => ?_
  exact Ex.now hr.2.2

theorem spec_l1Cur_many_x {c : List Int} (hc : Bts c) (a s b : Int) (ha : At a b) (hb : b ≤ 134217728) : Ex (fun _ => spec_l1Cur_many.f c a s) (fun r => 1 ≤ r.1 ∧ r.1 ≤ 5 ∧ At r.2.1 (b + 4)) := by
  unfold spec_l1Cur_many.f
  refine Ex.bind (spec_l1Cur_one_x hc a s b 10 ha (by omega)) fun r hr => ?_
  by_cases c1 : r.1 = true
  · simp only [c1, if_true]
    exact Ex.now ⟨by show (1 : Int) ≤ 5; omega, by show (5 : Int) ≤ 5; omega, hr.1, by have := hr.2; show r.2.1 ≤ _; omega⟩
  · simp only [c1, if_false]
    refine Ex.bind (spec_l1Cur_pick_x hc _ _ (b + 2) 4 hr (by omega)) fun q hq => ?_
    have q0 := hq.1
    have q1 := hq.2.1 (by omega)
    have e : wrap64 (1 + q.1) = 1 + q.1 := w64 (by omega) (by omega)
    rw [e]
    exact Ex.now ⟨by show (1 : Int) ≤ 1 + q.1; omega, by show 1 + q.1 ≤ (5 : Int); omega, hq.2.2.1, by have := hq.2.2.2; show q.2.1 ≤ _; omega⟩

theorem spec_l1Cur_among_x {c : List Int} (hc : Bts c) (a s b : Int) (l : List Int) (hl : 1 ≤ l.length) (ha : At a b) (hb : b ≤ 1073741824) : Ex (fun _ => spec_l1Cur_among.f c a s l) (fun r => r.1 ∈ l ∧ At r.2.1 (b + 2)) := by
  unfold spec_l1Cur_among.f
  refine Ex.bind (spec_l1Cur_pick_x hc a s b _ ha hb) fun r hr => ?_
  have h0 := hr.1
  have h1 := hr.2.1 (by omega)
  simp only [h0, h1, if_true]
  refine Ex.now ⟨?_, hr.2.2⟩
  have hi : r.1.toNat < l.length := by omega
  show rd l r.1 ∈ l
  unfold rd
  rw [List.getD_eq_getElem?_getD, List.getElem?_eq_getElem hi, Option.getD_some]
  exact List.getElem_mem hi

theorem spec_l1Cur_powers_l {c : List Int} (hc : Bts c) (m : Int) (h1 : 1 ≤ m) (hm : m ≤ 5) : ∀ (d : Nat) (x : List Int) (a s b : Int), (x.length : Int) + d = m → At a b → b + 4 * d + 16 ≤ 1073741824 → Ex (fun k => spec_l1Cur_powers.l0 k m x c a s) (fun r => (r.1.length : Int) = m ∧ At r.2.1 (b + 4 * d + 8))
  | 0, x, a, s, b, hx, ha, hb => by
    have c0 : ¬ ((x.length : Int) < m) := by omega
    refine Ex.succ ?_
    simp only [spec_l1Cur_powers.l0, c0, if_false]
    refine Ex.bind (spec_l1Cur_one_x hc a s b 14 ha (by omega)) fun r hr => ?_
    by_cases c1 : r.1 = true
    · simp only [c1, if_true]
      refine Ex.bind (spec_l1Cur_pick_x hc _ _ (b + 2) _ hr (by omega)) fun q hq => ?_
      refine Ex.bind (spec_l1Cur_among_x hc _ _ (b + 2 + 2) _ (by simp) hq.2.2 (by omega)) fun z hz => ?_
      have q0 := hq.1
      have q1 : q.1 < (x.length : Int) := by have := hq.2.1 h1; omega
      simp only [q0, q1, if_true]
      have hz2 := hz.2
      exact Ex.now ⟨by show ((x.set _ _).length : Int) = m; rw [List.length_set]; omega, by unfold At at hz2 ⊢; show 0 ≤ z.2.1 ∧ z.2.1 ≤ b + 4 * ((0 : Nat) : Int) + 8; omega⟩
    · simp only [c1, if_false]
      exact Ex.now ⟨by show (x.length : Int) = m; omega, by unfold At at hr ⊢; show 0 ≤ r.2.1 ∧ r.2.1 ≤ b + 4 * ((0 : Nat) : Int) + 8; omega⟩
  | d + 1, x, a, s, b, hx, ha, hb => by
    have c0 : (x.length : Int) < m := by omega
    have hl : x.length < 17592186044416 := by omega
    refine Ex.succ ?_
    simp only [spec_l1Cur_powers.l0, c0, if_true]
    refine Ex.bind (spec_l1Cur_pick_x hc a s b 5 ha (by omega)) fun r hr => ?_
    simp only [hl, if_true]
    refine Ex.mono (spec_l1Cur_powers_l hc m h1 hm d _ _ _ (b + 2) (by rw [List.length_append, List.length_singleton]; omega) hr.2.2 (by omega)) fun q hq => ⟨hq.1, ?_⟩
    have h := hq.2
    unfold At at h ⊢
    omega
theorem spec_l1Cur_powers_x {c : List Int} (hc : Bts c) (a s b m : Int) (h1 : 1 ≤ m) (hm : m ≤ 5) (ha : At a b) (hb : b ≤ 134217728) : Ex (fun k => spec_l1Cur_powers.f k c a s m) (fun r => (r.1.length : Int) = m ∧ At r.2.1 (b + 28)) := by
  simp only [spec_l1Cur_powers.f]
  refine Ex.mono (spec_l1Cur_powers_l hc m h1 hm m.toNat [] a s b (by simp; omega) ha (by omega)) fun q hq => ⟨hq.1, ?_⟩
  have h := hq.2
  unfold At at h ⊢
  omega

theorem spec_l1Cur_arguments_l {c : List Int} (hc : Bts c) (m : Int) (h1 : 1 ≤ m) (hm : m ≤ 5) : ∀ (d : Nat) (x : List Int) (a s b : Int), (x.length : Int) + d = m → At a b → b + 4 * d + 16 ≤ 1073741824 → Ex (fun k => spec_l1Cur_arguments.l0 k m x c a s) (fun r => r.1.length ≤ 6)
  | 0, x, a, s, b, hx, ha, hb => by
    have c0 : ¬ ((x.length : Int) < m) := by omega
    have hl : x.length < 17592186044416 := by omega
    refine Ex.succ ?_
    simp only [spec_l1Cur_arguments.l0, c0, if_false]
    refine Ex.bind (spec_l1Cur_pick_x hc a s b 14 ha (by omega)) fun r hr => ?_
    by_cases c1 : r.1 = 0
    · simp only [c1, if_true]
      refine Ex.bind (spec_l1Cur_pick_x hc _ _ (b + 2) _ hr.2.2 (by omega)) fun q hq => ?_
      refine Ex.bind (spec_l1Cur_among_x hc _ _ (b + 2 + 2) _ (by simp) hq.2.2 (by omega)) fun z hz => ?_
      have q0 := hq.1
      have q1 : q.1 < (x.length : Int) := by have := hq.2.1 h1; omega
      simp only [q0, q1, if_true]
      exact Ex.now (by show (x.set _ _).length ≤ 6; rw [List.length_set]; omega)
    · simp only [c1, if_false]
      by_cases c2 : r.1 = 1
      · simp only [c2, if_true, hl]
        exact Ex.now (by show (x ++ [2]).length ≤ 6; rw [List.length_append, List.length_singleton]; omega)
      · simp only [c2, if_false]
        exact Ex.now (by show x.length ≤ 6; omega)
  | d + 1, x, a, s, b, hx, ha, hb => by
    have c0 : (x.length : Int) < m := by omega
    have hl : x.length < 17592186044416 := by omega
    refine Ex.succ ?_
    simp only [spec_l1Cur_arguments.l0, c0, if_true]
    refine Ex.bind (spec_l1Cur_pick_x hc a s b 9 ha (by omega)) fun r hr => ?_
    simp only [hl, if_true]
    exact spec_l1Cur_arguments_l hc m h1 hm d _ _ _ (b + 2) (by rw [List.length_append, List.length_singleton]; omega) hr.2.2 (by omega)
theorem spec_l1Cur_arguments_x {c : List Int} (hc : Bts c) (a s b m : Int) (h1 : 1 ≤ m) (hm : m ≤ 5) (ha : At a b) (hb : b ≤ 134217728) : Ex (fun k => spec_l1Cur_arguments.f k c a s m) (fun r => r.1.length ≤ 6) := by
  simp only [spec_l1Cur_arguments.f]
  exact spec_l1Cur_arguments_l hc m h1 hm m.toNat [] a s b (by simp; omega) ha (by omega)

theorem spec_DrawGiftTerms_j {c : List Int} (hc : Bts c) (m : Int) (pw : List Int) (h1 : 1 ≤ m) (hm : m ≤ 5) (hp : pw.length ≤ 6) (a s b i j z : Int) (ha : At a b) (hb : b ≤ 1048576) : Ex (fun k => spec_DrawGiftTerms.j0 k m pw c a s i j z) (fun r => r.1.length ≤ 6 ∧ r.2.2.2.2.length ≤ 6) := by
  refine Ex.succ ?_
  simp only [spec_DrawGiftTerms.j0]
  refine Ex.bind (spec_l1Cur_one_x hc a s b 10 ha (by omega)) fun r hr => ?_
  by_cases c1 : r.1 = true
  · simp only [c1, if_true]
    refine Ex.bind (spec_l1Cur_arguments_x hc _ _ (b + 2) m h1 hm hr (by omega)) fun z hz => ?_
    exact Ex.now ⟨hp, hz⟩
  · simp only [c1, if_false]
    refine Ex.bind (spec_l1Cur_arguments_x hc _ _ (b + 2) m h1 hm hr (by omega)) fun z hz => ?_
    exact Ex.now ⟨hp, hz⟩
theorem spec_DrawGiftTerms_x {c : List Int} (hc : Bts c) : Ex (fun k => spec_DrawGiftTerms.f k c) (fun r => r.1.length ≤ 6 ∧ r.2.2.2.2.length ≤ 6) := by
  simp only [spec_DrawGiftTerms.f]
  refine Ex.bind (spec_l1Cur_many_x hc 0 0 0 ⟨by omega, by omega⟩ (by omega)) fun r hr => ?_
  refine Ex.bind (spec_l1Cur_powers_x hc _ _ (0 + 4) r.1 hr.1 hr.2.1 hr.2.2 (by omega)) fun q hq => ?_
  refine Ex.bind (spec_l1Cur_pick_x hc _ _ (0 + 4 + 28) r.1 hq.2 (by omega)) fun x hx => ?_
  refine Ex.bind (spec_l1Cur_pick_x hc _ _ (0 + 4 + 28 + 2) r.1 hx.2.2 (by omega)) fun y hy => ?_
  have x0 := hx.1
  have x1 : x.1 < (q.1.length : Int) := by have := hx.2.1 hr.1; have := hq.1; omega
  have y0 := hy.1
  have y1 : y.1 < (q.1.length : Int) := by have := hy.2.1 hr.1; have := hq.1; omega
  have hl : q.1.length ≤ 6 := by have := hq.1; have := hr.2.1; omega
  simp only [x0, x1, y0, y1, if_true]
  by_cases c2 : rd q.1 x.1 < rd q.1 y.1
  · simp only [c2, if_true]
    exact spec_DrawGiftTerms_j hc r.1 q.1 hr.1 hr.2.1 hl _ _ (0 + 4 + 28 + 2 + 2) _ _ _ hy.2.2 (by omega)
  · simp only [c2, if_false]
    exact spec_DrawGiftTerms_j hc r.1 q.1 hr.1 hr.2.1 hl _ _ (0 + 4 + 28 + 2 + 2) _ _ _ hy.2.2 (by omega)

theorem laws_pSame_l (l m : List Int) (he : m.length = l.length) (hl : l.length ≤ 4611686018427387904) : ∀ i, i ≤ l.length → Ev (fun k => laws_pSame.l0 k l m (l.length : Int) (i : Int)) (decide (l.drop i = m.drop i)) := by
  refine down ?_ ?_
  · refine Ev.succ ?_
    simp only [laws_pSame.l0, nlt (Nat.le_refl l.length), if_false, List.drop_length]
    rw [← he, List.drop_length]
    exact Ev.now _
  · intro i hi ih
    refine Ev.succ ?_
    simp only [laws_pSame.l0, ilt hi, inn, if_true, he, rd_lt hi, rd_lt (he ▸ hi : i < m.length), wnext hi hl]
    rw [drop_cons hi, drop_cons (he ▸ hi : i < m.length)]
    by_cases hx : l[i] = m[i]
    · simp only [hx, if_true, List.cons.injEq, true_and]
      exact ih
    · simp only [hx, if_false, List.cons.injEq, false_and, decide_false]
      exact Ev.now _
theorem laws_pSame_ev (l m : List Int) (hl : l.length ≤ 4611686018427387904) : Ev (fun k => laws_pSame.f k l m) (decide (l = m)) := by
  simp only [laws_pSame.f]
  by_cases he : (l.length : Int) = (m.length : Int)
  · simp only [he, if_true]
    have := laws_pSame_l l m (by omega) hl 0 (Nat.zero_le _)
    rw [he] at this
    exact this
  · simp only [he, if_false]
    rw [decide_eq_false (fun h => he (by rw [h]))]
    exact Ev.now _

theorem impl_IsList_ev (l : List Int) (hl : l.length ≤ 4611686018427387904) : Ev (fun k => impl_IsList.f k l) (goodB l) := by
  simp only [impl_IsList.f, impl_within_e, Option.bind_some, goodB]
  exact Ev.andS fun _ => Ev.ret (f := fun t => t) (impl_allWithin_ev l 0 60 hl)

/-- A unit given: the one has less, the other more. -/
def gave (l : List Int) (i j : Nat) : List Int := (l.set i (l.getD i 0 - 1)).set j (l.getD j 0 + 1)
def giftB (l : List Int) (i j : Int) : Bool := goodB l && (wth i 0 ((l.length : Int) - 1) && (wth j 0 ((l.length : Int) - 1) && decide (l.getD i.toNat 0 - l.getD j.toNat 0 ≥ 2)))
def giftV (l : List Int) (i j : Nat) : List Int := [wrap64 (spreadOf (gave l i j) - spreadOf l), wrap64 (pairsSum (gave l i j) - pairsSum l), wrap64 ((mostOf (gave l i j) - lowOf (gave l i j)) - (mostOf l - lowOf l)), wrap64 (excessOf (gave l i j) - excessOf l)]
def giftE (l : List Int) (i j : Int) : List Int × Bool := if giftB l i j then (giftV l i.toNat j.toNat, true) else ([], false)
theorem giftE_len (l : List Int) (i j : Int) : (giftE l i j).1.length ≤ 4 := by
  unfold giftE
  split <;> simp [giftV]
theorem giftB_parts {l : List Int} {i j : Int} (h : giftB l i j = true) : ∃ p q : Nat, i = (p : Int) ∧ j = (q : Int) ∧ Lst l ∧ p < l.length ∧ q < l.length ∧ p ≠ q ∧ l.getD p 0 - l.getD q 0 ≥ 2 := by
  unfold giftB at h
  rw [Bool.and_eq_true, Bool.and_eq_true, Bool.and_eq_true, goodB_iff, wth_iff, wth_iff, decide_eq_true_eq] at h
  obtain ⟨h1, h2, h3, h4⟩ := h
  refine ⟨i.toNat, j.toNat, by omega, by omega, h1, by omega, by omega, fun e => ?_, h4⟩
  rw [e] at h4
  omega
theorem gave_len (l : List Int) (i j : Nat) : (gave l i j).length = l.length := by unfold gave; rw [List.length_set, List.length_set]
theorem gave_lst {l : List Int} (h : Lst l) {p q : Nat} (hp : p < l.length) (hq : q < l.length) (hg : l.getD p 0 - l.getD q 0 ≥ 2) : Lst (gave l p q) := by
  have ep : l.getD p 0 = l[p] := by simp [List.getD_eq_getElem?_getD, hp]
  have eq : l.getD q 0 = l[q] := by simp [List.getD_eq_getElem?_getD, hq]
  have bp := h.get hp
  have bq := h.get hq
  refine ⟨by rw [gave_len]; exact h.1, by rw [gave_len]; exact h.2.1, fun x hx => ?_⟩
  unfold gave at hx
  rcases List.mem_or_eq_of_mem_set hx with hx | e
  · rcases List.mem_or_eq_of_mem_set hx with hx | e
    · exact h.2.2 x hx
    · omega
  · omega
theorem set_getD_ne {l : List Int} {p q : Nat} (h : p ≠ q) (v : Int) : (l.set p v).getD q 0 = l.getD q 0 := by
  rw [List.getD_eq_getElem?_getD, List.getElem?_set_ne h, ← List.getD_eq_getElem?_getD]
theorem gave_made {l : List Int} (h : Lst l) {p q : Nat} (hp : p < l.length) (hq : q < l.length) (hpq : p ≠ q) : (l.set p (wrap64 (l.getD p 0 - 1))).set q (wrap64 ((l.set p (wrap64 (l.getD p 0 - 1))).getD q 0 + 1)) = gave l p q := by
  have ep : l.getD p 0 = l[p] := by simp [List.getD_eq_getElem?_getD, hp]
  have eq : l.getD q 0 = l[q] := by simp [List.getD_eq_getElem?_getD, hq]
  have bp := h.get hp
  have bq := h.get hq
  rw [set_getD_ne hpq, w64 (x := l.getD p 0 - 1) (by omega) (by omega), w64 (x := l.getD q 0 + 1) (by omega) (by omega)]
  rfl

theorem impl_given_e {l : List Int} (h : Lst l) {p q : Nat} (hp : p < l.length) (hq : q < l.length) (hpq : p ≠ q) : impl_given.f l (p : Int) (q : Int) 1 = some (gave l p q) := by
  have h8 := h.2.1
  simp only [impl_given.f, slices_Clone_int_int_e l (by omega), Option.bind_some, inn, ilt hp, ilt hq, if_true, rd_get, Int.toNat_natCast]
  rw [gave_made h hp hq hpq]

theorem impl_DoGift_yes {l : List Int} (h : Lst l) {p q : Nat} (hp : p < l.length) (hq : q < l.length) (hg : l.getD p 0 - l.getD q 0 ≥ 2) : Ev (fun k => impl_DoGift.f k l (p : Int) (q : Int) 1) (gave l p q, true) := by
  have hpq : p ≠ q := by rintro rfl; omega
  have h8 := h.2.1
  simp only [impl_DoGift.f, impl_canGive_yes h hp hq hg, impl_given_e h hp hq hpq, Option.bind_some, if_true]
  refine Ev.bind (impl_IsList_ev l (by omega)) ?_
  rw [goodB_iff.2 h]
  simp only [if_true]
  exact Ev.now _

theorem impl_symmetricSum_v (pw x : List Int) (hb : ∀ y ∈ pw, 0 ≤ y ∧ y ≤ 4) : ∀ (t : List Int) (i : Nat) (p : Int), i + t.length = pw.length → Ev (fun k => impl_symmetricSum.v k pw (atX x t) i p) (prodW pw x t i p)
  | [], _, _, _ => Ev.now _
  | j :: t, i, p, h => by
    have hi : i < pw.length := by rw [List.length_cons] at h; omega
    have b := hb _ (List.getElem_mem hi)
    have eg : pw.getD i 0 = pw[i] := by simp [List.getD_eq_getElem?_getD, hi]
    show Ev (fun k => impl_symmetricSum.v k pw (x.getD j.toNat 0 :: atX x t) i p) _
    simp only [impl_symmetricSum.v, hi, if_true, prodW]
    refine Ev.bind (impl_power_ev (x.getD j.toNat 0) (pw.getD i 0) (by omega)) ?_
    exact impl_symmetricSum_v pw x hb t (i + 1) _ (by rw [List.length_cons] at h; omega)
theorem impl_symmetricSum_go (pw x : List Int) (h4 : x.length ≤ 4) (d : Nat) (l : List Int) (hl : l.length + (d + 1) = x.length) (u : Int) (hu : Bits u l)
    (ih : ∀ (m : List Int) (u s : Int), m.length + d = x.length → Bits u m → Ev (fun k => impl_symmetricSum.e k pw x d u (atX x m) s) (sumW pw x (goOn x.length d m) s)) : ∀ (c i : Nat), i + c = x.length → ∀ s, Ev (fun k => impl_symmetricSum.go (impl_symmetricSum.e k pw x d) u (atX x l) (x.drop i) i s) (sumW pw x (tries (goOn x.length d) l x.length c) s)
  | 0, i, hi, s => by
    have e : i = x.length := by omega
    subst e
    rw [List.drop_length]
    exact Ev.now _
  | c + 1, i, hi, s => by
    have e : x.length - (c + 1) = i := by omega
    have hix : i < x.length := by omega
    rw [drop_cons hix]
    have eg : x[i] = x.getD i 0 := by simp [List.getD_eq_getElem?_getD, hix]
    simp only [impl_symmetricSum.go, hu.has (by omega : i < 4), Option.bind_some, tries, e]
    by_cases h : (i : Int) ∈ l
    · simp only [decide_eq_true h, if_true, if_pos h, List.nil_append]
      exact impl_symmetricSum_go pw x h4 d l hl u hu ih c (i + 1) (by omega) s
    · have hal : (atX x l).length = l.length := by simp [atX]
      have c1 : (atX x l).length < 17592186044416 := by omega
      simp only [decide_eq_false h, Bool.false_eq_true, if_false, if_neg h, slices_Clone_int_int_e (atX x l) (by omega), Option.bind_some, c1, if_true]
      have ea : atX x l ++ [x[i]] = atX x (l ++ [(i : Int)]) := by rw [eg]; simp [atX]
      rw [ea, sumW_app]
      refine Ev.bind (ih (l ++ [(i : Int)]) _ s (by rw [List.length_append, List.length_singleton]; omega) (hu.or (by omega))) ?_
      exact impl_symmetricSum_go pw x h4 d l hl u hu ih c (i + 1) (by omega) _
theorem impl_symmetricSum_e (pw x : List Int) (hp : pw.length = x.length) (h4 : x.length ≤ 4) (hb : ∀ y ∈ pw, 0 ≤ y ∧ y ≤ 4) : ∀ (d : Nat) (l : List Int) (u s : Int), l.length + d = x.length → Bits u l → Ev (fun k => impl_symmetricSum.e k pw x d u (atX x l) s) (sumW pw x (goOn x.length d l) s)
  | 0, l, u, s, hl, hu => by
    have hal : (atX x l).length = x.length := by simp [atX]; omega
    simp only [impl_symmetricSum.e, hal, if_true, goOn, sumW]
    exact Ev.ret (f := fun p => wrap64 (s + p)) (impl_symmetricSum_v pw x hb l 0 1 (by omega))
  | d + 1, l, u, s, hl, hu => by
    have hal : ¬ (atX x l).length = x.length := by simp [atX]; omega
    simp only [impl_symmetricSum.e, hal, if_false, goOn]
    have := impl_symmetricSum_go pw x h4 d l hl u hu (fun m u s hm hu => impl_symmetricSum_e pw x hp h4 hb d m u s hm hu) x.length 0 (by omega) s
    rw [List.drop_zero] at this
    exact this
theorem impl_symmetricSum_ev {pw x : List Int} (h : symB pw x = true) : Ev (fun k => impl_symmetricSum.f k pw x) (symS pw x) := by
  obtain ⟨h1, h2, h3, h4⟩ := symB_parts h
  have hx : x.length ≤ 4 := by omega
  simp only [impl_symmetricSum.f, hx, if_true]
  exact impl_symmetricSum_e pw x (by omega) hx h2 x.length [] 0 0 (by simp) Bits.nil

theorem impl_SymmetricSum_ev (p x : List Int) (hp : p.length ≤ 1048576) (hx : x.length ≤ 1048576) : Ev (fun k => impl_SymmetricSum.f k p x) (symV p x) := by
  simp only [impl_SymmetricSum.f]
  have off : symB p x = false → Ev (fun _ => some ((0, false) : Int × Bool)) (symV p x) := fun h => by
    unfold symV; rw [h]; exact Ev.now _
  refine Ev.bind (impl_arePowers_ev p hp) ?_
  cases h1 : wth p.length 1 4 && allW p 0 4 with
  | false =>
    simp only [Bool.false_eq_true, if_false]
    exact off (by unfold symB; rw [← Bool.and_assoc, h1]; rfl)
  | true =>
    simp only [if_true]
    refine Ev.bind (impl_areArguments_ev x hx) ?_
    rw [Bool.and_eq_true] at h1
    have e0 : symB p x = (decide ((x.length : Int) = (p.length : Int)) && allW x 1 9) := by unfold symB; rw [h1.1, h1.2]; rfl
    have w1 := wth_iff.1 h1.1
    by_cases c : (x.length : Int) = (p.length : Int)
    · have wx : wth x.length 1 4 = true := wth_iff.2 (by omega)
      have ea : argsB x = symB p x := by rw [e0]; unfold argsB; rw [wx, decide_eq_true c]
      rw [ea]
      cases h : symB p x with
      | false => simp only [Bool.false_eq_true, if_false]; exact off h
      | true =>
        simp only [if_true, c.symm]
        unfold symV
        rw [h]
        exact Ev.ret (f := fun t => (t, true)) (impl_symmetricSum_ev h)
    · have hf : symB p x = false := by rw [e0, decide_eq_false c]; rfl
      have c2 : ¬ ((p.length : Int) = (x.length : Int)) := by omega
      cases ha : argsB x with
      | false => simp only [Bool.false_eq_true, if_false]; exact off hf
      | true => simp only [if_true, c2, if_false]; exact off hf

theorem laws_pSum_l (l : List Int) (hl : l.length ≤ 4611686018427387904) : ∀ i, i ≤ l.length → ∀ acc, InR acc → Ev (fun k => laws_pSum.l0 k acc l (l.length : Int) (i : Int)) (wrap64 (acc + (l.drop i).sum)) := by
  refine down ?_ ?_
  · intro acc ha
    refine Ev.succ ?_
    simp only [laws_pSum.l0, nlt (Nat.le_refl l.length), if_false, List.drop_length, List.sum_nil, Int.add_zero, wR ha]
    exact Ev.now _
  · intro i hi ih acc ha
    refine Ev.succ ?_
    simp only [laws_pSum.l0, ilt hi, inn, if_true, rd_lt hi, wnext hi hl]
    rw [drop_cons hi, List.sum_cons, ← Int.add_assoc]
    exact (ih _ (inR_wrap _)).eqv (wr_add _ _)
theorem laws_pSum_ev (l : List Int) (hl : l.length ≤ 4611686018427387904) : Ev (fun k => laws_pSum.f k l) (wrap64 l.sum) := by
  have := laws_pSum_l l hl 0 (Nat.zero_le _) 0 inR_0
  simpa only [laws_pSum.f, List.drop_zero, Int.zero_add, Int.natCast_zero] using this
theorem laws_pSum_good {l : List Int} (h : Lst l) : Ev (fun k => laws_pSum.f k l) l.sum :=
  (laws_pSum_ev l (by have := h.2.1; omega)).eqv (w64 (by have := h.sum; omega) (by have := h.sum; omega))

/-! ### the reference's sums without wraps -/
theorem powB {y : Int} (h : 1 ≤ y ∧ y ≤ 9) {e : Int} (he : 0 ≤ e ∧ e ≤ 4) : 0 ≤ y ^ e.toNat ∧ y ^ e.toNat ≤ 6561 := by
  have h1 := pow_pos' (u := y) (by omega) e.toNat
  have h2 := pow_le' (u := y) (v := 9) (by omega) h.2 e.toNat
  have h3 : (9 : Int) ^ e.toNat ≤ 6561 := by
    have : e.toNat = 0 ∨ e.toNat = 1 ∨ e.toNat = 2 ∨ e.toNat = 3 ∨ e.toNat = 4 := by omega
    rcases this with h | h | h | h | h <;> rw [h] <;> decide
  omega
theorem facB {pw x o : List Int} (h : symB pw x = true) (ho : o.length = pw.length) (hr : ∀ k, k < pw.length → 0 ≤ o.getD k 0 ∧ o.getD k 0 < (pw.length : Int)) {k : Nat} (hk : k < pw.length) : 0 ≤ fac pw x o k ∧ fac pw x o k ≤ 6561 := by
  obtain ⟨h1, h2, h3, h4⟩ := symB_parts h
  have r := hr k hk
  exact powB (h4 _ (getD_mem (by omega))) (h2 _ (getD_mem hk))
theorem pow6561 {n : Nat} (h : n ≤ 4) : (6561 : Int) ^ n ≤ 1853020188851841 := by
  have : n = 0 ∨ n = 1 ∨ n = 2 ∨ n = 3 ∨ n = 4 := by omega
  rcases this with h | h | h | h | h <;> rw [h] <;> decide
theorem prodW_val {pw x o : List Int} (h : symB pw x = true) (ho : o.length = pw.length) (hr : ∀ k, k < pw.length → 0 ≤ o.getD k 0 ∧ o.getD k 0 < (pw.length : Int)) : ∀ i, i ≤ pw.length → prodW pw x (o.drop i) i (pr i (fac pw x o)) = valO pw x o := by
  have hb : ∀ i, i ≤ pw.length → 0 ≤ pr i (fac pw x o) ∧ pr i (fac pw x o) ≤ 1853020188851841 := fun i hi => by
    have := pr_le (f := fac pw x o) (B := 6561) (by omega) (n := i) fun k hk => facB h ho hr (by omega)
    have h2 := pow6561 (n := i) (by have := (symB_parts h).1; omega)
    omega
  refine down ?_ ?_
  · rw [List.drop_eq_nil_of_le (by omega)]; rfl
  · intro i hi ih
    have f := facB h ho hr hi
    rw [drop_cons (by omega : i < o.length), prodW]
    have e : x.getD (o[i]'(by omega)).toNat 0 ^ (pw.getD i 0).toNat = fac pw x o i := by unfold fac; rw [getD_lt (by omega : i < o.length)]
    rw [e, w64 (x := fac pw x o i) (by omega) (by omega)]
    have n := hb (i + 1) (by omega)
    have e2 : pr i (fac pw x o) * fac pw x o i = pr (i + 1) (fac pw x o) := rfl
    rw [e2, w64 (by omega) (by omega)]
    exact ih
theorem sumW_val {pw x : List Int} (h : symB pw x = true) : ∀ (P : List (List Int)) (s : Int), (∀ o ∈ P, o.length = pw.length ∧ ∀ k, k < pw.length → 0 ≤ o.getD k 0 ∧ o.getD k 0 < (pw.length : Int)) → 0 ≤ s → s + 1853020188851841 * P.length ≤ 4611686018427387904 → sumW pw x P s = s + msum P pw x
  | [], s, _, _, _ => by unfold sumW msum; simp
  | o :: P, s, hP, h0, hs => by
    have ho := hP o (List.mem_cons_self ..)
    have v := prodW_val h ho.1 ho.2 0 (Nat.zero_le _)
    rw [List.drop_zero] at v
    have b := pr_le (f := fac pw x o) (B := 6561) (by omega) (n := pw.length) fun k hk => facB h ho.1 ho.2 hk
    have h2 := pow6561 (n := pw.length) (by have := (symB_parts h).1; omega)
    have bv : 0 ≤ valO pw x o ∧ valO pw x o ≤ 1853020188851841 := ⟨b.1, by have := b.2; unfold valO; omega⟩
    rw [List.length_cons] at hs
    rw [sumW, show prodW pw x o 0 1 = valO pw x o from v, w64 (by omega) (by omega), sumW_val h P _ (fun q hq => hP q (List.mem_cons_of_mem _ hq)) (by omega) (by omega)]
    unfold msum
    rw [List.map_cons, List.sum_cons]
    omega
/-- All orders of up to four indices. -/
def ordsB (n : Nat) : Bool := let P := goOn n n []
  (P.all fun o => decide (o.length = n)) && (P.all fun o => (List.range n).all fun k => decide (0 ≤ o.getD k 0 ∧ o.getD k 0 < (n : Int)))
  && ((List.range n).all fun i => (List.range n).all fun j => decide (i = j) || List.isPerm (P.map (sw i j)) P)
  && ((List.range n).all fun i => (List.range n).all fun j => decide (i = j) || (List.range n).all fun s => (List.range n).all fun t => decide (s = t) || P.any fun o => decide (o.getD i 0 = (s : Int)) && decide (o.getD j 0 = (t : Int)))
theorem ords_of {n : Nat} (h : ordsB n = true) : Ords (goOn n n []) n := by
  unfold ordsB at h
  simp only [Bool.and_eq_true, List.all_eq_true, Bool.or_eq_true, decide_eq_true_eq, List.mem_range, List.any_eq_true] at h
  obtain ⟨⟨⟨h1, h2⟩, h3⟩, h4⟩ := h
  refine ⟨h1, fun o ho k hk => h2 o ho k hk, fun i j hi hj hij => ?_, fun i j s t hi hj hij hs ht hst => ?_⟩
  · rcases h3 i hi j hj with c | c
    · exact absurd c hij
    · exact List.isPerm_iff.1 c
  · rcases h4 i hi j hj with c | c
    · exact absurd c hij
    · rcases c s hs t ht with c | ⟨o, ho, e1, e2⟩
      · exact absurd c hst
      · exact ⟨o, ho, e1, e2⟩
theorem ords_small {n : Nat} (h1 : 1 ≤ n) (h4 : n ≤ 4) : Ords (goOn n n []) n := by
  have e1 : ordsB 1 = true := by decide +kernel
  have e2 : ordsB 2 = true := by decide +kernel
  have e3 : ordsB 3 = true := by decide +kernel
  have e4 : ordsB 4 = true := by decide +kernel
  have : n = 1 ∨ n = 2 ∨ n = 3 ∨ n = 4 := by omega
  rcases this with h | h | h | h <;> subst h
  · exact ords_of e1
  · exact ords_of e2
  · exact ords_of e3
  · exact ords_of e4
theorem symS_msum {pw x : List Int} (h : symB pw x = true) : symS pw x = msum (goOn pw.length pw.length []) pw x := by
  obtain ⟨h1, h2, h3, h4⟩ := symB_parts h
  have hP := ords_small h1.1 h1.2
  unfold symS
  rw [h3, sumW_val h _ 0 (fun o ho => ⟨hP.len o ho, hP.rng o ho⟩) (by omega) (by
    have l := goOn_len h1.2 pw.length []
    have : 4 ^ pw.length ≤ 4 ^ 4 := Nat.pow_le_pow_right (by omega) h1.2
    omega)]
  omega

/-! ### the terms of a gift without wraps -/
theorem absmul {x y A B : Int} (hx : -A ≤ x ∧ x ≤ A) (hy : -B ≤ y ∧ y ≤ B) : -(A * B) ≤ x * y ∧ x * y ≤ A * B := by
  have h := Int.natAbs_mul x y
  have h2 : x.natAbs * y.natAbs ≤ A.natAbs * B.natAbs := Nat.mul_le_mul (by omega) (by omega)
  have h3 : ((A.natAbs * B.natAbs : Nat) : Int) = A * B := by rw [Int.natCast_mul, Int.natAbs_of_nonneg (by omega), Int.natAbs_of_nonneg (by omega)]
  omega
theorem pr_two_le {f : Nat → Int} {B : Int} (hB : 1 ≤ B) {a b : Nat} (hab : a ≠ b) : ∀ i, (∀ k, k < i → 0 ≤ f k ∧ f k ≤ B) → 0 ≤ pr i (fun k => if k = a ∨ k = b then 1 else f k) ∧ pr i (fun k => if k = a ∨ k = b then 1 else f k) ≤ B ^ (i - (if a < i then 1 else 0) - (if b < i then 1 else 0))
  | 0, _ => by simp [pr]
  | i + 1, h => by
    have ih := pr_two_le hB hab i fun k hk => h k (by omega)
    have hi := h i (by omega)
    rw [pr]
    by_cases c : i = a ∨ i = b
    · rw [if_pos c, Int.mul_one]
      have e : i + 1 - (if a < i + 1 then 1 else 0) - (if b < i + 1 then 1 else 0) = i - (if a < i then 1 else 0) - (if b < i then 1 else 0) := by
        rcases c with c | c <;> subst c <;> split <;> split <;> split <;> split <;> omega
      rw [e]; exact ih
    · rw [if_neg c]
      have c1 : ¬ i = a := fun h => c (.inl h)
      have c2 : ¬ i = b := fun h => c (.inr h)
      have e : i + 1 - (if a < i + 1 then 1 else 0) - (if b < i + 1 then 1 else 0) = (i - (if a < i then 1 else 0) - (if b < i then 1 else 0)) + 1 := by
        split <;> split <;> split <;> split <;> omega
      rw [e, Int.pow_succ]
      exact ⟨Int.mul_nonneg ih.1 hi.1, Int.mul_le_mul ih.2 hi.2 hi.1 (by have := ih.1; have := ih.2; omega)⟩
def restF (pw x o : List Int) (a b k : Nat) : Int := if k = a ∨ k = b then 1 else fac pw x o k
theorem restF_le {pw x o : List Int} (h : symB pw x = true) (ho : o.length = pw.length) (hr : ∀ k, k < pw.length → 0 ≤ o.getD k 0 ∧ o.getD k 0 < (pw.length : Int)) {a b : Nat} (hab : a ≠ b) (ha : a < pw.length) (hb : b < pw.length) : ∀ i, i ≤ pw.length → 0 ≤ pr i (restF pw x o a b) ∧ pr i (restF pw x o a b) ≤ 43046721 := fun i hi => by
  have h4 := (symB_parts h).1
  have b1 := pr_two_le (f := fac pw x o) (B := 6561) (by omega) hab i fun k hk => facB h ho hr (by omega)
  have e2 : i - (if a < i then 1 else 0) - (if b < i then 1 else 0) ≤ 2 := by split <;> split <;> omega
  have : ∀ e : Nat, e ≤ 2 → (6561 : Int) ^ e ≤ 43046721 := fun e he => by
    have : e = 0 ∨ e = 1 ∨ e = 2 := by omega
    rcases this with h | h | h <;> rw [h] <;> decide
  exact ⟨b1.1, Int.le_trans b1.2 (this _ e2)⟩
theorem prodX_val {pw x o : List Int} (h : symB pw x = true) (ho : o.length = pw.length) (hr : ∀ k, k < pw.length → 0 ≤ o.getD k 0 ∧ o.getD k 0 < (pw.length : Int)) {a b : Nat} (hab : a ≠ b) (ha : a < pw.length) (hb : b < pw.length) {S : Int} (hS : -38263752 ≤ S ∧ S ≤ 38263752) : ∀ i, i ≤ pw.length → prodX pw x a b (o.drop i) i (S * pr i (restF pw x o a b)) = S * pr pw.length (restF pw x o a b) := by
  have hle := restF_le h ho hr hab ha hb
  refine down ?_ ?_
  · rw [List.drop_eq_nil_of_le (by omega)]; rfl
  · intro i hi ih
    have f := facB h ho hr hi
    rw [drop_cons (by omega : i < o.length), prodX]
    have e : x.getD (o[i]'(by omega)).toNat 0 ^ (pw.getD i 0).toNat = fac pw x o i := by unfold fac; rw [getD_lt (by omega : i < o.length)]
    have e2 : S * pr (i + 1) (restF pw x o a b) = S * pr i (restF pw x o a b) * restF pw x o a b i := by rw [Int.mul_assoc]; rfl
    have n := hle (i + 1) (by omega)
    have nb := absmul (A := 38263752) (B := 43046721) hS (y := pr (i + 1) (restF pw x o a b)) (by omega)
    by_cases c : i = a ∨ i = b
    · rw [if_pos c]
      have r1 : restF pw x o a b i = 1 := if_pos c
      rw [r1, Int.mul_one] at e2
      rw [← e2]
      exact ih
    · rw [if_neg c]
      have r1 : restF pw x o a b i = fac pw x o i := if_neg c
      rw [e, w64 (x := fac pw x o i) (by omega) (by omega), ← r1, ← e2, w64 (by omega) (by omega)]
      exact ih
theorem startW_val {u v p q : Int} (hu : 1 ≤ u ∧ u ≤ 9) (hv : 1 ≤ v ∧ v ≤ 9) (hp : 0 ≤ p ∧ p ≤ 4) (hq : 0 ≤ q ∧ q ≤ 4) (hk : q + 2 ≤ p) : startW u v p q = Math.gd u v q.toNat (p.toNat - q.toNat - 2) ∧ (-38263752 ≤ startW u v p q ∧ startW u v p q ≤ 38263752) := by
  have ed : wrap64 (wrap64 (p - q) - 1) = p - q - 1 := by rw [w64 (x := p - q) (by omega) (by omega), w64 (by omega) (by omega)]
  have en : (p - q - 1).toNat = p.toNat - q.toNat - 2 + 1 := by omega
  have b1 := absmul (A := 9) (B := 9) (x := u) (y := v) (by omega) (by omega)
  have p1 : 0 < u * v := Int.mul_pos (by omega) (by omega)
  have cube : ∀ {y : Int}, 1 ≤ y ∧ y ≤ 9 → 0 ≤ y ^ (p.toNat - q.toNat - 2 + 1) ∧ y ^ (p.toNat - q.toNat - 2 + 1) ≤ 729 := fun {y} hy => by
    have h1 := pow_pos' (u := y) (by omega) (p.toNat - q.toNat - 2 + 1)
    have h2 := pow_le' (u := y) (v := 9) (by omega) hy.2 (p.toNat - q.toNat - 2 + 1)
    have h3 : (9 : Int) ^ (p.toNat - q.toNat - 2 + 1) ≤ 729 := by
      have : p.toNat - q.toNat - 2 = 0 ∨ p.toNat - q.toNat - 2 = 1 ∨ p.toNat - q.toNat - 2 = 2 := by omega
      rcases this with h | h | h <;> rw [h] <;> decide
    omega
  have h1 := pow_pos' p1 q.toNat
  have h2 := pow_le' p1 (show u * v ≤ 81 by omega) q.toNat
  have h3 : (81 : Int) ^ q.toNat ≤ 6561 := by
    have : q.toNat = 0 ∨ q.toNat = 1 ∨ q.toNat = 2 := by omega
    rcases this with h | h | h <;> rw [h] <;> decide
  have cu := cube hu
  have cv := cube hv
  have m1 := absmul (A := 6561) (B := 729) (x := (u * v) ^ q.toNat) (y := u ^ (p.toNat - q.toNat - 2 + 1) - v ^ (p.toNat - q.toNat - 2 + 1)) (by omega) (by omega)
  have m2 := absmul (A := 4782969) (B := 8) (x := (u * v) ^ q.toNat * (u ^ (p.toNat - q.toNat - 2 + 1) - v ^ (p.toNat - q.toNat - 2 + 1))) (y := u - v) (by omega) (by omega)
  have e : startW u v p q = Math.gd u v q.toNat (p.toNat - q.toNat - 2) := by
    unfold startW Math.gd
    rw [ed, en, w64 (x := u * v) (by omega) (by omega), w64 (x := (u * v) ^ q.toNat) (by omega) (by omega), w64 (x := u ^ (p.toNat - q.toNat - 2 + 1)) (by omega) (by omega), w64 (x := v ^ (p.toNat - q.toNat - 2 + 1)) (by omega) (by omega), w64 (x := u ^ (p.toNat - q.toNat - 2 + 1) - v ^ (p.toNat - q.toNat - 2 + 1)) (by omega) (by omega), w64 (x := u - v) (by omega) (by omega), w64 (x := (u * v) ^ q.toNat * (u ^ (p.toNat - q.toNat - 2 + 1) - v ^ (p.toNat - q.toNat - 2 + 1))) (by omega) (by omega), w64 (by omega) (by omega)]
  refine ⟨e, ?_⟩
  rw [e]
  unfold Math.gd
  omega
theorem termW_val {pw x o : List Int} (h : symB pw x = true) (ho : o.length = pw.length) (hr : ∀ k, k < pw.length → 0 ≤ o.getD k 0 ∧ o.getD k 0 < (pw.length : Int)) {a b : Nat} (hk : Kind pw a b) : termW pw x a b o = term pw x o a b := by
  obtain ⟨ka, kb, kab, kp, kq⟩ := hk
  obtain ⟨s1, s2, s3, s4⟩ := symB_parts h
  have ra := hr a ka
  have rb := hr b kb
  have pa := s2 _ (getD_mem ka)
  have pb := s2 _ (getD_mem kb)
  have st := startW_val (u := x.getD (o.getD a 0).toNat 0) (v := x.getD (o.getD b 0).toNat 0) (s4 _ (getD_mem (by omega))) (s4 _ (getD_mem (by omega))) pa pb (by omega)
  have pv := prodX_val h ho hr kab ka kb st.2 0 (Nat.zero_le _)
  rw [List.drop_zero] at pv
  unfold termW
  have e0 : ∀ z : Int, z * pr 0 (restF pw x o a b) = z := fun z => Int.mul_one z
  rw [e0] at pv
  rw [pv, st.1]
  rfl
theorem gave_sym {pw x : List Int} (h : symB pw x = true) {a b : Nat} (hk : Kind pw a b) : symB (giftL pw a b) x = true := by
  obtain ⟨ka, kb, kab, kp, kq⟩ := hk
  obtain ⟨s1, s2, s3, s4⟩ := symB_parts h
  have pa := s2 _ (getD_mem ka)
  have pb := s2 _ (getD_mem kb)
  have hl := giftL_len pw a b
  unfold symB
  rw [Bool.and_eq_true, Bool.and_eq_true, Bool.and_eq_true, wth_iff, allW_iff, allW_iff, decide_eq_true_eq]
  refine ⟨by omega, fun y hy => ?_, by omega, s4⟩
  unfold giftL at hy
  rcases List.mem_or_eq_of_mem_set hy with hy | hy
  · rcases List.mem_or_eq_of_mem_set hy with hy | hy
    · exact s2 y hy
    · omega
  · omega
theorem FnGiftsInSums_l (T : List Int) (h0 : ∀ y ∈ T, 0 ≤ y) (m n : Int) (hs : wrap64 T.sum = wrap64 (2 * wrap64 (m - n))) (hl : T.length ≤ 1048576) : ∀ i, i ≤ T.length → Ev (fun k => laws_FnGiftsInSums.l0 k T true m true n true T (T.length : Int) (i : Int)) true := by
  refine down ?_ ?_
  · refine Ev.succ ?_
    simp only [laws_FnGiftsInSums.l0, nlt (Nat.le_refl T.length), if_false, if_true]
    refine (Ev.ret (f := fun t => t == wrap64 (2 * wrap64 (m - n))) (laws_pSum_ev T (by omega))).eqv ?_
    rw [hs]; exact beq_self_eq_true _
  · intro i hi ih
    refine Ev.succ ?_
    have g := h0 _ (List.getElem_mem hi)
    have c : ¬ T[i] < 0 := by omega
    simp only [laws_FnGiftsInSums.l0, ilt hi, inn, if_true, rd_lt hi, c, if_false, wnext hi (by omega : T.length ≤ 4611686018427387904)]
    exact ih
theorem FnGiftsInSums : laws_FnGiftsInSums.Pure := by
  intro a b hma hsa hwa hmb hsb hwb
  refine Ev.rounds ?_
  have hc := Bts.of hsa hwa
  simp only [laws_FnGiftsInSums.f]
  obtain ⟨t, ht⟩ := laws_big_x a b
  rw [ht]
  simp only [Option.bind_some]
  by_cases h0 : t = true
  · simp only [h0, if_true]; exact Ev.now _
  · simp only [h0, if_false]
    refine Ex.ev (spec_DrawGiftTerms_x hc) fun r hr => ?_
    obtain ⟨pw, i, j, m, x⟩ := r
    have hp : pw.length ≤ 1048576 := by have := hr.1; simp only at this; omega
    have hx : x.length ≤ 1048576 := by have := hr.2; simp only at this; omega
    have hl := gtV_len pw i j m x
    refine Ev.bind (impl_GiftTerms_ev pw i j m x hp hx) ?_
    refine Ev.bind (spec_GiftTerms_ev pw i j m x hp hx) ?_
    simp only [bne_self_eq_false, Bool.false_eq_true, if_false]
    refine Ev.bind (laws_pSame_ev _ _ (by omega)) ?_
    refine Ev.succ ?_
    simp only [laws_FnGiftsInSums.j0, decide_true, Bool.not_true, Bool.false_eq_true, if_false]
    cases h1 : gtB pw i j m x with
    | false =>
      have e : (gtV pw i j m x).2 = false := by unfold gtV; rw [h1]; rfl
      simp only [e, Bool.false_eq_true, if_false]
      exact Ev.now _
    | true =>
      have e : gtV pw i j m x = ((goOn x.length x.length []).map (termW pw x i.toNat j.toNat), true) := by unfold gtV; rw [h1]; rfl
      rw [e] at hl ⊢
      simp only [if_true]
      unfold gtB at h1
      rw [Bool.and_eq_true, Bool.and_eq_true, decide_eq_true_eq] at h1
      obtain ⟨hs, rfl, hk⟩ := h1
      obtain ⟨p, q, rfl, rfl, ha, hb, hab, _, _, hkk⟩ := kindB_parts hk
      obtain ⟨s1, s2, s3, s4⟩ := symB_parts hs
      have pb := s2 _ (getD_mem hb)
      have kd : Kind pw p q := ⟨ha, hb, hab, pb.1, by omega⟩
      have hL : Lst pw := ⟨s1.1, by omega, fun y hy => by have := s2 y hy; omega⟩
      refine Ev.bind (impl_DoGift_yes hL ha hb (by omega)) ?_
      refine Ev.bind (impl_SymmetricSum_ev pw x hp hx) ?_
      have gl : (gave pw p q).length = pw.length := giftL_len pw p q
      refine Ev.bind (impl_SymmetricSum_ev (gave pw p q) x (by omega) hx) ?_
      have hg : symB (gave pw p q) x = true := gave_sym hs kd
      have e1 : symV pw x = (symS pw x, true) := by unfold symV; rw [hs]; rfl
      have e2 : symV (gave pw p q) x = (symS (gave pw p q) x, true) := by unfold symV; rw [hg]; rfl
      simp only [e1, e2]
      have hP := ords_small s1.1 s1.2
      have tv : (goOn x.length x.length []).map (termW pw x ((p : Int)).toNat ((q : Int)).toNat) = (goOn pw.length pw.length []).map fun o => term pw x o p q := by
        rw [s3]
        refine List.map_congr_left fun o ho => ?_
        exact termW_val hs (hP.len o ho) (hP.rng o ho) kd
      have hx0 : ∀ k, k < pw.length → 0 < x.getD k 0 := fun k hk => by
        have := s4 _ (getD_mem (l := x) (i := k) (by omega)); omega
      have tn := term_nonneg (x := x) hP kd hx0
      have ts := gift_terms (x := x) hP kd
      rw [tv] at hl ⊢
      refine FnGiftsInSums_l _ (fun y hy => ?_) _ _ ?_ (Nat.le_trans hl (by omega)) 0 (Nat.zero_le _)
      · obtain ⟨o, ho, rfl⟩ := List.mem_map.1 hy
        exact tn o ho
      · have e3 := symS_msum hs
        have e4 := symS_msum hg
        have e5 : msum (goOn (gave pw p q).length (gave pw p q).length []) (gave pw p q) x = msum (goOn pw.length pw.length []) (giftL pw p q) x := by rw [gl]; rfl
        rw [e5] at e4
        rw [ts, e3, e4]
        unfold wrap64
        omega

end Go.Proofs.Ytbnlfhdjcpegkaa.Pure
