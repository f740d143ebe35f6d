/- The program's GiftEffects returns what the reference's returns, for all arguments; the printed functions' own bounds on lengths are the only conditions. -/
import Derived.Test.YtbbioadebhnfiaaPFnExactGiftEffectsx9
import Derived.Test.YtbbioadebhnfiaaMath
namespace Go.Proofs.Ytbbioadebhnfiaa.Pure
open Go.RowKit Go.Proofs.Ytbbioadebhnfiaa.PFnExactGiftEffects Go.Proofs.YtbbioadebhnfiaaW.PrintWords Go.Proofs.YtbbioadebhnfiaaW.PrintLast Go.Proofs.YtbbioadebhnfiaaW.PrintMore Go.Proofs.Ytbbioadebhnfiaa.Math
set_option linter.unusedVariables false
set_option linter.unusedSimpArgs false
set_option linter.unusedSectionVars false

theorem spec_l1In_e (a b c : Int) : spec_l1In.f a b c = some (wth a b c) := wth_opt a b c

theorem spec_l1All_l (l : List Int) (lo hi : Int) (hl : l.length ≤ 4611686018427387904) : ∀ i, i ≤ l.length → Ev (fun k => spec_l1All.l0 k lo hi l (l.length : Int) (i : Int)) (allW (l.drop i) lo hi) := by
  refine down ?_ ?_
  · refine Ev.succ ?_
    simp only [spec_l1All.l0, nlt (Nat.le_refl l.length), if_false, List.drop_length]
    exact Ev.now _
  · intro i hi ih
    refine Ev.succ ?_
    simp only [spec_l1All.l0, ilt hi, inn, if_true, spec_l1In_e, Option.bind_some, rd_lt hi, wnext hi hl]
    rw [drop_cons hi]
    exact Ev.andS fun _ => ih
theorem spec_l1All_ev (l : List Int) (lo hi : Int) (hl : l.length ≤ 4611686018427387904) : Ev (fun k => spec_l1All.f k l lo hi) (allW l lo hi) := by
  have := spec_l1All_l l lo hi hl 0 (Nat.zero_le _)
  simpa only [spec_l1All.f, List.drop_zero, Int.natCast_zero] using this

theorem spec_liGood_ev (l : List Int) (hl : l.length ≤ 4611686018427387904) : Ev (fun k => spec_liGood.f k l) (goodB l) := by
  simp only [spec_liGood.f, spec_l1In_e, Option.bind_some, goodB]
  exact Ev.andS fun _ => Ev.ret (f := fun t => t) (spec_l1All_ev l 0 60 hl)

theorem spec_l1Own_e (l : List Int) (hl : l.length < 17592186044416) : spec_l1Own.f l = some l := by
  simp only [spec_l1Own.f, Option.bind_some, List.nil_append, List.length_nil, Nat.zero_add, hl, if_true]

theorem spec_msSquares_l (l : List Int) (hl : l.length ≤ 1048576) : ∀ i, i ≤ l.length → ∀ acc, InR acc → Ev (fun k => spec_msSquares.l0 k acc l (l.length : Int) (i : Int)) (wrap64 (acc + dot (l.drop i) (l.drop i))) := by
  refine down ?_ ?_
  · intro acc ha
    refine Ev.succ ?_
    simp only [spec_msSquares.l0, nlt (Nat.le_refl l.length), if_false, List.drop_length, dot_nil, Int.add_zero, wR ha]
    exact Ev.now _
  · intro i hi ih acc ha
    refine Ev.succ ?_
    simp only [spec_msSquares.l0, ilt hi, inn, if_true, rd_lt hi, wnext hi (by omega : l.length ≤ 4611686018427387904)]
    rw [drop_cons hi, dot_cons, ← Int.add_assoc]
    refine (ih _ (inR_wrap _)).eqv ?_
    rw [wrap_add, Int.add_right_comm, wrap_add', Int.add_right_comm]
theorem spec_msSquares_ev (l : List Int) (hl : l.length ≤ 1048576) : Ev (fun k => spec_msSquares.f k l) (wrap64 (dot l l)) := by
  have := spec_msSquares_l l hl 0 (Nat.zero_le _) 0 inR_0
  simpa only [spec_msSquares.f, List.drop_zero, Int.zero_add, Int.natCast_zero] using this

theorem spec_liSum_l (l : List Int) (hl : l.length ≤ 4611686018427387904) : ∀ i, i ≤ l.length → ∀ acc, InR acc → Ev (fun k => spec_liSum.l0 k acc l (l.length : Int) (i : Int)) (wrap64 (acc + (l.drop i).sum)) := by
  refine down ?_ ?_
  · intro acc ha
    refine Ev.succ ?_
    simp only [spec_liSum.l0, nlt (Nat.le_refl l.length), if_false, List.drop_length, List.sum_nil, Int.add_zero, wR ha]
    exact Ev.now _
  · intro i hi ih acc ha
    refine Ev.succ ?_
    simp only [spec_liSum.l0, ilt hi, inn, if_true, rd_lt hi, wnext hi hl]
    rw [drop_cons hi, List.sum_cons, ← Int.add_assoc]
    exact (ih _ (inR_wrap _)).eqv (wrap_add _ _)
theorem spec_liSum_ev (l : List Int) (hl : l.length ≤ 4611686018427387904) : Ev (fun k => spec_liSum.f k l) (wrap64 l.sum) := by
  have := spec_liSum_l l hl 0 (Nat.zero_le _) 0 inR_0
  simpa only [spec_liSum.f, List.drop_zero, Int.zero_add, Int.natCast_zero] using this
theorem spec_liSum_good {l : List Int} (h : Lst l) : Ev (fun k => spec_liSum.f k l) l.sum :=
  (spec_liSum_ev l (by have := h.2.1; omega)).eqv (w64 (by have := h.sum; omega) (by have := h.sum; omega))

theorem spec_msSpread_ev {l : List Int} (h : Lst l) : Ev (fun k => spec_msSpread.f k l) (spreadOf l) := by
  simp only [spec_msSpread.f]
  refine Ev.bind (spec_msSquares_ev l (by have := h.2.1; omega)) ?_
  refine Ev.bind (spec_liSum_good h) ?_
  exact Ev.ret (f := fun t => wrap64 (wrap64 ((l.length : Int) * wrap64 (dot l l)) - wrap64 (l.sum * t))) (spec_liSum_good h)

theorem spec_l1Most_e (a b : Int) : spec_l1Most.f a b = some (max a b) := by
  unfold spec_l1Most.f
  by_cases h : a > b
  · rw [if_pos h]; congr 1; omega
  · rw [if_neg h]; congr 1; omega

theorem spec_l1Abs_e (a : Int) : spec_l1Abs.f a = some (max a (wrap64 (-a))) := by
  simp only [spec_l1Abs.f, spec_l1Most_e, Option.bind_some]

theorem spec_msPairs_l1 (l : List Int) (hl : l.length ≤ 1048576) (hb : ∀ x ∈ l, 0 ≤ x ∧ x ≤ 60) (x : Int) (hx : 0 ≤ x ∧ x ≤ 60) (o : Nat) (r : Int) (m : List Int) (hm : ∀ y ∈ m, 0 ≤ y ∧ y ≤ 60) (hml : m.length ≤ 1048576)
    (hk : ∀ acc, InR acc → Ev (fun k => spec_msPairs.l0 k l acc l (l.length : Int) (wrap64 ((o : Int) + 1))) (wrap64 (acc + r))) :
    ∀ i, i ≤ m.length → ∀ acc, InR acc → Ev (fun k => spec_msPairs.l1 k l acc x l (l.length : Int) (o : Int) m (m.length : Int) (i : Int)) (wrap64 (acc + ((m.drop i).map (absd x)).sum + r)) := by
  refine down ?_ ?_
  · intro acc ha
    refine Ev.succ ?_
    simp only [spec_msPairs.l1, nlt (Nat.le_refl m.length), if_false, List.drop_length, List.map_nil, List.sum_nil, Int.add_zero]
    exact hk acc ha
  · intro i hi ih acc ha
    have b := hm _ (List.getElem_mem hi)
    refine Ev.succ ?_
    simp only [spec_msPairs.l1, ilt hi, inn, if_true, rd_lt hi, wnext hi (by omega : m.length ≤ 4611686018427387904), spec_l1Abs_e, Option.bind_some]
    rw [drop_cons hi, List.map_cons, List.sum_cons, ← Int.add_assoc]
    refine (ih _ (inR_wrap _)).eqv ?_
    rw [Int.add_assoc, wrap_add]
    unfold absd
    congr 1
    rw [w64 (x := x - m[i]) (by omega) (by omega), w64 (x := -(x - m[i])) (by omega) (by omega)]
    omega
theorem spec_msPairs_l0 (l : List Int) (hl : l.length ≤ 1048576) (hb : ∀ x ∈ l, 0 ≤ x ∧ x ≤ 60) : ∀ i, i ≤ l.length → ∀ acc, InR acc → Ev (fun k => spec_msPairs.l0 k l acc l (l.length : Int) (i : Int)) (wrap64 (acc + pairsFrom l i)) := by
  refine down ?_ ?_
  · intro acc ha
    refine Ev.succ ?_
    simp only [spec_msPairs.l0, nlt (Nat.le_refl l.length), if_false, pairsFrom, List.drop_length, Nat.sub_self, pairsGo, Int.add_zero, wR ha]
    exact Ev.now _
  · intro i hi ih acc ha
    refine Ev.succ ?_
    simp only [spec_msPairs.l0, ilt hi, inn, if_true, rd_lt hi, ile (Nat.le_of_lt hi), Int.toNat_natCast]
    refine (spec_msPairs_l1 l hl hb l[i] (hb _ (List.getElem_mem hi)) i (pairsFrom l (i + 1)) (l.take i) (fun y hy => hb y (List.mem_of_mem_take hy)) (by simp; omega) (fun acc ha => ?_) 0 (Nat.zero_le _) acc ha).eqv ?_
    · rw [wnext hi (by omega)]
      exact ih acc ha
    · rw [List.drop_zero, pairsFrom_step hi, Int.add_assoc]
theorem spec_msPairs_ev (l : List Int) (h : Lst l) : Ev (fun k => spec_msPairs.f k l) (pairsSum l) := by
  have := spec_msPairs_l0 l (by have := h.2.1; omega) h.2.2 0 (Nat.zero_le _) 0 inR_0
  rw [Int.zero_add] at this
  have hb := pairsSum_bound h
  simp only [spec_msPairs.f]
  exact this.eqv (w64 (by have := hb.1; unfold pairsSum at this; omega) (by have := hb.2; unfold pairsSum at this; omega))

theorem spec_liRank_l1 (l : List Int) (x : Int) (i : Nat) (r : List Int) (hr : r.length ≤ 1048576) (hl : l.length ≤ 1048576) (hi : i < l.length) (v : List Int)
    (ih : Ev (fun k => spec_liRank.l0 k (insD x r) l (l.length : Int) ((i + 1 : Nat) : Int)) v) : ∀ p, p ≤ r.length → insD x r = r.take p ++ insD x (r.drop p) → Ev (fun k => spec_liRank.l1 k r x (p : Int) l (l.length : Int) (i : Int)) v := by
  refine down ?_ ?_
  · intro e
    rw [List.take_length, List.drop_length] at e
    refine Ev.succ ?_
    have e2 : (r ++ [x]).length < 17592186044416 := by rw [List.length_append, List.length_singleton]; omega
    have e3 : r.length + 1 < 17592186044416 := by omega
    simp only [spec_liRank.l1, nlt (Nat.le_refl r.length), if_false, inn, ile (Nat.le_refl r.length), if_true, Int.toNat_natCast, List.take_length, List.drop_length, spec_l1Own_e r (by omega), Option.bind_some, List.length_singleton, List.length_append, List.length_nil, Nat.add_zero, e3, List.append_nil, wnext hi (by omega : l.length ≤ 4611686018427387904)]
    have e' : insD x r = r ++ [x] := e
    rw [← e']; exact ih
  · intro p hp ihp e
    refine Ev.succ ?_
    have e1 : r.drop p = r[p] :: r.drop (p + 1) := drop_cons hp
    by_cases c : r[p] ≥ x
    · simp only [spec_liRank.l1, ilt hp, inn, if_true, rd_lt hp, c, wnext hp (by omega : r.length ≤ 4611686018427387904)]
      refine ihp ?_
      rw [e, e1]
      simp only [insD, c, if_true]
      rw [List.take_succ_eq_append_getElem hp, List.append_assoc, List.singleton_append]
    · have h1 : (r.take p).length = p := by rw [List.length_take]; omega
      have h2 : (r.drop p).length = r.length - p := List.length_drop
      have e2 : p + 1 < 17592186044416 := by omega
      have e3 : p + 1 + (r.length - p) < 17592186044416 := by omega
      simp only [spec_liRank.l1, ilt hp, ile (Nat.le_of_lt hp), inn, if_true, rd_lt hp, c, if_false, Int.toNat_natCast, spec_l1Own_e (r.take p) (by omega), Option.bind_some, List.length_singleton, List.length_append, h1, h2, e2, e3, wnext hi (by omega : l.length ≤ 4611686018427387904)]
      have e' : insD x r = r.take p ++ [x] ++ r.drop p := by
        rw [e, e1]
        simp only [insD, c, if_false]
        rw [List.append_assoc, List.singleton_append]
      rw [← e']; exact ih
theorem spec_liRank_l0 (l : List Int) (hl : l.length ≤ 1048576) : ∀ i, i ≤ l.length → ∀ r : List Int, r.length = i → Ev (fun k => spec_liRank.l0 k r l (l.length : Int) (i : Int)) (rankFrom r (l.drop i)) := by
  refine down ?_ ?_
  · intro r hr
    refine Ev.succ ?_
    simp only [spec_liRank.l0, nlt (Nat.le_refl l.length), if_false, List.drop_length]
    exact Ev.now _
  · intro i hi ih r hr
    refine Ev.succ ?_
    simp only [spec_liRank.l0, ilt hi, inn, if_true, rd_lt hi]
    rw [drop_cons hi]
    exact spec_liRank_l1 l l[i] i r (by omega) hl hi _ (ih (insD l[i] r) (by rw [insD_length, hr])) 0 (Nat.zero_le _) (by rw [List.take_zero, List.drop_zero, List.nil_append])
theorem spec_liRank_ev (l : List Int) (hl : l.length ≤ 1048576) : Ev (fun k => spec_liRank.f k l) (rankD l) := by
  have := spec_liRank_l0 l hl 0 (Nat.zero_le _) [] rfl
  rwa [List.drop_zero] at this

theorem spec_msRange_ev {l : List Int} (h : Lst l) : Ev (fun k => spec_msRange.f k l) (mostOf l - lowOf l) := by
  simp only [spec_msRange.f]
  have h1 := h.1
  have h2 := h.2.1
  refine Ev.bind (spec_liRank_ev l (by omega)) ?_
  have a := h.2.2 _ (mostOf_mem (by omega : 0 < l.length))
  have b := h.2.2 _ (lowOf_mem (by omega : 0 < l.length))
  have e0 : wrap64 ((l.length : Int) - 1) = ((l.length - 1 : Nat) : Int) := by rw [w64 (by omega) (by omega)]; omega
  have e1 : rd (rankD l) 0 = mostOf l := (rd_get _ 0).trans (rankD_first (by omega))
  simp only [rankD_length, e0, e1, rd_get, rankD_last (by omega : 0 < l.length), inn, ilt (by omega : l.length - 1 < l.length), if_true, eq_true (by omega : 0 < (l.length : Int)), w64 (by omega : -9223372036854775808 ≤ mostOf l - lowOf l) (by omega)]
  exact Ev.now _

theorem spec_msExcess_l {l : List Int} (h : Lst l) : ∀ i, i ≤ l.length → ∀ acc : Int, 0 ≤ acc → acc ≤ 4611686018427387904 - 4000 * ((l.length - i : Nat) : Int) → Ev (fun k => spec_msExcess.l0 k l acc l (l.length : Int) (i : Int)) (acc + ((l.drop i).map fun x => max 0 (l.length * x - l.sum)).sum) := by
  have hn := h.2.1
  refine down ?_ ?_
  · intro acc ha hb
    refine Ev.succ ?_
    simp only [spec_msExcess.l0, nlt (Nat.le_refl l.length), if_false, List.drop_length, List.map_nil, List.sum_nil, Int.add_zero]
    exact Ev.now _
  · intro i hi ih acc ha hb
    have b := h.get hi
    have s := h.sum
    have hx : 0 ≤ (l.length : Int) * l[i] ∧ (l.length : Int) * l[i] ≤ 480 := by
      have h1 : (l.length : Int) * l[i] ≤ 8 * 60 := Int.mul_le_mul (by omega) b.2 b.1 (by omega)
      exact ⟨Int.mul_nonneg (by omega) b.1, h1⟩
    refine Ev.succ ?_
    simp only [spec_msExcess.l0, ilt hi, inn, if_true, rd_lt hi, wnext hi (by omega : l.length ≤ 4611686018427387904)]
    refine Ev.bind (spec_liSum_good h) ?_
    simp only [spec_l1Most_e, Option.bind_some]
    rw [drop_cons hi, List.map_cons, List.sum_cons, ← Int.add_assoc, w64 (x := (l.length : Int) * l[i]) (by omega) (by omega), w64 (x := (l.length : Int) * l[i] - l.sum) (by omega) (by omega), w64 (x := acc + _) (by omega) (by omega)]
    exact ih _ (by omega) (by omega)
theorem spec_msExcess_ev {l : List Int} (h : Lst l) : Ev (fun k => spec_msExcess.f k l) (excessOf l) := by
  have := spec_msExcess_l h 0 (Nat.zero_le _) 0 (by omega) (by have := h.2.1; omega)
  simpa only [spec_msExcess.f, List.drop_zero, Int.zero_add, Int.natCast_zero, excessOf] using this

/-- A unit given: the one has less, the other more. -/
def gave (l : List Int) (i j : Nat) : List Int := (l.set i (l.getD i 0 - 1)).set j (l.getD j 0 + 1)
def giftB (l : List Int) (i j : Int) : Bool := goodB l && (wth i 0 ((l.length : Int) - 1) && (wth j 0 ((l.length : Int) - 1) && decide (l.getD i.toNat 0 - l.getD j.toNat 0 ≥ 2)))
def giftV (l : List Int) (i j : Nat) : List Int := [wrap64 (spreadOf (gave l i j) - spreadOf l), wrap64 (pairsSum (gave l i j) - pairsSum l), wrap64 ((mostOf (gave l i j) - lowOf (gave l i j)) - (mostOf l - lowOf l)), wrap64 (excessOf (gave l i j) - excessOf l)]
def giftE (l : List Int) (i j : Int) : List Int × Bool := if giftB l i j then (giftV l i.toNat j.toNat, true) else ([], false)
theorem giftE_len (l : List Int) (i j : Int) : (giftE l i j).1.length ≤ 4 := by
  unfold giftE
  split <;> simp [giftV]
theorem giftB_parts {l : List Int} {i j : Int} (h : giftB l i j = true) : ∃ p q : Nat, i = (p : Int) ∧ j = (q : Int) ∧ Lst l ∧ p < l.length ∧ q < l.length ∧ p ≠ q ∧ l.getD p 0 - l.getD q 0 ≥ 2 := by
  unfold giftB at h
  rw [Bool.and_eq_true, Bool.and_eq_true, Bool.and_eq_true, goodB_iff, wth_iff, wth_iff, decide_eq_true_eq] at h
  obtain ⟨h1, h2, h3, h4⟩ := h
  refine ⟨i.toNat, j.toNat, by omega, by omega, h1, by omega, by omega, fun e => ?_, h4⟩
  rw [e] at h4
  omega
theorem gave_len (l : List Int) (i j : Nat) : (gave l i j).length = l.length := by unfold gave; rw [List.length_set, List.length_set]
theorem gave_lst {l : List Int} (h : Lst l) {p q : Nat} (hp : p < l.length) (hq : q < l.length) (hg : l.getD p 0 - l.getD q 0 ≥ 2) : Lst (gave l p q) := by
  have ep : l.getD p 0 = l[p] := by simp [List.getD_eq_getElem?_getD, hp]
  have eq : l.getD q 0 = l[q] := by simp [List.getD_eq_getElem?_getD, hq]
  have bp := h.get hp
  have bq := h.get hq
  refine ⟨by rw [gave_len]; exact h.1, by rw [gave_len]; exact h.2.1, fun x hx => ?_⟩
  unfold gave at hx
  rcases List.mem_or_eq_of_mem_set hx with hx | e
  · rcases List.mem_or_eq_of_mem_set hx with hx | e
    · exact h.2.2 x hx
    · omega
  · omega
theorem set_getD_ne {l : List Int} {p q : Nat} (h : p ≠ q) (v : Int) : (l.set p v).getD q 0 = l.getD q 0 := by
  rw [List.getD_eq_getElem?_getD, List.getElem?_set_ne h, ← List.getD_eq_getElem?_getD]
theorem gave_made {l : List Int} (h : Lst l) {p q : Nat} (hp : p < l.length) (hq : q < l.length) (hpq : p ≠ q) : (l.set p (wrap64 (l.getD p 0 - 1))).set q (wrap64 ((l.set p (wrap64 (l.getD p 0 - 1))).getD q 0 + 1)) = gave l p q := by
  have ep : l.getD p 0 = l[p] := by simp [List.getD_eq_getElem?_getD, hp]
  have eq : l.getD q 0 = l[q] := by simp [List.getD_eq_getElem?_getD, hq]
  have bp := h.get hp
  have bq := h.get hq
  rw [set_getD_ne hpq, w64 (x := l.getD p 0 - 1) (by omega) (by omega), w64 (x := l.getD q 0 + 1) (by omega) (by omega)]
  rfl

theorem spec_GiftEffects_ev (l : List Int) (i j : Int) (hl : l.length ≤ 1048576) : Ev (fun k => spec_GiftEffects.f k l i j) (giftE l i j) := by
  simp only [spec_GiftEffects.f]
  have off : giftB l i j = false → Ev (fun k => spec_GiftEffects.j0 k l i j true) (giftE l i j) := by
    intro h
    have e : giftE l i j = ([], false) := by unfold giftE; rw [h]; rfl
    rw [e]
    refine Ev.succ ?_
    simp only [spec_GiftEffects.j0, if_true]
    exact Ev.now _
  refine Ev.bind (spec_liGood_ev l (by omega)) ?_
  cases h1 : goodB l with
  | false => simp only [Bool.false_eq_true, if_false]; exact off (by unfold giftB; rw [h1]; rfl)
  | true =>
    have la := goodB_iff.1 h1
    have l8 := la.2.1
    have w1 : wrap64 ((l.length : Int) - 1) = (l.length : Int) - 1 := w64 (by omega) (by omega)
    simp only [if_true, spec_l1In_e, Option.bind_some, w1]
    cases h2 : wth i 0 ((l.length : Int) - 1) with
    | false => simp only [Bool.false_eq_true, if_false]; exact off (by unfold giftB; rw [h1, h2]; rfl)
    | true =>
      simp only [if_true]
      cases h3 : wth j 0 ((l.length : Int) - 1) with
      | false => simp only [Bool.false_eq_true, if_false]; exact off (by unfold giftB; rw [h1, h2, h3]; rfl)
      | true =>
        simp only [if_true]
        have b2 := wth_iff.1 h2
        have b3 := wth_iff.1 h3
        obtain ⟨p, rfl⟩ := Int.eq_ofNat_of_zero_le b2.1
        obtain ⟨q, rfl⟩ := Int.eq_ofNat_of_zero_le b3.1
        have hp : p < l.length := by omega
        have hq : q < l.length := by omega
        by_cases e : p = q
        · have e2 : ((p : Nat) : Int) = ((q : Nat) : Int) := by rw [e]
          simp only [e2, if_true]
          have := off (by
            unfold giftB
            rw [h1, h2, h3, e2]
            simp)
          rw [e2] at this
          exact this
        · have e2 : ¬ ((p : Nat) : Int) = ((q : Nat) : Int) := by omega
          have ep : l.getD p 0 = l[p] := by simp [List.getD_eq_getElem?_getD, hp]
          have eq : l.getD q 0 = l[q] := by simp [List.getD_eq_getElem?_getD, hq]
          have bp := la.get hp
          have bq := la.get hq
          simp only [e2, if_false, inn, ilt hp, ilt hq, if_true, rd_get, w64 (x := l.getD q 0 + 2) (by omega) (by omega)]
          by_cases c : l.getD p 0 < l.getD q 0 + 2
          · simp only [decide_eq_true c]
            refine off ?_
            unfold giftB
            rw [h1, h2, h3, Int.toNat_natCast, Int.toNat_natCast, decide_eq_false (by omega)]
            rfl
          · have hg : l.getD p 0 - l.getD q 0 ≥ 2 := by omega
            have hb : giftB l (p : Int) (q : Int) = true := by
              unfold giftB
              rw [h1, h2, h3, Int.toNat_natCast, Int.toNat_natCast, decide_eq_true hg]
              rfl
            have ev : giftE l (p : Int) (q : Int) = (giftV l p q, true) := by unfold giftE; rw [hb]; rfl
            have lb := gave_lst la hp hq hg
            rw [ev]
            simp only [decide_eq_false c]
            refine Ev.succ ?_
            simp only [spec_GiftEffects.j0, Bool.false_eq_true, if_false, spec_l1Own_e l (by omega), Option.bind_some, inn, ilt hp, ilt hq, if_true, rd_get, Int.toNat_natCast, gave_made la hp hq e]
            refine Ev.bind (spec_msSpread_ev lb) ?_
            refine Ev.bind (spec_msSpread_ev la) ?_
            refine Ev.bind (spec_msPairs_ev _ lb) ?_
            refine Ev.bind (spec_msPairs_ev _ la) ?_
            refine Ev.bind (spec_msRange_ev lb) ?_
            refine Ev.bind (spec_msRange_ev la) ?_
            refine Ev.bind (spec_msExcess_ev lb) ?_
            refine Ev.bind (spec_msExcess_ev la) ?_
            exact Ev.now _

theorem laws_toIntS_l (l : List Int) (hl : l.length ≤ 4611686018427387904) : ∀ i, i ≤ l.length → ∀ m : List Int, m.length = l.length → m.take i = l.take i → Ev (fun k => laws_toIntS.l0 k l m (i : Int)) l := by
  refine down ?_ ?_
  · intro m hm h
    refine Ev.succ ?_
    simp only [laws_toIntS.l0, nlt (Nat.le_refl l.length), if_false]
    rw [← hm, List.take_length, hm, List.take_length] at h
    rw [h]
    exact Ev.now _
  · intro i hi ih m hm h
    refine Ev.succ ?_
    simp only [laws_toIntS.l0, ilt hi, inn, if_true, hm, rd_lt hi, wnext hi hl, Int.toNat_natCast]
    exact ih _ (by simpa using hm) (set_take l m i hi hm h)
theorem laws_toIntS_ev (l : List Int) (hl : l.length ≤ 35184372088832) : Ev (fun k => laws_toIntS.f k l) l := by
  have := laws_toIntS_l l (by omega) 0 (Nat.zero_le _) (List.replicate l.length 0) (by simp) (by simp)
  simp only [laws_toIntS.f, inn, if_true, Int.toNat_natCast, hl]
  exact this

theorem impl_within_e (a b c : Int) : impl_within.f a b c = some (wth a b c) := wth_opt a b c

theorem impl_allWithin_l (l : List Int) (lo hi : Int) (hl : l.length ≤ 4611686018427387904) : ∀ i, i ≤ l.length → Ev (fun k => impl_allWithin.l0 k lo hi l (l.length : Int) (i : Int)) (allW (l.drop i) lo hi) := by
  refine down ?_ ?_
  · refine Ev.succ ?_
    simp only [impl_allWithin.l0, nlt (Nat.le_refl l.length), if_false, List.drop_length]
    exact Ev.now _
  · intro i hi ih
    refine Ev.succ ?_
    simp only [impl_allWithin.l0, ilt hi, inn, if_true, impl_within_e, Option.bind_some, rd_lt hi, wnext hi hl]
    rw [drop_cons hi]
    exact Ev.andS fun _ => ih
theorem impl_allWithin_ev (l : List Int) (lo hi : Int) (hl : l.length ≤ 4611686018427387904) : Ev (fun k => impl_allWithin.f k l lo hi) (allW l lo hi) := by
  have := impl_allWithin_l l lo hi hl 0 (Nat.zero_le _)
  simpa only [impl_allWithin.f, List.drop_zero, Int.natCast_zero] using this

theorem impl_IsList_ev (l : List Int) (hl : l.length ≤ 4611686018427387904) : Ev (fun k => impl_IsList.f k l) (goodB l) := by
  simp only [impl_IsList.f, impl_within_e, Option.bind_some, goodB]
  exact Ev.andS fun _ => Ev.ret (f := fun t => t) (impl_allWithin_ev l 0 60 hl)

theorem impl_arranged_l (l m : List Int) (hl : l.length ≤ 1048576) (hm : l.length ≤ m.length) : ∀ i, i ≤ l.length → ∀ acc, InR acc → Ev (fun k => impl_arranged.l0 k m acc l (l.length : Int) (i : Int)) (wrap64 (acc + dot (l.drop i) (m.drop i))) := by
  refine down ?_ ?_
  · intro acc ha
    refine Ev.succ ?_
    simp only [impl_arranged.l0, nlt (Nat.le_refl l.length), if_false, List.drop_length, dot_nil, Int.add_zero, wR ha]
    exact Ev.now _
  · intro i hi ih acc ha
    have h2 : i < m.length := by omega
    refine Ev.succ ?_
    simp only [impl_arranged.l0, ilt hi, ilt h2, inn, if_true, rd_lt hi, rd_lt h2, wnext hi (by omega : l.length ≤ 4611686018427387904)]
    rw [drop_cons hi, drop_cons h2, dot_cons, ← Int.add_assoc]
    refine (ih _ (inR_wrap _)).eqv ?_
    rw [wrap_add, Int.add_right_comm, wrap_add', Int.add_right_comm]
theorem impl_arranged_ev (l m : List Int) (hl : l.length ≤ 1048576) (hm : l.length ≤ m.length) : Ev (fun k => impl_arranged.f k l m) (wrap64 (dot l m)) := by
  have := impl_arranged_l l m hl hm 0 (Nat.zero_le _) 0 inR_0
  simpa only [impl_arranged.f, List.drop_zero, Int.zero_add, Int.natCast_zero] using this

theorem impl_squares_ev (l : List Int) (hl : l.length ≤ 1048576) : Ev (fun k => impl_squares.f k l) (wrap64 (dot l l)) := by
  simp only [impl_squares.f]
  exact Ev.ret (f := fun t => t) (impl_arranged_ev l l hl (Nat.le_refl _))

theorem impl_total_l (l : List Int) (hl : l.length ≤ 4611686018427387904) : ∀ i, i ≤ l.length → ∀ acc, InR acc → Ev (fun k => impl_total.l0 k acc l (l.length : Int) (i : Int)) (wrap64 (acc + (l.drop i).sum)) := by
  refine down ?_ ?_
  · intro acc ha
    refine Ev.succ ?_
    simp only [impl_total.l0, nlt (Nat.le_refl l.length), if_false, List.drop_length, List.sum_nil, Int.add_zero, wR ha]
    exact Ev.now _
  · intro i hi ih acc ha
    refine Ev.succ ?_
    simp only [impl_total.l0, ilt hi, inn, if_true, rd_lt hi, wnext hi hl]
    rw [drop_cons hi, List.sum_cons, ← Int.add_assoc]
    exact (ih _ (inR_wrap _)).eqv (wrap_add _ _)
theorem impl_total_ev (l : List Int) (hl : l.length ≤ 4611686018427387904) : Ev (fun k => impl_total.f k l) (wrap64 l.sum) := by
  have := impl_total_l l hl 0 (Nat.zero_le _) 0 inR_0
  simpa only [impl_total.f, List.drop_zero, Int.zero_add, Int.natCast_zero] using this
theorem impl_total_good {l : List Int} (h : Lst l) : Ev (fun k => impl_total.f k l) l.sum :=
  (impl_total_ev l (by have := h.2.1; omega)).eqv (w64 (by have := h.sum; omega) (by have := h.sum; omega))

theorem impl_spread_ev {l : List Int} (h : Lst l) : Ev (fun k => impl_spread.f k l) (spreadOf l) := by
  simp only [impl_spread.f]
  refine Ev.bind (impl_squares_ev l (by have := h.2.1; omega)) ?_
  refine Ev.bind (impl_total_good h) ?_
  exact Ev.ret (f := fun t => wrap64 (wrap64 ((l.length : Int) * wrap64 (dot l l)) - wrap64 (l.sum * t))) (impl_total_good h)

theorem impl_pairs_l1 (l : List Int) (hl : l.length ≤ 1048576) (hb : ∀ x ∈ l, 0 ≤ x ∧ x ≤ 60) (x : Int) (hx : 0 ≤ x ∧ x ≤ 60) (o : Nat) (r : Int) (m : List Int) (hm : ∀ y ∈ m, 0 ≤ y ∧ y ≤ 60) (hml : m.length ≤ 1048576)
    (hk : ∀ acc, InR acc → Ev (fun k => impl_pairs.l0 k l acc l (l.length : Int) (wrap64 ((o : Int) + 1))) (wrap64 (acc + r))) :
    ∀ i, i ≤ m.length → ∀ acc, InR acc → Ev (fun k => impl_pairs.l1 k l acc x l (l.length : Int) (o : Int) m (m.length : Int) (i : Int)) (wrap64 (acc + ((m.drop i).map (absd x)).sum + r)) := by
  refine down ?_ ?_
  · intro acc ha
    refine Ev.succ ?_
    simp only [impl_pairs.l1, nlt (Nat.le_refl m.length), if_false, List.drop_length, List.map_nil, List.sum_nil, Int.add_zero]
    exact hk acc ha
  · intro i hi ih acc ha
    have b := hm _ (List.getElem_mem hi)
    refine Ev.succ ?_
    simp only [impl_pairs.l1, ilt hi, inn, if_true, rd_lt hi, wnext hi (by omega : m.length ≤ 4611686018427387904), mx_eq]
    rw [drop_cons hi, List.map_cons, List.sum_cons, ← Int.add_assoc]
    refine (ih _ (inR_wrap _)).eqv ?_
    rw [Int.add_assoc, wrap_add]
    unfold absd
    congr 1
    rw [w64 (x := x - m[i]) (by omega) (by omega), w64 (x := m[i] - x) (by omega) (by omega)]
    omega
theorem impl_pairs_l0 (l : List Int) (hl : l.length ≤ 1048576) (hb : ∀ x ∈ l, 0 ≤ x ∧ x ≤ 60) : ∀ i, i ≤ l.length → ∀ acc, InR acc → Ev (fun k => impl_pairs.l0 k l acc l (l.length : Int) (i : Int)) (wrap64 (acc + pairsFrom l i)) := by
  refine down ?_ ?_
  · intro acc ha
    refine Ev.succ ?_
    simp only [impl_pairs.l0, nlt (Nat.le_refl l.length), if_false, pairsFrom, List.drop_length, Nat.sub_self, pairsGo, Int.add_zero, wR ha]
    exact Ev.now _
  · intro i hi ih acc ha
    refine Ev.succ ?_
    simp only [impl_pairs.l0, ilt hi, inn, if_true, rd_lt hi, ile (Nat.le_of_lt hi), Int.toNat_natCast]
    refine (impl_pairs_l1 l hl hb l[i] (hb _ (List.getElem_mem hi)) i (pairsFrom l (i + 1)) (l.take i) (fun y hy => hb y (List.mem_of_mem_take hy)) (by simp; omega) (fun acc ha => ?_) 0 (Nat.zero_le _) acc ha).eqv ?_
    · rw [wnext hi (by omega)]
      exact ih acc ha
    · rw [List.drop_zero, pairsFrom_step hi, Int.add_assoc]
theorem impl_pairs_ev (l : List Int) (h : Lst l) : Ev (fun k => impl_pairs.f k l) (pairsSum l) := by
  have := impl_pairs_l0 l (by have := h.2.1; omega) h.2.2 0 (Nat.zero_le _) 0 inR_0
  rw [Int.zero_add] at this
  have hb := pairsSum_bound h
  simp only [impl_pairs.f]
  exact this.eqv (w64 (by have := hb.1; unfold pairsSum at this; omega) (by have := hb.2; unfold pairsSum at this; omega))

theorem slices_Max_int_int_l (l : List Int) (hl : l.length ≤ 1048576) : ∀ i, i ≤ l.length → ∀ a : Int, Ev (fun k => slices_Max_int_int.l0 k l a (i : Int)) ((l.drop i).foldl max a) := by
  refine down ?_ ?_
  · intro a
    refine Ev.succ ?_
    simp only [slices_Max_int_int.l0, nlt (Nat.le_refl l.length), if_false, List.drop_length, List.foldl_nil]
    exact Ev.now _
  · intro i hi ih a
    refine Ev.succ ?_
    simp only [slices_Max_int_int.l0, ilt hi, inn, if_true, rd_lt hi, mx_eq, wnext hi (by omega : l.length ≤ 4611686018427387904)]
    rw [drop_cons hi, List.foldl_cons]
    exact ih _
theorem slices_Max_int_int_ev (l : List Int) (h0 : 0 < l.length) (hl : l.length ≤ 1048576) : Ev (fun k => slices_Max_int_int.f k l) (mostOf l) := by
  simp only [slices_Max_int_int.f, eq_false (by omega : ¬ (l.length : Int) < 1), eq_true (by omega : 0 < (l.length : Int)), if_false, if_true]
  have := slices_Max_int_int_l l hl 1 (by omega) (l.getD 0 0)
  rw [show rd l 0 = l.getD 0 0 from rd_get l 0]
  exact this

theorem slices_Min_int_int_l (l : List Int) (hl : l.length ≤ 1048576) : ∀ i, i ≤ l.length → ∀ a : Int, Ev (fun k => slices_Min_int_int.l0 k l a (i : Int)) ((l.drop i).foldl min a) := by
  refine down ?_ ?_
  · intro a
    refine Ev.succ ?_
    simp only [slices_Min_int_int.l0, nlt (Nat.le_refl l.length), if_false, List.drop_length, List.foldl_nil]
    exact Ev.now _
  · intro i hi ih a
    refine Ev.succ ?_
    simp only [slices_Min_int_int.l0, ilt hi, inn, if_true, rd_lt hi, mn_eq, wnext hi (by omega : l.length ≤ 4611686018427387904)]
    rw [drop_cons hi, List.foldl_cons]
    exact ih _
theorem slices_Min_int_int_ev (l : List Int) (h0 : 0 < l.length) (hl : l.length ≤ 1048576) : Ev (fun k => slices_Min_int_int.f k l) (lowOf l) := by
  simp only [slices_Min_int_int.f, eq_false (by omega : ¬ (l.length : Int) < 1), eq_true (by omega : 0 < (l.length : Int)), if_false, if_true]
  have := slices_Min_int_int_l l hl 1 (by omega) (l.getD 0 0)
  rw [show rd l 0 = l.getD 0 0 from rd_get l 0]
  exact this

theorem impl_excessOf_l {l : List Int} (h : Lst l) : ∀ i, i ≤ l.length → ∀ acc : Int, 0 ≤ acc → acc ≤ 4611686018427387904 - 4000 * ((l.length - i : Nat) : Int) → Ev (fun k => impl_excessOf.l0 k l acc l (l.length : Int) (i : Int)) (acc + ((l.drop i).map fun x => max 0 (l.length * x - l.sum)).sum) := by
  have hn := h.2.1
  refine down ?_ ?_
  · intro acc ha hb
    refine Ev.succ ?_
    simp only [impl_excessOf.l0, nlt (Nat.le_refl l.length), if_false, List.drop_length, List.map_nil, List.sum_nil, Int.add_zero]
    exact Ev.now _
  · intro i hi ih acc ha hb
    have b := h.get hi
    have s := h.sum
    have hx : 0 ≤ (l.length : Int) * l[i] ∧ (l.length : Int) * l[i] ≤ 480 := by
      have h1 : (l.length : Int) * l[i] ≤ 8 * 60 := Int.mul_le_mul (by omega) b.2 b.1 (by omega)
      exact ⟨Int.mul_nonneg (by omega) b.1, h1⟩
    refine Ev.succ ?_
    simp only [impl_excessOf.l0, ilt hi, inn, if_true, rd_lt hi, wnext hi (by omega : l.length ≤ 4611686018427387904)]
    refine Ev.bind (impl_total_good h) ?_
    simp only [mx_eq]
    rw [drop_cons hi, List.map_cons, List.sum_cons, ← Int.add_assoc, w64 (x := (l.length : Int) * l[i]) (by omega) (by omega), w64 (x := (l.length : Int) * l[i] - l.sum) (by omega) (by omega), w64 (x := acc + _) (by omega) (by omega)]
    exact ih _ (by omega) (by omega)
theorem impl_excessOf_ev {l : List Int} (h : Lst l) : Ev (fun k => impl_excessOf.f k l) (excessOf l) := by
  have := impl_excessOf_l h 0 (Nat.zero_le _) 0 (by omega) (by have := h.2.1; omega)
  simpa only [impl_excessOf.f, List.drop_zero, Int.zero_add, Int.natCast_zero, excessOf] using this

theorem impl_measures_ev {l : List Int} (h : Lst l) : Ev (fun k => impl_measures.f k l) (measuresOf l) := by
  have h1 := h.1
  have h2 := h.2.1
  have m := h.most
  have n := h.low
  simp only [impl_measures.f]
  refine Ev.bind (impl_spread_ev h) ?_
  refine Ev.bind (impl_pairs_ev l h) ?_
  refine Ev.bind (slices_Max_int_int_ev l (by omega) (by omega)) ?_
  refine Ev.bind (slices_Max_int_int_ev l (by omega) (by omega)) ?_
  refine Ev.bind (slices_Min_int_int_ev l (by omega) (by omega)) ?_
  refine Ev.bind (impl_excessOf_ev h) ?_
  rw [w64 (x := mostOf l - lowOf l) (by omega) (by omega)]
  exact Ev.now _

theorem slices_Clone_int_int_e (l : List Int) (hl : l.length < 17592186044416) : slices_Clone_int_int.f l = some l := by
  simp only [slices_Clone_int_int.f, Option.bind_some, List.nil_append, List.length_nil, Nat.zero_add, hl, if_true]

theorem impl_given_e {l : List Int} (h : Lst l) {p q : Nat} (hp : p < l.length) (hq : q < l.length) (hpq : p ≠ q) : impl_given.f l (p : Int) (q : Int) 1 = some (gave l p q) := by
  have h8 := h.2.1
  simp only [impl_given.f, slices_Clone_int_int_e l (by omega), Option.bind_some, inn, ilt hp, ilt hq, if_true, rd_get, Int.toNat_natCast]
  rw [gave_made h hp hq hpq]

-- (nothing: its function is unfolded where it is called)

def subW (p q : List Int) : List Int := List.zipWith (fun x y => wrap64 (x - y)) p q
theorem subW_get (p q : List Int) (i : Nat) (hp : i < p.length) (hq : i < q.length) (h : i < (subW p q).length) : (subW p q)[i] = wrap64 (p.getD i 0 - q.getD i 0) := by
  have e : (subW p q)[i] = wrap64 (p[i] - q[i]) := by simp [subW]
  rw [e]
  simp [List.getD_eq_getElem?_getD, hp, hq]
theorem impl_GiftEffects_l (p q : List Int) (hl : p.length = q.length) (h5 : p.length = 5) : ∀ i, i ≤ q.length → ∀ x : List Int, x.length = p.length → x.take i = (subW p q).take i → (∀ j, i ≤ j → j < p.length → x.getD j 0 = p.getD j 0) → Ev (fun k => impl_GiftEffects.l0 k x q (q.length : Int) (i : Int)) ((subW p q).take 2 ++ (subW p q).drop 3, true) := by
  have hs : (subW p q).length = 5 := by unfold subW; rw [List.length_zipWith]; omega
  refine down ?_ ?_
  · intro x hx ht _
    have e : x = subW p q := by
      have h1 : x.take q.length = x := List.take_of_length_le (by omega)
      have h2 : (subW p q).take q.length = subW p q := List.take_of_length_le (by omega)
      rw [← h1, ht, h2]
    subst e
    refine Ev.succ ?_
    simp only [impl_GiftEffects.l0, nlt (Nat.le_refl q.length), if_false, slices_Delete_int_int.f, hs, if_true, Option.bind_some]
    exact Ev.now _
  · intro i hi ih x hx ht hd
    have hix : i < x.length := by omega
    have his : i < (subW p q).length := by omega
    refine Ev.succ ?_
    simp only [impl_GiftEffects.l0, ilt hi, ilt hix, inn, if_true, rd_get, Int.toNat_natCast, wnext hi (by omega : q.length ≤ 4611686018427387904)]
    have e : wrap64 (x.getD i 0 - q.getD i 0) = (subW p q)[i] := by
      rw [hd i (Nat.le_refl _) (by omega), subW_get p q i (by omega) hi his]
    rw [e]
    refine ih _ (by rw [List.length_set]; exact hx) (set_take (subW p q) x i his (by omega) ht) (fun j hj hjl => ?_)
    rw [set_getD_ne (by omega)]
    exact hd j (by omega) hjl
theorem impl_GiftEffects_ev (l : List Int) (i j : Int) (hl : l.length ≤ 1048576) : Ev (fun k => impl_GiftEffects.f k l i j) (giftE l i j) := by
  simp only [impl_GiftEffects.f]
  have off : giftB l i j = false → Ev (fun k => impl_GiftEffects.j0 k l i j true) (giftE l i j) := by
    intro h
    have e : giftE l i j = ([], false) := by unfold giftE; rw [h]; rfl
    rw [e]
    refine Ev.succ ?_
    simp only [impl_GiftEffects.j0, if_true]
    exact Ev.now _
  refine Ev.bind (impl_IsList_ev l (by omega)) ?_
  cases h1 : goodB l with
  | false => simp only [Bool.false_eq_true, if_false]; exact off (by unfold giftB; rw [h1]; rfl)
  | true =>
    have la := goodB_iff.1 h1
    have l8 := la.2.1
    have w1 : wrap64 ((l.length : Int) - 1) = (l.length : Int) - 1 := w64 (by omega) (by omega)
    simp only [if_true, impl_within_e, Option.bind_some, w1]
    cases h2 : wth i 0 ((l.length : Int) - 1) with
    | false => simp only [Bool.false_eq_true, if_false]; exact off (by unfold giftB; rw [h1, h2]; rfl)
    | true =>
      simp only [if_true]
      cases h3 : wth j 0 ((l.length : Int) - 1) with
      | false => simp only [Bool.false_eq_true, if_false]; exact off (by unfold giftB; rw [h1, h2, h3]; rfl)
      | true =>
        simp only [if_true]
        have b2 := wth_iff.1 h2
        have b3 := wth_iff.1 h3
        obtain ⟨p, rfl⟩ := Int.eq_ofNat_of_zero_le b2.1
        obtain ⟨q, rfl⟩ := Int.eq_ofNat_of_zero_le b3.1
        have hp : p < l.length := by omega
        have hq : q < l.length := by omega
        have ep : l.getD p 0 = l[p] := by simp [List.getD_eq_getElem?_getD, hp]
        have eq : l.getD q 0 = l[q] := by simp [List.getD_eq_getElem?_getD, hq]
        have bp := la.get hp
        have bq := la.get hq
        simp only [inn, ilt hp, ilt hq, if_true, rd_get, w64 (x := l.getD p 0 - l.getD q 0) (by omega) (by omega)]
        by_cases c : l.getD p 0 - l.getD q 0 < 2
        · simp only [decide_eq_true c]
          refine off ?_
          unfold giftB
          rw [h1, h2, h3, Int.toNat_natCast, Int.toNat_natCast, decide_eq_false (by omega)]
          rfl
        · have hg : l.getD p 0 - l.getD q 0 ≥ 2 := by omega
          have hpq : p ≠ q := by rintro rfl; omega
          have hb : giftB l (p : Int) (q : Int) = true := by
            unfold giftB
            rw [h1, h2, h3, Int.toNat_natCast, Int.toNat_natCast, decide_eq_true hg]
            rfl
          have ev : giftE l (p : Int) (q : Int) = (giftV l p q, true) := by unfold giftE; rw [hb]; rfl
          have lb := gave_lst la hp hq hg
          rw [ev]
          simp only [decide_eq_false c]
          refine Ev.succ ?_
          simp only [impl_GiftEffects.j0, Bool.false_eq_true, if_false, impl_given_e la hp hq hpq, Option.bind_some]
          refine Ev.bind (impl_measures_ev lb) ?_
          refine Ev.bind (impl_measures_ev la) ?_
          exact impl_GiftEffects_l (measuresOf (gave l p q)) (measuresOf l) rfl rfl 0 (Nat.zero_le _) _ rfl (by simp) (fun _ _ _ => rfl)

theorem laws_eqIntS_l (l m : List Int) (he : m.length = l.length) (hl : l.length ≤ 4611686018427387904) : ∀ i, i ≤ l.length → Ev (fun k => laws_eqIntS.l0 k l m (i : Int)) (decide (l.drop i = m.drop i)) := by
  refine down ?_ ?_
  · refine Ev.succ ?_
    simp only [laws_eqIntS.l0, nlt (Nat.le_refl l.length), if_false, List.drop_length]
    rw [← he, List.drop_length]
    exact Ev.now _
  · intro i hi ih
    refine Ev.succ ?_
    simp only [laws_eqIntS.l0, ilt hi, inn, if_true, he, rd_lt hi, rd_lt (he ▸ hi : i < m.length), wnext hi hl]
    rw [drop_cons hi, drop_cons (he ▸ hi : i < m.length)]
    by_cases hx : l[i] = m[i]
    · simp only [hx, if_true, List.cons.injEq, true_and]
      exact ih
    · simp only [hx, if_false, List.cons.injEq, false_and, decide_false]
      exact Ev.now _
theorem laws_eqIntS_ev (l m : List Int) (hl : l.length ≤ 4611686018427387904) : Ev (fun k => laws_eqIntS.f k l m) (decide (l = m)) := by
  simp only [laws_eqIntS.f]
  by_cases he : (l.length : Int) = (m.length : Int)
  · simp only [he, if_true]
    exact laws_eqIntS_l l m (by omega) hl 0 (Nat.zero_le _)
  · simp only [he, if_false]
    rw [decide_eq_false (fun h => he (by rw [h]))]
    exact Ev.now _
theorem laws_eqIntS_self (l : List Int) (hl : l.length ≤ 4611686018427387904) : Ev (fun k => laws_eqIntS.f k l l) true := by
  simpa using laws_eqIntS_ev l l hl

theorem laws_markIntS_l (n : Nat) (hn : n ≤ 1048576) (s : Nat) (hs : s ≤ 4611686018427) : ∀ i, i ≤ n → ∀ m : List Int, m.length = n → m.take i = (iotaF s n).take i → Ev (fun k => laws_markIntS.l0 k m ((s + i : Nat) : Int) (i : Int)) (((s + n : Nat) : Int), iotaF s n) := by
  refine down ?_ ?_
  · intro m hm h
    refine Ev.succ ?_
    simp only [laws_markIntS.l0, hm, nlt (Nat.le_refl n), if_false]
    rw [← hm, List.take_length, hm, List.take_of_length_le (by rw [iotaF_length]; exact Nat.le_refl _)] at h
    rw [h]
    exact Ev.now _
  · intro i hi ih m hm h
    refine Ev.succ ?_
    simp only [laws_markIntS.l0, hm, ilt hi, inn, if_true, Int.toNat_natCast, wnext hi (by omega : n ≤ 4611686018427387904), wnext (by omega : s + i < 4611686018427387904) (by omega)]
    have := set_take (iotaF s n) m i (by rw [iotaF_length]; exact hi) (by rw [iotaF_length]; exact hm) h
    rw [iotaF_get hi] at this
    exact ih _ (by simpa using hm) this
theorem laws_markIntS_ev (l : List Int) (hl : l.length ≤ 1048576) (s : Nat) (hs : s ≤ 4611686018427) : Ev (fun k => laws_markIntS.f k l (s : Int)) (((s + l.length : Nat) : Int), iotaF s l.length) := by
  have := laws_markIntS_l l.length hl s hs 0 (Nat.zero_le _) l rfl rfl
  simpa only [laws_markIntS.f, Int.natCast_zero, Nat.add_zero] using this
theorem laws_markIntS_from (l : List Int) (hl : l.length ≤ 1048576) (s : Nat) (hs : s ≤ 4611686018427) {x : Int} (hx : (s : Int) = x) : Ev (fun k => laws_markIntS.f k l x) (((s + l.length : Nat) : Int), iotaF s l.length) :=
  hx ▸ laws_markIntS_ev l hl s hs

theorem laws_heldIntS_l (n : Nat) (hn : n ≤ 1048576) (s : Nat) (hs : s ≤ 4611686018427) : ∀ i, i ≤ n → Ev (fun k => laws_heldIntS.l0 k (iotaF s n) ((s + i : Nat) : Int) (i : Int)) (((s + n : Nat) : Int)) := by
  refine down ?_ ?_
  · refine Ev.succ ?_
    simp only [laws_heldIntS.l0, iotaF_length, nlt (Nat.le_refl n), if_false]
    exact Ev.now _
  · intro i hi ih
    refine Ev.succ ?_
    simp only [laws_heldIntS.l0, iotaF_length, ilt hi, inn, if_true, rd_lt (by rw [iotaF_length]; exact hi : i < (iotaF s n).length), iotaF_get hi, wnext hi (by omega : n ≤ 4611686018427387904), wnext (by omega : s + i < 4611686018427387904) (by omega)]
    exact ih
theorem laws_heldIntS_ev (n : Nat) (hn : n ≤ 1048576) (s : Nat) (hs : s ≤ 4611686018427) : Ev (fun k => laws_heldIntS.f k (iotaF s n) (s : Int)) (((s + n : Nat) : Int)) := by
  have := laws_heldIntS_l n hn s hs 0 (Nat.zero_le _)
  simpa only [laws_heldIntS.f, Int.natCast_zero, Nat.add_zero] using this
theorem laws_heldIntS_from (n : Nat) (hn : n ≤ 1048576) (s : Nat) (hs : s ≤ 4611686018427) {x : Int} (hx : (s : Int) = x) : Ev (fun k => laws_heldIntS.f k (iotaF s n) x) (((s + n : Nat) : Int)) :=
  hx ▸ laws_heldIntS_ev n hn s hs

theorem FnExactGiftEffects : laws_FnExactGiftEffects.Pure := by
  intro a n m hma hsa hwa hwn hwm
  refine Ev.rounds ?_
  simp only [laws_FnExactGiftEffects.f]
  by_cases hba : (a.length : Int) > 1048576
  · simp only [hba, if_true]; exact Ev.now _
  · simp only [hba, if_false]
    refine Ev.bind (laws_toIntS_ev a (by omega)) ?_
    refine Ev.bind (spec_GiftEffects_ev a n m (by omega)) ?_
    refine Ev.bind (laws_toIntS_ev a (by omega)) ?_
    refine Ev.bind (impl_GiftEffects_ev a n m (by omega)) ?_
    have hr := giftE_len a n m
    refine Ev.bind (laws_eqIntS_self _ (by omega)) ?_
    simp only [bne_self_eq_false, Bool.false_eq_true, if_false, if_true]
    refine Ev.succ ?_
    simp only [laws_FnExactGiftEffects.j0, Bool.false_eq_true, if_false]
    refine Ev.bind (laws_toIntS_ev a (by omega)) ?_
    refine Ev.bind (laws_eqIntS_self a (by omega)) ?_
    simp only [if_true]
    refine Ev.bind (laws_markIntS_from a (by omega) 1 (by omega) rfl) ?_
    simp only [nneg, if_false]
    refine Ev.bind (laws_eqIntS_self _ (by omega)) ?_
    simp only [if_true]
    refine Ev.succ ?_
    simp only [laws_FnExactGiftEffects.j1, bne_self_eq_false, Bool.false_eq_true, if_false]
    refine Ev.bind (laws_markIntS_from _ (by omega) 1 (by omega) rfl) ?_
    refine Ev.bind (laws_heldIntS_from _ (by omega) 1 (by omega) rfl) ?_
    simp only [nneg, if_false, if_true]
    refine Ev.bind (laws_toIntS_ev a (by omega)) ?_
    refine Ev.bind (impl_GiftEffects_ev a n m (by omega)) ?_
    refine Ev.bind (laws_eqIntS_self _ (by omega)) ?_
    simp only [if_true]
    refine Ev.succ ?_
    simp only [laws_FnExactGiftEffects.j2, bne_self_eq_false, Bool.false_eq_true, if_false]
    refine Ev.bind (laws_heldIntS_from _ (by omega) 1 (by omega) rfl) ?_
    simp only [nneg, if_false, if_true]
    exact Ev.now _

end Go.Proofs.Ytbbioadebhnfiaa.Pure
