/- The law's own function: walked straight along the way on which all of its tests hold; what it needs stands in its pure function, which is none elsewhere. -/
import Derived.Test.YtbnlfhdjcpegkaaPFnExactUncrossx0
import Derived.Test.YtbnlfhdjcpegkaaPFnExactUncrossx1
import Derived.Test.YtbnlfhdjcpegkaaPFnExactUncrossx2
import Derived.Test.YtbnlfhdjcpegkaaPFnExactUncrossx3
import Derived.Test.YtbnlfhdjcpegkaaPFnExactUncrossx4
import Derived.Test.YtbnlfhdjcpegkaaPFnExactUncrossx5
import Derived.Test.YtbnlfhdjcpegkaaPFnExactUncrossx6
namespace Go.Proofs.Ytbnlfhdjcpegkaa.PFnExactUncross
open Go.RowKit Go.Proofs.YtbnlfhdjcpegkaaW.PrintWords Go.Proofs.YtbnlfhdjcpegkaaW.PrintLast Go.Proofs.YtbnlfhdjcpegkaaW.PrintMore
set_option linter.unusedVariables false
set_option linter.unusedSimpArgs false
/-! ### laws_FnExactUncross: function 7 -/
/-- What was made here, in the blocks from lo to hi, and is told by nothing else. -/
def OwnS (w0 : World) (lo hi : Nat) (W : World) (v : Value) (xs : List (List Int)) : Prop := lo ≤ hi ∧ hi ≤ W.heap.size ∧ Kd.S (Kd.slice 3 (Kd.int .i64)) 34 W w0.heap.size (fun k => lo ≤ k ∧ k < hi) v xs
theorem OwnS.top {w0 W : World} {lo hi : Nat} {v : Value} {xs : List (List Int)} (h : OwnS w0 lo hi W v xs) : hi ≤ W.heap.size := h.2.1
theorem OwnS.topB {w0 W W' : World} {lo hi : Nat} {v : Value} {xs : List (List Int)} (h : OwnS w0 lo hi W v xs) (hb : Below W.heap.size W W') : hi ≤ W.heap.size := h.2.1
theorem OwnS.le {w0 W : World} {lo hi : Nat} {v : Value} {xs : List (List Int)} (h : OwnS w0 lo hi W v xs) : lo ≤ hi := h.1
theorem OwnS.raw {w0 W : World} {lo hi : Nat} {v : Value} {xs : List (List Int)} (h : OwnS w0 lo hi W v xs) : Kd.S (Kd.slice 3 (Kd.int .i64)) 34 W w0.heap.size (fun k => lo ≤ k ∧ k < hi) v xs := h.2.2
theorem OwnS.slice {w0 W : World} {lo hi : Nat} {v : Value} {xs : List (List Int)} (h : OwnS w0 lo hi W v xs) : ∃ A c, v = .slice A xs.length c := Kd.S_slice h.2.2
theorem OwnS.len {w0 W : World} {lo hi n c : Nat} {A : Option Addr} {xs : List (List Int)} (h : OwnS w0 lo hi W (.slice A n c) xs) : n = xs.length := (Kd.S_reads' h.2.2).1
theorem OwnS.reads {w0 W : World} {lo hi n c : Nat} {A : Option Addr} {xs : List (List Int)} (h : OwnS w0 lo hi W (.slice A n c) xs) : n ≤ c ∧ Kd.C (Kd.slice 3 (Kd.int .i64)) W A xs.length xs := ⟨(Kd.S_reads' h.2.2).2.1, (Kd.S_reads' h.2.2).2.2⟩
theorem OwnS.below {w0 W W' : World} {lo hi : Nat} {v : Value} {xs : List (List Int)} (h : OwnS w0 lo hi W v xs) (hb : Below W.heap.size W W') : OwnS w0 lo hi W' v xs := ⟨h.1, Nat.le_trans h.2.1 hb.size, Kd.S_below h.2.2 hb⟩
theorem OwnS.alloc {w0 W : World} {lo hi : Nat} {v : Value} {xs : List (List Int)} {o : Obj} (h : OwnS w0 lo hi W v xs) : OwnS w0 lo hi (W.alloc o) v xs := h.below (below_alloc (Below.refl _ _) o)
theorem OwnS.drew {w0 W : World} {lo hi : Nat} {v : Value} {xs : List (List Int)} (h : OwnS w0 lo hi W v xs) : OwnS w0 lo hi W.drew v xs := h.below (below_drew (Below.refl _ _))
theorem OwnS.drewN {w0 W : World} {lo hi m : Nat} {v : Value} {xs : List (List Int)} (h : OwnS w0 lo hi W v xs) : OwnS w0 lo hi (W.drewN m) v xs := h.below (pw_below_drewN (Below.refl _ _) m)
theorem OwnS.born {w0 W W' : World} {ok : Nat → Prop} {v : Value} {xs : List (List Int)} (h0 : Below w0.heap.size w0 W) (h : Kd.S (Kd.slice 3 (Kd.int .i64)) 34 W' W.heap.size ok v xs) (hb : Below W.heap.size W W') : ∃ lo hi, W.heap.size ≤ lo ∧ OwnS w0 lo hi W' v xs :=
  ⟨W.heap.size, W'.heap.size, Nat.le_refl _, hb.size, Nat.le_refl _, Kd.S_lower (Kd.S_mono (Kd.S_bound h) (fun _ hk => ⟨hk.2.1, hk.2.2.1⟩)) h0.size⟩
theorem OwnS.kept {w0 W W' : World} {lo hi lo' hi' : Nat} {v : Value} {xs : List (List Int)} (h : OwnS w0 lo hi W v xs) (hk : Kept W W' (fun k_ => lo' ≤ k_ ∧ k_ < hi')) (hd : hi ≤ lo' ∨ hi' ≤ lo) : OwnS w0 lo hi W' v xs := ⟨h.1, Nat.le_trans h.2.1 hk.1, Kd.S_kept h.2.2 hk (fun k h1 h2 => by omega)⟩
theorem OwnS.marked {w0 W W' : World} {lo hi : Nat} {v v' : Value} {xs xs' : List (List Int)} (h0 : OwnS w0 lo hi W v' xs') (h : Kd.S (Kd.slice 3 (Kd.int .i64)) 34 W' w0.heap.size (fun k_ => ((lo ≤ k_ ∧ k_ < hi) ∨ W.heap.size ≤ k_)) v xs) (hk : Kept W W' (fun k_ => lo ≤ k_ ∧ k_ < hi)) : ∃ hi2, OwnS w0 lo hi2 W' v xs := ⟨W'.heap.size, Nat.le_trans h0.1 (Nat.le_trans h0.2.1 hk.1), Nat.le_refl _, Kd.S_mono (Kd.S_bound h) (fun k hk => ⟨by have := h0.1; have := h0.2.1; omega, hk.2.2.1⟩)⟩
def laws_FnExactUncross.f (k : Nat) (l0 : List (List Int)) : Option Bool := ((laws_szIntSS.f k l0 1048576).bind fun t0 => (if t0 < 0 then some true else ((laws_toIntSS.f k l0).bind fun t1 => ((spec_Uncross.f k t1).bind fun (t2, t2_1, t2_2) => ((laws_toIntSS.f k l0).bind fun t3 => ((impl_Uncross.f k t3).bind fun (t4, t4_1, t4_2) => ((laws_eqIntSS.f k t4 t2).bind fun e5 => if e5 = true then (if t4_1 = t2_1 then (if t4_2 = t2_2 then ((laws_toIntSS.f k l0).bind fun t6 => ((laws_eqIntSS.f k t3 t6).bind fun e7 => if e7 = true then ((laws_markIntSS.f k t3 1).bind fun (t8, m8) => (if t8 < 0 then none else ((laws_eqIntSS.f k t4 t2).bind fun e9 => if e9 = true then ((laws_markIntSS.f k t4 1).bind fun (t10, m10) => ((laws_heldIntSS.f k m10 1).bind fun t11 => (if t11 < 0 then none else (if t11 = t10 then ((laws_toIntSS.f k l0).bind fun t12 => ((impl_Uncross.f k t12).bind fun (t13, t13_1, t13_2) => ((laws_eqIntSS.f k t13 t2).bind fun e14 => if e14 = true then (if t13_1 = t2_1 then (if t13_2 = t2_2 then ((laws_heldIntSS.f k m10 1).bind fun t15 => (if t15 < 0 then none else (if t15 = t10 then some true else none))) else none) else none) else none))) else none)))) else none))) else none)) else none) else none) else none)))))))
set_option maxHeartbeats 8000000 in
set_option maxRecDepth 100000 in
theorem laws_FnExactUncross.calls (k : Nat) (A0 : Option Addr) (c0 : Nat) (l0 : List (List Int)) (r : Bool) (w : World) (hr0 : Kd.C (Kd.slice 3 (Kd.int .i64)) w A0 l0.length l0) (hc0 : l0.length ≤ c0) (h : laws_FnExactUncross.f k l0 = some r) :
    Calls Try.prog 7 #[.slice A0 l0.length c0] w fun e w' => e = .returned (.bool r) ∧ Below w.heap.size w w' := by
  have HR0 := Aside0.mk hr0
  have HC0 := Aside0.mk hc0
  have HB := Aside0.mk (Below.refl w.heap.size w)
  clear hr0 hc0
  have H := h
  clear h
  unfold laws_FnExactUncross.f at H
  replace H := Option.bind_eq_some_iff.mp H
  obtain ⟨t0, E00, H⟩ := H
  have E0 := Aside0.mk E00
  clear E00
  by_cases ct0 : t0 < 0
  · rw [if_pos ct0] at H
    obtain rfl := Option.some.inj H
    have cb0 : decide (t0 < 0) = true := decide_eq_true ct0
    clear ct0
    go_enter Try.func7, Try.ntmps7
    go_wp2_with (first | ((with_reducible refine gate_callee (f := 11) rfl ?_); refine goesL_ (some 19) rfl rfl Try.func11 (by kernel_rfl) rfl #[.slice A0 l0.length c0, .int .i64 1048576] rfl (by (try simp only [List.map_toArray, List.map_cons, List.map_nil]); first | done | rfl) ?_; (with_reducible refine (laws_szIntSS.calls k  _ _ l0 1048576 t0 _ ?side1 ?side2 E0.out).mono ?_); (case side1 => repeat (first | exact (Kd.C_below HR0.out HB.out) | (with_reducible refine Kd.C_alloc ?_ _) | (with_reducible refine Kd.C_drewN ?_ _) | (with_reducible refine Kd.C_drew ?_))); (case side2 => exact HC0.out); rintro e w0_ ⟨rfl, ⟨nd, rfl⟩⟩; refine ⟨_, rfl, ?_⟩))
    go_ret
    exact ⟨by first | rfl | (simp; done) | (simp [*]; done), by repeat (first | (with_reducible first | exact HB.out | apply below_alloc | apply pw_below_drewN | apply below_drew1) | exact HB.out)⟩
  · rw [if_neg ct0] at H
    have cbt0 : decide (t0 < 0) = false := decide_eq_false ct0
    clear ct0
    replace H := Option.bind_eq_some_iff.mp H
    obtain ⟨t1, E10, H⟩ := H
    have E1 := Aside0.mk E10
    clear E10
    replace H := Option.bind_eq_some_iff.mp H
    obtain ⟨⟨t2, t2_1, t2_2⟩, E20, H⟩ := H
    dsimp only at H
    have E2 := Aside0.mk E20
    clear E20
    replace H := Option.bind_eq_some_iff.mp H
    obtain ⟨t3, E30, H⟩ := H
    have E3 := Aside0.mk E30
    clear E30
    replace H := Option.bind_eq_some_iff.mp H
    obtain ⟨⟨t4, t4_1, t4_2⟩, E40, H⟩ := H
    dsimp only at H
    have E4 := Aside0.mk E40
    clear E40
    replace H := Option.bind_eq_some_iff.mp H
    obtain ⟨e5, E50, H⟩ := H
    by_cases ce5 : ¬ e5 = true
    · rw [if_neg ce5] at H
      exact absurd H (by simp)
    replace ce5 := Decidable.not_not.mp ce5
    rw [if_pos ce5] at H
    subst ce5
    have E5 := Aside0.mk E50
    clear E50
    by_cases c_t4_1 : ¬ t4_1 = t2_1
    · rw [if_neg c_t4_1] at H
      exact absurd H (by simp)
    replace c_t4_1 := Decidable.not_not.mp c_t4_1
    rw [if_pos c_t4_1] at H
    have cx_t4_1 : (t4_1 != t2_1) = false := by rw [c_t4_1]; simp
    have cy_t4_1 : (t4_1 == t2_1) = true := by rw [c_t4_1]; simp
    clear c_t4_1
    by_cases c_t4_2 : ¬ t4_2 = t2_2
    · rw [if_neg c_t4_2] at H
      exact absurd H (by simp)
    replace c_t4_2 := Decidable.not_not.mp c_t4_2
    rw [if_pos c_t4_2] at H
    have cx_t4_2 : (t4_2 != t2_2) = false := by rw [c_t4_2]; simp
    have cy_t4_2 : (t4_2 == t2_2) = true := by rw [c_t4_2]; simp
    clear c_t4_2
    replace H := Option.bind_eq_some_iff.mp H
    obtain ⟨t6, E60, H⟩ := H
    have E6 := Aside0.mk E60
    clear E60
    replace H := Option.bind_eq_some_iff.mp H
    obtain ⟨e7, E70, H⟩ := H
    by_cases ce7 : ¬ e7 = true
    · rw [if_neg ce7] at H
      exact absurd H (by simp)
    replace ce7 := Decidable.not_not.mp ce7
    rw [if_pos ce7] at H
    subst ce7
    have E7 := Aside0.mk E70
    clear E70
    replace H := Option.bind_eq_some_iff.mp H
    obtain ⟨⟨t8, m8⟩, E80, H⟩ := H
    dsimp only at H
    have E8 := Aside0.mk E80
    clear E80
    by_cases ct8 : t8 < 0
    · rw [if_pos ct8] at H
      exact absurd H (by simp)
    rw [if_neg ct8] at H
    have cbt8 : decide (t8 < 0) = false := decide_eq_false ct8
    clear ct8
    replace H := Option.bind_eq_some_iff.mp H
    obtain ⟨e9, E90, H⟩ := H
    by_cases ce9 : ¬ e9 = true
    · rw [if_neg ce9] at H
      exact absurd H (by simp)
    replace ce9 := Decidable.not_not.mp ce9
    rw [if_pos ce9] at H
    subst ce9
    have E9 := Aside0.mk E90
    clear E90
    replace H := Option.bind_eq_some_iff.mp H
    obtain ⟨⟨t10, m10⟩, E100, H⟩ := H
    dsimp only at H
    have E10 := Aside0.mk E100
    clear E100
    replace H := Option.bind_eq_some_iff.mp H
    obtain ⟨t11, E110, H⟩ := H
    have E11 := Aside0.mk E110
    clear E110
    by_cases ct11 : t11 < 0
    · rw [if_pos ct11] at H
      exact absurd H (by simp)
    rw [if_neg ct11] at H
    have cbt11 : decide (t11 < 0) = false := decide_eq_false ct11
    clear ct11
    by_cases c_t11 : ¬ t11 = t10
    · rw [if_neg c_t11] at H
      exact absurd H (by simp)
    replace c_t11 := Decidable.not_not.mp c_t11
    rw [if_pos c_t11] at H
    have cx_t11 : (t11 != t10) = false := by rw [c_t11]; simp
    have cy_t11 : (t11 == t10) = true := by rw [c_t11]; simp
    clear c_t11
    replace H := Option.bind_eq_some_iff.mp H
    obtain ⟨t12, E120, H⟩ := H
    have E12 := Aside0.mk E120
    clear E120
    replace H := Option.bind_eq_some_iff.mp H
    obtain ⟨⟨t13, t13_1, t13_2⟩, E130, H⟩ := H
    dsimp only at H
    have E13 := Aside0.mk E130
    clear E130
    replace H := Option.bind_eq_some_iff.mp H
    obtain ⟨e14, E140, H⟩ := H
    by_cases ce14 : ¬ e14 = true
    · rw [if_neg ce14] at H
      exact absurd H (by simp)
    replace ce14 := Decidable.not_not.mp ce14
    rw [if_pos ce14] at H
    subst ce14
    have E14 := Aside0.mk E140
    clear E140
    by_cases c_t13_1 : ¬ t13_1 = t2_1
    · rw [if_neg c_t13_1] at H
      exact absurd H (by simp)
    replace c_t13_1 := Decidable.not_not.mp c_t13_1
    rw [if_pos c_t13_1] at H
    have cx_t13_1 : (t13_1 != t2_1) = false := by rw [c_t13_1]; simp
    have cy_t13_1 : (t13_1 == t2_1) = true := by rw [c_t13_1]; simp
    clear c_t13_1
    by_cases c_t13_2 : ¬ t13_2 = t2_2
    · rw [if_neg c_t13_2] at H
      exact absurd H (by simp)
    replace c_t13_2 := Decidable.not_not.mp c_t13_2
    rw [if_pos c_t13_2] at H
    have cx_t13_2 : (t13_2 != t2_2) = false := by rw [c_t13_2]; simp
    have cy_t13_2 : (t13_2 == t2_2) = true := by rw [c_t13_2]; simp
    clear c_t13_2
    replace H := Option.bind_eq_some_iff.mp H
    obtain ⟨t15, E150, H⟩ := H
    have E15 := Aside0.mk E150
    clear E150
    by_cases ct15 : t15 < 0
    · rw [if_pos ct15] at H
      exact absurd H (by simp)
    rw [if_neg ct15] at H
    have cbt15 : decide (t15 < 0) = false := decide_eq_false ct15
    clear ct15
    by_cases c_t15 : ¬ t15 = t10
    · rw [if_neg c_t15] at H
      exact absurd H (by simp)
    replace c_t15 := Decidable.not_not.mp c_t15
    rw [if_pos c_t15] at H
    have cx_t15 : (t15 != t10) = false := by rw [c_t15]; simp
    have cy_t15 : (t15 == t10) = true := by rw [c_t15]; simp
    clear c_t15
    obtain rfl := Option.some.inj H
    clear H
    go_enter Try.func7, Try.ntmps7
    go_wp2_with (first | ((with_reducible refine gate_callee (f := 11) rfl ?_); refine goesL_ (some 19) rfl rfl Try.func11 (by kernel_rfl) rfl #[.slice A0 l0.length c0, .int .i64 1048576] rfl (by (try simp only [List.map_toArray, List.map_cons, List.map_nil]); first | done | rfl) ?_; (with_reducible refine (laws_szIntSS.calls k  _ _ l0 1048576 t0 _ ?side1 ?side2 E0.out).mono ?_); (case side1 => repeat (first | exact (Kd.C_below HR0.out HB.out) | (with_reducible refine Kd.C_alloc ?_ _) | (with_reducible refine Kd.C_drewN ?_ _) | (with_reducible refine Kd.C_drew ?_))); (case side2 => exact HC0.out); rintro e w0_ ⟨rfl, ⟨nd, rfl⟩⟩; refine ⟨_, rfl, ?_⟩) | ((with_reducible refine gate_callee (f := 13) rfl ?_); refine goesL_ (some 24) rfl rfl Try.func13 (by kernel_rfl) rfl #[.slice A0 l0.length c0] rfl (by (try simp only [List.map_toArray, List.map_cons, List.map_nil]); first | done | rfl) ?_; (with_reducible refine (laws_toIntSS.calls k  _ _ l0 t1 _ ?side1 ?side2 E1.out).mono ?_); (case side1 => repeat (first | exact (Kd.C_below HR0.out HB.out) | (with_reducible refine Kd.C_alloc ?_ _) | (with_reducible refine Kd.C_drewN ?_ _) | (with_reducible refine Kd.C_drew ?_))); (case side2 => exact HC0.out); rintro e w1_ ⟨v1, rfl, ho0, hb⟩; refine ⟨_, rfl, ?_⟩; have hz1 := OwnS.born (w0 := w) (by repeat (first | (with_reducible first | exact HB.out | apply below_alloc | apply pw_below_drewN | apply below_drew1) | exact HB.out)) ho0 hb; obtain ⟨lo1, hi1, hl1, hz1_⟩ := hz1; have nb_ := Aside0.mk (below_step (by repeat (first | (with_reducible first | exact HB.out | apply below_alloc | apply pw_below_drewN | apply below_drew1) | exact HB.out)) hb); clear HB; have HB := nb_; clear nb_; have HO1 := Aside0.mk hz1_; clear hz1_ hl1; (try clear hb); (try clear ho0); obtain ⟨Ao1, co1, eo1⟩ := OwnS.slice HO1.out; subst eo1) | ((with_reducible refine gate_callee (f := 30) rfl ?_); refine goesL_ (some 25) rfl rfl Try.func30 (by kernel_rfl) rfl #[.slice Ao1 t1.length co1] rfl (by (try simp only [List.map_toArray, List.map_cons, List.map_nil]); first | done | rfl) ?_; (with_reducible refine (spec_Uncross.calls k  _ _ t1 t2 t2_1 t2_2 _ ?side1 ?side2 E2.out).mono ?_); (case side1 => repeat (first | exact (OwnS.reads HO1.out).2 | (with_reducible refine Kd.C_alloc ?_ _) | (with_reducible refine Kd.C_drewN ?_ _) | (with_reducible refine Kd.C_drew ?_))); (case side2 => exact (OwnS.reads HO1.out).1); rintro e w2_ ⟨v2, rfl, ho0, hb⟩; refine ⟨_, rfl, ?_⟩; have hz2 := OwnS.born (w0 := w) (by repeat (first | (with_reducible first | exact HB.out | apply below_alloc | apply pw_below_drewN | apply below_drew1) | exact HB.out)) ho0 hb; have hp2 := OwnS.topB (by (with_reducible repeat (first | apply OwnS.alloc | apply OwnS.drewN | apply OwnS.drew)); exact HO1.out) hb; obtain ⟨lo2, hi2, hl2, hz2_⟩ := hz2; have L1_2 := Aside0.mk (show hi1 ≤ lo2 by omega); have n0_ := Aside0.mk (OwnS.below (by (with_reducible repeat (first | apply OwnS.alloc | apply OwnS.drewN | apply OwnS.drew)); exact HO1.out) hb); have nb_ := Aside0.mk (below_step (by repeat (first | (with_reducible first | exact HB.out | apply below_alloc | apply pw_below_drewN | apply below_drew1) | exact HB.out)) hb); clear HO1; clear HB; have HO1 := n0_; clear n0_; have HB := nb_; clear nb_; have HO2 := Aside0.mk hz2_; clear hz2_ hl2 hp2; (try clear hb); (try clear ho0); obtain ⟨Ao2, co2, eo2⟩ := OwnS.slice HO2.out; subst eo2) | ((with_reducible refine gate_callee (f := 13) rfl ?_); refine goesL_ (some 30) rfl rfl Try.func13 (by kernel_rfl) rfl #[.slice A0 l0.length c0] rfl (by (try simp only [List.map_toArray, List.map_cons, List.map_nil]); first | done | rfl) ?_; (with_reducible refine (laws_toIntSS.calls k  _ _ l0 t3 _ ?side1 ?side2 E3.out).mono ?_); (case side1 => repeat (first | exact (Kd.C_below HR0.out HB.out) | (with_reducible refine Kd.C_alloc ?_ _) | (with_reducible refine Kd.C_drewN ?_ _) | (with_reducible refine Kd.C_drew ?_))); (case side2 => exact HC0.out); rintro e w3_ ⟨v3, rfl, ho0, hb⟩; refine ⟨_, rfl, ?_⟩; have hz3 := OwnS.born (w0 := w) (by repeat (first | (with_reducible first | exact HB.out | apply below_alloc | apply pw_below_drewN | apply below_drew1) | exact HB.out)) ho0 hb; have hp3 := OwnS.topB (by (with_reducible repeat (first | apply OwnS.alloc | apply OwnS.drewN | apply OwnS.drew)); exact HO2.out) hb; obtain ⟨lo3, hi3, hl3, hz3_⟩ := hz3; have L1_3 := Aside0.mk (show hi1 ≤ lo3 by have := L1_2.out; have := OwnS.le HO2.out; omega); have L2_3 := Aside0.mk (show hi2 ≤ lo3 by omega); have n0_ := Aside0.mk (OwnS.below (by (with_reducible repeat (first | apply OwnS.alloc | apply OwnS.drewN | apply OwnS.drew)); exact HO1.out) hb); have n1_ := Aside0.mk (OwnS.below (by (with_reducible repeat (first | apply OwnS.alloc | apply OwnS.drewN | apply OwnS.drew)); exact HO2.out) hb); have nb_ := Aside0.mk (below_step (by repeat (first | (with_reducible first | exact HB.out | apply below_alloc | apply pw_below_drewN | apply below_drew1) | exact HB.out)) hb); clear HO1; clear HO2; clear HB; have HO1 := n0_; clear n0_; have HO2 := n1_; clear n1_; have HB := nb_; clear nb_; have HO3 := Aside0.mk hz3_; clear hz3_ hl3 hp3; (try clear hb); (try clear ho0); obtain ⟨Ao3, co3, eo3⟩ := OwnS.slice HO3.out; subst eo3) | ((with_reducible refine gate_callee (f := 31) rfl ?_); refine goesL_ (some 33) rfl rfl Try.func31 (by kernel_rfl) rfl #[.slice Ao3 t3.length co3] rfl (by (try simp only [List.map_toArray, List.map_cons, List.map_nil]); first | done | rfl) ?_; (with_reducible refine (impl_Uncross.calls k  _ _ t3 t4 t4_1 t4_2 _ ?side1 ?side2 E4.out).mono ?_); (case side1 => repeat (first | exact (OwnS.reads HO3.out).2 | (with_reducible refine Kd.C_alloc ?_ _) | (with_reducible refine Kd.C_drewN ?_ _) | (with_reducible refine Kd.C_drew ?_))); (case side2 => exact (OwnS.reads HO3.out).1); rintro e w4_ ⟨v4, rfl, ho0, hb⟩; refine ⟨_, rfl, ?_⟩; have hz4 := OwnS.born (w0 := w) (by repeat (first | (with_reducible first | exact HB.out | apply below_alloc | apply pw_below_drewN | apply below_drew1) | exact HB.out)) ho0 hb; have hp4 := OwnS.topB (by (with_reducible repeat (first | apply OwnS.alloc | apply OwnS.drewN | apply OwnS.drew)); exact HO3.out) hb; obtain ⟨lo4, hi4, hl4, hz4_⟩ := hz4; have L1_4 := Aside0.mk (show hi1 ≤ lo4 by have := L1_3.out; have := OwnS.le HO3.out; omega); have L2_4 := Aside0.mk (show hi2 ≤ lo4 by have := L2_3.out; have := OwnS.le HO3.out; omega); have L3_4 := Aside0.mk (show hi3 ≤ lo4 by omega); have n0_ := Aside0.mk (OwnS.below (by (with_reducible repeat (first | apply OwnS.alloc | apply OwnS.drewN | apply OwnS.drew)); exact HO1.out) hb); have n1_ := Aside0.mk (OwnS.below (by (with_reducible repeat (first | apply OwnS.alloc | apply OwnS.drewN | apply OwnS.drew)); exact HO2.out) hb); have n2_ := Aside0.mk (OwnS.below (by (with_reducible repeat (first | apply OwnS.alloc | apply OwnS.drewN | apply OwnS.drew)); exact HO3.out) hb); have nb_ := Aside0.mk (below_step (by repeat (first | (with_reducible first | exact HB.out | apply below_alloc | apply pw_below_drewN | apply below_drew1) | exact HB.out)) hb); clear HO1; clear HO2; clear HO3; clear HB; have HO1 := n0_; clear n0_; have HO2 := n1_; clear n1_; have HO3 := n2_; clear n2_; have HB := nb_; clear nb_; have HO4 := Aside0.mk hz4_; clear hz4_ hl4 hp4; (try clear hb); (try clear ho0); obtain ⟨Ao4, co4, eo4⟩ := OwnS.slice HO4.out; subst eo4) | ((with_reducible refine gate_callee (f := 15) rfl ?_); refine goesL_ (some 39) rfl rfl Try.func15 (by kernel_rfl) rfl #[.slice Ao4 t4.length co4, .slice Ao2 t2.length co2] rfl (by (try simp only [List.map_toArray, List.map_cons, List.map_nil]); first | done | rfl) ?_; (with_reducible refine (laws_eqIntSS.calls k  _ _ t4 _ _ t2 true _ ?side1 ?side2 ?side3 ?side4 E5.out).mono ?_); (case side1 => repeat (first | exact (OwnS.reads HO4.out).2 | (with_reducible refine Kd.C_alloc ?_ _) | (with_reducible refine Kd.C_drewN ?_ _) | (with_reducible refine Kd.C_drew ?_))); (case side2 => exact (OwnS.reads HO4.out).1); (case side3 => repeat (first | exact (OwnS.reads HO2.out).2 | (with_reducible refine Kd.C_alloc ?_ _) | (with_reducible refine Kd.C_drewN ?_ _) | (with_reducible refine Kd.C_drew ?_))); (case side4 => exact (OwnS.reads HO2.out).1); rintro e w5_ ⟨rfl, ⟨nd, rfl⟩⟩; refine ⟨_, rfl, ?_⟩) | ((with_reducible refine gate_callee (f := 13) rfl ?_); refine goesL_ (some 53) rfl rfl Try.func13 (by kernel_rfl) rfl #[.slice A0 l0.length c0] rfl (by (try simp only [List.map_toArray, List.map_cons, List.map_nil]); first | done | rfl) ?_; (with_reducible refine (laws_toIntSS.calls k  _ _ l0 t6 _ ?side1 ?side2 E6.out).mono ?_); (case side1 => repeat (first | exact (Kd.C_below HR0.out HB.out) | (with_reducible refine Kd.C_alloc ?_ _) | (with_reducible refine Kd.C_drewN ?_ _) | (with_reducible refine Kd.C_drew ?_))); (case side2 => exact HC0.out); rintro e w6_ ⟨v6, rfl, ho0, hb⟩; refine ⟨_, rfl, ?_⟩; have hz6 := OwnS.born (w0 := w) (by repeat (first | (with_reducible first | exact HB.out | apply below_alloc | apply pw_below_drewN | apply below_drew1) | exact HB.out)) ho0 hb; have hp6 := OwnS.topB (by (with_reducible repeat (first | apply OwnS.alloc | apply OwnS.drewN | apply OwnS.drew)); exact HO4.out) hb; obtain ⟨lo6, hi6, hl6, hz6_⟩ := hz6; have L1_6 := Aside0.mk (show hi1 ≤ lo6 by have := L1_4.out; have := OwnS.le HO4.out; omega); have L2_6 := Aside0.mk (show hi2 ≤ lo6 by have := L2_4.out; have := OwnS.le HO4.out; omega); have L3_6 := Aside0.mk (show hi3 ≤ lo6 by have := L3_4.out; have := OwnS.le HO4.out; omega); have L4_6 := Aside0.mk (show hi4 ≤ lo6 by omega); have n0_ := Aside0.mk (OwnS.below (by (with_reducible repeat (first | apply OwnS.alloc | apply OwnS.drewN | apply OwnS.drew)); exact HO1.out) hb); have n1_ := Aside0.mk (OwnS.below (by (with_reducible repeat (first | apply OwnS.alloc | apply OwnS.drewN | apply OwnS.drew)); exact HO2.out) hb); have n2_ := Aside0.mk (OwnS.below (by (with_reducible repeat (first | apply OwnS.alloc | apply OwnS.drewN | apply OwnS.drew)); exact HO3.out) hb); have n3_ := Aside0.mk (OwnS.below (by (with_reducible repeat (first | apply OwnS.alloc | apply OwnS.drewN | apply OwnS.drew)); exact HO4.out) hb); have nb_ := Aside0.mk (below_step (by repeat (first | (with_reducible first | exact HB.out | apply below_alloc | apply pw_below_drewN | apply below_drew1) | exact HB.out)) hb); clear HO1; clear HO2; clear HO3; clear HO4; clear HB; have HO1 := n0_; clear n0_; have HO2 := n1_; clear n1_; have HO3 := n2_; clear n2_; have HO4 := n3_; clear n3_; have HB := nb_; clear nb_; have HO6 := Aside0.mk hz6_; clear hz6_ hl6 hp6; (try clear hb); (try clear ho0); obtain ⟨Ao6, co6, eo6⟩ := OwnS.slice HO6.out; subst eo6) | ((with_reducible refine gate_callee (f := 15) rfl ?_); refine goesL_ (some 54) rfl rfl Try.func15 (by kernel_rfl) rfl #[.slice Ao3 t3.length co3, .slice Ao6 t6.length co6] rfl (by (try simp only [List.map_toArray, List.map_cons, List.map_nil]); first | done | rfl) ?_; (with_reducible refine (laws_eqIntSS.calls k  _ _ t3 _ _ t6 true _ ?side1 ?side2 ?side3 ?side4 E7.out).mono ?_); (case side1 => repeat (first | exact (OwnS.reads HO3.out).2 | (with_reducible refine Kd.C_alloc ?_ _) | (with_reducible refine Kd.C_drewN ?_ _) | (with_reducible refine Kd.C_drew ?_))); (case side2 => exact (OwnS.reads HO3.out).1); (case side3 => repeat (first | exact (OwnS.reads HO6.out).2 | (with_reducible refine Kd.C_alloc ?_ _) | (with_reducible refine Kd.C_drewN ?_ _) | (with_reducible refine Kd.C_drew ?_))); (case side4 => exact (OwnS.reads HO6.out).1); rintro e w7_ ⟨rfl, ⟨nd, rfl⟩⟩; refine ⟨_, rfl, ?_⟩) | ((with_reducible refine gate_callee (f := 16) rfl ?_); refine goesL_ (some 58) rfl rfl Try.func16 (by kernel_rfl) rfl #[.slice Ao3 t3.length co3, .int .i64 1] rfl (by (try simp only [List.map_toArray, List.map_cons, List.map_nil]); first | done | rfl) ?_; (with_reducible refine (laws_markIntSS.calls k (fun k_ => lo3 ≤ k_ ∧ k_ < hi3) (.slice Ao3 t3.length co3) t3 1 t8 m8 w _ ?side1 ?side2 E8.out).mono ?_); (case side1 => repeat (first | (with_reducible first | exact HB.out | apply below_alloc | apply pw_below_drewN | apply below_drew1) | exact HB.out)); (case side2 => exact OwnS.raw (by (with_reducible repeat (first | apply OwnS.alloc | apply OwnS.drewN | apply OwnS.drew)); exact HO3.out)); rintro e w8_ ⟨rfl, hy0, hb, hkp⟩; refine ⟨_, rfl, ?_⟩; have n0_ := Aside0.mk (OwnS.kept (by (with_reducible repeat (first | apply OwnS.alloc | apply OwnS.drewN | apply OwnS.drew)); exact HO1.out) hkp (by have := L1_3.out; omega)); have n1_ := Aside0.mk (OwnS.kept (by (with_reducible repeat (first | apply OwnS.alloc | apply OwnS.drewN | apply OwnS.drew)); exact HO2.out) hkp (by have := L2_3.out; omega)); have n2_ := Aside0.mk (OwnS.kept (by (with_reducible repeat (first | apply OwnS.alloc | apply OwnS.drewN | apply OwnS.drew)); exact HO4.out) hkp (by have := L3_4.out; omega)); have n3_ := Aside0.mk (OwnS.kept (by (with_reducible repeat (first | apply OwnS.alloc | apply OwnS.drewN | apply OwnS.drew)); exact HO6.out) hkp (by have := L3_6.out; omega)); have nb_ := Aside0.mk (hb); clear HO1; clear HO2; clear HO4; clear HO6; clear HB; have HO1 := n0_; clear n0_; have HO2 := n1_; clear n1_; have HO4 := n2_; clear n2_; have HO6 := n3_; clear n3_; have HB := nb_; clear nb_; clear HO3; (try clear hy0); (try clear hkp); (try clear hb)) | (go_at_call 15; (with_reducible refine (laws_eqIntSS.calls k  _ _ t4 _ _ t2 true _ ?side1 ?side2 ?side3 ?side4 E9.out).mono ?_); (case side1 => repeat (first | exact (OwnS.reads HO4.out).2 | (with_reducible refine Kd.C_alloc ?_ _) | (with_reducible refine Kd.C_drewN ?_ _) | (with_reducible refine Kd.C_drew ?_))); (case side2 => exact (OwnS.reads HO4.out).1); (case side3 => repeat (first | exact (OwnS.reads HO2.out).2 | (with_reducible refine Kd.C_alloc ?_ _) | (with_reducible refine Kd.C_drewN ?_ _) | (with_reducible refine Kd.C_drew ?_))); (case side4 => exact (OwnS.reads HO2.out).1); rintro e w9_ ⟨rfl, ⟨nd, rfl⟩⟩) | ((with_reducible refine gate_callee (f := 16) rfl ?_); refine goesL_ (some 79) rfl rfl Try.func16 (by kernel_rfl) rfl #[.slice Ao4 t4.length co4, .int .i64 1] rfl (by (try simp only [List.map_toArray, List.map_cons, List.map_nil]); first | done | rfl) ?_; (with_reducible refine (laws_markIntSS.calls k (fun k_ => lo4 ≤ k_ ∧ k_ < hi4) (.slice Ao4 t4.length co4) t4 1 t10 m10 w _ ?side1 ?side2 E10.out).mono ?_); (case side1 => repeat (first | (with_reducible first | exact HB.out | apply below_alloc | apply pw_below_drewN | apply below_drew1) | exact HB.out)); (case side2 => exact OwnS.raw (by (with_reducible repeat (first | apply OwnS.alloc | apply OwnS.drewN | apply OwnS.drew)); exact HO4.out)); rintro e w10_ ⟨rfl, hy0, hb, hkp⟩; refine ⟨_, rfl, ?_⟩; have n0_ := Aside0.mk (OwnS.kept (by (with_reducible repeat (first | apply OwnS.alloc | apply OwnS.drewN | apply OwnS.drew)); exact HO1.out) hkp (by have := L1_4.out; omega)); have n1_ := Aside0.mk (OwnS.kept (by (with_reducible repeat (first | apply OwnS.alloc | apply OwnS.drewN | apply OwnS.drew)); exact HO2.out) hkp (by have := L2_4.out; omega)); have n2_ := Aside0.mk (OwnS.marked (by (with_reducible repeat (first | apply OwnS.alloc | apply OwnS.drewN | apply OwnS.drew)); exact HO4.out) hy0 hkp); have n3_ := Aside0.mk (OwnS.kept (by (with_reducible repeat (first | apply OwnS.alloc | apply OwnS.drewN | apply OwnS.drew)); exact HO6.out) hkp (by have := L4_6.out; omega)); have nb_ := Aside0.mk (hb); clear HO1; clear HO2; clear HO4; clear HO6; clear HB; have HO1 := n0_; clear n0_; have HO2 := n1_; clear n1_; have HO4 := n2_; clear n2_; have HO6 := n3_; clear n3_; have HB := nb_; clear nb_; obtain ⟨hi110, HO4_⟩ := HO4.out; clear HO4; have HO4 := Aside0.mk HO4_; clear HO4_; have hln_ := OwnS.len HO4.out; (try simp only [hln_]); rw [hln_] at HO4; clear hln_; (try clear hy0); (try clear hkp); (try clear hb)) | ((with_reducible refine gate_callee (f := 17) rfl ?_); refine goesL_ (some 82) rfl rfl Try.func17 (by kernel_rfl) rfl #[.slice Ao4 m10.length co4, .int .i64 1] rfl (by (try simp only [List.map_toArray, List.map_cons, List.map_nil]); first | done | rfl) ?_; (with_reducible refine (laws_heldIntSS.calls k  _ _ m10 1 t11 _ ?side1 ?side2 E11.out).mono ?_); (case side1 => repeat (first | exact (OwnS.reads HO4.out).2 | (with_reducible refine Kd.C_alloc ?_ _) | (with_reducible refine Kd.C_drewN ?_ _) | (with_reducible refine Kd.C_drew ?_))); (case side2 => exact (OwnS.reads HO4.out).1); rintro e w11_ ⟨rfl, ⟨nd, rfl⟩⟩; refine ⟨_, rfl, ?_⟩) | ((with_reducible refine gate_callee (f := 13) rfl ?_); refine goesL_ (some 90) rfl rfl Try.func13 (by kernel_rfl) rfl #[.slice A0 l0.length c0] rfl (by (try simp only [List.map_toArray, List.map_cons, List.map_nil]); first | done | rfl) ?_; (with_reducible refine (laws_toIntSS.calls k  _ _ l0 t12 _ ?side1 ?side2 E12.out).mono ?_); (case side1 => repeat (first | exact (Kd.C_below HR0.out HB.out) | (with_reducible refine Kd.C_alloc ?_ _) | (with_reducible refine Kd.C_drewN ?_ _) | (with_reducible refine Kd.C_drew ?_))); (case side2 => exact HC0.out); rintro e w12_ ⟨v12, rfl, ho0, hb⟩; refine ⟨_, rfl, ?_⟩; have hz12 := OwnS.born (w0 := w) (by repeat (first | (with_reducible first | exact HB.out | apply below_alloc | apply pw_below_drewN | apply below_drew1) | exact HB.out)) ho0 hb; have hp12 := OwnS.topB (by (with_reducible repeat (first | apply OwnS.alloc | apply OwnS.drewN | apply OwnS.drew)); exact HO6.out) hb; obtain ⟨lo12, hi12, hl12, hz12_⟩ := hz12; have L1_12 := Aside0.mk (show hi1 ≤ lo12 by have := L1_6.out; have := OwnS.le HO6.out; omega); have L2_12 := Aside0.mk (show hi2 ≤ lo12 by have := L2_6.out; have := OwnS.le HO6.out; omega); have L4_12 := Aside0.mk (show hi4 ≤ lo12 by have := L4_6.out; have := OwnS.le HO6.out; omega); have L6_12 := Aside0.mk (show hi6 ≤ lo12 by omega); have n0_ := Aside0.mk (OwnS.below (by (with_reducible repeat (first | apply OwnS.alloc | apply OwnS.drewN | apply OwnS.drew)); exact HO1.out) hb); have n1_ := Aside0.mk (OwnS.below (by (with_reducible repeat (first | apply OwnS.alloc | apply OwnS.drewN | apply OwnS.drew)); exact HO2.out) hb); have n2_ := Aside0.mk (OwnS.below (by (with_reducible repeat (first | apply OwnS.alloc | apply OwnS.drewN | apply OwnS.drew)); exact HO4.out) hb); have n3_ := Aside0.mk (OwnS.below (by (with_reducible repeat (first | apply OwnS.alloc | apply OwnS.drewN | apply OwnS.drew)); exact HO6.out) hb); have nb_ := Aside0.mk (below_step (by repeat (first | (with_reducible first | exact HB.out | apply below_alloc | apply pw_below_drewN | apply below_drew1) | exact HB.out)) hb); clear HO1; clear HO2; clear HO4; clear HO6; clear HB; have HO1 := n0_; clear n0_; have HO2 := n1_; clear n1_; have HO4 := n2_; clear n2_; have HO6 := n3_; clear n3_; have HB := nb_; clear nb_; have HO12 := Aside0.mk hz12_; clear hz12_ hl12 hp12; (try clear hb); (try clear ho0); obtain ⟨Ao12, co12, eo12⟩ := OwnS.slice HO12.out; subst eo12) | ((with_reducible refine gate_callee (f := 31) rfl ?_); refine goesL_ (some 91) rfl rfl Try.func31 (by kernel_rfl) rfl #[.slice Ao12 t12.length co12] rfl (by (try simp only [List.map_toArray, List.map_cons, List.map_nil]); first | done | rfl) ?_; (with_reducible refine (impl_Uncross.calls k  _ _ t12 t13 t13_1 t13_2 _ ?side1 ?side2 E13.out).mono ?_); (case side1 => repeat (first | exact (OwnS.reads HO12.out).2 | (with_reducible refine Kd.C_alloc ?_ _) | (with_reducible refine Kd.C_drewN ?_ _) | (with_reducible refine Kd.C_drew ?_))); (case side2 => exact (OwnS.reads HO12.out).1); rintro e w13_ ⟨v13, rfl, ho0, hb⟩; refine ⟨_, rfl, ?_⟩; have hz13 := OwnS.born (w0 := w) (by repeat (first | (with_reducible first | exact HB.out | apply below_alloc | apply pw_below_drewN | apply below_drew1) | exact HB.out)) ho0 hb; have hp13 := OwnS.topB (by (with_reducible repeat (first | apply OwnS.alloc | apply OwnS.drewN | apply OwnS.drew)); exact HO12.out) hb; obtain ⟨lo13, hi13, hl13, hz13_⟩ := hz13; have L1_13 := Aside0.mk (show hi1 ≤ lo13 by have := L1_12.out; have := OwnS.le HO12.out; omega); have L2_13 := Aside0.mk (show hi2 ≤ lo13 by have := L2_12.out; have := OwnS.le HO12.out; omega); have L4_13 := Aside0.mk (show hi4 ≤ lo13 by have := L4_12.out; have := OwnS.le HO12.out; omega); have L6_13 := Aside0.mk (show hi6 ≤ lo13 by have := L6_12.out; have := OwnS.le HO12.out; omega); have L12_13 := Aside0.mk (show hi12 ≤ lo13 by omega); have n0_ := Aside0.mk (OwnS.below (by (with_reducible repeat (first | apply OwnS.alloc | apply OwnS.drewN | apply OwnS.drew)); exact HO1.out) hb); have n1_ := Aside0.mk (OwnS.below (by (with_reducible repeat (first | apply OwnS.alloc | apply OwnS.drewN | apply OwnS.drew)); exact HO2.out) hb); have n2_ := Aside0.mk (OwnS.below (by (with_reducible repeat (first | apply OwnS.alloc | apply OwnS.drewN | apply OwnS.drew)); exact HO4.out) hb); have n3_ := Aside0.mk (OwnS.below (by (with_reducible repeat (first | apply OwnS.alloc | apply OwnS.drewN | apply OwnS.drew)); exact HO6.out) hb); have n4_ := Aside0.mk (OwnS.below (by (with_reducible repeat (first | apply OwnS.alloc | apply OwnS.drewN | apply OwnS.drew)); exact HO12.out) hb); have nb_ := Aside0.mk (below_step (by repeat (first | (with_reducible first | exact HB.out | apply below_alloc | apply pw_below_drewN | apply below_drew1) | exact HB.out)) hb); clear HO1; clear HO2; clear HO4; clear HO6; clear HO12; clear HB; have HO1 := n0_; clear n0_; have HO2 := n1_; clear n1_; have HO4 := n2_; clear n2_; have HO6 := n3_; clear n3_; have HO12 := n4_; clear n4_; have HB := nb_; clear nb_; have HO13 := Aside0.mk hz13_; clear hz13_ hl13 hp13; (try clear hb); (try clear ho0); obtain ⟨Ao13, co13, eo13⟩ := OwnS.slice HO13.out; subst eo13) | ((with_reducible refine gate_callee (f := 15) rfl ?_); refine goesL_ (some 97) rfl rfl Try.func15 (by kernel_rfl) rfl #[.slice Ao13 t13.length co13, .slice Ao2 t2.length co2] rfl (by (try simp only [List.map_toArray, List.map_cons, List.map_nil]); first | done | rfl) ?_; (with_reducible refine (laws_eqIntSS.calls k  _ _ t13 _ _ t2 true _ ?side1 ?side2 ?side3 ?side4 E14.out).mono ?_); (case side1 => repeat (first | exact (OwnS.reads HO13.out).2 | (with_reducible refine Kd.C_alloc ?_ _) | (with_reducible refine Kd.C_drewN ?_ _) | (with_reducible refine Kd.C_drew ?_))); (case side2 => exact (OwnS.reads HO13.out).1); (case side3 => repeat (first | exact (OwnS.reads HO2.out).2 | (with_reducible refine Kd.C_alloc ?_ _) | (with_reducible refine Kd.C_drewN ?_ _) | (with_reducible refine Kd.C_drew ?_))); (case side4 => exact (OwnS.reads HO2.out).1); rintro e w14_ ⟨rfl, ⟨nd, rfl⟩⟩; refine ⟨_, rfl, ?_⟩) | ((with_reducible refine gate_callee (f := 17) rfl ?_); refine goesL_ (some 111) rfl rfl Try.func17 (by kernel_rfl) rfl #[.slice Ao4 m10.length co4, .int .i64 1] rfl (by (try simp only [List.map_toArray, List.map_cons, List.map_nil]); first | done | rfl) ?_; (with_reducible refine (laws_heldIntSS.calls k  _ _ m10 1 t15 _ ?side1 ?side2 E15.out).mono ?_); (case side1 => repeat (first | exact (OwnS.reads HO4.out).2 | (with_reducible refine Kd.C_alloc ?_ _) | (with_reducible refine Kd.C_drewN ?_ _) | (with_reducible refine Kd.C_drew ?_))); (case side2 => exact (OwnS.reads HO4.out).1); rintro e w15_ ⟨rfl, ⟨nd, rfl⟩⟩; refine ⟨_, rfl, ?_⟩))
    go_ret
    exact ⟨by first | rfl | (simp; done) | (simp [*]; done), by repeat (first | (with_reducible first | exact HB.out | apply below_alloc | apply pw_below_drewN | apply below_drew1) | exact HB.out)⟩
end Go.Proofs.Ytbnlfhdjcpegkaa.PFnExactUncross
