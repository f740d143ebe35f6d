/- For each Go function that the law uses, a Lean function with the same answers and a proof that its call comes to them; the conditions stand in each theorem. (Written by a program of this session, turned from the print of the kit.) -/
import Derived.Test.YtbnlfhdjcpegkaaPFnGiftsInSumsx0
import Derived.Test.YtbnlfhdjcpegkaaPFnGiftsInSumsx5
import Derived.Test.YtbnlfhdjcpegkaaPFnGiftsInSumsx6
import Derived.Test.YtbnlfhdjcpegkaaPFnGiftsInSumsx7
import Derived.Test.YtbnlfhdjcpegkaaPFnGiftsInSumsx10
namespace Go.Proofs.Ytbnlfhdjcpegkaa.PFnGiftsInSums
open Go.RowKit Go.Proofs.YtbnlfhdjcpegkaaW.PrintWords Go.Proofs.YtbnlfhdjcpegkaaW.PrintLast Go.Proofs.YtbnlfhdjcpegkaaW.PrintMore
attribute [local go_sem] max2_int min2_int max_two min_two max_three min_three max_four min_four   -- for this text's walks alone
set_option linter.unusedVariables false
set_option linter.unusedSimpArgs false

/-! ### impl_given: function 90 -/
def impl_given.f (l0 : List Int) (a1_0 : Int) (a1_1 : Int) (a1_2 : Int) : Option (List Int) := (slices_Clone_int_int.f l0).bind fun t277 => (if 0 ≤ a1_0 then (if a1_0 < (t277.length : Int) then ((some (t277.set (a1_0 : Int).toNat (wrap64 ((rd t277 a1_0) - a1_2)) : List Int)).bind fun y281 => (if 0 ≤ a1_1 then (if a1_1 < (t277.length : Int) then (some (y281.set (a1_1 : Int).toNat (wrap64 ((rd y281 a1_1) + a1_2)))) else (none)) else (none))) else (none)) else (none))
def impl_given.T2 : Bool × List (List Nat × List Nat) := (true, [([], []), ([], []), ([1], [1]), ([0, 2], [0, 2]), ([3], [3]), ([], []), ([5], [5]), ([4, 6], [4, 6]), ([0, 2, 0, 1, 2, 3, 4, 5, 6, 7], [0, 2]), ([8, 7, 0, 1, 2, 3, 4, 5, 6, 7], [7, 8])])
def impl_given.B2 : List Nat := [0, 0, 2, 7, 15, 0, 32, 127, 255, 511]
theorem impl_given.tab2 : rtab .any (opsOf Try.f90 2) = impl_given.T2 := by kernel_rfl
theorem impl_given.bits2 : waitsOk impl_given.T2.2 impl_given.B2 = true := by kernel_rfl
def impl_given.T3 : Bool × List (List Nat × List Nat) := (true, [([], []), ([], []), ([1], [1]), ([0, 2], [0, 2]), ([3], [3]), ([], []), ([5], [5]), ([4, 6], [4, 6]), ([0, 2, 0, 1, 2, 3, 4, 5, 6, 7], [0, 2]), ([8, 7, 0, 1, 2, 3, 4, 5, 6, 7], [7, 8])])
def impl_given.B3 : List Nat := [0, 0, 2, 7, 15, 0, 32, 127, 255, 511]
theorem impl_given.tab3 : rtab .any (opsOf Try.f90 3) = impl_given.T3 := by kernel_rfl
theorem impl_given.bits3 : waitsOk impl_given.T3.2 impl_given.B3 = true := by kernel_rfl
set_option maxHeartbeats 8000000 in
set_option maxRecDepth 100000 in
theorem impl_given.calls (A0 : Option Addr) (c0 : Nat) (l0 : List Int) (a1_0 : Int) (a1_1 : Int) (a1_2 : Int) (r : List Int) (w : World) (hr0 : Kd.C (Kd.int .i64) w A0 l0.length l0) (hc0 : l0.length ≤ c0) (h : impl_given.f l0 a1_0 a1_1 a1_2 = some r) :
    Calls Try.prog 90 #[.slice A0 l0.length c0, .agg #[.int .i64 a1_0, .int .i64 a1_1, .int .i64 a1_2]] w fun e w' => ∃ v0_ : Value, e = .returned (v0_) ∧ Kd.R (Kd.int .i64) 3 w' w.heap.size (fun _ => True) v0_ r ∧ Below w.heap.size w w' := by
  have hu46 := Try.underlying46
  have HR0 := Aside0.mk hr0
  have HC0 := Aside0.mk hc0
  clear hr0 hc0
  have HB := Aside0.mk (Below.refl w.heap.size w)
  have H : ((slices_Clone_int_int.f l0).bind fun t277 => (if 0 ≤ a1_0 then (if a1_0 < (t277.length : Int) then ((some (t277.set (a1_0 : Int).toNat (wrap64 ((rd t277 a1_0) - a1_2)) : List Int)).bind fun y281 => (if 0 ≤ a1_1 then (if a1_1 < (t277.length : Int) then (some (y281.set (a1_1 : Int).toNat (wrap64 ((rd y281 a1_1) + a1_2)))) else (none)) else (none))) else (none)) else (none))) = some r := h
  clear h
  replace H := Option.bind_eq_some_iff.mp H
  obtain ⟨t277, A30, H⟩ := H
  replace H : (if 0 ≤ a1_0 then (if a1_0 < (t277.length : Int) then ((some (t277.set (a1_0 : Int).toNat (wrap64 ((rd t277 a1_0) - a1_2)) : List Int)).bind fun y281 => (if 0 ≤ a1_1 then (if a1_1 < (t277.length : Int) then (some (y281.set (a1_1 : Int).toNat (wrap64 ((rd y281 a1_1) + a1_2)))) else (none)) else (none))) else (none)) else (none)) = some r := H
  have A3 := Aside0.mk A30
  clear A30
  by_cases c4 : 0 ≤ a1_0
  · rw [if_pos c4] at H
    have c4b0 : decide (0 ≤ a1_0) = true := decide_eq_true c4
    clear c4
    by_cases c5 : a1_0 < (t277.length : Int)
    · rw [if_pos c5] at H
      have c5b0 : decide (a1_0 < (t277.length : Int)) = true := decide_eq_true c5
      clear c5
      obtain ⟨y281, hy281⟩ : ∃ y_ : List Int, y_ = (t277.set (a1_0 : Int).toNat (wrap64 ((rd t277 a1_0) - a1_2))) := ⟨_, rfl⟩
      replace H : (if 0 ≤ a1_1 then (if a1_1 < (t277.length : Int) then (some (y281.set (a1_1 : Int).toNat (wrap64 ((rd y281 a1_1) + a1_2)))) else (none)) else (none)) = some r := by first | (rw [hy281]; with_reducible exact H) | (have H2_ := (Option.bind_some _ _).symm.trans H; rw [hy281]; with_reducible exact H2_) | (have H2_ := (Option.bind_some _ _).symm.trans H; with_reducible exact H2_) | with_reducible exact H | (rw [hy281]; exact H) | exact H
      have Ny281 := Aside0.mk hy281
      clear hy281
      by_cases c7 : 0 ≤ a1_1
      · rw [if_pos c7] at H
        have c7b0 : decide (0 ≤ a1_1) = true := decide_eq_true c7
        clear c7
        by_cases c8 : a1_1 < (t277.length : Int)
        · rw [if_pos c8] at H
          have c8b0 : decide (a1_1 < (t277.length : Int)) = true := decide_eq_true c8
          clear c8
          obtain ⟨y283, hy283⟩ : ∃ y_ : List Int, y_ = (y281.set (a1_1 : Int).toNat (wrap64 ((rd y281 a1_1) + a1_2))) := ⟨_, rfl⟩
          replace H : (some y283) = some r := by first | (rw [hy283]; with_reducible exact H) | (have H2_ := (Option.bind_some _ _).symm.trans H; rw [hy283]; with_reducible exact H2_) | (have H2_ := (Option.bind_some _ _).symm.trans H; with_reducible exact H2_) | with_reducible exact H | (rw [hy283]; exact H) | exact H
          have Ny283 := Aside0.mk hy283
          clear hy283
          obtain rfl := Option.some.inj H
          go_enter Try.func90, Try.ntmps90
          try go_wp2_with (first | ((with_reducible refine gate_dst (N := 3) rfl ?_); refine box_event ?hg (N := 3) ?hd (cs := #[.int .i64 a1_0, .int .i64 a1_1, .int .i64 a1_2]) (t := 46) ?hr ?_; (case hd => rfl); (case hg => rfl); (case hr => first | (go_simp; done) | (go_simp; rfl)); intro gb276 hg w10 hbox hb; have n0_ := Aside0.mk (below_step (by repeat (first | (with_reducible first | exact HB.out | apply below_alloc | apply pw_below_drewN | apply below_drew1) | exact HB.out)) hb); have n1_ := Aside0.mk (hbox); have n2_ := Aside0.mk ((by rw [hg]; exact (below_size (by repeat (first | (with_reducible first | exact HB.out | apply below_alloc | apply pw_below_drewN | apply below_drew1) | exact HB.out))) : w.heap.size ≤ gb276)); have n3_ := Aside0.mk ((by rw [hg]; exact (below_size (by repeat (first | (with_reducible first | exact HB.out | apply below_alloc | apply pw_below_drewN | apply below_drew1) | exact HB.out))) : w.heap.size ≤ gb276)); clear HB; have HB := n0_; have BK276 := n1_; have GW276 := n2_; have GE276 := n3_; clear n0_ n1_ n2_ n3_; clear hb hbox hg) | ((with_reducible refine gate_callee (f := 109) rfl ?_); refine goesL_ (some 7) rfl rfl Try.func109 (by kernel_rfl) rfl #[.slice A0 l0.length c0] rfl (by (try simp only [List.map_toArray, List.map_cons, List.map_nil]); first | done | rfl | (simp only [List.length_drop, List.length_take]; rfl)) ?_; (with_reducible refine (slices_Clone_int_int.calls _ _ l0 t277 _ ?side1 ?side2 A3.out).mono ?_); (case side1 => repeat (first | exact (Kd.C_below HR0.out HB.out) | (with_reducible refine Kd.C_alloc ?_ _) | (with_reducible refine Kd.C_drewN ?_ _) | (with_reducible refine Kd.C_drew ?_))); (case side2 => exact HC0.out); rintro e w11 ⟨v278, rfl, ho0, hb⟩; refine ⟨_, rfl, ?_⟩; have n0_ := Aside0.mk (Kd.R_lower ho0 (below_size (by repeat (first | (with_reducible first | exact HB.out | apply below_alloc | apply pw_below_drewN | apply below_drew1 | refine below_set ?_ GE276.out) | exact HB.out)))); have n1_ := Aside0.mk (blk_below (g := gb276) (o := .cells #[.int .i64 a1_0, .int .i64 a1_1, .int .i64 a1_2] 46 (0, 0)) (by (with_reducible repeat (first | refine blk_drewN ?_ _ | refine blk_drew ?_ | refine blk_alloc ?_ _)); exact BK276.out) hb); have n2_ := Aside0.mk (below_step (by repeat (first | (with_reducible first | exact HB.out | apply below_alloc | apply pw_below_drewN | apply below_drew1 | refine below_set ?_ GE276.out) | exact HB.out)) hb); clear BK276; clear HB; have HO279 := n0_; have BK276 := n1_; have HB := n2_; clear n0_ n1_ n2_; (try clear hb); (try clear hb2); (try clear hk); (try clear hi); (try clear ho0)))
          have n0_ := Aside0.mk (Kd.R_drew HO279.out)
          have n1_ := Aside0.mk (blk_drew BK276.out)
          have n2_ := Aside0.mk (below_drew1 HB.out)
          clear HO279
          clear BK276
          clear HB
          have HO279 := n0_
          have BK276 := n1_
          have HB := n2_
          clear n0_ n1_ n2_
          obtain ⟨Ao13, co13, eo13⟩ := Kd.R_slice HO279.out
          (first | subst eo13 | (injection eo13 with f1_ f2_ f3_; have f4_ := f1_.symm; have f5_ := f3_.symm; clear f1_ f2_ f3_; subst f4_; subst f5_))
          have p280 : 0 ≤ (a1_0 : Int) := of_decide_eq_true (by first | (with_reducible assumption) | assumption)
          have q280 : a1_0 < (t277.length : Int) := of_decide_eq_true (by first | (with_reducible assumption) | assumption)
          obtain ⟨ad280, e280, hx280_0⟩ := Kd.at_int (Kd.R_reads' HO279.out).2.2 a1_0 p280 q280
          cases e280
          replace p280 := eq_true p280
          replace q280 := eq_true q280
          have p6 : 0 ≤ (a1_0 : Int) := of_decide_eq_true (by first | (with_reducible assumption) | assumption)
          have q6 : (a1_0 : Int) < ((t277.length : Int) : Int) := of_decide_eq_true (by first | (with_reducible assumption) | assumption)
          obtain ⟨go6, co6, eo6, gb6, gl6, cl6, HG6⟩ := Kd.R_form HO279.out (by omega)
          (first | cases eo6 | (injection eo6 with ea_ en_ ec_; (first | subst ea_ | (injection ea_ with ea_; subst ea_)); subst ec_; clear en_))
          have GB6 := Aside0.mk gb6
          have GG6 := Aside0.mk HG6
          clear gb6 gl6 HG6
          (first | simp only [add_plain] at hx280_0 | skip)
          obtain ⟨hx6_0, hf6_0⟩ := Kd.R_celln 0 HO279.out (a1_0 : Int) p6 q6
          replace p6 := eq_true p6
          replace q6 := eq_true q6
          have HP14 := Kd.R_putn HO279.out (a1_0 : Int) (wrap64 ((rd t277 a1_0) - a1_2))
          rw [← Ny281.out] at HP14
          have HQ14 := Aside0.mk HP14
          clear HP14
          refine start_ (n := 10) (S := fun w' => w'.cell? ⟨gb276, 0, none⟩ = some (.int .i64 a1_0) ∧ w'.cell? ⟨gb276, 1, none⟩ = some (.int .i64 a1_1) ∧ w'.cell? ⟨gb276, 2, none⟩ = some (.int .i64 a1_2) ∧ w'.cell? ⟨go6, (a1_0).toNat, none⟩ = some (.int .i64 (rd t277 a1_0))) (ds := [9]) #[false, false, false, false, false, false, false, false, false, false] (by kernel_rfl) rfl rfl ⟨(blk_cell BK276.out 0).trans rfl, (blk_cell BK276.out 1).trans rfl, (blk_cell BK276.out 2).trans rfl, hx280_0⟩ (fun hHeld => ?_); refine with_tabW impl_given.tab2 impl_given.bits2 (fun HT_ HW_ => ?_)
          generalize w11.drew = w12 at HO279 BK276 HB GG6 HQ14 hf6_0 hx280_0 hx6_0 hHeld ⊢
          refine pure_ (i := 0) (N := some 8) (v := ?_) (a' := ?_) #[true, false, false, false, false, false, false, false, false, false] rfl rfl (any_of HT_.out (by kernel_rfl)) (fun _ _ _ h => h) (Or.inl ⟨by rfl, ?_⟩) ?_ ?_
          rotate_left
          · intro w'
            go_simp
            with_reducible rfl
          rotate_left
          · simp only [Act.put, List.setIfInBounds_toArray, List.set_cons_zero, List.set_cons_succ, i64_w, i32_w]
            rfl
          refine pure_ (i := 1) (N := some 9) (v := ?_) (a' := ?_) #[true, true, false, false, false, false, false, false, false, false] rfl rfl (any_of HT_.out (by kernel_rfl)) (fun _ _ _ h => h) (Or.inl ⟨by rfl, ?_⟩) ?_ ?_
          rotate_left
          · intro w'
            go_simp
            with_reducible rfl
          rotate_left
          · simp only [Act.put, List.setIfInBounds_toArray, List.set_cons_zero, List.set_cons_succ, i64_w, i32_w]
            rfl
          refine pure_ (i := 5) (N := some 13) (v := ?_) (a' := ?_) #[true, true, false, false, false, true, false, false, false, false] rfl rfl (any_of HT_.out (by kernel_rfl)) (fun _ _ _ h => h) (Or.inl ⟨by rfl, ?_⟩) ?_ ?_
          rotate_left
          · intro w'
            go_simp
            with_reducible rfl
          rotate_left
          · simp only [Act.put, List.setIfInBounds_toArray, List.set_cons_zero, List.set_cons_succ, i64_w, i32_w]
            rfl
          refine take_ (i := 2) (N := some 10) (v := ?_) (a' := ?_) #[true, true, true, false, false, true, false, false, false, false] rfl rfl (take_ofW HT_.out HW_.out (by kernel_rfl)) (fun _ _ _ h => h) (Or.inl ⟨by rfl, ?_⟩) hHeld ?_ ?_
          rotate_left
          · rintro w' ⟨s0, s1, s2, s3⟩
            go_simp
            with_reducible rfl
          rotate_left
          · simp only [Act.put, List.setIfInBounds_toArray, List.set_cons_zero, List.set_cons_succ, i64_w, i32_w]
            rfl
          refine pure_ (i := 3) (N := some 11) (v := ?_) (a' := ?_) #[true, true, true, true, false, true, false, false, false, false] rfl rfl (any_of HT_.out (by kernel_rfl)) (fun _ _ _ h => h) (Or.inl ⟨by rfl, ?_⟩) ?_ ?_
          rotate_left
          · intro w'
            go_simp
            with_reducible rfl
          rotate_left
          · simp only [Act.put, List.setIfInBounds_toArray, List.set_cons_zero, List.set_cons_succ, i64_w, i32_w]
            rfl
          refine take_ (i := 4) (N := some 12) (v := ?_) (a' := ?_) #[true, true, true, true, true, true, false, false, false, false] rfl rfl (take_ofW HT_.out HW_.out (by kernel_rfl)) (fun _ _ _ h => h) (Or.inl ⟨by rfl, ?_⟩) hHeld ?_ ?_
          rotate_left
          · rintro w' ⟨s0, s1, s2, s3⟩
            go_simp
            with_reducible rfl
          rotate_left
          · simp only [Act.put, List.setIfInBounds_toArray, List.set_cons_zero, List.set_cons_succ, i64_w, i32_w]
            rfl
          refine take_ (i := 6) (N := some 14) (v := ?_) (a' := ?_) #[true, true, true, true, true, true, true, false, false, false] rfl rfl (take_ofW HT_.out HW_.out (by kernel_rfl)) (fun _ _ _ h => h) (Or.inl ⟨by rfl, ?_⟩) hHeld ?_ ?_
          rotate_left
          · rintro w' ⟨s0, s1, s2, s3⟩
            go_simp
            with_reducible rfl
          rotate_left
          · simp only [Act.put, List.setIfInBounds_toArray, List.set_cons_zero, List.set_cons_succ, i64_w, i32_w]
            rfl
          refine pure_ (i := 7) (N := some 15) (v := ?_) (a' := ?_) #[true, true, true, true, true, true, true, true, false, false] rfl rfl (any_of HT_.out (by kernel_rfl)) (fun _ _ _ h => h) (Or.inl ⟨by rfl, ?_⟩) ?_ ?_
          rotate_left
          · intro w'
            go_simp
            with_reducible rfl
          rotate_left
          · simp only [Act.put, List.setIfInBounds_toArray, List.set_cons_zero, List.set_cons_succ, i64_w, i32_w]
            rfl
          refine pure_ (i := 8) (N := some 16) (v := ?_) (a' := ?_) #[true, true, true, true, true, true, true, true, true, false] rfl rfl (any_of HT_.out (by kernel_rfl)) (fun _ _ _ h => h) (Or.inl ⟨by rfl, ?_⟩) ?_ ?_
          rotate_left
          · intro w'
            go_simp
            with_reducible rfl
          rotate_left
          · simp only [Act.put, List.setIfInBounds_toArray, List.set_cons_zero, List.set_cons_succ, i64_w, i32_w]
            rfl
          refine last_ (i := 9) (N := none) #[true, true, true, true, true, true, true, true, true, true] rfl rfl (one_of HT_.out (by kernel_rfl)) (by decide) (fun K hK => ?_)
          refine skip_ (w1 := ?_) (by rfl) rfl ?_ ?_
          rotate_left
          · go_simp
            rfl
          refine hK.out _ _ ?_
          clear hK K
          refine done_ (done_of HT_.out (by kernel_rfl)) ?_
          try go_wp2
          have n0_ : Aside0 (Kd.R (Kd.int .i64) 3 (w12.setCell ⟨go6, (a1_0 : Int).toNat, none⟩ (.int .i64 (wrap64 ((rd t277 a1_0) - a1_2)))) w.heap.size (fun _ => True) (.slice (some ⟨go6, 0, none⟩) t277.length co13) y281) := ⟨by (with_reducible repeat (first | apply Kd.R_alloc | apply Kd.R_drewN | apply Kd.R_drew)); exact HQ14.out⟩
          have n1_ : Aside0 ((w12.setCell ⟨go6, (a1_0 : Int).toNat, none⟩ (.int .i64 (wrap64 ((rd t277 a1_0) - a1_2)))).heap[gb276]? = some (.cells #[.int .i64 a1_0, .int .i64 a1_1, .int .i64 a1_2] 46 (0, 0))) := ⟨by (with_reducible repeat (first | refine blk_drewN ?_ _ | refine blk_drew ?_ | refine blk_alloc ?_ _)); refine blk_far ?_ (by have h_ := Kd.R_ne HO279.out BK276.out (by decide); intro e_; exact h_ (by rw [e_]; rfl)) _; (with_reducible repeat (first | refine blk_drewN ?_ _ | refine blk_drew ?_ | refine blk_alloc ?_ _)); exact BK276.out⟩
          have n2_ : Aside0 (Below w.heap.size w (w12.setCell ⟨go6, (a1_0 : Int).toNat, none⟩ (.int .i64 (wrap64 ((rd t277 a1_0) - a1_2))))) := ⟨by repeat (first | (with_reducible first | exact HB.out | apply below_alloc | apply pw_below_drewN | apply below_drew1 | refine below_set ?_ GB6.out | refine below_set ?_ GE276.out) | exact HB.out)⟩
          (try clear HO279)
          (try clear BK276)
          (try clear HB)
          generalize (w12.setCell ⟨go6, (a1_0 : Int).toNat, none⟩ (.int .i64 (wrap64 ((rd t277 a1_0) - a1_2)))) = w15 at n0_ n1_ n2_ ⊢
          have HO279 := n0_
          have BK276 := n1_
          have HB := n2_
          clear n0_ n1_ n2_
          have n0_ := Aside0.mk (Kd.R_drew HO279.out)
          have n1_ := Aside0.mk (blk_drew BK276.out)
          have n2_ := Aside0.mk (below_drew1 HB.out)
          clear HO279
          clear BK276
          clear HB
          have HO279 := n0_
          have BK276 := n1_
          have HB := n2_
          clear n0_ n1_ n2_
          have p282 : 0 ≤ (a1_1 : Int) := of_decide_eq_true (by first | (with_reducible assumption) | assumption)
          have q282 : a1_1 < (y281.length : Int) := (by have h_ : (a1_1 : Int) < ((t277.length : Int) : Int) := of_decide_eq_true (by first | (with_reducible assumption) | assumption); first | (have e_ := (Kd.R_reads' HO279.out).1; omega) | simpa only [Ny281.out, List.length_set] using h_)
          have ql282 : ((a1_1 : Int) < ((t277.length : Int) : Int)) = True := eq_true (of_decide_eq_true (by first | (with_reducible assumption) | assumption))
          obtain ⟨ad282, e282, hx282_0⟩ := Kd.at_int (Kd.R_reads' HO279.out).2.2 a1_1 p282 q282
          obtain rfl : (⟨go6, 0, none⟩ : Addr) = ad282 := (by injection e282)
          (first | simp only [add_plain] at hx282_0 | simp only [add_at] at hx282_0 | simp only [Addr.add, Nat.zero_add] at hx282_0 | skip)
          replace p282 := eq_true p282
          replace q282 := eq_true q282
          have p9 : 0 ≤ (a1_1 : Int) := of_decide_eq_true (by first | (with_reducible assumption) | assumption)
          have q9 : (a1_1 : Int) < ((t277.length : Int) : Int) := of_decide_eq_true (by first | (with_reducible assumption) | assumption)
          obtain ⟨hx9_0, hf9_0⟩ := Kd.R_celln 0 HO279.out (a1_1 : Int) p9 q9
          replace p9 := eq_true p9
          replace q9 := eq_true q9
          have HP17 := Kd.R_putn HO279.out (a1_1 : Int) (wrap64 ((rd y281 a1_1) + a1_2))
          rw [← Ny283.out] at HP17
          have HQ17 := Aside0.mk HP17
          clear HP17
          refine start_ (n := 10) (S := fun w' => w'.cell? ⟨gb276, 0, none⟩ = some (.int .i64 a1_0) ∧ w'.cell? ⟨gb276, 1, none⟩ = some (.int .i64 a1_1) ∧ w'.cell? ⟨gb276, 2, none⟩ = some (.int .i64 a1_2) ∧ w'.cell? ⟨go6, (a1_1).toNat, none⟩ = some (.int .i64 (rd y281 a1_1))) (ds := [9]) #[false, false, false, false, false, false, false, false, false, false] (by kernel_rfl) rfl rfl ⟨(blk_cell BK276.out 0).trans rfl, (blk_cell BK276.out 1).trans rfl, (blk_cell BK276.out 2).trans rfl, hx282_0⟩ (fun hHeld => ?_); refine with_tabW impl_given.tab3 impl_given.bits3 (fun HT_ HW_ => ?_)
          generalize w15.drew = w16 at HO279 BK276 HB HQ14 HQ17 hf9_0 hx282_0 hx9_0 hHeld ⊢
          refine pure_ (i := 0) (N := some 17) (v := ?_) (a' := ?_) #[true, false, false, false, false, false, false, false, false, false] rfl rfl (any_of HT_.out (by kernel_rfl)) (fun _ _ _ h => h) (Or.inl ⟨by rfl, ?_⟩) ?_ ?_
          rotate_left
          · intro w'
            go_simp
            with_reducible rfl
          rotate_left
          · simp only [Act.put, List.setIfInBounds_toArray, List.set_cons_zero, List.set_cons_succ, i64_w, i32_w]
            rfl
          refine pure_ (i := 1) (N := some 18) (v := ?_) (a' := ?_) #[true, true, false, false, false, false, false, false, false, false] rfl rfl (any_of HT_.out (by kernel_rfl)) (fun _ _ _ h => h) (Or.inl ⟨by rfl, ?_⟩) ?_ ?_
          rotate_left
          · intro w'
            go_simp
            with_reducible rfl
          rotate_left
          · simp only [Act.put, List.setIfInBounds_toArray, List.set_cons_zero, List.set_cons_succ, i64_w, i32_w]
            rfl
          refine pure_ (i := 5) (N := some 22) (v := ?_) (a' := ?_) #[true, true, false, false, false, true, false, false, false, false] rfl rfl (any_of HT_.out (by kernel_rfl)) (fun _ _ _ h => h) (Or.inl ⟨by rfl, ?_⟩) ?_ ?_
          rotate_left
          · intro w'
            go_simp
            with_reducible rfl
          rotate_left
          · simp only [Act.put, List.setIfInBounds_toArray, List.set_cons_zero, List.set_cons_succ, i64_w, i32_w]
            rfl
          refine take_ (i := 2) (N := some 19) (v := ?_) (a' := ?_) #[true, true, true, false, false, true, false, false, false, false] rfl rfl (take_ofW HT_.out HW_.out (by kernel_rfl)) (fun _ _ _ h => h) (Or.inl ⟨by rfl, ?_⟩) hHeld ?_ ?_
          rotate_left
          · rintro w' ⟨s0, s1, s2, s3⟩
            go_simp
            with_reducible rfl
          rotate_left
          · simp only [Act.put, List.setIfInBounds_toArray, List.set_cons_zero, List.set_cons_succ, i64_w, i32_w]
            rfl
          refine pure_ (i := 3) (N := some 20) (v := ?_) (a' := ?_) #[true, true, true, true, false, true, false, false, false, false] rfl rfl (any_of HT_.out (by kernel_rfl)) (fun _ _ _ h => h) (Or.inl ⟨by rfl, ?_⟩) ?_ ?_
          rotate_left
          · intro w'
            go_simp
            with_reducible rfl
          rotate_left
          · simp only [Act.put, List.setIfInBounds_toArray, List.set_cons_zero, List.set_cons_succ, i64_w, i32_w]
            rfl
          refine take_ (i := 4) (N := some 21) (v := ?_) (a' := ?_) #[true, true, true, true, true, true, false, false, false, false] rfl rfl (take_ofW HT_.out HW_.out (by kernel_rfl)) (fun _ _ _ h => h) (Or.inl ⟨by rfl, ?_⟩) hHeld ?_ ?_
          rotate_left
          · rintro w' ⟨s0, s1, s2, s3⟩
            go_simp
            with_reducible rfl
          rotate_left
          · simp only [Act.put, List.setIfInBounds_toArray, List.set_cons_zero, List.set_cons_succ, i64_w, i32_w]
            rfl
          refine take_ (i := 6) (N := some 23) (v := ?_) (a' := ?_) #[true, true, true, true, true, true, true, false, false, false] rfl rfl (take_ofW HT_.out HW_.out (by kernel_rfl)) (fun _ _ _ h => h) (Or.inl ⟨by rfl, ?_⟩) hHeld ?_ ?_
          rotate_left
          · rintro w' ⟨s0, s1, s2, s3⟩
            go_simp
            with_reducible rfl
          rotate_left
          · simp only [Act.put, List.setIfInBounds_toArray, List.set_cons_zero, List.set_cons_succ, i64_w, i32_w]
            rfl
          refine pure_ (i := 7) (N := some 24) (v := ?_) (a' := ?_) #[true, true, true, true, true, true, true, true, false, false] rfl rfl (any_of HT_.out (by kernel_rfl)) (fun _ _ _ h => h) (Or.inl ⟨by rfl, ?_⟩) ?_ ?_
          rotate_left
          · intro w'
            go_simp
            with_reducible rfl
          rotate_left
          · simp only [Act.put, List.setIfInBounds_toArray, List.set_cons_zero, List.set_cons_succ, i64_w, i32_w]
            rfl
          refine pure_ (i := 8) (N := some 25) (v := ?_) (a' := ?_) #[true, true, true, true, true, true, true, true, true, false] rfl rfl (any_of HT_.out (by kernel_rfl)) (fun _ _ _ h => h) (Or.inl ⟨by rfl, ?_⟩) ?_ ?_
          rotate_left
          · intro w'
            go_simp
            with_reducible rfl
          rotate_left
          · simp only [Act.put, List.setIfInBounds_toArray, List.set_cons_zero, List.set_cons_succ, i64_w, i32_w]
            rfl
          refine last_ (i := 9) (N := none) #[true, true, true, true, true, true, true, true, true, true] rfl rfl (one_of HT_.out (by kernel_rfl)) (by decide) (fun K hK => ?_)
          refine skip_ (w1 := ?_) (by rfl) rfl ?_ ?_
          rotate_left
          · go_simp
            rfl
          refine hK.out _ _ ?_
          clear hK K
          refine done_ (done_of HT_.out (by kernel_rfl)) ?_
          try go_wp2
          go_ret
          exact ⟨_, by first | rfl | (simp [errW_none, errW_some] <;> rfl) | (simp [*, errW_none, errW_some] <;> rfl), by (with_reducible repeat (first | apply Kd.R_alloc | apply Kd.R_drewN | apply Kd.R_drew)); exact HQ17.out, by repeat (first | (with_reducible first | exact HB.out | apply below_alloc | apply pw_below_drewN | apply below_drew1 | refine below_set ?_ GB6.out | refine below_set ?_ GE276.out) | exact HB.out)⟩
        · rw [if_neg c8] at H
          exact absurd H (by simp)
      · rw [if_neg c7] at H
        exact absurd H (by simp)
    · rw [if_neg c5] at H
      exact absurd H (by simp)
  · rw [if_neg c4] at H
    exact absurd H (by simp)

/-! ### impl_DoGift: function 41 -/
def impl_DoGift.f (k : Nat) (l0 : List Int) (a1_0 : Int) (a1_1 : Int) (a1_2 : Int) : Option (List Int × Bool) := (impl_IsList.f k l0).bind fun t285 => (if t285 = true then ((impl_canGive.f l0 a1_0 a1_1 a1_2).bind fun t286 => (if t286 = true then ((impl_given.f l0 a1_0 a1_1 a1_2).bind fun t287 => (some (t287, true))) else (some (([] : List Int), false)))) else (some (([] : List Int), false)))
theorem impl_DoGift.mono : ∀ a0 a1 a2 a3 k, LeO (impl_DoGift.f k a0 a1 a2 a3) (impl_DoGift.f (k + 1) a0 a1 a2 a3) := by
  intro a0 a1 a2 a3 k
  unfold impl_DoGift.f
  repeat' first
      | (with_reducible exact impl_IsList.mono _ _)
      | (with_reducible exact LeO.refl _)
      | (with_reducible exact LeO.none _)
      | (with_reducible refine LeO.ite ?_ ?_)
      | (with_reducible refine LeO.bind ?_ (fun _ => ?_))
      | exact impl_IsList.mono _ _
      | exact LeO.none _
      | refine LeO.ite ?_ ?_
      | refine LeO.bind ?_ (fun _ => ?_)
set_option maxHeartbeats 8000000 in
set_option maxRecDepth 100000 in
theorem impl_DoGift.calls (k : Nat) (A0 : Option Addr) (c0 : Nat) (l0 : List Int) (a1_0 : Int) (a1_1 : Int) (a1_2 : Int) (r1 : List Int) (r2 : Bool) (w : World) (hr0 : Kd.C (Kd.int .i64) w A0 l0.length l0) (hc0 : l0.length ≤ c0) (h : impl_DoGift.f k l0 a1_0 a1_1 a1_2 = some (r1, r2)) :
    Calls Try.prog 41 #[.slice A0 l0.length c0, .agg #[.int .i64 a1_0, .int .i64 a1_1, .int .i64 a1_2]] w fun e w' => ∃ v0_ : Value, e = .returned (.tuple #[v0_, .bool r2]) ∧ Kd.R (Kd.int .i64) 3 w' w.heap.size (fun _ => True) v0_ r1 ∧ Below w.heap.size w w' := by
  have hu46 := Try.underlying46
  have HR0 := Aside0.mk hr0
  have HC0 := Aside0.mk hc0
  clear hr0 hc0
  have HB := Aside0.mk (Below.refl w.heap.size w)
  have H : ((impl_IsList.f k l0).bind fun t285 => (if t285 = true then ((impl_canGive.f l0 a1_0 a1_1 a1_2).bind fun t286 => (if t286 = true then ((impl_given.f l0 a1_0 a1_1 a1_2).bind fun t287 => (some (t287, true))) else (some (([] : List Int), false)))) else (some (([] : List Int), false)))) = some (r1, r2) := h
  clear h
  replace H := Option.bind_eq_some_iff.mp H
  obtain ⟨t285, A30, H⟩ := H
  replace H : (if t285 = true then ((impl_canGive.f l0 a1_0 a1_1 a1_2).bind fun t286 => (if t286 = true then ((impl_given.f l0 a1_0 a1_1 a1_2).bind fun t287 => (some (t287, true))) else (some (([] : List Int), false)))) else (some (([] : List Int), false))) = some (r1, r2) := H
  have A3 := Aside0.mk A30
  clear A30
  by_cases c4 : t285 = true
  · subst c4
    have H1 : ((impl_canGive.f l0 a1_0 a1_1 a1_2).bind fun t286 => (if t286 = true then ((impl_given.f l0 a1_0 a1_1 a1_2).bind fun t287 => (some (t287, true))) else (some (([] : List Int), false)))) = some (r1, r2) := by rw [if_pos rfl] at H; exact H
    clear H
    have H := H1
    clear H1
    replace H := Option.bind_eq_some_iff.mp H
    obtain ⟨t286, A50, H⟩ := H
    replace H : (if t286 = true then ((impl_given.f l0 a1_0 a1_1 a1_2).bind fun t287 => (some (t287, true))) else (some (([] : List Int), false))) = some (r1, r2) := H
    have A5 := Aside0.mk A50
    clear A50
    by_cases c6 : t286 = true
    · subst c6
      have H1 : ((impl_given.f l0 a1_0 a1_1 a1_2).bind fun t287 => (some (t287, true))) = some (r1, r2) := by rw [if_pos rfl] at H; exact H
      clear H
      have H := H1
      clear H1
      replace H := Option.bind_eq_some_iff.mp H
      obtain ⟨t287, A70, H⟩ := H
      replace H : (some (t287, true)) = some (r1, r2) := H
      have A7 := Aside0.mk A70
      clear A70
      simp only [Option.some.injEq, Prod.mk.injEq] at H
      obtain ⟨rfl, rfl⟩ := H
      go_enter Try.func41, Try.ntmps41
      go_wp2_with (first | ((with_reducible refine gate_dst (N := 3) rfl ?_); refine box_event ?hg (N := 3) ?hd (cs := #[.int .i64 a1_0, .int .i64 a1_1, .int .i64 a1_2]) (t := 46) ?hr ?_; (case hd => rfl); (case hg => rfl); (case hr => first | (go_simp; done) | (go_simp; rfl)); intro gb284 hg w8 hbox hb; have n0_ := Aside0.mk (below_step (by repeat (first | (with_reducible first | exact HB.out | apply below_alloc | apply pw_below_drewN | apply below_drew1) | exact HB.out)) hb); have n1_ := Aside0.mk (hbox); have n2_ := Aside0.mk ((by rw [hg]; exact (below_size (by repeat (first | (with_reducible first | exact HB.out | apply below_alloc | apply pw_below_drewN | apply below_drew1) | exact HB.out))) : w.heap.size ≤ gb284)); have n3_ := Aside0.mk ((by rw [hg]; exact (below_size (by repeat (first | (with_reducible first | exact HB.out | apply below_alloc | apply pw_below_drewN | apply below_drew1) | exact HB.out))) : w.heap.size ≤ gb284)); clear HB; have HB := n0_; have BK284 := n1_; have GW284 := n2_; have GE284 := n3_; clear n0_ n1_ n2_ n3_; clear hb hbox hg) | ((with_reducible refine gate_callee (f := 88) rfl ?_); refine goesL_ (some 7) rfl rfl Try.func88 (by kernel_rfl) rfl #[.slice A0 l0.length c0] rfl (by (try simp only [List.map_toArray, List.map_cons, List.map_nil]); first | done | rfl | (simp only [List.length_drop, List.length_take]; rfl)) ?_; (with_reducible refine (impl_IsList.calls k _ _ l0 true _ ?side1 ?side2 A3.out).mono ?_); (case side1 => repeat (first | exact (Kd.C_below HR0.out HB.out) | (with_reducible refine Kd.C_alloc ?_ _) | (with_reducible refine Kd.C_drewN ?_ _) | (with_reducible refine Kd.C_drew ?_))); (case side2 => exact HC0.out); rintro e w' ⟨rfl, ⟨nd, rfl⟩⟩; refine ⟨_, rfl, ?_⟩; have hcz9_0 : w8.cell? ⟨gb284, 0, none⟩ = some (.int .i64 a1_0) := (blk_cell BK284.out 0).trans rfl; have hcz9_1 : w8.cell? ⟨gb284, 1, none⟩ = some (.int .i64 a1_1) := (blk_cell BK284.out 1).trans rfl; have hcz9_2 : w8.cell? ⟨gb284, 2, none⟩ = some (.int .i64 a1_2) := (blk_cell BK284.out 2).trans rfl; have hfz9_0 := blk_frozen BK284.out 0; have hfz9_1 := blk_frozen BK284.out 1; have hfz9_2 := blk_frozen BK284.out 2) | (go_at_call 89; (with_reducible refine (impl_canGive.calls _ _ l0 a1_0 a1_1 a1_2 true _ ?side1 ?side2 A5.out).mono ?_); (case side1 => repeat (first | exact (Kd.C_below HR0.out (by repeat (first | (with_reducible first | exact HB.out | apply below_alloc | apply pw_below_drewN | apply below_drew1 | refine below_set ?_ GE284.out) | exact HB.out))) | (with_reducible refine Kd.C_alloc ?_ _) | (with_reducible refine Kd.C_drewN ?_ _) | (with_reducible refine Kd.C_drew ?_))); (case side2 => exact HC0.out); rintro e w10 ⟨rfl, hb⟩; have n0_ := Aside0.mk (blk_below (g := gb284) (o := .cells #[.int .i64 a1_0, .int .i64 a1_1, .int .i64 a1_2] 46 (0, 0)) (by (with_reducible repeat (first | refine blk_drewN ?_ _ | refine blk_drew ?_ | refine blk_alloc ?_ _)); exact BK284.out) hb); have n1_ := Aside0.mk (below_step (by repeat (first | (with_reducible first | exact HB.out | apply below_alloc | apply pw_below_drewN | apply below_drew1 | refine below_set ?_ GE284.out) | exact HB.out)) hb); clear BK284; clear HB; have BK284 := n0_; have HB := n1_; clear n0_ n1_; (try clear hb); (try clear hb2); (try clear hk); (try clear hi); have hcz11_0 : w10.cell? ⟨gb284, 0, none⟩ = some (.int .i64 a1_0) := (blk_cell BK284.out 0).trans rfl; have hcz11_1 : w10.cell? ⟨gb284, 1, none⟩ = some (.int .i64 a1_1) := (blk_cell BK284.out 1).trans rfl; have hcz11_2 : w10.cell? ⟨gb284, 2, none⟩ = some (.int .i64 a1_2) := (blk_cell BK284.out 2).trans rfl; have hfz11_0 := blk_frozen BK284.out 0; have hfz11_1 := blk_frozen BK284.out 1; have hfz11_2 := blk_frozen BK284.out 2) | ((with_reducible refine gate_callee (f := 90) rfl ?_); refine goesL_ (some 17) rfl rfl Try.func90 (by kernel_rfl) rfl #[.slice A0 l0.length c0, .agg #[.int .i64 a1_0, .int .i64 a1_1, .int .i64 a1_2]] rfl (by (try simp only [List.map_toArray, List.map_cons, List.map_nil]); first | done | rfl | (simp only [List.length_drop, List.length_take]; rfl)) ?_; (with_reducible refine (impl_given.calls _ _ l0 a1_0 a1_1 a1_2 t287 _ ?side1 ?side2 A7.out).mono ?_); (case side1 => repeat (first | exact (Kd.C_below HR0.out HB.out) | (with_reducible refine Kd.C_alloc ?_ _) | (with_reducible refine Kd.C_drewN ?_ _) | (with_reducible refine Kd.C_drew ?_))); (case side2 => exact HC0.out); rintro e w12 ⟨v288, rfl, ho0, hb⟩; refine ⟨_, rfl, ?_⟩; have n0_ := Aside0.mk (Kd.R_lower ho0 (below_size (by repeat (first | (with_reducible first | exact HB.out | apply below_alloc | apply pw_below_drewN | apply below_drew1 | refine below_set ?_ GE284.out) | exact HB.out)))); have n1_ := Aside0.mk (blk_below (g := gb284) (o := .cells #[.int .i64 a1_0, .int .i64 a1_1, .int .i64 a1_2] 46 (0, 0)) (by (with_reducible repeat (first | refine blk_drewN ?_ _ | refine blk_drew ?_ | refine blk_alloc ?_ _)); exact BK284.out) hb); have n2_ := Aside0.mk (below_step (by repeat (first | (with_reducible first | exact HB.out | apply below_alloc | apply pw_below_drewN | apply below_drew1 | refine below_set ?_ GE284.out) | exact HB.out)) hb); clear BK284; clear HB; have HO289 := n0_; have BK284 := n1_; have HB := n2_; clear n0_ n1_ n2_; (try clear hb); (try clear hb2); (try clear hk); (try clear hi); (try clear ho0)))
      go_ret2
      exact ⟨_, by first | rfl | (simp [errW_none, errW_some] <;> rfl) | (simp [*, errW_none, errW_some] <;> rfl), by (with_reducible repeat (first | apply Kd.R_alloc | apply Kd.R_drewN | apply Kd.R_drew)); exact HO289.out, by repeat (first | (with_reducible first | exact HB.out | apply below_alloc | apply pw_below_drewN | apply below_drew1 | refine below_set ?_ GE284.out) | exact HB.out)⟩
    · replace c6 := Bool.eq_false_iff.mpr c6
      subst c6
      have H1 : (some (([] : List Int), false)) = some (r1, r2) := by rw [if_neg (show ¬ (false = true) by decide)] at H; exact H
      clear H
      have H := H1
      clear H1
      simp only [Option.some.injEq, Prod.mk.injEq] at H
      obtain ⟨rfl, rfl⟩ := H
      go_enter Try.func41, Try.ntmps41
      go_wp2_with (first | ((with_reducible refine gate_dst (N := 3) rfl ?_); refine box_event ?hg (N := 3) ?hd (cs := #[.int .i64 a1_0, .int .i64 a1_1, .int .i64 a1_2]) (t := 46) ?hr ?_; (case hd => rfl); (case hg => rfl); (case hr => first | (go_simp; done) | (go_simp; rfl)); intro gb284 hg w13 hbox hb; have n0_ := Aside0.mk (below_step (by repeat (first | (with_reducible first | exact HB.out | apply below_alloc | apply pw_below_drewN | apply below_drew1) | exact HB.out)) hb); have n1_ := Aside0.mk (hbox); have n2_ := Aside0.mk ((by rw [hg]; exact (below_size (by repeat (first | (with_reducible first | exact HB.out | apply below_alloc | apply pw_below_drewN | apply below_drew1) | exact HB.out))) : w.heap.size ≤ gb284)); have n3_ := Aside0.mk ((by rw [hg]; exact (below_size (by repeat (first | (with_reducible first | exact HB.out | apply below_alloc | apply pw_below_drewN | apply below_drew1) | exact HB.out))) : w.heap.size ≤ gb284)); clear HB; have HB := n0_; have BK284 := n1_; have GW284 := n2_; have GE284 := n3_; clear n0_ n1_ n2_ n3_; clear hb hbox hg) | ((with_reducible refine gate_callee (f := 88) rfl ?_); refine goesL_ (some 7) rfl rfl Try.func88 (by kernel_rfl) rfl #[.slice A0 l0.length c0] rfl (by (try simp only [List.map_toArray, List.map_cons, List.map_nil]); first | done | rfl | (simp only [List.length_drop, List.length_take]; rfl)) ?_; (with_reducible refine (impl_IsList.calls k _ _ l0 true _ ?side1 ?side2 A3.out).mono ?_); (case side1 => repeat (first | exact (Kd.C_below HR0.out HB.out) | (with_reducible refine Kd.C_alloc ?_ _) | (with_reducible refine Kd.C_drewN ?_ _) | (with_reducible refine Kd.C_drew ?_))); (case side2 => exact HC0.out); rintro e w' ⟨rfl, ⟨nd, rfl⟩⟩; refine ⟨_, rfl, ?_⟩; have hcz14_0 : w13.cell? ⟨gb284, 0, none⟩ = some (.int .i64 a1_0) := (blk_cell BK284.out 0).trans rfl; have hcz14_1 : w13.cell? ⟨gb284, 1, none⟩ = some (.int .i64 a1_1) := (blk_cell BK284.out 1).trans rfl; have hcz14_2 : w13.cell? ⟨gb284, 2, none⟩ = some (.int .i64 a1_2) := (blk_cell BK284.out 2).trans rfl; have hfz14_0 := blk_frozen BK284.out 0; have hfz14_1 := blk_frozen BK284.out 1; have hfz14_2 := blk_frozen BK284.out 2) | (go_at_call 89; (with_reducible refine (impl_canGive.calls _ _ l0 a1_0 a1_1 a1_2 false _ ?side1 ?side2 A5.out).mono ?_); (case side1 => repeat (first | exact (Kd.C_below HR0.out (by repeat (first | (with_reducible first | exact HB.out | apply below_alloc | apply pw_below_drewN | apply below_drew1 | refine below_set ?_ GE284.out) | exact HB.out))) | (with_reducible refine Kd.C_alloc ?_ _) | (with_reducible refine Kd.C_drewN ?_ _) | (with_reducible refine Kd.C_drew ?_))); (case side2 => exact HC0.out); rintro e w15 ⟨rfl, hb⟩; have n0_ := Aside0.mk (blk_below (g := gb284) (o := .cells #[.int .i64 a1_0, .int .i64 a1_1, .int .i64 a1_2] 46 (0, 0)) (by (with_reducible repeat (first | refine blk_drewN ?_ _ | refine blk_drew ?_ | refine blk_alloc ?_ _)); exact BK284.out) hb); have n1_ := Aside0.mk (below_step (by repeat (first | (with_reducible first | exact HB.out | apply below_alloc | apply pw_below_drewN | apply below_drew1 | refine below_set ?_ GE284.out) | exact HB.out)) hb); clear BK284; clear HB; have BK284 := n0_; have HB := n1_; clear n0_ n1_; (try clear hb); (try clear hb2); (try clear hk); (try clear hi)))
      go_ret2
      exact ⟨_, by first | rfl | (simp [errW_none, errW_some] <;> rfl) | (simp [*, errW_none, errW_some] <;> rfl), by first | exact Kd.R_nil _ _ _ _ _ | exact Kd.N_nil _ _ _ _ _ | exact Kd.V_nil _ _ _ _ _ | exact Kd.Q_nil _ _ _ _ _ | exact Kd.S_nil _ _ _ _ _, by repeat (first | (with_reducible first | exact HB.out | apply below_alloc | apply pw_below_drewN | apply below_drew1 | refine below_set ?_ GE284.out) | exact HB.out)⟩
  · replace c4 := Bool.eq_false_iff.mpr c4
    subst c4
    have H1 : (some (([] : List Int), false)) = some (r1, r2) := by rw [if_neg (show ¬ (false = true) by decide)] at H; exact H
    clear H
    have H := H1
    clear H1
    simp only [Option.some.injEq, Prod.mk.injEq] at H
    obtain ⟨rfl, rfl⟩ := H
    go_enter Try.func41, Try.ntmps41
    go_wp2_with (first | ((with_reducible refine gate_dst (N := 3) rfl ?_); refine box_event ?hg (N := 3) ?hd (cs := #[.int .i64 a1_0, .int .i64 a1_1, .int .i64 a1_2]) (t := 46) ?hr ?_; (case hd => rfl); (case hg => rfl); (case hr => first | (go_simp; done) | (go_simp; rfl)); intro gb284 hg w16 hbox hb; have n0_ := Aside0.mk (below_step (by repeat (first | (with_reducible first | exact HB.out | apply below_alloc | apply pw_below_drewN | apply below_drew1) | exact HB.out)) hb); have n1_ := Aside0.mk (hbox); have n2_ := Aside0.mk ((by rw [hg]; exact (below_size (by repeat (first | (with_reducible first | exact HB.out | apply below_alloc | apply pw_below_drewN | apply below_drew1) | exact HB.out))) : w.heap.size ≤ gb284)); have n3_ := Aside0.mk ((by rw [hg]; exact (below_size (by repeat (first | (with_reducible first | exact HB.out | apply below_alloc | apply pw_below_drewN | apply below_drew1) | exact HB.out))) : w.heap.size ≤ gb284)); clear HB; have HB := n0_; have BK284 := n1_; have GW284 := n2_; have GE284 := n3_; clear n0_ n1_ n2_ n3_; clear hb hbox hg) | ((with_reducible refine gate_callee (f := 88) rfl ?_); refine goesL_ (some 7) rfl rfl Try.func88 (by kernel_rfl) rfl #[.slice A0 l0.length c0] rfl (by (try simp only [List.map_toArray, List.map_cons, List.map_nil]); first | done | rfl | (simp only [List.length_drop, List.length_take]; rfl)) ?_; (with_reducible refine (impl_IsList.calls k _ _ l0 false _ ?side1 ?side2 A3.out).mono ?_); (case side1 => repeat (first | exact (Kd.C_below HR0.out HB.out) | (with_reducible refine Kd.C_alloc ?_ _) | (with_reducible refine Kd.C_drewN ?_ _) | (with_reducible refine Kd.C_drew ?_))); (case side2 => exact HC0.out); rintro e w' ⟨rfl, ⟨nd, rfl⟩⟩; refine ⟨_, rfl, ?_⟩))
    go_ret2
    exact ⟨_, by first | rfl | (simp [errW_none, errW_some] <;> rfl) | (simp [*, errW_none, errW_some] <;> rfl), by first | exact Kd.R_nil _ _ _ _ _ | exact Kd.N_nil _ _ _ _ _ | exact Kd.V_nil _ _ _ _ _ | exact Kd.Q_nil _ _ _ _ _ | exact Kd.S_nil _ _ _ _ _, by repeat (first | (with_reducible first | exact HB.out | apply below_alloc | apply pw_below_drewN | apply below_drew1 | refine below_set ?_ GE284.out) | exact HB.out)⟩

/-! ### impl_symmetricSum: function 91 -/
attribute [local go_sem ↓] Go.wp_at_zero Go.wp_at_succ
/-- The product of the powers of an order's numbers, from an index on. -/
def impl_symmetricSum.v (k : Nat) (pw : List Int) : List Int → Nat → Int → Option Int
  | [], _, p => some p
  | n :: t, i, p => if i < pw.length then (impl_power.f k n (pw.getD i 0)).bind fun q => impl_symmetricSum.v k pw t (i + 1) (wrap64 (p * q)) else none
/-- The tries of all numbers behind an order that is begun. -/
def impl_symmetricSum.go (g : Int → List Int → Int → Option Int) (used : Int) (order : List Int) : List Int → Nat → Int → Option Int
  | [], _, s => some s
  | n :: t, i, s => (impl_has.f used (i : Int)).bind fun h => if h = true then impl_symmetricSum.go g used order t (i + 1) s else (slices_Clone_int_int.f order).bind fun c => if c.length < 17592186044416 then (g (Go.bits .or .i64 used (IntKind.i64.wrap (2 ^ i))) (c ++ [n]) s).bind fun s' => impl_symmetricSum.go g used order t (i + 1) s' else none
def impl_symmetricSum.e (k : Nat) (pw x : List Int) : Nat → Int → List Int → Int → Option Int
  | 0, _, order, s => if order.length = x.length then (impl_symmetricSum.v k pw order 0 1).bind fun p => some (wrap64 (s + p)) else none
  | d + 1, used, order, s => if order.length = x.length then (impl_symmetricSum.v k pw order 0 1).bind fun p => some (wrap64 (s + p)) else impl_symmetricSum.go (impl_symmetricSum.e k pw x d) used order x 0 s
def impl_symmetricSum.f (k : Nat) (l0 l1 : List Int) : Option (Int) := if l1.length ≤ 4 then impl_symmetricSum.e k l0 l1 l1.length 0 [] 0 else none
theorem impl_symmetricSum.v_mono (pw : List Int) (k : Nat) : ∀ (t : List Int) (i : Nat) (p : Int), LeO (impl_symmetricSum.v k pw t i p) (impl_symmetricSum.v (k + 1) pw t i p)
  | [], _, _ => LeO.refl _
  | n :: t, i, p => by
    unfold impl_symmetricSum.v
    exact LeO.ite (LeO.bind (impl_power.mono _ _ _) (fun _ => impl_symmetricSum.v_mono pw k t _ _)) (LeO.none _)
theorem impl_symmetricSum.go_mono {g g' : Int → List Int → Int → Option Int} (hg : ∀ a b c, LeO (g a b c) (g' a b c)) (used : Int) (order : List Int) : ∀ (t : List Int) (i : Nat) (s : Int), LeO (impl_symmetricSum.go g used order t i s) (impl_symmetricSum.go g' used order t i s)
  | [], _, _ => LeO.refl _
  | n :: t, i, s => by
    unfold impl_symmetricSum.go
    exact LeO.bind (LeO.refl _) (fun _ => LeO.ite (impl_symmetricSum.go_mono hg used order t _ _) (LeO.bind (LeO.refl _) (fun _ => LeO.ite (LeO.bind (hg _ _ _) (fun _ => impl_symmetricSum.go_mono hg used order t _ _)) (LeO.none _))))
theorem impl_symmetricSum.e_mono (pw x : List Int) (k : Nat) : ∀ (d : Nat) (used : Int) (order : List Int) (s : Int), LeO (impl_symmetricSum.e k pw x d used order s) (impl_symmetricSum.e (k + 1) pw x d used order s)
  | 0, _, _, _ => by
    unfold impl_symmetricSum.e
    exact LeO.ite (LeO.bind (impl_symmetricSum.v_mono _ _ _ _ _) (fun _ => LeO.refl _)) (LeO.none _)
  | d + 1, _, _, _ => by
    unfold impl_symmetricSum.e
    exact LeO.ite (LeO.bind (impl_symmetricSum.v_mono _ _ _ _ _) (fun _ => LeO.refl _)) (impl_symmetricSum.go_mono (impl_symmetricSum.e_mono pw x k d) _ _ _ _ _)
theorem impl_symmetricSum.mono : ∀ a0 a1 k, LeO (impl_symmetricSum.f k a0 a1) (impl_symmetricSum.f (k + 1) a0 a1) := by
  intro a0 a1 k
  unfold impl_symmetricSum.f
  exact LeO.ite (impl_symmetricSum.e_mono _ _ _ _ _ _ _) (LeO.none _)
theorem impl_symmetricSum.blk_drewN {w : World} {B : Nat} {t : TypeId} {v : Value} (h : Boxed w B t v) (m : Nat) : Boxed (w.drewN m) B t v := by
  have : (w.drewN m).heap = w.heap := rfl
  unfold Boxed; rw [this]; exact h
set_option maxHeartbeats 8000000 in
set_option maxRecDepth 100000 in
/-- The visit of one order: the product is added to the sum. -/
theorem impl_symmetricSum.visit (k n0 Bp Bs : Nat) (Ap : Option Addr) (cp : Nat) (pw : List Int) (Ao : Option Addr) (co : Nat) (order : List Int) (s p : Int) (w : World) (hP : Boxed w Bp 34 (.slice Ap pw.length cp)) (hS : Boxed w Bs 3 (.int .i64 s)) (hps : Bp ≠ Bs) (hn : n0 ≤ Bs) (hpw : Kd.C (Kd.int .i64) w Ap pw.length pw) (hol : order.length ≤ 4) (ho : Kd.C (Kd.int .i64) w Ao order.length order) (hv : impl_symmetricSum.v k pw order 0 1 = some p) :
    Calls Try.prog 117 #[.slice Ao order.length co, .pointer (some ⟨Bp, 0, none⟩), .pointer (some ⟨Bs, 0, none⟩)] w fun e w' => e = .returned (.tuple #[]) ∧ KeepBut w w' Bs none ∧ Below n0 w w' ∧ Boxed w' Bs 3 (.int .i64 (wrap64 (s + p))) := by
  have HV := Aside0.mk hv
  have HO := Aside0.mk ho
  have HW := Aside0.mk hpw
  have HP := Aside0.mk hP
  have HS := Aside0.mk hS
  clear hv ho hpw hP hS
  go_enter Try.func117, Try.ntmps117
  go_wp2
  go_loopw [4, 9] (fun v4 v9 wr => ∃ (i m : Nat) (q : Int), i ≤ order.length ∧ v4 = .int .i64 q ∧ v9 = .int .i64 i ∧ wr = w.drewN m ∧ impl_symmetricSum.v k pw (order.drop i) i q = some p) (fun _ v9 _ => order.length - (intOf v9).toNat)
  case atStart => exact ⟨0, 0, 1, Nat.zero_le _, rfl, rfl, by first | rfl | exact (World.drewN_zero _).symm, HV.out⟩
  case round =>
    obtain ⟨i, m, q, hi, rfl, rfl, rfl, hq⟩ := hrel
    have HQ := Aside0.mk hq
    clear hq
    by_cases hlt : i < order.length
    · have e1 : order.drop i = order.getD i 0 :: order.drop (i + 1) := by
        rw [List.drop_eq_getElem_cons hlt]; simp [List.getD_eq_getElem?_getD, hlt]
      have H := HQ.out
      rw [e1] at H
      unfold impl_symmetricSum.v at H
      by_cases c : i < pw.length
      · rw [if_pos c] at H
        obtain ⟨t, A1, H⟩ := Option.bind_eq_some_iff.mp H
        have A2 := Aside0.mk A1
        have H' := Aside0.mk H
        clear A1 H HQ e1
        have p1 : (0 : Int) ≤ (i : Int) := by omega
        have q1 : (i : Int) < (order.length : Int) := by omega
        have q2 : (i : Int) < (pw.length : Int) := by omega
        obtain ⟨ad1, e1, hx1⟩ := Kd.at_int (Kd.C_drewN HO.out m) (i : Int) p1 q1
        obtain ⟨ad2, e2, hx2⟩ := Kd.at_int (Kd.C_drewN HW.out m) (i : Int) p1 q2
        cases e1
        cases e2
        replace hx1 : (w.drewN m).cell? (ad1.add i) = some (.int .i64 (order.getD i 0)) := hx1
        replace hx2 : (w.drewN m).cell? (ad2.add i) = some (.int .i64 (pw.getD i 0)) := hx2
        have hb := (impl_symmetricSum.blk_drewN HP.out m).cell
        replace p1 := eq_true p1
        replace q1 := eq_true q1
        replace q2 := eq_true q2
        have A3 := A2.out
        generalize order.getD i 0 = z at hx1 A3
        generalize pw.getD i 0 = y at hx2 A3
        go_wp2_with (first | (go_at_call 82; (with_reducible refine (impl_power.calls k z y t _ A3).mono ?_); rintro e w' ⟨rfl, ⟨nd, rfl⟩⟩))
        go_roundw
        case rel => exact ⟨i + 1, _, _, by omega, rfl, by simp, by first | exact World.drewN_drewN _ _ _ | rfl, H'.out⟩
        case measure => simp [intOf]; omega
      · rw [if_neg c] at H; exact absurd H (by simp)
    · obtain rfl : i = order.length := by omega
      have H := HQ.out
      rw [List.drop_length] at H
      obtain rfl := Option.some.inj H
      clear H HQ
      have hb := (impl_symmetricSum.blk_drewN HS.out m).cell
      have hf := (impl_symmetricSum.blk_drewN HS.out m).frozen
      go_wp2
      go_end0
      refine ⟨rfl, ?_, ?_, ?_⟩
      · exact (keep_drewN (KeepBut.refl w Bs none) m).set_ 0 _
      · exact (pw_below_drewN (Below.refl n0 w) m).setCell (p := ⟨Bs, 0, none⟩) hn _
      · exact (impl_symmetricSum.blk_drewN HS.out m).set _
/-- What stands while the orders are visited. -/
structure impl_symmetricSum.St (n0 Bp Bs Bx Bv Be : Nat) (Ap Ax : Option Addr) (cp cx : Nat) (pw x : List Int) (w : World) : Prop where
  fp : Boxed w Bp 34 (.slice Ap pw.length cp)
  fx : Boxed w Bx 34 (.slice Ax x.length cx)
  fv : Boxed w Bv 78 (.func (.func 117) #[] #[.pointer (some ⟨Bp, 0, none⟩), .pointer (some ⟨Bs, 0, none⟩)])
  fe : Boxed w Be 94 (.func (.func 112) #[] #[.pointer (some ⟨Bx, 0, none⟩), .pointer (some ⟨Bv, 0, none⟩), .pointer (some ⟨Be, 0, none⟩)])
  rp : Kd.C (Kd.int .i64) w Ap pw.length pw
  rx : Kd.C (Kd.int .i64) w Ax x.length x
  np : Bp ≠ Bs
  nx : Bx ≠ Bs
  nv : Bv ≠ Bs
  ne : Be ≠ Bs
  ap : ∀ ad, Ap = some ad → 0 < pw.length → ad.block ≠ Bs
  ax : ∀ ad, Ax = some ad → 0 < x.length → ad.block ≠ Bs
  n0 : n0 ≤ Bs
  lt : Bs < w.heap.size
theorem impl_symmetricSum.keepB {w W : World} {B Bs : Nat} {t : TypeId} {v : Value} (h : Boxed w B t v) (hk : KeepBut w W Bs none) (hne : B ≠ Bs) : Boxed W B t v := hk.blk h hne (by simp)
theorem impl_symmetricSum.keepC {w W : World} {Bs : Nat} {A : Option Addr} {l : List Int} (h : Kd.C (Kd.int .i64) w A l.length l) (hk : KeepBut w W Bs none) (hf : ∀ ad, A = some ad → 0 < l.length → ad.block ≠ Bs) : Kd.C (Kd.int .i64) W A l.length l := Kd.C_keep 0 h hk hf
theorem impl_symmetricSum.St.keep {n0 Bp Bs Bx Bv Be : Nat} {Ap Ax : Option Addr} {cp cx : Nat} {pw x : List Int} {w W : World} (h : impl_symmetricSum.St n0 Bp Bs Bx Bv Be Ap Ax cp cx pw x w) (hk : KeepBut w W Bs none) : impl_symmetricSum.St n0 Bp Bs Bx Bv Be Ap Ax cp cx pw x W :=
  ⟨impl_symmetricSum.keepB h.fp hk h.np, impl_symmetricSum.keepB h.fx hk h.nx, impl_symmetricSum.keepB h.fv hk h.nv, impl_symmetricSum.keepB h.fe hk h.ne, impl_symmetricSum.keepC h.rp hk h.ap, impl_symmetricSum.keepC h.rx hk h.ax, h.np, h.nx, h.nv, h.ne, h.ap, h.ax, h.n0, Nat.lt_of_lt_of_le h.lt hk.1⟩
theorem impl_symmetricSum.made {W : World} {base g cap : Nat} {cl : List Int} {z : Int} (h : W.ownsRow base 3 1 (.slice (some ⟨g, 0, none⟩) (cl.length + 1) cap) (cl.length + 1) (encs (Value.int .i64) cl ++ [.int .i64 z])) : cl.length + 1 ≤ cap ∧ base ≤ g ∧ Kd.C (Kd.int .i64) W (some ⟨g, 0, none⟩) (cl ++ [z]).length (cl ++ [z]) := by
  have e : (cl ++ [z]).length = cl.length + 1 := by simp
  have hR : Kd.R (Kd.int .i64) 3 W base (fun _ => True) (.slice (some ⟨g, 0, none⟩) (cl ++ [z]).length cap) (cl ++ [z]) := Kd.R_of_own (by rw [e, encs_append]; exact h) (fun _ _ => trivial)
  obtain ⟨_, h2, h3⟩ := Kd.R_reads' hR
  rw [e] at h2
  exact ⟨h2, Kd.R_base hR g (by simp [Value.ownBlock]), h3⟩
theorem impl_symmetricSum.newsB {W w1 : World} {z : Value} {t : TypeId} (h : Below (W.alloc (.cells #[z] t)).heap.size (W.alloc (.cells #[z] t)) w1) : ∀ j u, [z][j]? = some u → w1.cell? ((⟨W.heap.size, 0, none⟩ : Addr).add j) = some u := fun j u hj =>
  (h.cell (p := (⟨W.heap.size, 0, none⟩ : Addr).add j) (by rw [add_block]; simp)).trans (cell_one_new W z t j u hj)
theorem impl_symmetricSum.beyondA {wr w1 w2 : World} {nd base : Nat} {o : Obj} {vC : Value} {cl : List Int} (hC : Kd.R (Kd.int .i64) 3 w1 base (fun _ => True) vC cl) (hcb : Below (wr.drewN nd).drew.heap.size (wr.drewN nd).drew w1) (hbase : wr.heap.size ≤ base) (hg : (w1.alloc o).grownBy w2 vC.ownBlock) : Below wr.heap.size wr w2 := by
  have h0 : Below wr.heap.size wr (wr.drewN nd).drew := (pw_below_drewN (Below.refl wr.heap.size wr) nd).drew
  have h1 : Below wr.heap.size wr w1 := h0.trans hcb
  exact Below.grown (h1.alloc h1.size o) hg (by have := h1.size; simp; omega) (fun k hk => Nat.le_trans hbase (Kd.R_base hC k hk))
theorem impl_symmetricSum.beyondB {wr w1 w2 : World} {nd base : Nat} {o : Obj} {vC : Value} {cl : List Int} (hC : Kd.R (Kd.int .i64) 3 w1 base (fun _ => True) vC cl) (hcb : Below ((wr.drewN nd).drew.alloc o).heap.size ((wr.drewN nd).drew.alloc o) w1) (hbase : wr.heap.size ≤ base) (hg : w1.grownBy w2 vC.ownBlock) : Below wr.heap.size wr w2 := by
  have h0 : Below wr.heap.size wr (wr.drewN nd).drew := (pw_below_drewN (Below.refl wr.heap.size wr) nd).drew
  have h1 : Below wr.heap.size wr w1 := (h0.alloc (Nat.le_refl _) o).trans (hcb.mono (below_alloc (Below.refl _ (wr.drewN nd).drew) _).size)
  exact Below.grown h1 hg h1.size (fun k hk => Nat.le_trans hbase (Kd.R_base hC k hk))
set_option maxHeartbeats 8000000 in
set_option maxRecDepth 100000 in
theorem impl_symmetricSum.ext (k n0 Bp Bs Bx Bv Be : Nat) (Ap Ax : Option Addr) (cp cx : Nat) (pw x : List Int) (hx4 : x.length ≤ 4) : ∀ (d : Nat) (used : Int) (Ao : Option Addr) (co : Nat) (order : List Int) (s r : Int) (w : World), impl_symmetricSum.St n0 Bp Bs Bx Bv Be Ap Ax cp cx pw x w → Boxed w Bs 3 (.int .i64 s) → order.length + d = x.length → Kd.C (Kd.int .i64) w Ao order.length order → order.length ≤ co → (∀ ad, Ao = some ad → 0 < order.length → ad.block ≠ Bs) → impl_symmetricSum.e k pw x d used order s = some r →
    Calls Try.prog 112 #[.int .i64 used, .slice Ao order.length co, .pointer (some ⟨Bx, 0, none⟩), .pointer (some ⟨Bv, 0, none⟩), .pointer (some ⟨Be, 0, none⟩)] w fun e w' => e = .returned (.tuple #[]) ∧ KeepBut w w' Bs none ∧ Below n0 w w' ∧ Boxed w' Bs 3 (.int .i64 r) := by
  obtain ⟨i0, hi0, hz0, hz1, hz2⟩ := info_parts info3
  have done : ∀ (used : Int) (Ao : Option Addr) (co : Nat) (order : List Int) (s r : Int) (w : World), impl_symmetricSum.St n0 Bp Bs Bx Bv Be Ap Ax cp cx pw x w → Boxed w Bs 3 (.int .i64 s) → order.length = x.length → Kd.C (Kd.int .i64) w Ao order.length order → ((impl_symmetricSum.v k pw order 0 1).bind fun p => some (wrap64 (s + p))) = some r →
      Calls Try.prog 112 #[.int .i64 used, .slice Ao order.length co, .pointer (some ⟨Bx, 0, none⟩), .pointer (some ⟨Bv, 0, none⟩), .pointer (some ⟨Be, 0, none⟩)] w fun e w' => e = .returned (.tuple #[]) ∧ KeepBut w w' Bs none ∧ Below n0 w w' ∧ Boxed w' Bs 3 (.int .i64 r) := by
    intro used Ao co order s r w hS hs hl ho h
    obtain ⟨p, h1, h2⟩ := Option.bind_eq_some_iff.mp h
    obtain rfl := Option.some.inj h2
    have A1 := Aside0.mk h1
    have HS := Aside0.mk hS
    have HO := Aside0.mk ho
    have HB := Aside0.mk hs
    clear h h1 h2 ho hs
    have hbx := hS.fx.cell
    have hbv := hS.fv.cell
    clear hS
    have HL := Aside0.mk hl
    have cb : ((order.length : Int) == (x.length : Int)) = true := beq_iff_eq.mpr (by omega)
    clear hl
    go_enter Try.func112, Try.ntmps112
    go_wp2_with (first | (go_at_call 117; (with_reducible refine (impl_symmetricSum.visit k n0 Bp Bs Ap cp pw Ao co order s p _ HS.out.fp HB.out HS.out.np HS.out.n0 HS.out.rp (by have := HL.out; omega) HO.out A1.out).mono ?_); rintro e w' ⟨rfl, hk, hb, hs⟩))
    refine bodyPost_ret (results_none rfl _ _ _) rfl ?_
    exact ⟨rfl, hk, hb, hs⟩
  intro d
  induction d with
  | zero =>
    intro used Ao co order s r w hS hs hl ho hco haA h
    unfold impl_symmetricSum.e at h
    rw [if_pos (by omega)] at h
    exact done used Ao co order s r w hS hs (by omega) ho h
  | succ d ih =>
    intro used Ao co order s r w hS hs hl ho hco haA h
    unfold impl_symmetricSum.e at h
    rw [if_neg (by omega)] at h
    have HL := Aside0.mk hl
    have HO := Aside0.mk ho
    have HCO := Aside0.mk hco
    have HA := Aside0.mk haA
    have HS := Aside0.mk hS
    have HB := Aside0.mk hs
    have HG := Aside0.mk h
    have hbx := hS.fx.cell
    have cb : ((order.length : Int) == (x.length : Int)) = false := beq_eq_false_iff_ne.mpr (by omega)
    have ih2 : ∀ (used : Int) (Ao : Option Addr) (co n : Nat) (order : List Int) (s r : Int) (w : World), n = order.length → impl_symmetricSum.St n0 Bp Bs Bx Bv Be Ap Ax cp cx pw x w → Boxed w Bs 3 (.int .i64 s) → order.length + d = x.length → Kd.C (Kd.int .i64) w Ao order.length order → order.length ≤ co → (∀ ad, Ao = some ad → 0 < order.length → ad.block ≠ Bs) → impl_symmetricSum.e k pw x d used order s = some r → Calls Try.prog 112 #[.int .i64 used, .slice Ao n co, .pointer (some ⟨Bx, 0, none⟩), .pointer (some ⟨Bv, 0, none⟩), .pointer (some ⟨Be, 0, none⟩)] w fun e w' => e = .returned (.tuple #[]) ∧ KeepBut w w' Bs none ∧ Below n0 w w' ∧ Boxed w' Bs 3 (.int .i64 r) := fun used Ao co n order s r w hn => by subst hn; exact ih used Ao co order s r w
    clear ih done ho hco haA hS hs h hl
    go_enter Try.func112, Try.ntmps112
    go_wp2
    go_loopw [19] (fun v19 wr => ∃ (i : Nat) (s' : Int), i ≤ x.length ∧ v19 = .int .i64 i ∧ KeepBut w wr Bs none ∧ Below n0 w wr ∧ Boxed wr Bs 3 (.int .i64 s') ∧ impl_symmetricSum.go (impl_symmetricSum.e k pw x d) used order (x.drop i) i s' = some r) (fun v19 _ => x.length - (intOf v19).toNat)
    case atStart => exact ⟨0, s, Nat.zero_le _, rfl, KeepBut.refl _ _ _, Below.refl _ _, HB.out, HG.out⟩
    case round =>
      clear HG HB
      obtain ⟨i, s', hi, rfl, hk, hb, hs, hg⟩ := hrel
      have HQ := Aside0.mk hg
      have HK := Aside0.mk hk
      have HW := Aside0.mk hb
      have HB := Aside0.mk hs
      have HT := Aside0.mk (HS.out.keep hk)
      clear hg hk hb hs hbx
      have HN : n0 ≤ wr.heap.size := by have := HT.out.n0; have := HT.out.lt; omega
      by_cases hlt : i < x.length
      · have e1 : x.drop i = x.getD i 0 :: x.drop (i + 1) := by
          rw [List.drop_eq_getElem_cons hlt]; simp [List.getD_eq_getElem?_getD, hlt]
        have H := HQ.out
        rw [e1] at H
        unfold impl_symmetricSum.go at H
        obtain ⟨hh, A1, H⟩ := Option.bind_eq_some_iff.mp H
        have A2 := Aside0.mk A1
        clear A1 HQ e1
        have p1 : (0 : Int) ≤ (i : Int) := by omega
        have q1 : (i : Int) < (x.length : Int) := by omega
        obtain ⟨ad1, e1, hx1⟩ := Kd.at_int HT.out.rx (i : Int) p1 q1
        cases e1
        replace hx1 : wr.cell? (ad1.add i) = some (.int .i64 (x.getD i 0)) := hx1
        replace q1 := eq_true q1
        replace p1 := eq_true p1
        generalize x.getD i 0 = z at hx1 H
        by_cases ch : hh = true
        · subst ch
          rw [if_pos rfl] at H
          have H' := Aside0.mk H
          clear H
          go_wp2_with (first | (go_at_call 113; (with_reducible refine (impl_has.calls used (i : Int) true _ A2.out).mono ?_); rintro e w' ⟨rfl, ⟨nd, rfl⟩⟩))
          go_roundw
          case rel => exact ⟨i + 1, s', by omega, by simp, keep_drewN HK.out nd, pw_below_drewN HW.out nd, impl_symmetricSum.blk_drewN HB.out nd, H'.out⟩
          case measure => simp [intOf]; omega
        · replace ch := Bool.eq_false_iff.mpr ch
          subst ch
          rw [if_neg (by decide)] at H
          obtain ⟨cl, A3, H⟩ := Option.bind_eq_some_iff.mp H
          by_cases cm : cl.length < 17592186044416
          · rw [if_pos cm] at H
            obtain ⟨s2, A4, H⟩ := Option.bind_eq_some_iff.mp H
            have B3 := Aside0.mk A3
            have B4 := Aside0.mk A4
            have H' := Aside0.mk H
            have CM := Aside0.mk cm
            clear H A3 A4 cm
            go_wp2_with (first | (go_at_call 113; (with_reducible refine (impl_has.calls used (i : Int) false _ A2.out).mono ?_); rintro e w' ⟨rfl, ⟨nd, rfl⟩⟩))
            have he := (impl_symmetricSum.blk_drewN HT.out.fe nd).cell
            have hel : Be < wr.heap.size := HT.out.fe.lt
            have hcl : cl.length = order.length := by
              have e_ := B3.out
              unfold slices_Clone_int_int.f at e_
              simp only [Option.bind_some, List.nil_append] at e_
              split at e_
              · rw [← Option.some.inj e_]
              · exact absurd e_ (by simp)
            have HCL := Aside0.mk hcl
            clear hcl
            have HOr := Aside0.mk (impl_symmetricSum.keepC HO.out HK.out HA.out)
            go_region_held3 (fun w' => w'.cell? ⟨Be, 0, none⟩ = some (.func (.func 112) #[] #[.pointer (some ⟨Bx, 0, none⟩), .pointer (some ⟨Bv, 0, none⟩), .pointer (some ⟨Be, 0, none⟩)])) (first | exact he | exact (hcb.cell (p := ⟨Be, 0, none⟩) (Nat.lt_of_lt_of_le hel (below_alloc (Below.refl _ (wr.drewN (nd + 1))) _).size)).trans (Boxed.alloc (impl_symmetricSum.blk_drewN HT.out.fe (nd + 1)) _).cell | exact (Boxed.alloc (impl_symmetricSum.blk_drewN HT.out.fe (nd + 1)) _).cell | exact ((HT.out.keep (KeepBut.of_below HY Bs none)).keep hk3).fe.cell | exact Boxed.cell (W := w2) ((HY.block Be hel).trans HT.out.fe) | exact (hcb.cell (p := ⟨Be, 0, none⟩) (by first | exact hel | (simp; omega))).trans he | go_keep)
              (first
                | (go_at_call 112; refine (ih2 _ (some ⟨g, 0, none⟩) cap _ (cl ++ [z]) s' s2 _ (by rw [List.length_append, List.length_singleton]) (HT.out.keep (KeepBut.of_below HY Bs none)) ((HY.block Bs HT.out.lt).trans HB.out) (by have := HL.out; have := HCL.out; rw [List.length_append, List.length_singleton]; omega) (impl_symmetricSum.made hown).2.2 (by have := (impl_symmetricSum.made hown).1; rw [List.length_append, List.length_singleton]; omega) (by intro ad e_ _; cases e_; have q_ := (impl_symmetricSum.made hown).2.1; have z_ := HT.out.lt; show g ≠ Bs; simp at q_; omega) B4.out).mono ?_; rintro e w3 ⟨rfl, hk3, hb3, hs3⟩)
                | (go_at_call 109; refine (slices_Clone_int_int.calls Ao co order cl _ (by repeat (first | exact HOr.out | (with_reducible refine Kd.C_alloc ?_ _) | (with_reducible refine Kd.C_drewN ?_ _) | (with_reducible refine Kd.C_drew ?_))) HCO.out B3.out).mono ?_; rintro e w1 ⟨vC, rfl, hC, hcb⟩)
                | (refine step_append_lies _ (by rfl) _ _ _ (by rfl) _ 3 i0 _ 1 8 Try.underlying34 hi0 hz0 hz1 hz2 rfl (by omega) vC cl.length _ (by rfl) ((Kd.own_of_R hC).alloc _) ⟨w1.heap.size, 0, none⟩ 1 1 [.int .i64 z] (by rfl) (by rfl) (World.news_of_block (cs := #[.int .i64 z]) (t := 3) (fr := (0, 0)) (heap_alloc_new w1 _)) (by simp [Value.oneCell']) (by omega) (by have := CM.out; simp only [maxLen]; omega) (by have := CM.out; omega) (by have := hcb.size; simp at this ⊢; omega) (w1.heap.size + 1) (by simp) ?_; intro g cap w2 hown hgrow hat hlt; have HY := impl_symmetricSum.beyondA hC hcb (Nat.le_refl _) hgrow)
                | (refine step_append_lies _ (by rfl) _ _ _ (by rfl) _ 3 i0 _ 1 8 Try.underlying34 hi0 hz0 hz1 hz2 rfl (by omega) vC cl.length _ (by rfl) (Kd.own_of_R hC) ⟨wr.heap.size, 0, none⟩ 1 1 [.int .i64 z] (by rfl) (by rfl) (impl_symmetricSum.newsB (W := wr.drewN (nd + 1)) hcb) (by simp [Value.oneCell']) (by omega) (by have := CM.out; simp only [maxLen]; omega) (by have := CM.out; omega) hcb.size w1.heap.size rfl ?_; intro g cap w2 hown hgrow hat hlt; have HY := impl_symmetricSum.beyondB (nd := nd) hC hcb (below_alloc (Below.refl _ (wr.drewN nd).drew) _).size hgrow))
            · go_wp2
              go_roundw
              case rel => exact ⟨i + 1, s2, by omega, by simp, (HK.out.trans (KeepBut.of_below HY Bs none) (.inl rfl)).trans hk3 (.inl rfl), (HW.out.trans (HY.mono HN)).trans hb3, hs3, H'.out⟩
              case measure => simp [intOf]; omega
            · go_wp2
              go_roundw
              case rel => exact ⟨i + 1, s2, by omega, by simp, (HK.out.trans (KeepBut.of_below HY Bs none) (.inl rfl)).trans hk3 (.inl rfl), (HW.out.trans (HY.mono HN)).trans hb3, hs3, H'.out⟩
              case measure => simp [intOf]; omega
          · rw [if_neg cm] at H; exact absurd H (by simp)
      · obtain rfl : i = x.length := by omega
        have H := HQ.out
        rw [List.drop_length] at H
        obtain rfl := Option.some.inj H
        clear H HQ
        go_wp2
        go_end0
        exact ⟨rfl, HK.out, HW.out, HB.out⟩
set_option maxHeartbeats 8000000 in
set_option maxRecDepth 100000 in
theorem impl_symmetricSum.orders (k n0 Bp Bs : Nat) (Ap Ax : Option Addr) (cp cx : Nat) (pw x : List Int) (s r : Int) (w : World) (hx4 : x.length ≤ 4) (hP : Boxed w Bp 34 (.slice Ap pw.length cp)) (hS : Boxed w Bs 3 (.int .i64 s)) (hps : Bp ≠ Bs) (hn : n0 ≤ Bs) (hpw : Kd.C (Kd.int .i64) w Ap pw.length pw) (hpx : Kd.C (Kd.int .i64) w Ax x.length x) (hap : ∀ ad, Ap = some ad → 0 < pw.length → ad.block ≠ Bs) (hax : ∀ ad, Ax = some ad → 0 < x.length → ad.block ≠ Bs) (h : impl_symmetricSum.e k pw x x.length 0 [] s = some r) :
    Calls Try.prog 80 #[.slice Ax x.length cx, .func (.func 117) #[] #[.pointer (some ⟨Bp, 0, none⟩), .pointer (some ⟨Bs, 0, none⟩)]] w fun e w' => e = .returned (.tuple #[]) ∧ KeepBut w w' Bs none ∧ Below n0 w w' ∧ Boxed w' Bs 3 (.int .i64 r) := by
  have HP := Aside0.mk hP
  have HS := Aside0.mk hS
  have HPW := Aside0.mk hpw
  have HPX := Aside0.mk hpx
  have HH := Aside0.mk h
  clear hP hS hpw hpx h
  obtain ⟨o1, ho1⟩ : ∃ o, o = Obj.cells #[Value.slice Ax x.length cx] 34 := ⟨_, rfl⟩
  obtain ⟨o2, ho2⟩ : ∃ o, o = Obj.cells #[Value.func (Fn.func 117) #[] #[Value.pointer (some { block := Bp, off := 0 }), Value.pointer (some { block := Bs, off := 0 })]] 78 := ⟨_, rfl⟩
  have b1 : Boxed (w.alloc o1) w.heap.size 34 (.slice Ax x.length cx) := by rw [ho1]; exact Boxed.new w 34 _
  have b2 : Boxed ((w.alloc o1).alloc o2) (w.heap.size + 1) 78 (.func (.func 117) #[] #[.pointer (some ⟨Bp, 0, none⟩), .pointer (some ⟨Bs, 0, none⟩)]) := by
    have := Boxed.new (w.alloc o1) 78 (.func (.func 117) #[] #[.pointer (some ⟨Bp, 0, none⟩), .pointer (some ⟨Bs, 0, none⟩)])
    rw [ho2]; simpa using this
  have b3 : Boxed (((w.alloc o1).alloc o2).alloc (.cells #[.nilFunc] 94)) (w.heap.size + 1 + 1) 94 .nilFunc := by
    have := Boxed.new ((w.alloc o1).alloc o2) 94 .nilFunc
    simpa using this
  have hc3 := b3.cell
  have hf3 := b3.frozen
  have hlt := HS.out.lt
  obtain ⟨u, hu⟩ : ∃ u, u = Value.func (Fn.func 112) #[] #[Value.pointer (some { block := w.heap.size, off := 0 }), Value.pointer (some { block := w.heap.size + 1, off := 0 }), Value.pointer (some { block := w.heap.size + 1 + 1, off := 0 })] := ⟨_, rfl⟩
  obtain ⟨W4, hW4⟩ : ∃ W4, W4 = ((w.alloc o1).alloc o2).alloc (.cells #[u] 94) := ⟨_, rfl⟩
  have HY : Below w.heap.size w W4 := by
    have h1 := (Below.refl w.heap.size w).alloc (Nat.le_refl _) o1
    have h2 := h1.alloc h1.size o2
    rw [hW4]
    exact h2.alloc h2.size _
  have HT : impl_symmetricSum.St n0 Bp Bs w.heap.size (w.heap.size + 1) (w.heap.size + 1 + 1) Ap Ax cp cx pw x W4 := by
    refine ⟨(HY.block Bp HP.out.lt).trans HP.out, ?_, ?_, ?_, Kd.C_below HPW.out HY, Kd.C_below HPX.out HY, hps, by omega, by omega, by omega, hap, hax, hn, Nat.lt_of_lt_of_le hlt HY.size⟩
    · rw [hW4]; exact (b1.alloc o2).alloc _
    · rw [hW4]; exact b2.alloc _
    · rw [hW4]
      have := Boxed.new ((w.alloc o1).alloc o2) 94 u
      rw [← hu]
      simpa using this
  have HA := Aside0.mk HT
  have HZ := Aside0.mk HY
  have HU := Aside0.mk ((HY.block Bs hlt).trans HS.out)
  clear HT HY b1 b2 b3 hps hlt
  subst hW4
  subst hu
  subst ho1
  subst ho2
  go_enter Try.func80, Try.ntmps80
  go_wp2_with (first | (go_at_call 112; refine (impl_symmetricSum.ext k n0 Bp Bs _ _ _ Ap Ax cp cx pw x hx4 x.length 0 none 0 [] s r _ HA.out HU.out (by simp) (Kd.C_nil _ _) (Nat.le_refl _) (fun _ h_ => by cases h_) HH.out).mono ?_; rintro e w' ⟨rfl, hk, hb, hs⟩))
  go_end0
  exact ⟨rfl, (KeepBut.of_below HZ.out Bs none).trans hk (.inl rfl), (HZ.out.mono (by have := HS.out.lt; omega)).trans hb, hs⟩
set_option maxHeartbeats 8000000 in
set_option maxRecDepth 100000 in
theorem impl_symmetricSum.calls (k : Nat) (A0 : Option Addr) (c0 : Nat) (l0 : List Int) (A1 : Option Addr) (c1 : Nat) (l1 : List Int) (r : Int) (w : World) (hr0 : Kd.C (Kd.int .i64) w A0 l0.length l0) (hc0 : l0.length ≤ c0) (hr1 : Kd.C (Kd.int .i64) w A1 l1.length l1) (hc1 : l1.length ≤ c1) (h : impl_symmetricSum.f k l0 l1 = some r) :
    Calls Try.prog 91 #[.slice A0 l0.length c0, .slice A1 l1.length c1] w fun e w' => e = .returned (.int .i64 r) ∧ Below w.heap.size w w' := by
  unfold impl_symmetricSum.f at h
  by_cases c : l1.length ≤ 4
  · rw [if_pos c] at h
    have HR0 := Aside0.mk hr0
    have HR1 := Aside0.mk hr1
    have HH := Aside0.mk h
    have HC := Aside0.mk c
    obtain ⟨o1, ho1⟩ : ∃ o, o = Obj.cells #[Value.slice A0 l0.length c0] 34 := ⟨_, rfl⟩
    have b1 : Boxed (w.alloc o1) w.heap.size 34 (.slice A0 l0.length c0) := by rw [ho1]; exact Boxed.new w 34 _
    obtain ⟨W2, hW2⟩ : ∃ W2, W2 = (w.alloc o1).alloc (.cells #[.int .i64 0] 3) := ⟨_, rfl⟩
    have HY : Below w.heap.size w W2 := by
      have h1 := (Below.refl w.heap.size w).alloc (Nat.le_refl _) o1
      rw [hW2]
      exact h1.alloc h1.size _
    have HP := Aside0.mk (show Boxed W2 w.heap.size 34 (.slice A0 l0.length c0) from by rw [hW2]; exact b1.alloc _)
    have HS := Aside0.mk (show Boxed W2 (w.heap.size + 1) 3 (.int .i64 0) from by
      rw [hW2]
      have := Boxed.new (w.alloc o1) 3 (.int .i64 0)
      simpa using this)
    have P0 := Aside0.mk (Kd.C_below hr0 HY)
    have P1 := Aside0.mk (Kd.C_below hr1 HY)
    have far : ∀ {A : Option Addr} {l : List Int}, Kd.C (Kd.int .i64) w A l.length l → ∀ ad, A = some ad → 0 < l.length → ad.block ≠ w.heap.size + 1 := by
      intro A l hC ad e_ hl
      subst e_
      obtain ⟨ad1, e1, hx1⟩ := Kd.at_int hC 0 (by omega) (by omega)
      cases e1
      have := World.block_lt_of_cell? w _ hx1
      rw [add_block] at this
      omega
    have F0 := Aside0.mk (far hr0)
    have F1 := Aside0.mk (far hr1)
    have HZ := Aside0.mk HY
    clear hr0 hr1 hc0 hc1 h c b1 HY far
    subst hW2
    subst ho1
    go_enter Try.func91, Try.ntmps91
    go_wp2_with (first | (go_at_call 80; refine (impl_symmetricSum.orders k w.heap.size w.heap.size (w.heap.size + 1) A0 A1 c0 c1 l0 l1 0 r _ HC.out HP.out HS.out (by omega) (by omega) P0.out P1.out F0.out F1.out HH.out).mono ?_; rintro e w' ⟨rfl, hk, hb, hs⟩; have hcs := hs.cell))
    go_ret
    exact ⟨rfl, HZ.out.trans hb⟩
  · rw [if_neg c] at h; exact absurd h (by simp)

/-! ### impl_SymmetricSum: function 42 -/
def impl_SymmetricSum.f (k : Nat) (l0 : List Int) (l1 : List Int) : Option (Int × Bool) := (impl_arePowers.f k l0).bind fun t290 => (if t290 = true then ((impl_areArguments.f k l1).bind fun t291 => (if t291 = true then (if (l0.length : Int) = (l1.length : Int) then ((impl_symmetricSum.f k l0 l1).bind fun t292 => (some (t292, true))) else (some (0, false))) else (some (0, false)))) else (some (0, false)))
theorem impl_SymmetricSum.mono : ∀ a0 a1 k, LeO (impl_SymmetricSum.f k a0 a1) (impl_SymmetricSum.f (k + 1) a0 a1) := by
  intro a0 a1 k
  unfold impl_SymmetricSum.f
  repeat' first
      | (with_reducible exact impl_areArguments.mono _ _)
      | (with_reducible exact impl_arePowers.mono _ _)
      | (with_reducible exact impl_symmetricSum.mono _ _ _)
      | (with_reducible exact LeO.refl _)
      | (with_reducible exact LeO.none _)
      | (with_reducible refine LeO.ite ?_ ?_)
      | (with_reducible refine LeO.bind ?_ (fun _ => ?_))
      | exact impl_areArguments.mono _ _
      | exact impl_arePowers.mono _ _
      | exact impl_symmetricSum.mono _ _ _
      | exact LeO.none _
      | refine LeO.ite ?_ ?_
      | refine LeO.bind ?_ (fun _ => ?_)
set_option maxHeartbeats 8000000 in
set_option maxRecDepth 100000 in
theorem impl_SymmetricSum.calls (k : Nat) (A0 : Option Addr) (c0 : Nat) (l0 : List Int) (A1 : Option Addr) (c1 : Nat) (l1 : List Int) (r1 : Int) (r2 : Bool) (w : World) (hr0 : Kd.C (Kd.int .i64) w A0 l0.length l0) (hc0 : l0.length ≤ c0) (hr1 : Kd.C (Kd.int .i64) w A1 l1.length l1) (hc1 : l1.length ≤ c1) (h : impl_SymmetricSum.f k l0 l1 = some (r1, r2)) :
    Calls Try.prog 42 #[.slice A0 l0.length c0, .slice A1 l1.length c1] w fun e w' => e = .returned (.tuple #[.int .i64 r1, .bool r2]) ∧ Below w.heap.size w w' := by
  have HR0 := Aside0.mk hr0
  have HC0 := Aside0.mk hc0
  clear hr0 hc0
  have HR1 := Aside0.mk hr1
  have HC1 := Aside0.mk hc1
  clear hr1 hc1
  have HB := Aside0.mk (Below.refl w.heap.size w)
  have H : ((impl_arePowers.f k l0).bind fun t290 => (if t290 = true then ((impl_areArguments.f k l1).bind fun t291 => (if t291 = true then (if (l0.length : Int) = (l1.length : Int) then ((impl_symmetricSum.f k l0 l1).bind fun t292 => (some (t292, true))) else (some (0, false))) else (some (0, false)))) else (some (0, false)))) = some (r1, r2) := h
  clear h
  replace H := Option.bind_eq_some_iff.mp H
  obtain ⟨t290, A30, H⟩ := H
  replace H : (if t290 = true then ((impl_areArguments.f k l1).bind fun t291 => (if t291 = true then (if (l0.length : Int) = (l1.length : Int) then ((impl_symmetricSum.f k l0 l1).bind fun t292 => (some (t292, true))) else (some (0, false))) else (some (0, false)))) else (some (0, false))) = some (r1, r2) := H
  have A3 := Aside0.mk A30
  clear A30
  by_cases c4 : t290 = true
  · subst c4
    have H1 : ((impl_areArguments.f k l1).bind fun t291 => (if t291 = true then (if (l0.length : Int) = (l1.length : Int) then ((impl_symmetricSum.f k l0 l1).bind fun t292 => (some (t292, true))) else (some (0, false))) else (some (0, false)))) = some (r1, r2) := by rw [if_pos rfl] at H; exact H
    clear H
    have H := H1
    clear H1
    replace H := Option.bind_eq_some_iff.mp H
    obtain ⟨t291, A50, H⟩ := H
    replace H : (if t291 = true then (if (l0.length : Int) = (l1.length : Int) then ((impl_symmetricSum.f k l0 l1).bind fun t292 => (some (t292, true))) else (some (0, false))) else (some (0, false))) = some (r1, r2) := H
    have A5 := Aside0.mk A50
    clear A50
    by_cases c6 : t291 = true
    · subst c6
      have H1 : (if (l0.length : Int) = (l1.length : Int) then ((impl_symmetricSum.f k l0 l1).bind fun t292 => (some (t292, true))) else (some (0, false))) = some (r1, r2) := by rw [if_pos rfl] at H; exact H
      clear H
      have H := H1
      clear H1
      by_cases c7 : (l0.length : Int) = (l1.length : Int)
      · rw [if_pos c7] at H
        have c7b0 : ((l0.length : Int) == (l1.length : Int)) = true := beq_iff_eq.mpr c7
        have c7b1 : ((l0.length : Int) != (l1.length : Int)) = false := bne_eq_false_iff_eq.mpr c7
        have c7b2 : (l0.length == l1.length) = true := by first | simpa using c7 | (simp at c7 ⊢; omega)
        clear c7
        replace H := Option.bind_eq_some_iff.mp H
        obtain ⟨t292, A80, H⟩ := H
        replace H : (some (t292, true)) = some (r1, r2) := H
        have A8 := Aside0.mk A80
        clear A80
        simp only [Option.some.injEq, Prod.mk.injEq] at H
        obtain ⟨rfl, rfl⟩ := H
        go_enter Try.func42, Try.ntmps42
        go_wp2_with (first | ((with_reducible refine gate_callee (f := 77) rfl ?_); refine goesL_ (some 7) rfl rfl Try.func77 (by kernel_rfl) rfl #[.slice A0 l0.length c0] rfl (by (try simp only [List.map_toArray, List.map_cons, List.map_nil]); first | done | rfl | (simp only [List.length_drop, List.length_take]; rfl)) ?_; (with_reducible refine (impl_arePowers.calls k _ _ l0 true _ ?side1 ?side2 A3.out).mono ?_); (case side1 => repeat (first | exact HR0.out | (with_reducible refine Kd.C_alloc ?_ _) | (with_reducible refine Kd.C_drewN ?_ _) | (with_reducible refine Kd.C_drew ?_))); (case side2 => exact HC0.out); rintro e w' ⟨rfl, ⟨nd, rfl⟩⟩; refine ⟨_, rfl, ?_⟩) | (go_at_call 78; (with_reducible refine (impl_areArguments.calls k _ _ l1 true _ ?side1 ?side2 A5.out).mono ?_); (case side1 => repeat (first | exact HR1.out | (with_reducible refine Kd.C_alloc ?_ _) | (with_reducible refine Kd.C_drewN ?_ _) | (with_reducible refine Kd.C_drew ?_))); (case side2 => exact HC1.out); rintro e w' ⟨rfl, ⟨nd, rfl⟩⟩) | ((with_reducible refine gate_callee (f := 91) rfl ?_); refine goesL_ (some 23) rfl rfl Try.func91 (by kernel_rfl) rfl #[.slice A0 l0.length c0, .slice A1 l1.length c1] rfl (by (try simp only [List.map_toArray, List.map_cons, List.map_nil]); first | done | rfl | (simp only [List.length_drop, List.length_take]; rfl)) ?_; (with_reducible refine (impl_symmetricSum.calls k _ _ l0 _ _ l1 t292 _ ?side1 ?side2 ?side3 ?side4 A8.out).mono ?_); (case side1 => repeat (first | exact HR0.out | (with_reducible refine Kd.C_alloc ?_ _) | (with_reducible refine Kd.C_drewN ?_ _) | (with_reducible refine Kd.C_drew ?_))); (case side2 => exact HC0.out); (case side3 => repeat (first | exact HR1.out | (with_reducible refine Kd.C_alloc ?_ _) | (with_reducible refine Kd.C_drewN ?_ _) | (with_reducible refine Kd.C_drew ?_))); (case side4 => exact HC1.out); rintro e w9 ⟨rfl, hb⟩; refine ⟨_, rfl, ?_⟩; have n0_ := Aside0.mk (below_step (by repeat (first | (with_reducible first | exact HB.out | apply below_alloc | apply pw_below_drewN | apply below_drew1) | exact HB.out)) hb); clear HB; have HB := n0_; clear n0_; (try clear hb); (try clear hb2); (try clear hk); (try clear hi)))
        go_ret2
        exact ⟨by first | rfl | (simp [errW_none, errW_some] <;> rfl) | (simp [*, errW_none, errW_some] <;> rfl), by repeat (first | (with_reducible first | exact HB.out | apply below_alloc | apply pw_below_drewN | apply below_drew1) | exact HB.out)⟩
      · rw [if_neg c7] at H
        have c7b0 : ((l0.length : Int) == (l1.length : Int)) = false := beq_eq_false_iff_ne.mpr c7
        have c7b1 : ((l0.length : Int) != (l1.length : Int)) = true := bne_iff_ne.mpr c7
        have c7b2 : (l0.length == l1.length) = false := by first | simpa using c7 | (simp at c7 ⊢; omega)
        simp only [Option.some.injEq, Prod.mk.injEq] at H
        obtain ⟨rfl, rfl⟩ := H
        go_enter Try.func42, Try.ntmps42
        go_wp2_with (first | ((with_reducible refine gate_callee (f := 77) rfl ?_); refine goesL_ (some 7) rfl rfl Try.func77 (by kernel_rfl) rfl #[.slice A0 l0.length c0] rfl (by (try simp only [List.map_toArray, List.map_cons, List.map_nil]); first | done | rfl | (simp only [List.length_drop, List.length_take]; rfl)) ?_; (with_reducible refine (impl_arePowers.calls k _ _ l0 true _ ?side1 ?side2 A3.out).mono ?_); (case side1 => repeat (first | exact HR0.out | (with_reducible refine Kd.C_alloc ?_ _) | (with_reducible refine Kd.C_drewN ?_ _) | (with_reducible refine Kd.C_drew ?_))); (case side2 => exact HC0.out); rintro e w' ⟨rfl, ⟨nd, rfl⟩⟩; refine ⟨_, rfl, ?_⟩) | (go_at_call 78; (with_reducible refine (impl_areArguments.calls k _ _ l1 true _ ?side1 ?side2 A5.out).mono ?_); (case side1 => repeat (first | exact HR1.out | (with_reducible refine Kd.C_alloc ?_ _) | (with_reducible refine Kd.C_drewN ?_ _) | (with_reducible refine Kd.C_drew ?_))); (case side2 => exact HC1.out); rintro e w' ⟨rfl, ⟨nd, rfl⟩⟩))
        go_ret2
        exact ⟨by first | rfl | (simp [errW_none, errW_some] <;> rfl) | (simp [*, errW_none, errW_some] <;> rfl), by repeat (first | (with_reducible first | exact HB.out | apply below_alloc | apply pw_below_drewN | apply below_drew1) | exact HB.out)⟩
    · replace c6 := Bool.eq_false_iff.mpr c6
      subst c6
      have H1 : (some (0, false)) = some (r1, r2) := by rw [if_neg (show ¬ (false = true) by decide)] at H; exact H
      clear H
      have H := H1
      clear H1
      simp only [Option.some.injEq, Prod.mk.injEq] at H
      obtain ⟨rfl, rfl⟩ := H
      go_enter Try.func42, Try.ntmps42
      go_wp2_with (first | ((with_reducible refine gate_callee (f := 77) rfl ?_); refine goesL_ (some 7) rfl rfl Try.func77 (by kernel_rfl) rfl #[.slice A0 l0.length c0] rfl (by (try simp only [List.map_toArray, List.map_cons, List.map_nil]); first | done | rfl | (simp only [List.length_drop, List.length_take]; rfl)) ?_; (with_reducible refine (impl_arePowers.calls k _ _ l0 true _ ?side1 ?side2 A3.out).mono ?_); (case side1 => repeat (first | exact HR0.out | (with_reducible refine Kd.C_alloc ?_ _) | (with_reducible refine Kd.C_drewN ?_ _) | (with_reducible refine Kd.C_drew ?_))); (case side2 => exact HC0.out); rintro e w' ⟨rfl, ⟨nd, rfl⟩⟩; refine ⟨_, rfl, ?_⟩) | (go_at_call 78; (with_reducible refine (impl_areArguments.calls k _ _ l1 false _ ?side1 ?side2 A5.out).mono ?_); (case side1 => repeat (first | exact HR1.out | (with_reducible refine Kd.C_alloc ?_ _) | (with_reducible refine Kd.C_drewN ?_ _) | (with_reducible refine Kd.C_drew ?_))); (case side2 => exact HC1.out); rintro e w' ⟨rfl, ⟨nd, rfl⟩⟩))
      go_ret2
      exact ⟨by first | rfl | (simp [errW_none, errW_some] <;> rfl) | (simp [*, errW_none, errW_some] <;> rfl), by repeat (first | (with_reducible first | exact HB.out | apply below_alloc | apply pw_below_drewN | apply below_drew1) | exact HB.out)⟩
  · replace c4 := Bool.eq_false_iff.mpr c4
    subst c4
    have H1 : (some (0, false)) = some (r1, r2) := by rw [if_neg (show ¬ (false = true) by decide)] at H; exact H
    clear H
    have H := H1
    clear H1
    simp only [Option.some.injEq, Prod.mk.injEq] at H
    obtain ⟨rfl, rfl⟩ := H
    go_enter Try.func42, Try.ntmps42
    go_wp2_with (first | ((with_reducible refine gate_callee (f := 77) rfl ?_); refine goesL_ (some 7) rfl rfl Try.func77 (by kernel_rfl) rfl #[.slice A0 l0.length c0] rfl (by (try simp only [List.map_toArray, List.map_cons, List.map_nil]); first | done | rfl | (simp only [List.length_drop, List.length_take]; rfl)) ?_; (with_reducible refine (impl_arePowers.calls k _ _ l0 false _ ?side1 ?side2 A3.out).mono ?_); (case side1 => repeat (first | exact HR0.out | (with_reducible refine Kd.C_alloc ?_ _) | (with_reducible refine Kd.C_drewN ?_ _) | (with_reducible refine Kd.C_drew ?_))); (case side2 => exact HC0.out); rintro e w' ⟨rfl, ⟨nd, rfl⟩⟩; refine ⟨_, rfl, ?_⟩))
    go_ret2
    exact ⟨by first | rfl | (simp [errW_none, errW_some] <;> rfl) | (simp [*, errW_none, errW_some] <;> rfl), by repeat (first | (with_reducible first | exact HB.out | apply below_alloc | apply pw_below_drewN | apply below_drew1) | exact HB.out)⟩

end Go.Proofs.Ytbnlfhdjcpegkaa.PFnGiftsInSums
