/- For each Go function that the law uses, a Lean function with the same answers and a proof that its call comes to them; the conditions stand in each theorem. (Written by a program of this session, turned from the print of the kit.) -/
import Derived.Test.YtbnlfhdjcpegkaaPFnGiftsInSumsx0
import Derived.Test.YtbnlfhdjcpegkaaPFnGiftsInSumsx5
import Derived.Test.YtbnlfhdjcpegkaaPFnGiftsInSumsx7
namespace Go.Proofs.Ytbnlfhdjcpegkaa.PFnGiftsInSums
open Go.RowKit Go.Proofs.YtbnlfhdjcpegkaaW.PrintWords Go.Proofs.YtbnlfhdjcpegkaaW.PrintLast Go.Proofs.YtbnlfhdjcpegkaaW.PrintMore
attribute [local go_sem] max2_int min2_int max_two min_two max_three min_three max_four min_four   -- for this text's walks alone
set_option linter.unusedVariables false
set_option linter.unusedSimpArgs false

/-! ### impl_GiftTerms: function 36 -/
attribute [local go_sem ↓] Go.wp_at_zero Go.wp_at_succ
/-- The product of the powers of an order's numbers other than two, from an index on. -/
def impl_GiftTerms.v (k : Nat) (pw : List Int) (a b : Int) : List Int → Nat → Int → Option Int
  | [], _, p => some p
  | n :: t, i, p => if (i : Int) = a then impl_GiftTerms.v k pw a b t (i + 1) p else if (i : Int) = b then impl_GiftTerms.v k pw a b t (i + 1) p else if i < pw.length then (impl_power.f k n (pw.getD i 0)).bind fun q => impl_GiftTerms.v k pw a b t (i + 1) (wrap64 (p * q)) else none
/-- What one order gives. -/
def impl_GiftTerms.t (k : Nat) (pw : List Int) (a b p q : Int) (order : List Int) : Option Int :=
  if 0 ≤ a then if a < (order.length : Int) then if 0 ≤ b then if b < (order.length : Int) then
    (impl_power.f k (wrap64 (rd order a * rd order b)) q).bind fun t1 => (impl_power.f k (rd order a) (wrap64 (wrap64 (p - q) - 1))).bind fun t2 => (impl_power.f k (rd order b) (wrap64 (wrap64 (p - q) - 1))).bind fun t3 => impl_GiftTerms.v k pw a b order 0 (wrap64 (wrap64 (t1 * wrap64 (t2 - t3)) * wrap64 (rd order a - rd order b)))
  else none else none else none else none
/-- The tries of all numbers behind an order that is begun. -/
def impl_GiftTerms.go (g : Int → List Int → List Int → Option (List Int)) (used : Int) (order : List Int) : List Int → Nat → List Int → Option (List Int)
  | [], _, s => some s
  | n :: t, i, s => (impl_has.f used (i : Int)).bind fun h => if h = true then impl_GiftTerms.go g used order t (i + 1) s else (slices_Clone_int_int.f order).bind fun c => if c.length < 17592186044416 then (g (Go.bits .or .i64 used (IntKind.i64.wrap (2 ^ i))) (c ++ [n]) s).bind fun s' => impl_GiftTerms.go g used order t (i + 1) s' else none
def impl_GiftTerms.one (k : Nat) (pw : List Int) (a b p q : Int) (order s : List Int) : Option (List Int) := (impl_GiftTerms.t k pw a b p q order).bind fun z => if s.length < 17592186044416 then some (s ++ [z]) else none
def impl_GiftTerms.e (k : Nat) (pw x : List Int) (a b p q : Int) : Nat → Int → List Int → List Int → Option (List Int)
  | 0, _, order, s => if order.length = x.length then impl_GiftTerms.one k pw a b p q order s else none
  | d + 1, used, order, s => if order.length = x.length then impl_GiftTerms.one k pw a b p q order s else impl_GiftTerms.go (impl_GiftTerms.e k pw x a b p q d) used order x 0 s
def impl_GiftTerms.f (k : Nat) (l0 : List Int) (a1_0 a1_1 a1_2 : Int) (l2 : List Int) : Option (List Int × Bool) :=
  (impl_arePowers.f k l0).bind fun t1 => if t1 = true then (impl_areArguments.f k l2).bind fun t2 => if t2 = true then (if (l0.length : Int) = (l2.length : Int) then (if a1_2 = 1 then (impl_isKind.f l0 a1_0 a1_1 a1_2).bind fun t3 => if t3 = true then (if 0 ≤ a1_0 then if a1_0 < (l0.length : Int) then if 0 ≤ a1_1 then if a1_1 < (l0.length : Int) then if l2.length ≤ 4 then (impl_GiftTerms.e k l0 l2 a1_0 a1_1 (rd l0 a1_0) (rd l0 a1_1) l2.length 0 [] []).bind fun r => some (r, true) else none else none else none else none else none) else some ([], false) else some ([], false)) else some ([], false)) else some ([], false) else some ([], false)
theorem impl_GiftTerms.v_mono (pw : List Int) (a b : Int) (k : Nat) : ∀ (t : List Int) (i : Nat) (p : Int), LeO (impl_GiftTerms.v k pw a b t i p) (impl_GiftTerms.v (k + 1) pw a b t i p)
  | [], _, _ => LeO.refl _
  | n :: t, i, p => by
    unfold impl_GiftTerms.v
    exact LeO.ite (impl_GiftTerms.v_mono pw a b k t _ _) (LeO.ite (impl_GiftTerms.v_mono pw a b k t _ _) (LeO.ite (LeO.bind (impl_power.mono _ _ _) (fun _ => impl_GiftTerms.v_mono pw a b k t _ _)) (LeO.none _)))
theorem impl_GiftTerms.one_mono (pw : List Int) (a b p q : Int) (k : Nat) (order s : List Int) : LeO (impl_GiftTerms.one k pw a b p q order s) (impl_GiftTerms.one (k + 1) pw a b p q order s) := by
  unfold impl_GiftTerms.one impl_GiftTerms.t
  refine LeO.bind ?_ (fun _ => LeO.refl _)
  exact LeO.ite (LeO.ite (LeO.ite (LeO.ite (LeO.bind (impl_power.mono _ _ _) (fun _ => LeO.bind (impl_power.mono _ _ _) (fun _ => LeO.bind (impl_power.mono _ _ _) (fun _ => impl_GiftTerms.v_mono _ _ _ _ _ _ _)))) (LeO.none _)) (LeO.none _)) (LeO.none _)) (LeO.none _)
theorem impl_GiftTerms.go_mono {g g' : Int → List Int → List Int → Option (List Int)} (hg : ∀ a b c, LeO (g a b c) (g' a b c)) (used : Int) (order : List Int) : ∀ (t : List Int) (i : Nat) (s : List Int), LeO (impl_GiftTerms.go g used order t i s) (impl_GiftTerms.go g' used order t i s)
  | [], _, _ => LeO.refl _
  | n :: t, i, s => by
    unfold impl_GiftTerms.go
    exact LeO.bind (LeO.refl _) (fun _ => LeO.ite (impl_GiftTerms.go_mono hg used order t _ _) (LeO.bind (LeO.refl _) (fun _ => LeO.ite (LeO.bind (hg _ _ _) (fun _ => impl_GiftTerms.go_mono hg used order t _ _)) (LeO.none _))))
theorem impl_GiftTerms.e_mono (pw x : List Int) (a b p q : Int) (k : Nat) : ∀ (d : Nat) (used : Int) (order s : List Int), LeO (impl_GiftTerms.e k pw x a b p q d used order s) (impl_GiftTerms.e (k + 1) pw x a b p q d used order s)
  | 0, _, _, _ => by
    unfold impl_GiftTerms.e
    exact LeO.ite (impl_GiftTerms.one_mono _ _ _ _ _ _ _ _) (LeO.none _)
  | d + 1, _, _, _ => by
    unfold impl_GiftTerms.e
    exact LeO.ite (impl_GiftTerms.one_mono _ _ _ _ _ _ _ _) (impl_GiftTerms.go_mono (impl_GiftTerms.e_mono pw x a b p q k d) _ _ _ _ _)
theorem impl_GiftTerms.mono : ∀ a0 a1_0 a1_1 a1_2 a2 k, LeO (impl_GiftTerms.f k a0 a1_0 a1_1 a1_2 a2) (impl_GiftTerms.f (k + 1) a0 a1_0 a1_1 a1_2 a2) := by
  intro a0 a1_0 a1_1 a1_2 a2 k
  unfold impl_GiftTerms.f
  exact LeO.bind (impl_arePowers.mono _ _) (fun _ => LeO.ite (LeO.bind (impl_areArguments.mono _ _) (fun _ => LeO.ite (LeO.ite (LeO.ite (LeO.bind (LeO.refl _) (fun _ => LeO.ite (LeO.ite (LeO.ite (LeO.ite (LeO.ite (LeO.ite (LeO.bind (impl_GiftTerms.e_mono _ _ _ _ _ _ _ _ _ _ _) (fun _ => LeO.refl _)) (LeO.none _)) (LeO.none _)) (LeO.none _)) (LeO.none _)) (LeO.none _)) (LeO.refl _))) (LeO.refl _)) (LeO.refl _)) (LeO.refl _))) (LeO.refl _))
theorem impl_GiftTerms.blk_drewN {w : World} {B : Nat} {t : TypeId} {v : Value} (h : Boxed w B t v) (m : Nat) : Boxed (w.drewN m) B t v := by
  have : (w.drewN m).heap = w.heap := rfl
  unfold Boxed; rw [this]; exact h
set_option maxHeartbeats 8000000 in
set_option maxRecDepth 100000 in
/-- The visit of one order: what it gives comes behind the others. -/
theorem impl_GiftTerms.visit (k n0 Bg Bq Bp Bw Bs : Nat) (Ap : Option Addr) (cp : Nat) (pw : List Int) (a b p q : Int) (Ao : Option Addr) (co : Nat) (order : List Int) (v : Value) (s : List Int) (z : Int) (w : World) (hG0 : w.cell? ⟨Bg, 0, none⟩ = some (.int .i64 a)) (hG1 : w.cell? ⟨Bg, 1, none⟩ = some (.int .i64 b)) (hQ : Boxed w Bq 3 (.int .i64 q)) (hP : Boxed w Bp 3 (.int .i64 p)) (hW : Boxed w Bw 34 (.slice Ap pw.length cp)) (hS : Boxed w Bs 34 v) (hR : Kd.R (Kd.int .i64) 3 w n0 (fun _ => True) v s) (hn : n0 ≤ Bs) (hpw : Kd.C (Kd.int .i64) w Ap pw.length pw) (hol : order.length ≤ 4) (ho : Kd.C (Kd.int .i64) w Ao order.length order) (hl : s.length < 17592186044416) (ht : impl_GiftTerms.t k pw a b p q order = some z) :
    Calls Try.prog 81 #[.slice Ao order.length co, .pointer (some ⟨Bg, 0, none⟩), .pointer (some ⟨Bq, 0, none⟩), .pointer (some ⟨Bp, 0, none⟩), .pointer (some ⟨Bw, 0, none⟩), .pointer (some ⟨Bs, 0, none⟩)] w fun e w' => e = .returned (.tuple #[]) ∧ ∃ v', Boxed w' Bs 34 v' ∧ Kd.R (Kd.int .i64) 3 w' n0 (fun _ => True) v' (s ++ [z]) ∧ KeepBut w w' Bs v.ownBlock ∧ Below n0 w w' ∧ (v'.ownBlock = v.ownBlock ∨ ∃ b, v'.ownBlock = some b ∧ w.heap.size ≤ b) := by
  unfold impl_GiftTerms.t at ht
  by_cases a1 : 0 ≤ a
  case neg => rw [if_neg a1] at ht; exact absurd ht (by simp)
  rw [if_pos a1] at ht
  by_cases a2 : a < (order.length : Int)
  case neg => rw [if_neg a2] at ht; exact absurd ht (by simp)
  rw [if_pos a2] at ht
  by_cases b1 : 0 ≤ b
  case neg => rw [if_neg b1] at ht; exact absurd ht (by simp)
  rw [if_pos b1] at ht
  by_cases b2 : b < (order.length : Int)
  case neg => rw [if_neg b2] at ht; exact absurd ht (by simp)
  rw [if_pos b2] at ht
  obtain ⟨t1, P1, ht⟩ := Option.bind_eq_some_iff.mp ht
  obtain ⟨t2, P2, ht⟩ := Option.bind_eq_some_iff.mp ht
  obtain ⟨t3, P3, ht⟩ := Option.bind_eq_some_iff.mp ht
  have HP1 := Aside0.mk (show impl_power.f k (IntKind.i64.wrap (rd order a * rd order b)) q = some t1 from by simp only [i64_w]; exact P1)
  have HP2 := Aside0.mk (show impl_power.f k (rd order a) (IntKind.i64.wrap (IntKind.i64.wrap (p - q) - 1)) = some t2 from by simp only [i64_w]; exact P2)
  have HP3 := Aside0.mk (show impl_power.f k (rd order b) (IntKind.i64.wrap (IntKind.i64.wrap (p - q) - 1)) = some t3 from by simp only [i64_w]; exact P3)
  have HV := Aside0.mk ht
  clear P1 P2 P3 ht
  obtain ⟨ad1, e1, hx1⟩ := Kd.at_int ho a a1 a2
  obtain ⟨ad2, e2, hx2⟩ := Kd.at_int ho b b1 b2
  cases e1
  cases e2
  replace hx1 : w.cell? (ad1.add a.toNat) = some (.int .i64 (rd order a)) := hx1
  replace hx2 : w.cell? (ad1.add b.toNat) = some (.int .i64 (rd order b)) := hx2
  have HO := Aside0.mk ho
  have HW := Aside0.mk hpw
  have HBW := Aside0.mk hW
  have HBS := Aside0.mk hS
  have HR := Aside0.mk hR
  have hq := hQ.cell
  have hp := hP.cell
  have hw := hW.cell
  clear ho hpw hW hS hR hQ hP
  replace a1 := eq_true a1
  replace a2 := eq_true a2
  replace b1 := eq_true b1
  replace b2 := eq_true b2
  go_enter Try.func81, Try.ntmps81
  go_wp2
  go_region_held3 (fun w' => w'.cell? ⟨Bg, 0, none⟩ = some (.int .i64 a) ∧ w'.cell? ⟨Bg, 1, none⟩ = some (.int .i64 b) ∧ w'.cell? (ad1.add a.toNat) = some (.int .i64 (rd order a)) ∧ w'.cell? (ad1.add b.toNat) = some (.int .i64 (rd order b))) (first | exact ⟨hG0, hG1, hx1, hx2⟩ | go_keep) (fail)
  have hbx1 := hx1
  go_wp2
  go_region_held3 (fun w' => w'.cell? ⟨Bq, 0, none⟩ = some (.int .i64 q) ∧ w'.cell? ⟨Bp, 0, none⟩ = some (.int .i64 p)) (first | exact ⟨hq, hp⟩ | go_keep)
    (first
      | (go_at_call 82; (with_reducible refine (impl_power.calls k _ _ t1 _ HP1.out).mono ?_); rintro e w' ⟨rfl, ⟨nd, rfl⟩⟩)
      | (go_at_call 82; (with_reducible refine (impl_power.calls k _ _ t2 _ HP2.out).mono ?_); rintro e w' ⟨rfl, ⟨nd, rfl⟩⟩)
      | (go_at_call 82; (with_reducible refine (impl_power.calls k _ _ t3 _ HP3.out).mono ?_); rintro e w' ⟨rfl, ⟨nd, rfl⟩⟩))
  go_wp2
  go_loopw [9, 47] (fun v9 v47 wr => ∃ (i m : Nat) (g : Int), i ≤ order.length ∧ v9 = .int .i64 g ∧ v47 = .int .i64 i ∧ wr = w.drewN m ∧ impl_GiftTerms.v k pw a b (order.drop i) i g = some z) (fun _ v47 _ => order.length - (intOf v47).toNat)
  case atStart => exact ⟨0, _, _, Nat.zero_le _, rfl, rfl, by first | rfl | (simp only [World.drewN_drewN]; rfl), by simp only [i64_w]; exact HV.out⟩
  case round =>
    obtain ⟨i, m, g, hi, rfl, rfl, rfl, hq2⟩ := hrel
    have HQ := Aside0.mk hq2
    clear hq2
    by_cases hlt : i < order.length
    · have e1 : order.drop i = order.getD i 0 :: order.drop (i + 1) := by
        rw [List.drop_eq_getElem_cons hlt]; simp [List.getD_eq_getElem?_getD, hlt]
      have H := HQ.out
      rw [e1] at H
      unfold impl_GiftTerms.v at H
      have p1 : (0 : Int) ≤ (i : Int) := by omega
      have q1 : (i : Int) < (order.length : Int) := by omega
      obtain ⟨ad3, e3, hx3⟩ := Kd.at_int (Kd.C_drewN HO.out m) (i : Int) p1 q1
      cases e3
      replace hx3 : (w.drewN m).cell? (ad1.add i) = some (.int .i64 (order.getD i 0)) := hx3
      have hg0 : (w.drewN m).cell? ⟨Bg, 0, none⟩ = some (.int .i64 a) := hG0
      have hg1 : (w.drewN m).cell? ⟨Bg, 1, none⟩ = some (.int .i64 b) := hG1
      by_cases ca : (i : Int) = a
      · rw [if_pos ca] at H
        have H' := Aside0.mk H
        clear H HQ e1
        have cb : ((i : Int) != a) = false := by rw [ca]; simp
        clear ca
        replace p1 := eq_true p1
        replace q1 := eq_true q1
        go_wp2
        go_roundw
        case rel => exact ⟨i + 1, m, g, by omega, rfl, by simp, by first | rfl | exact World.drewN_drewN _ _ _, H'.out⟩
        case measure => simp [intOf]; omega
      · rw [if_neg ca] at H
        have cb : ((i : Int) != a) = true := by simpa using ca
        clear ca
        by_cases ca : (i : Int) = b
        · rw [if_pos ca] at H
          have H' := Aside0.mk H
          clear H HQ e1
          have cc : ((i : Int) != b) = false := by rw [ca]; simp
          clear ca
          replace p1 := eq_true p1
          replace q1 := eq_true q1
          go_wp2
          go_roundw
          case rel => exact ⟨i + 1, m, g, by omega, rfl, by simp, by first | rfl | exact World.drewN_drewN _ _ _, H'.out⟩
          case measure => simp [intOf]; omega
        · rw [if_neg ca] at H
          have cc : ((i : Int) != b) = true := by simpa using ca
          clear ca
          by_cases c : i < pw.length
          · rw [if_pos c] at H
            obtain ⟨t, A1, H⟩ := Option.bind_eq_some_iff.mp H
            have A2 := Aside0.mk A1
            have H' := Aside0.mk H
            clear A1 H HQ e1
            have q2 : (i : Int) < (pw.length : Int) := by omega
            obtain ⟨ad2, e2, hx2⟩ := Kd.at_int (Kd.C_drewN HW.out m) (i : Int) p1 q2
            cases e2
            replace hx2 : (w.drewN m).cell? (ad2.add i) = some (.int .i64 (pw.getD i 0)) := hx2
            have hb := (impl_GiftTerms.blk_drewN HBW.out m).cell
            replace p1 := eq_true p1
            replace q1 := eq_true q1
            replace q2 := eq_true q2
            have A3 := A2.out
            generalize order.getD i 0 = y1 at hx3 A3
            generalize pw.getD i 0 = y2 at hx2 A3
            go_wp2_with (first | (go_at_call 82; (with_reducible refine (impl_power.calls k y1 y2 t _ A3).mono ?_); rintro e w' ⟨rfl, ⟨nd, rfl⟩⟩))
            go_roundw
            case rel => exact ⟨i + 1, _, _, by omega, rfl, by simp, by first | exact World.drewN_drewN _ _ _ | rfl, by first | exact H'.out | (simp only [i64_w]; exact H'.out)⟩
            case measure => simp [intOf]; omega
          · rw [if_neg c] at H; exact absurd H (by simp)
    · obtain rfl : i = order.length := by omega
      have H := HQ.out
      rw [List.drop_length] at H
      obtain rfl := Option.some.inj H
      clear H HQ
      have hb := (impl_GiftTerms.blk_drewN HBS.out m).cell
      have hsz : n0 ≤ w.heap.size := by have := HBS.out.lt; omega
      go_wp2_with (first | ((with_reducible refine gate_builtin (b := .append) (xs := #[.tmp 71, .tmp 73]) rfl ?_); at_builtin; refine Kd.R_append (Kd.int .i64) (w0 := w) n0 rfl (.tmp 71) (.tmp 73) 34 3 (.int .i64 0) 8 rfl Try.underlying34 info3 rfl (by decide) (by omega) v s g [.int .i64 g] (fun _ => True) (fun _ => False) rfl rfl ?aP (fun _ hk => hk.elim) ?aF ?aO ?aB ?aS ?aL ?_; (case aP => exact rfl); (case aB => exact pw_below_drewN (Below.refl n0 w) m); (case aF => exact (fun _ _ => trivial)); (case aO => exact Kd.R_drewN HR.out m); (case aS => exact hsz); (case aL => omega); intro v1 w1 ho hbw hg hat; have hrow := Kd.own_of_R ho; rw [List.length_append, List.length_singleton] at hrow; obtain ⟨g1, cap1, rfl⟩ := ownsRow_succ hrow; have hB1 : Boxed w1 Bs 34 v := (impl_GiftTerms.blk_drewN HBS.out m).kept hg (HBS.out.not_row (by decide) (Kd.own_of_R HR.out)); have hc1 := hB1.cell; have hf1 := hB1.frozen))
      go_end0
      exact ⟨rfl, _, hB1.set _, Kd.R_of_own (by rw [List.length_append, List.length_singleton]; exact hrow.kept (grownBy_setCell' w1 Bs _) (.inr (hB1.not_row (by decide) hrow).symm)) (fun _ _ => trivial), (show KeepBut w w1 Bs v.ownBlock from ⟨hg.size, fun j hj _ hr => hg.block j hj hr⟩).set_ 0 _, hbw.setCell (p := ⟨Bs, 0, none⟩) hn _, hat⟩
/-- A cell is kept that lies neither in the box nor in the row that grows. -/
theorem impl_GiftTerms.keepCell {w W : World} {Bs : Nat} {own : Option Nat} (hk : KeepBut w W Bs own) {ad : Addr} {u : Value} (hc : w.cell? ad = some u) (h1 : ad.block ≠ Bs) (h2 : own ≠ some ad.block) : W.cell? ad = some u := by
  have := hk.2 ad.block (World.block_lt_of_cell? w ad hc) h1 (fun e => h2 e.symm)
  simpa [World.cell?, this] using hc
theorem impl_GiftTerms.keepB {w W : World} {B Bs : Nat} {own : Option Nat} {t : TypeId} {v : Value} (h : Boxed w B t v) (hk : KeepBut w W Bs own) (hne : B ≠ Bs) (h2 : own ≠ some B) : Boxed W B t v := hk.blk h hne (fun e => h2 e.symm)
theorem impl_GiftTerms.keepC {w W : World} {Bs : Nat} {own : Option Nat} {A : Option Addr} {l : List Int} (h : Kd.C (Kd.int .i64) w A l.length l) (hk : KeepBut w W Bs own) (hf : ∀ ad, A = some ad → 0 < l.length → ad.block ≠ Bs ∧ own ≠ some ad.block) : Kd.C (Kd.int .i64) W A l.length l := by
  have r := Kd.reads_of_C (d := (0 : Int)) h
  refine Kd.C_of_reads (d := (0 : Int)) ⟨r.1, r.2.1, fun hn => ?_⟩
  obtain ⟨ad, e, hc⟩ := r.2.2 hn
  have q := hf ad e hn
  exact ⟨ad, e, fun j hj => impl_GiftTerms.keepCell hk (hc j hj) (by rw [add_block]; exact q.1) (by rw [add_block]; exact q.2)⟩
/-- What stands while the orders are visited. own: the block of the row that grows. -/
structure impl_GiftTerms.St (n0 Bg Bq Bp Bw Bs Bx Bv Be : Nat) (Ap Ax : Option Addr) (cp cx : Nat) (pw x : List Int) (a b p q : Int) (own : Option Nat) (w : World) : Prop where
  g0 : w.cell? ⟨Bg, 0, none⟩ = some (.int .i64 a)
  g1 : w.cell? ⟨Bg, 1, none⟩ = some (.int .i64 b)
  fq : Boxed w Bq 3 (.int .i64 q)
  fp : Boxed w Bp 3 (.int .i64 p)
  fw : Boxed w Bw 34 (.slice Ap pw.length cp)
  fx : Boxed w Bx 34 (.slice Ax x.length cx)
  fv : Boxed w Bv 78 (.func (.func 81) #[] #[.pointer (some ⟨Bg, 0, none⟩), .pointer (some ⟨Bq, 0, none⟩), .pointer (some ⟨Bp, 0, none⟩), .pointer (some ⟨Bw, 0, none⟩), .pointer (some ⟨Bs, 0, none⟩)])
  fe : Boxed w Be 94 (.func (.func 112) #[] #[.pointer (some ⟨Bx, 0, none⟩), .pointer (some ⟨Bv, 0, none⟩), .pointer (some ⟨Be, 0, none⟩)])
  rp : Kd.C (Kd.int .i64) w Ap pw.length pw
  rx : Kd.C (Kd.int .i64) w Ax x.length x
  ng : Bg ≠ Bs ∧ own ≠ some Bg
  nq : Bq ≠ Bs ∧ own ≠ some Bq
  np : Bp ≠ Bs ∧ own ≠ some Bp
  nw : Bw ≠ Bs ∧ own ≠ some Bw
  nx : Bx ≠ Bs ∧ own ≠ some Bx
  nv : Bv ≠ Bs ∧ own ≠ some Bv
  ne : Be ≠ Bs ∧ own ≠ some Be
  ap : ∀ ad, Ap = some ad → 0 < pw.length → ad.block ≠ Bs ∧ own ≠ some ad.block
  ax : ∀ ad, Ax = some ad → 0 < x.length → ad.block ≠ Bs ∧ own ≠ some ad.block
  n0 : n0 ≤ Bs
  lt : Bs < w.heap.size
theorem impl_GiftTerms.newOwn {own own' : Option Nat} {n B Bs : Nat} (h : own' = own ∨ ∃ b, own' = some b ∧ n ≤ b) (hne : B ≠ Bs ∧ own ≠ some B) (hlt : B < n) : B ≠ Bs ∧ own' ≠ some B := by
  refine ⟨hne.1, ?_⟩
  rcases h with rfl | ⟨b, rfl, hb⟩
  · exact hne.2
  · intro e; cases e; omega
theorem impl_GiftTerms.rowLt {w : World} {A : Option Addr} {l : List Int} (h : Kd.C (Kd.int .i64) w A l.length l) {ad : Addr} (e : A = some ad) (hl : 0 < l.length) : ad.block < w.heap.size := by
  subst e
  obtain ⟨ad1, e1, hx1⟩ := Kd.at_int h 0 (by omega) (by omega)
  cases e1
  have := World.block_lt_of_cell? w _ hx1
  rwa [add_block] at this
theorem impl_GiftTerms.St.keep {n0 Bg Bq Bp Bw Bs Bx Bv Be : Nat} {Ap Ax : Option Addr} {cp cx : Nat} {pw x : List Int} {a b p q : Int} {own own' : Option Nat} {w W : World} (h : impl_GiftTerms.St n0 Bg Bq Bp Bw Bs Bx Bv Be Ap Ax cp cx pw x a b p q own w) (hk : KeepBut w W Bs own) (ho : own' = own ∨ ∃ b, own' = some b ∧ w.heap.size ≤ b) : impl_GiftTerms.St n0 Bg Bq Bp Bw Bs Bx Bv Be Ap Ax cp cx pw x a b p q own' W :=
  ⟨impl_GiftTerms.keepCell hk h.g0 h.ng.1 h.ng.2, impl_GiftTerms.keepCell hk h.g1 h.ng.1 h.ng.2, impl_GiftTerms.keepB h.fq hk h.nq.1 h.nq.2, impl_GiftTerms.keepB h.fp hk h.np.1 h.np.2, impl_GiftTerms.keepB h.fw hk h.nw.1 h.nw.2, impl_GiftTerms.keepB h.fx hk h.nx.1 h.nx.2, impl_GiftTerms.keepB h.fv hk h.nv.1 h.nv.2, impl_GiftTerms.keepB h.fe hk h.ne.1 h.ne.2, impl_GiftTerms.keepC h.rp hk h.ap, impl_GiftTerms.keepC h.rx hk h.ax,
    impl_GiftTerms.newOwn ho h.ng (World.block_lt_of_cell? w _ h.g0), impl_GiftTerms.newOwn ho h.nq h.fq.lt, impl_GiftTerms.newOwn ho h.np h.fp.lt, impl_GiftTerms.newOwn ho h.nw h.fw.lt, impl_GiftTerms.newOwn ho h.nx h.fx.lt, impl_GiftTerms.newOwn ho h.nv h.fv.lt, impl_GiftTerms.newOwn ho h.ne h.fe.lt, fun ad e hl => impl_GiftTerms.newOwn ho (h.ap ad e hl) (impl_GiftTerms.rowLt h.rp e hl), fun ad e hl => impl_GiftTerms.newOwn ho (h.ax ad e hl) (impl_GiftTerms.rowLt h.rx e hl), h.n0, Nat.lt_of_lt_of_le h.lt hk.1⟩
/-- The box holds a row, and these are its numbers. -/
def impl_GiftTerms.Out (n0 Bs : Nat) (own : Option Nat) (s : List Int) (w : World) : Prop := ∃ v, Boxed w Bs 34 v ∧ v.ownBlock = own ∧ Kd.R (Kd.int .i64) 3 w n0 (fun _ => True) v s
theorem impl_GiftTerms.Out.below {n0 Bs : Nat} {own : Option Nat} {s : List Int} {w W : World} (h : impl_GiftTerms.Out n0 Bs own s w) (hb : Below w.heap.size w W) : impl_GiftTerms.Out n0 Bs own s W := by
  obtain ⟨v, h1, h2, h3⟩ := h
  exact ⟨v, (hb.block Bs h1.lt).trans h1, h2, Kd.R_step h3 (fun k _ hk => hb.block k hk)⟩
theorem impl_GiftTerms.later {o1 o2 o3 : Option Nat} {n m : Nat} (h : o2 = o1 ∨ ∃ b, o2 = some b ∧ n ≤ b) (h2 : o3 = o2 ∨ ∃ b, o3 = some b ∧ m ≤ b) (hm : n ≤ m) : o3 = o1 ∨ ∃ b, o3 = some b ∧ n ≤ b := by
  rcases h2 with rfl | ⟨b, rfl, hb⟩
  · exact h
  · exact .inr ⟨b, rfl, by omega⟩
theorem impl_GiftTerms.made {W : World} {base g cap : Nat} {cl : List Int} {z : Int} (h : W.ownsRow base 3 1 (.slice (some ⟨g, 0, none⟩) (cl.length + 1) cap) (cl.length + 1) (encs (Value.int .i64) cl ++ [.int .i64 z])) : cl.length + 1 ≤ cap ∧ base ≤ g ∧ Kd.C (Kd.int .i64) W (some ⟨g, 0, none⟩) (cl ++ [z]).length (cl ++ [z]) := by
  have e : (cl ++ [z]).length = cl.length + 1 := by simp
  have hR : Kd.R (Kd.int .i64) 3 W base (fun _ => True) (.slice (some ⟨g, 0, none⟩) (cl ++ [z]).length cap) (cl ++ [z]) := Kd.R_of_own (by rw [e, encs_append]; exact h) (fun _ _ => trivial)
  obtain ⟨_, h2, h3⟩ := Kd.R_reads' hR
  rw [e] at h2
  exact ⟨h2, Kd.R_base hR g (by simp [Value.ownBlock]), h3⟩
theorem impl_GiftTerms.newsB {W w1 : World} {z : Value} {t : TypeId} (h : Below (W.alloc (.cells #[z] t)).heap.size (W.alloc (.cells #[z] t)) w1) : ∀ j u, [z][j]? = some u → w1.cell? ((⟨W.heap.size, 0, none⟩ : Addr).add j) = some u := fun j u hj =>
  (h.cell (p := (⟨W.heap.size, 0, none⟩ : Addr).add j) (by rw [add_block]; simp)).trans (cell_one_new W z t j u hj)
theorem impl_GiftTerms.beyondA {wr w1 w2 : World} {nd base : Nat} {o : Obj} {vC : Value} {cl : List Int} (hC : Kd.R (Kd.int .i64) 3 w1 base (fun _ => True) vC cl) (hcb : Below (wr.drewN nd).drew.heap.size (wr.drewN nd).drew w1) (hbase : wr.heap.size ≤ base) (hg : (w1.alloc o).grownBy w2 vC.ownBlock) : Below wr.heap.size wr w2 := by
  have h0 : Below wr.heap.size wr (wr.drewN nd).drew := (pw_below_drewN (Below.refl wr.heap.size wr) nd).drew
  have h1 : Below wr.heap.size wr w1 := h0.trans hcb
  exact Below.grown (h1.alloc h1.size o) hg (by have := h1.size; simp; omega) (fun k hk => Nat.le_trans hbase (Kd.R_base hC k hk))
theorem impl_GiftTerms.beyondB {wr w1 w2 : World} {nd base : Nat} {o : Obj} {vC : Value} {cl : List Int} (hC : Kd.R (Kd.int .i64) 3 w1 base (fun _ => True) vC cl) (hcb : Below ((wr.drewN nd).drew.alloc o).heap.size ((wr.drewN nd).drew.alloc o) w1) (hbase : wr.heap.size ≤ base) (hg : w1.grownBy w2 vC.ownBlock) : Below wr.heap.size wr w2 := by
  have h0 : Below wr.heap.size wr (wr.drewN nd).drew := (pw_below_drewN (Below.refl wr.heap.size wr) nd).drew
  have h1 : Below wr.heap.size wr w1 := (h0.alloc (Nat.le_refl _) o).trans (hcb.mono (below_alloc (Below.refl _ (wr.drewN nd).drew) _).size)
  exact Below.grown h1 hg h1.size (fun k hk => Nat.le_trans hbase (Kd.R_base hC k hk))
theorem impl_GiftTerms.Out.lt {n0 Bs : Nat} {own : Option Nat} {s : List Int} {w : World} (h : impl_GiftTerms.Out n0 Bs own s w) : ∀ k, own = some k → k < w.heap.size := by
  obtain ⟨v, h1, h2, h3⟩ := h
  intro k hk
  exact Kd.R_lt h3 k (h2.trans hk)
theorem impl_GiftTerms.Out.drewN {n0 Bs : Nat} {own : Option Nat} {s : List Int} {w : World} (h : impl_GiftTerms.Out n0 Bs own s w) (m : Nat) : impl_GiftTerms.Out n0 Bs own s (w.drewN m) := h.below (pw_below_drewN (Below.refl _ _) m)
set_option maxHeartbeats 8000000 in
set_option maxRecDepth 100000 in
theorem impl_GiftTerms.ext (k n0 Bg Bq Bp Bw Bs Bx Bv Be : Nat) (Ap Ax : Option Addr) (cp cx : Nat) (pw x : List Int) (a b p q : Int) (hx4 : x.length ≤ 4) : ∀ (d : Nat) (used : Int) (Ao : Option Addr) (co : Nat) (order : List Int) (s r : List Int) (own : Option Nat) (w : World), impl_GiftTerms.St n0 Bg Bq Bp Bw Bs Bx Bv Be Ap Ax cp cx pw x a b p q own w → impl_GiftTerms.Out n0 Bs own s w → order.length + d = x.length → Kd.C (Kd.int .i64) w Ao order.length order → order.length ≤ co → (∀ ad, Ao = some ad → 0 < order.length → ad.block ≠ Bs ∧ own ≠ some ad.block) → impl_GiftTerms.e k pw x a b p q d used order s = some r →
    Calls Try.prog 112 #[.int .i64 used, .slice Ao order.length co, .pointer (some ⟨Bx, 0, none⟩), .pointer (some ⟨Bv, 0, none⟩), .pointer (some ⟨Be, 0, none⟩)] w fun e w' => e = .returned (.tuple #[]) ∧ ∃ own', (own' = own ∨ ∃ b, own' = some b ∧ w.heap.size ≤ b) ∧ KeepBut w w' Bs own ∧ Below n0 w w' ∧ impl_GiftTerms.Out n0 Bs own' r w' := by
  obtain ⟨i0, hi0, hz0, hz1, hz2⟩ := info_parts info3
  have done : ∀ (used : Int) (Ao : Option Addr) (co : Nat) (order : List Int) (s r : List Int) (own : Option Nat) (w : World), impl_GiftTerms.St n0 Bg Bq Bp Bw Bs Bx Bv Be Ap Ax cp cx pw x a b p q own w → impl_GiftTerms.Out n0 Bs own s w → order.length = x.length → Kd.C (Kd.int .i64) w Ao order.length order → impl_GiftTerms.one k pw a b p q order s = some r →
      Calls Try.prog 112 #[.int .i64 used, .slice Ao order.length co, .pointer (some ⟨Bx, 0, none⟩), .pointer (some ⟨Bv, 0, none⟩), .pointer (some ⟨Be, 0, none⟩)] w fun e w' => e = .returned (.tuple #[]) ∧ ∃ own', (own' = own ∨ ∃ b, own' = some b ∧ w.heap.size ≤ b) ∧ KeepBut w w' Bs own ∧ Below n0 w w' ∧ impl_GiftTerms.Out n0 Bs own' r w' := by
    intro used Ao co order s r own w hS hs hl ho h
    unfold impl_GiftTerms.one at h
    obtain ⟨z, h1, h2⟩ := Option.bind_eq_some_iff.mp h
    by_cases cm : s.length < 17592186044416
    case neg => rw [if_neg cm] at h2; exact absurd h2 (by simp)
    rw [if_pos cm] at h2
    obtain rfl := Option.some.inj h2
    obtain ⟨v, o1, o2, o3⟩ := hs
    subst o2
    have A1 := Aside0.mk h1
    have HS := Aside0.mk hS
    have HO := Aside0.mk ho
    have HB := Aside0.mk o1
    have HR := Aside0.mk o3
    have CM := Aside0.mk cm
    clear h h1 h2 ho o1 o3 cm
    have hbx := hS.fx.cell
    have hbv := hS.fv.cell
    clear hS
    have HL := Aside0.mk hl
    have cb : ((order.length : Int) == (x.length : Int)) = true := beq_iff_eq.mpr (by omega)
    clear hl
    go_enter Try.func112, Try.ntmps112
    go_wp2_with (first | (go_at_call 81; (with_reducible refine (impl_GiftTerms.visit k n0 Bg Bq Bp Bw Bs Ap cp pw a b p q Ao co order v s z _ HS.out.g0 HS.out.g1 HS.out.fq HS.out.fp HS.out.fw HB.out HR.out HS.out.n0 HS.out.rp (by have := HL.out; omega) HO.out CM.out A1.out).mono ?_); rintro e w' ⟨rfl, v', q1, q2, q3, q4, q5⟩))
    refine bodyPost_ret (results_none rfl _ _ _) rfl ?_
    exact ⟨rfl, v'.ownBlock, q5, q3, q4, v', q1, rfl, q2⟩
  intro d
  induction d with
  | zero =>
    intro used Ao co order s r own w hS hs hl ho hco haA h
    unfold impl_GiftTerms.e at h
    rw [if_pos (by omega)] at h
    exact done used Ao co order s r own w hS hs (by omega) ho h
  | succ d ih =>
    intro used Ao co order s r own w hS hs hl ho hco haA h
    unfold impl_GiftTerms.e at h
    rw [if_neg (by omega)] at h
    have HL := Aside0.mk hl
    have HO := Aside0.mk ho
    have HCO := Aside0.mk hco
    have HA := Aside0.mk haA
    have HS := Aside0.mk hS
    have HB := Aside0.mk hs
    have HG := Aside0.mk h
    have hbx := hS.fx.cell
    have cb : ((order.length : Int) == (x.length : Int)) = false := beq_eq_false_iff_ne.mpr (by omega)
    have ih2 : ∀ (used : Int) (Ao : Option Addr) (co n : Nat) (order : List Int) (s r : List Int) (own : Option Nat) (w : World), n = order.length → impl_GiftTerms.St n0 Bg Bq Bp Bw Bs Bx Bv Be Ap Ax cp cx pw x a b p q own w → impl_GiftTerms.Out n0 Bs own s w → order.length + d = x.length → Kd.C (Kd.int .i64) w Ao order.length order → order.length ≤ co → (∀ ad, Ao = some ad → 0 < order.length → ad.block ≠ Bs ∧ own ≠ some ad.block) → impl_GiftTerms.e k pw x a b p q d used order s = some r → Calls Try.prog 112 #[.int .i64 used, .slice Ao n co, .pointer (some ⟨Bx, 0, none⟩), .pointer (some ⟨Bv, 0, none⟩), .pointer (some ⟨Be, 0, none⟩)] w fun e w' => e = .returned (.tuple #[]) ∧ ∃ own', (own' = own ∨ ∃ b, own' = some b ∧ w.heap.size ≤ b) ∧ KeepBut w w' Bs own ∧ Below n0 w w' ∧ impl_GiftTerms.Out n0 Bs own' r w' := fun used Ao co n order s r own w hn => by subst hn; exact ih used Ao co order s r own w
    clear ih done ho hco haA hS hs h hl
    go_enter Try.func112, Try.ntmps112
    go_wp2
    go_loopw [19] (fun v19 wr => ∃ (i : Nat) (s' : List Int) (own' : Option Nat), i ≤ x.length ∧ v19 = .int .i64 i ∧ (own' = own ∨ ∃ b, own' = some b ∧ w.heap.size ≤ b) ∧ KeepBut w wr Bs own ∧ Below n0 w wr ∧ impl_GiftTerms.Out n0 Bs own' s' wr ∧ impl_GiftTerms.go (impl_GiftTerms.e k pw x a b p q d) used order (x.drop i) i s' = some r) (fun v19 _ => x.length - (intOf v19).toNat)
    case atStart => exact ⟨0, s, own, Nat.zero_le _, rfl, .inl rfl, KeepBut.refl _ _ _, Below.refl _ _, HB.out, HG.out⟩
    case round =>
      clear HG HB
      obtain ⟨i, s', own', hi, rfl, hown', hk, hb, hs, hg⟩ := hrel
      have HQ := Aside0.mk hg
      have HK := Aside0.mk hk
      have HW := Aside0.mk hb
      have HB := Aside0.mk hs
      have HT := Aside0.mk (HS.out.keep hk hown')
      have HOW := Aside0.mk hown'
      have HOL := Aside0.mk hs.lt
      clear hg hk hb hs hbx hown'
      have HN : n0 ≤ wr.heap.size := by have := HT.out.n0; have := HT.out.lt; omega
      by_cases hlt : i < x.length
      · have e1 : x.drop i = x.getD i 0 :: x.drop (i + 1) := by
          rw [List.drop_eq_getElem_cons hlt]; simp [List.getD_eq_getElem?_getD, hlt]
        have H := HQ.out
        rw [e1] at H
        unfold impl_GiftTerms.go at H
        obtain ⟨hh, A1, H⟩ := Option.bind_eq_some_iff.mp H
        have A2 := Aside0.mk A1
        clear A1 HQ e1
        have p1 : (0 : Int) ≤ (i : Int) := by omega
        have q1 : (i : Int) < (x.length : Int) := by omega
        obtain ⟨ad1, e1, hx1⟩ := Kd.at_int HT.out.rx (i : Int) p1 q1
        cases e1
        replace hx1 : wr.cell? (ad1.add i) = some (.int .i64 (x.getD i 0)) := hx1
        replace q1 := eq_true q1
        replace p1 := eq_true p1
        generalize x.getD i 0 = z at hx1 H
        by_cases ch : hh = true
        · subst ch
          rw [if_pos rfl] at H
          have H' := Aside0.mk H
          clear H
          go_wp2_with (first | (go_at_call 113; (with_reducible refine (impl_has.calls used (i : Int) true _ A2.out).mono ?_); rintro e w' ⟨rfl, ⟨nd, rfl⟩⟩))
          go_roundw
          case rel => exact ⟨i + 1, s', own', by omega, by simp, HOW.out, keep_drewN HK.out nd, pw_below_drewN HW.out nd, HB.out.drewN nd, H'.out⟩
          case measure => simp [intOf]; omega
        · replace ch := Bool.eq_false_iff.mpr ch
          subst ch
          rw [if_neg (by decide)] at H
          obtain ⟨cl, A3, H⟩ := Option.bind_eq_some_iff.mp H
          by_cases cm : cl.length < 17592186044416
          · rw [if_pos cm] at H
            obtain ⟨s2, A4, H⟩ := Option.bind_eq_some_iff.mp H
            have B3 := Aside0.mk A3
            have B4 := Aside0.mk A4
            have H' := Aside0.mk H
            have CM := Aside0.mk cm
            clear H A3 A4 cm
            go_wp2_with (first | (go_at_call 113; (with_reducible refine (impl_has.calls used (i : Int) false _ A2.out).mono ?_); rintro e w' ⟨rfl, ⟨nd, rfl⟩⟩))
            have he := (impl_GiftTerms.blk_drewN HT.out.fe nd).cell
            have hel : Be < wr.heap.size := HT.out.fe.lt
            have hcl : cl.length = order.length := by
              have e_ := B3.out
              unfold slices_Clone_int_int.f at e_
              simp only [Option.bind_some, List.nil_append] at e_
              split at e_
              · rw [← Option.some.inj e_]
              · exact absurd e_ (by simp)
            have HCL := Aside0.mk hcl
            clear hcl
            have HOr := Aside0.mk (impl_GiftTerms.keepC HO.out HK.out HA.out)
            go_region_held3 (fun w' => w'.cell? ⟨Be, 0, none⟩ = some (.func (.func 112) #[] #[.pointer (some ⟨Bx, 0, none⟩), .pointer (some ⟨Bv, 0, none⟩), .pointer (some ⟨Be, 0, none⟩)])) (first | exact he | exact (hcb.cell (p := ⟨Be, 0, none⟩) (Nat.lt_of_lt_of_le hel (below_alloc (Below.refl _ (wr.drewN (nd + 1))) _).size)).trans (Boxed.alloc (impl_GiftTerms.blk_drewN HT.out.fe (nd + 1)) _).cell | exact (Boxed.alloc (impl_GiftTerms.blk_drewN HT.out.fe (nd + 1)) _).cell | exact ((HT.out.keep (KeepBut.of_below HY Bs _) (.inl rfl)).keep hk3 ho3).fe.cell | exact Boxed.cell (W := w2) ((HY.block Be hel).trans HT.out.fe) | exact (hcb.cell (p := ⟨Be, 0, none⟩) (by first | exact hel | (simp; omega))).trans he | go_keep)
              (first
                | (go_at_call 112; refine (ih2 _ (some ⟨g, 0, none⟩) cap _ (cl ++ [z]) s' s2 own' _ (by rw [List.length_append, List.length_singleton]) (HT.out.keep (KeepBut.of_below HY Bs _) (.inl rfl)) (HB.out.below HY) (by have := HL.out; have := HCL.out; rw [List.length_append, List.length_singleton]; omega) (impl_GiftTerms.made hown).2.2 (by have := (impl_GiftTerms.made hown).1; rw [List.length_append, List.length_singleton]; omega) (by intro ad e_ _; cases e_; have q_ := (impl_GiftTerms.made hown).2.1; have z_ := HT.out.lt; have y_ := HOL.out g; simp at q_; refine ⟨?_, fun e_ => ?_⟩; (show g ≠ Bs; omega); (have := y_ e_; omega)) B4.out).mono ?_; rintro e w3 ⟨rfl, own3, ho3, hk3, hb3, hs3⟩)
                | (go_at_call 109; refine (slices_Clone_int_int.calls Ao co order cl _ (by repeat (first | exact HOr.out | (with_reducible refine Kd.C_alloc ?_ _) | (with_reducible refine Kd.C_drewN ?_ _) | (with_reducible refine Kd.C_drew ?_))) HCO.out B3.out).mono ?_; rintro e w1 ⟨vC, rfl, hC, hcb⟩)
                | (refine step_append_lies _ (by rfl) _ _ _ (by rfl) _ 3 i0 _ 1 8 Try.underlying34 hi0 hz0 hz1 hz2 rfl (by omega) vC cl.length _ (by rfl) ((Kd.own_of_R hC).alloc _) ⟨w1.heap.size, 0, none⟩ 1 1 [.int .i64 z] (by rfl) (by rfl) (World.news_of_block (cs := #[.int .i64 z]) (t := 3) (fr := (0, 0)) (heap_alloc_new w1 _)) (by simp [Value.oneCell']) (by omega) (by have := CM.out; simp only [maxLen]; omega) (by have := CM.out; omega) (by have := hcb.size; simp at this ⊢; omega) (w1.heap.size + 1) (by simp) ?_; intro g cap w2 hown hgrow hat hlt; have HY := impl_GiftTerms.beyondA hC hcb (Nat.le_refl _) hgrow)
                | (refine step_append_lies _ (by rfl) _ _ _ (by rfl) _ 3 i0 _ 1 8 Try.underlying34 hi0 hz0 hz1 hz2 rfl (by omega) vC cl.length _ (by rfl) (Kd.own_of_R hC) ⟨wr.heap.size, 0, none⟩ 1 1 [.int .i64 z] (by rfl) (by rfl) (impl_GiftTerms.newsB (W := wr.drewN (nd + 1)) hcb) (by simp [Value.oneCell']) (by omega) (by have := CM.out; simp only [maxLen]; omega) (by have := CM.out; omega) hcb.size w1.heap.size rfl ?_; intro g cap w2 hown hgrow hat hlt; have HY := impl_GiftTerms.beyondB (nd := nd) hC hcb (below_alloc (Below.refl _ (wr.drewN nd).drew) _).size hgrow))
            · go_wp2
              go_roundw
              case rel => exact ⟨i + 1, s2, own3, by omega, by simp, impl_GiftTerms.later HOW.out ho3 (Nat.le_trans HK.out.1 HY.size), (HK.out.trans (KeepBut.of_below HY Bs own) (.inl rfl)).trans hk3 HOW.out, (HW.out.trans (HY.mono HN)).trans hb3, hs3, H'.out⟩
              case measure => simp [intOf]; omega
            · go_wp2
              go_roundw
              case rel => exact ⟨i + 1, s2, own3, by omega, by simp, impl_GiftTerms.later HOW.out ho3 (Nat.le_trans HK.out.1 HY.size), (HK.out.trans (KeepBut.of_below HY Bs own) (.inl rfl)).trans hk3 HOW.out, (HW.out.trans (HY.mono HN)).trans hb3, hs3, H'.out⟩
              case measure => simp [intOf]; omega
          · rw [if_neg cm] at H; exact absurd H (by simp)
      · obtain rfl : i = x.length := by omega
        have H := HQ.out
        rw [List.drop_length] at H
        obtain rfl := Option.some.inj H
        clear H HQ
        go_wp2
        go_end0
        exact ⟨rfl, own', HOW.out, HK.out, HW.out, HB.out⟩
set_option maxHeartbeats 8000000 in
set_option maxRecDepth 100000 in
theorem impl_GiftTerms.orders (k n0 Bg Bq Bp Bw Bs : Nat) (Ap Ax : Option Addr) (cp cx : Nat) (pw x : List Int) (a b p q : Int) (s r : List Int) (own : Option Nat) (w : World) (hx4 : x.length ≤ 4) (hG0 : w.cell? ⟨Bg, 0, none⟩ = some (.int .i64 a)) (hG1 : w.cell? ⟨Bg, 1, none⟩ = some (.int .i64 b)) (hQ : Boxed w Bq 3 (.int .i64 q)) (hP : Boxed w Bp 3 (.int .i64 p)) (hW : Boxed w Bw 34 (.slice Ap pw.length cp)) (hS : impl_GiftTerms.Out n0 Bs own s w) (hpw : Kd.C (Kd.int .i64) w Ap pw.length pw) (hpx : Kd.C (Kd.int .i64) w Ax x.length x) (ng : Bg ≠ Bs ∧ own ≠ some Bg) (nq : Bq ≠ Bs ∧ own ≠ some Bq) (np : Bp ≠ Bs ∧ own ≠ some Bp) (nw : Bw ≠ Bs ∧ own ≠ some Bw) (hn : n0 ≤ Bs) (hlt : Bs < w.heap.size) (hap : ∀ ad, Ap = some ad → 0 < pw.length → ad.block ≠ Bs ∧ own ≠ some ad.block) (hax : ∀ ad, Ax = some ad → 0 < x.length → ad.block ≠ Bs ∧ own ≠ some ad.block) (h : impl_GiftTerms.e k pw x a b p q x.length 0 [] s = some r) :
    Calls Try.prog 80 #[.slice Ax x.length cx, .func (.func 81) #[] #[.pointer (some ⟨Bg, 0, none⟩), .pointer (some ⟨Bq, 0, none⟩), .pointer (some ⟨Bp, 0, none⟩), .pointer (some ⟨Bw, 0, none⟩), .pointer (some ⟨Bs, 0, none⟩)]] w fun e w' => e = .returned (.tuple #[]) ∧ ∃ own', (own' = own ∨ ∃ b, own' = some b ∧ w.heap.size ≤ b) ∧ KeepBut w w' Bs own ∧ Below n0 w w' ∧ impl_GiftTerms.Out n0 Bs own' r w' := by
  have HOL := Aside0.mk hS.lt
  have HG0 := Aside0.mk hG0
  have HG1 := Aside0.mk hG1
  have HQ := Aside0.mk hQ
  have HW := Aside0.mk hW
  have HP := Aside0.mk hP
  have HS := Aside0.mk hS
  have HPW := Aside0.mk hpw
  have HPX := Aside0.mk hpx
  have HH := Aside0.mk h
  clear hG0 hG1 hQ hW hP hS hpw hpx h
  obtain ⟨o1, ho1⟩ : ∃ o, o = Obj.cells #[Value.slice Ax x.length cx] 34 := ⟨_, rfl⟩
  obtain ⟨o2, ho2⟩ : ∃ o, o = Obj.cells #[Value.func (Fn.func 81) #[] #[Value.pointer (some { block := Bg, off := 0 }), Value.pointer (some { block := Bq, off := 0 }), Value.pointer (some { block := Bp, off := 0 }), Value.pointer (some { block := Bw, off := 0 }), Value.pointer (some { block := Bs, off := 0 })]] 78 := ⟨_, rfl⟩
  have b1 : Boxed (w.alloc o1) w.heap.size 34 (.slice Ax x.length cx) := by rw [ho1]; exact Boxed.new w 34 _
  have b2 : Boxed ((w.alloc o1).alloc o2) (w.heap.size + 1) 78 (.func (.func 81) #[] #[.pointer (some ⟨Bg, 0, none⟩), .pointer (some ⟨Bq, 0, none⟩), .pointer (some ⟨Bp, 0, none⟩), .pointer (some ⟨Bw, 0, none⟩), .pointer (some ⟨Bs, 0, none⟩)]) := by
    have := Boxed.new (w.alloc o1) 78 (.func (.func 81) #[] #[.pointer (some ⟨Bg, 0, none⟩), .pointer (some ⟨Bq, 0, none⟩), .pointer (some ⟨Bp, 0, none⟩), .pointer (some ⟨Bw, 0, none⟩), .pointer (some ⟨Bs, 0, none⟩)])
    rw [ho2]; simpa using this
  have b3 : Boxed (((w.alloc o1).alloc o2).alloc (.cells #[.nilFunc] 94)) (w.heap.size + 1 + 1) 94 .nilFunc := by
    have := Boxed.new ((w.alloc o1).alloc o2) 94 .nilFunc
    simpa using this
  have hc3 := b3.cell
  have hf3 := b3.frozen
  obtain ⟨u, hu⟩ : ∃ u, u = Value.func (Fn.func 112) #[] #[Value.pointer (some { block := w.heap.size, off := 0 }), Value.pointer (some { block := w.heap.size + 1, off := 0 }), Value.pointer (some { block := w.heap.size + 1 + 1, off := 0 })] := ⟨_, rfl⟩
  obtain ⟨W4, hW4⟩ : ∃ W4, W4 = ((w.alloc o1).alloc o2).alloc (.cells #[u] 94) := ⟨_, rfl⟩
  have HY : Below w.heap.size w W4 := by
    have h1 := (Below.refl w.heap.size w).alloc (Nat.le_refl _) o1
    have h2 := h1.alloc h1.size o2
    rw [hW4]
    exact h2.alloc h2.size _
  have HT : impl_GiftTerms.St n0 Bg Bq Bp Bw Bs w.heap.size (w.heap.size + 1) (w.heap.size + 1 + 1) Ap Ax cp cx pw x a b p q own W4 := by
    refine ⟨(HY.cell (World.block_lt_of_cell? w _ HG0.out)).trans HG0.out, (HY.cell (World.block_lt_of_cell? w _ HG1.out)).trans HG1.out, (HY.block Bq HQ.out.lt).trans HQ.out, (HY.block Bp HP.out.lt).trans HP.out, (HY.block Bw HW.out.lt).trans HW.out, ?_, ?_, ?_, Kd.C_below HPW.out HY, Kd.C_below HPX.out HY, ng, nq, np, nw, ⟨by omega, fun e => by have := HOL.out _ e; omega⟩, ⟨by omega, fun e => by have := HOL.out _ e; omega⟩, ⟨by omega, fun e => by have := HOL.out _ e; omega⟩, hap, hax, hn, Nat.lt_of_lt_of_le hlt HY.size⟩
    · rw [hW4]; exact (b1.alloc o2).alloc _
    · rw [hW4]; exact b2.alloc _
    · rw [hW4]
      have := Boxed.new ((w.alloc o1).alloc o2) 94 u
      rw [← hu]
      simpa using this
  have HA := Aside0.mk HT
  have HZ := Aside0.mk HY
  have HU := Aside0.mk (HS.out.below HY)
  have HLT := Aside0.mk hlt
  clear HT HY b1 b2 b3 hlt
  subst hW4
  subst hu
  subst ho1
  subst ho2
  go_enter Try.func80, Try.ntmps80
  go_wp2_with (first | (go_at_call 112; refine (impl_GiftTerms.ext k n0 Bg Bq Bp Bw Bs _ _ _ Ap Ax cp cx pw x a b p q hx4 x.length 0 none 0 [] s r own _ HA.out HU.out (by simp) (Kd.C_nil _ _) (Nat.le_refl _) (fun _ h_ => by cases h_) HH.out).mono ?_; rintro e w' ⟨rfl, own', ho, hk, hb, hs⟩))
  go_end0
  exact ⟨rfl, own', impl_GiftTerms.later (.inl rfl) ho HZ.out.size, (KeepBut.of_below HZ.out Bs own).trans hk (.inl rfl), (HZ.out.mono (by have := HLT.out; omega)).trans hb, hs⟩
theorem impl_GiftTerms.five {w3 W : World} {a1 a2 a3 a4 a5 : Addr} {v1 v2 v3 v4 v5 : Value} (h : Below w3.heap.size w3 W) (h1 : w3.cell? a1 = some v1) (h2 : w3.cell? a2 = some v2) (h3 : w3.cell? a3 = some v3) (h4 : w3.cell? a4 = some v4) (h5 : w3.cell? a5 = some v5) : W.cell? a1 = some v1 ∧ W.cell? a2 = some v2 ∧ W.cell? a3 = some v3 ∧ W.cell? a4 = some v4 ∧ W.cell? a5 = some v5 :=
  ⟨(h.cell (World.block_lt_of_cell? _ _ h1)).trans h1, (h.cell (World.block_lt_of_cell? _ _ h2)).trans h2, (h.cell (World.block_lt_of_cell? _ _ h3)).trans h3, (h.cell (World.block_lt_of_cell? _ _ h4)).trans h4, (h.cell (World.block_lt_of_cell? _ _ h5)).trans h5⟩
theorem impl_GiftTerms.newB {W : World} {B : Nat} {t : TypeId} {v : Value} (h : B = W.heap.size) : Boxed (W.alloc (.cells #[v] t)) B t v := by subst h; exact Boxed.new W t v
theorem impl_GiftTerms.drewB {W : World} {B : Nat} {t : TypeId} {v : Value} (h : Boxed W B t v) : Boxed W.drew B t v := h
theorem impl_GiftTerms.newO {W : World} {n0 B g : Nat} (hB : Boxed W B 34 (.slice (some ⟨g, 0, none⟩) 0 0)) (hg : W.heap[g]? = some (.cells #[] 3 (0, 0))) (hn : n0 ≤ g) : impl_GiftTerms.Out n0 B (some g) [] W :=
  ⟨_, hB, rfl, Kd.R_of_own ⟨rfl, .inr ⟨g, 0, #[], rfl, hn, hg, Nat.le_refl _, by decide, rfl, rfl⟩⟩ (fun _ _ => trivial)⟩
theorem impl_GiftTerms.hpNew {W : World} {o : Obj} {g : Nat} (h : g = W.heap.size) : (W.alloc o).heap[g]? = some o := by
  subst h
  show (W.heap.push o)[W.heap.size]? = some o
  simp
theorem impl_GiftTerms.hpOld {W : World} {g : Nat} {u : Obj} (h : W.heap[g]? = some u) (o : Obj) : (W.alloc o).heap[g]? = some u := by
  obtain ⟨hl, e⟩ := Array.getElem?_eq_some_iff.mp h
  show (W.heap.push o)[g]? = some u
  rw [Array.getElem?_push, if_neg (Nat.ne_of_lt hl)]
  exact h
theorem impl_GiftTerms.hpDrew {W : World} {g : Nat} {u : Obj} (h : W.heap[g]? = some u) : W.drew.heap[g]? = some u := h
theorem impl_GiftTerms.hpDrewN {W : World} {g : Nat} {u : Obj} (h : W.heap[g]? = some u) (m : Nat) : (W.drewN m).heap[g]? = some u := by
  have : (W.drewN m).heap = W.heap := rfl
  rw [this]; exact h
/-- The orders, from a world behind which only boxes and an empty row were made. -/
theorem impl_GiftTerms.orders0 (k : Nat) {w3 W : World} {Bg Bq Bp Bw Bs : Nat} {ap1 : Addr} {Ax : Option Addr} {cp cx : Nat} {pw x : List Int} {a b p q : Int} {r : List Int} (hx4 : x.length ≤ 4) (c40 : w3.cell? ⟨Bg, 0, none⟩ = some (.int .i64 a)) (c41 : w3.cell? ⟨Bg, 1, none⟩ = some (.int .i64 b)) (b3 : Boxed w3 Bw 34 (.slice (some ap1) pw.length cp)) (d0 : Kd.C (Kd.int .i64) w3 (some ap1) pw.length pw) (dx : Kd.C (Kd.int .i64) w3 Ax x.length x) (hY : Below w3.heap.size w3 W) (hQ : Boxed W Bq 3 (.int .i64 q)) (hP : Boxed W Bp 3 (.int .i64 p)) (hO : ∃ g, Boxed W Bs 34 (.slice (some ⟨g, 0, none⟩) 0 0) ∧ W.heap[g]? = some (.cells #[] 3 (0, 0)) ∧ w3.heap.size ≤ g ∧ g ≠ Bs ∧ g ≠ Bq ∧ g ≠ Bp) (hs : w3.heap.size ≤ Bs ∧ Bq ≠ Bs ∧ Bp ≠ Bs) (h : impl_GiftTerms.e k pw x a b p q x.length 0 [] [] = some r) :
    Calls Try.prog 80 #[.slice Ax x.length cx, .func (.func 81) #[] #[.pointer (some ⟨Bg, 0, none⟩), .pointer (some ⟨Bq, 0, none⟩), .pointer (some ⟨Bp, 0, none⟩), .pointer (some ⟨Bw, 0, none⟩), .pointer (some ⟨Bs, 0, none⟩)]] W fun e w' => e = .returned (.tuple #[]) ∧ ∃ v, Boxed w' Bs 34 v ∧ Below w3.heap.size w3 w' ∧ Kd.R (Kd.int .i64) 3 w' w3.heap.size (fun _ => True) v r := by
  obtain ⟨g, hB, hg, n1, n2, n3, n4⟩ := hO
  have l1 := World.block_lt_of_cell? _ _ c40
  have l2 := b3.lt
  have l3 := hB.lt
  have f := impl_GiftTerms.five hY c40 c41 b3.cell b3.cell b3.cell
  have l1' : Bg < w3.heap.size := l1
  refine (impl_GiftTerms.orders k w3.heap.size Bg Bq Bp Bw Bs (some ap1) Ax cp cx pw x a b p q [] r (some g) W hx4 f.1 f.2.1 hQ hP ((hY.block Bw l2).trans b3) (impl_GiftTerms.newO hB hg n1) (Kd.C_below d0 hY) (Kd.C_below dx hY) ⟨by omega, fun e => by cases e; omega⟩ ⟨hs.2.1, fun e => by cases e; exact n3 rfl⟩ ⟨hs.2.2, fun e => by cases e; exact n4 rfl⟩ ⟨by omega, fun e => by cases e; omega⟩ hs.1 l3 (fun ad e hl => ?_) (fun ad e hl => ?_) h).mono ?_
  · have := impl_GiftTerms.rowLt d0 e hl
    exact ⟨by omega, fun e => by injection e with e; omega⟩
  · have := impl_GiftTerms.rowLt dx e hl
    exact ⟨by omega, fun e => by injection e with e; omega⟩
  · rintro e w' ⟨rfl, own', _, _, hb, v, hv, _, hr⟩
    exact ⟨rfl, v, hv, hY.trans hb, hr⟩
set_option maxHeartbeats 8000000 in
set_option maxRecDepth 100000 in
theorem impl_GiftTerms.calls (k : Nat) (A0 : Option Addr) (c0 : Nat) (l0 : List Int) (a1_0 : Int) (a1_1 : Int) (a1_2 : Int) (A2 : Option Addr) (c2 : Nat) (l2 : List Int) (r1 : List Int) (r2 : Bool) (w : World) (hr0 : Kd.C (Kd.int .i64) w A0 l0.length l0) (hc0 : l0.length ≤ c0) (hr2 : Kd.C (Kd.int .i64) w A2 l2.length l2) (hc2 : l2.length ≤ c2) (h : impl_GiftTerms.f k l0 a1_0 a1_1 a1_2 l2 = some (r1, r2)) :
    Calls Try.prog 36 #[.slice A0 l0.length c0, .agg #[.int .i64 a1_0, .int .i64 a1_1, .int .i64 a1_2], .slice A2 l2.length c2] w fun e w' => ∃ v0_ : Value, e = .returned (.tuple #[v0_, .bool r2]) ∧ Kd.R (Kd.int .i64) 3 w' w.heap.size (fun _ => True) v0_ r1 ∧ Below w.heap.size w w' := by
  have hu46 := Try.underlying46
  have HR0 := Aside0.mk hr0
  have HC0 := Aside0.mk hc0
  have HR2 := Aside0.mk hr2
  have HC2 := Aside0.mk hc2
  clear hr0 hc0 hr2 hc2
  unfold impl_GiftTerms.f at h
  obtain ⟨t1, P1, h⟩ := Option.bind_eq_some_iff.mp h
  have HP1 := Aside0.mk P1
  clear P1
  by_cases d1 : t1 = true
  case neg =>
    rw [if_neg d1] at h
    replace d1 := Bool.eq_false_iff.mpr d1
    subst d1
    obtain ⟨rfl, rfl⟩ := Prod.mk.inj (Option.some.inj h)
    clear h
    go_enter Try.func36, Try.ntmps36
    go_wp2_with (first | (go_at_call 77; (with_reducible refine (impl_arePowers.calls k _ _ l0 false _ ?side1 HC0.out HP1.out).mono ?_); (case side1 => repeat (first | exact HR0.out | (with_reducible refine Kd.C_alloc ?_ _) | (with_reducible refine Kd.C_drewN ?_ _) | (with_reducible refine Kd.C_drew ?_))); rintro e w' ⟨rfl, ⟨nd, rfl⟩⟩))
    go_ret2
    exact ⟨_, rfl, Kd.R_nil _ _ _ _ _, by repeat (first | (with_reducible first | exact Below.refl _ _ | apply below_alloc | apply pw_below_drewN | apply below_drew1 | refine Below.trans ?_ hb3) | exact Below.refl _ _)⟩
  subst d1
  rw [if_pos rfl] at h
  obtain ⟨t2, P2, h⟩ := Option.bind_eq_some_iff.mp h
  have HP2 := Aside0.mk P2
  clear P2
  by_cases d2 : t2 = true
  case neg =>
    rw [if_neg d2] at h
    replace d2 := Bool.eq_false_iff.mpr d2
    subst d2
    obtain ⟨rfl, rfl⟩ := Prod.mk.inj (Option.some.inj h)
    clear h
    go_enter Try.func36, Try.ntmps36
    go_wp2_with (first | (go_at_call 77; (with_reducible refine (impl_arePowers.calls k _ _ l0 true _ ?side1 HC0.out HP1.out).mono ?_); (case side1 => repeat (first | exact HR0.out | (with_reducible refine Kd.C_alloc ?_ _) | (with_reducible refine Kd.C_drewN ?_ _) | (with_reducible refine Kd.C_drew ?_))); rintro e w' ⟨rfl, ⟨nd, rfl⟩⟩) | (go_at_call 78; (with_reducible refine (impl_areArguments.calls k _ _ l2 false _ ?side1 HC2.out HP2.out).mono ?_); (case side1 => repeat (first | exact HR2.out | (with_reducible refine Kd.C_alloc ?_ _) | (with_reducible refine Kd.C_drewN ?_ _) | (with_reducible refine Kd.C_drew ?_))); rintro e w' ⟨rfl, ⟨nd2, rfl⟩⟩))
    go_ret2
    exact ⟨_, rfl, Kd.R_nil _ _ _ _ _, by repeat (first | (with_reducible first | exact Below.refl _ _ | apply below_alloc | apply pw_below_drewN | apply below_drew1 | refine Below.trans ?_ hb3) | exact Below.refl _ _)⟩
  subst d2
  rw [if_pos rfl] at h
  by_cases d3 : (l0.length : Int) = (l2.length : Int)
  case neg =>
    rw [if_neg d3] at h
    have e3 : ((l0.length : Int) != (l2.length : Int)) = true := by simpa using d3
    clear d3
    obtain ⟨rfl, rfl⟩ := Prod.mk.inj (Option.some.inj h)
    clear h
    go_enter Try.func36, Try.ntmps36
    go_wp2_with (first | (go_at_call 77; (with_reducible refine (impl_arePowers.calls k _ _ l0 true _ ?side1 HC0.out HP1.out).mono ?_); (case side1 => repeat (first | exact HR0.out | (with_reducible refine Kd.C_alloc ?_ _) | (with_reducible refine Kd.C_drewN ?_ _) | (with_reducible refine Kd.C_drew ?_))); rintro e w' ⟨rfl, ⟨nd, rfl⟩⟩) | (go_at_call 78; (with_reducible refine (impl_areArguments.calls k _ _ l2 true _ ?side1 HC2.out HP2.out).mono ?_); (case side1 => repeat (first | exact HR2.out | (with_reducible refine Kd.C_alloc ?_ _) | (with_reducible refine Kd.C_drewN ?_ _) | (with_reducible refine Kd.C_drew ?_))); rintro e w' ⟨rfl, ⟨nd2, rfl⟩⟩))
    go_ret2
    exact ⟨_, rfl, Kd.R_nil _ _ _ _ _, by repeat (first | (with_reducible first | exact Below.refl _ _ | apply below_alloc | apply pw_below_drewN | apply below_drew1 | refine Below.trans ?_ hb3) | exact Below.refl _ _)⟩
  rw [if_pos d3] at h
  have e3 : ((l0.length : Int) != (l2.length : Int)) = false := by rw [d3]; simp
  have HL3 := Aside0.mk d3
  clear d3
  by_cases d4 : a1_2 = 1
  case neg =>
    rw [if_neg d4] at h
    have e4 : (a1_2 != 1) = true := by simpa using d4
    clear d4
    obtain ⟨rfl, rfl⟩ := Prod.mk.inj (Option.some.inj h)
    clear h
    go_enter Try.func36, Try.ntmps36
    go_wp2_with (first | (go_at_call 77; (with_reducible refine (impl_arePowers.calls k _ _ l0 true _ ?side1 HC0.out HP1.out).mono ?_); (case side1 => repeat (first | exact HR0.out | (with_reducible refine Kd.C_alloc ?_ _) | (with_reducible refine Kd.C_drewN ?_ _) | (with_reducible refine Kd.C_drew ?_))); rintro e w' ⟨rfl, ⟨nd, rfl⟩⟩) | (go_at_call 78; (with_reducible refine (impl_areArguments.calls k _ _ l2 true _ ?side1 HC2.out HP2.out).mono ?_); (case side1 => repeat (first | exact HR2.out | (with_reducible refine Kd.C_alloc ?_ _) | (with_reducible refine Kd.C_drewN ?_ _) | (with_reducible refine Kd.C_drew ?_))); rintro e w' ⟨rfl, ⟨nd2, rfl⟩⟩))
    go_ret2
    exact ⟨_, rfl, Kd.R_nil _ _ _ _ _, by repeat (first | (with_reducible first | exact Below.refl _ _ | apply below_alloc | apply pw_below_drewN | apply below_drew1 | refine Below.trans ?_ hb3) | exact Below.refl _ _)⟩
  rw [if_pos d4] at h
  have e4 : (a1_2 != 1) = false := by rw [d4]; rfl
  clear d4
  obtain ⟨t3, P3, h⟩ := Option.bind_eq_some_iff.mp h
  have HP3 := Aside0.mk P3
  clear P3
  by_cases d5 : t3 = true
  case neg =>
    rw [if_neg d5] at h
    replace d5 := Bool.eq_false_iff.mpr d5
    subst d5
    obtain ⟨rfl, rfl⟩ := Prod.mk.inj (Option.some.inj h)
    clear h
    go_enter Try.func36, Try.ntmps36
    go_wp2_with (first | (go_at_call 77; (with_reducible refine (impl_arePowers.calls k _ _ l0 true _ ?side1 HC0.out HP1.out).mono ?_); (case side1 => repeat (first | exact HR0.out | (with_reducible refine Kd.C_alloc ?_ _) | (with_reducible refine Kd.C_drewN ?_ _) | (with_reducible refine Kd.C_drew ?_))); rintro e w' ⟨rfl, ⟨nd, rfl⟩⟩) | (go_at_call 78; (with_reducible refine (impl_areArguments.calls k _ _ l2 true _ ?side1 HC2.out HP2.out).mono ?_); (case side1 => repeat (first | exact HR2.out | (with_reducible refine Kd.C_alloc ?_ _) | (with_reducible refine Kd.C_drewN ?_ _) | (with_reducible refine Kd.C_drew ?_))); rintro e w' ⟨rfl, ⟨nd2, rfl⟩⟩) | (go_at_call 79; (with_reducible refine (impl_isKind.calls _ _ l0 a1_0 a1_1 a1_2 false _ ?side1 HC0.out HP3.out).mono ?_); (case side1 => repeat (first | exact HR0.out | (with_reducible refine Kd.C_alloc ?_ _) | (with_reducible refine Kd.C_drewN ?_ _) | (with_reducible refine Kd.C_drew ?_))); rintro e w3 ⟨rfl, hb3⟩))
    go_ret2
    exact ⟨_, rfl, Kd.R_nil _ _ _ _ _, Below.trans (by repeat (first | (with_reducible first | exact Below.refl _ _ | apply below_alloc | apply pw_below_drewN | apply below_drew1) | exact Below.refl _ _)) (hb3.mono (by simp; try omega))⟩
  subst d5
  rw [if_pos rfl] at h
  by_cases x1 : 0 ≤ a1_0
  case neg => rw [if_neg x1] at h; exact absurd h (by simp)
  rw [if_pos x1] at h
  by_cases x2 : a1_0 < (l0.length : Int)
  case neg => rw [if_neg x2] at h; exact absurd h (by simp)
  rw [if_pos x2] at h
  by_cases y1 : 0 ≤ a1_1
  case neg => rw [if_neg y1] at h; exact absurd h (by simp)
  rw [if_pos y1] at h
  by_cases y2 : a1_1 < (l0.length : Int)
  case neg => rw [if_neg y2] at h; exact absurd h (by simp)
  rw [if_pos y2] at h
  by_cases z4 : l2.length ≤ 4
  case neg => rw [if_neg z4] at h; exact absurd h (by simp)
  rw [if_pos z4] at h
  obtain ⟨r, P4, h⟩ := Option.bind_eq_some_iff.mp h
  have HP4 := Aside0.mk P4
  have HZ4 := Aside0.mk z4
  clear P4 z4
  obtain ⟨rfl, rfl⟩ := Prod.mk.inj (Option.some.inj h)
  clear h
  obtain ⟨ad1, q1, hx1⟩ := Kd.at_int HR0.out a1_0 x1 x2
  obtain ⟨ad2, q2, hx2⟩ := Kd.at_int HR0.out a1_1 y1 y2
  cases q1
  cases q2
  replace hx1 : w.cell? (ad1.add a1_0.toNat) = some (.int .i64 (rd l0 a1_0)) := hx1
  replace hx2 : w.cell? (ad1.add a1_1.toNat) = some (.int .i64 (rd l0 a1_1)) := hx2
  replace x1 := eq_true x1
  replace x2 := eq_true x2
  replace y1 := eq_true y1
  replace y2 := eq_true y2
  go_enter Try.func36, Try.ntmps36
  go_wp2_with (first | (go_at_call 77; (with_reducible refine (impl_arePowers.calls k _ _ l0 true _ ?side1 HC0.out HP1.out).mono ?_); (case side1 => repeat (first | exact HR0.out | (with_reducible refine Kd.C_alloc ?_ _) | (with_reducible refine Kd.C_drewN ?_ _) | (with_reducible refine Kd.C_drew ?_))); rintro e w' ⟨rfl, ⟨nd, rfl⟩⟩) | (go_at_call 78; (with_reducible refine (impl_areArguments.calls k _ _ l2 true _ ?side1 HC2.out HP2.out).mono ?_); (case side1 => repeat (first | exact HR2.out | (with_reducible refine Kd.C_alloc ?_ _) | (with_reducible refine Kd.C_drewN ?_ _) | (with_reducible refine Kd.C_drew ?_))); rintro e w' ⟨rfl, ⟨nd2, rfl⟩⟩) | (go_at_call 79; (with_reducible refine (impl_isKind.calls _ _ l0 a1_0 a1_1 a1_2 true _ ?side1 HC0.out HP3.out).mono ?_); (case side1 => repeat (first | exact HR0.out | (with_reducible refine Kd.C_alloc ?_ _) | (with_reducible refine Kd.C_drewN ?_ _) | (with_reducible refine Kd.C_drew ?_))); rintro e w3 ⟨rfl, hb3⟩))
  have sz := hb3.size
  have k0 : Below w.heap.size w w3 := Below.trans (by repeat (first | exact Below.refl _ _ | (with_reducible apply below_alloc) | (with_reducible apply pw_below_drewN) | (with_reducible apply below_drew1) | (refine below_set ?_ (by simp; try omega)))) (hb3.mono (by simp; try omega))
  have b3 : Boxed w3 w.heap.size 34 (.slice (some ad1) l0.length c0) := (hb3.block w.heap.size (by simp; try omega)).trans (by repeat (first | exact impl_GiftTerms.hpNew (by first | rfl | simp) | (with_reducible refine impl_GiftTerms.hpDrew ?_) | (with_reducible refine impl_GiftTerms.hpDrewN ?_ _) | (with_reducible refine impl_GiftTerms.hpOld ?_ _)))
  have g3 : w3.heap[w.heap.size + 1]? = some (.cells #[.int .i64 a1_0, .int .i64 a1_1, .int .i64 a1_2] 46 (0, 0)) := (hb3.block (w.heap.size + 1) (by simp; try omega)).trans (by repeat (first | exact impl_GiftTerms.hpNew (by first | rfl | simp) | (with_reducible refine impl_GiftTerms.hpDrew ?_) | (with_reducible refine impl_GiftTerms.hpDrewN ?_ _) | (with_reducible refine impl_GiftTerms.hpOld ?_ _)))
  simp at sz
  have c3 := b3.cell
  have c40 : w3.cell? ⟨w.heap.size + 1, 0, none⟩ = some (.int .i64 a1_0) := by simp [World.cell?, g3]
  have c41 : w3.cell? ⟨w.heap.size + 1, 1, none⟩ = some (.int .i64 a1_1) := by simp [World.cell?, g3]
  have cx1 : w3.cell? (ad1.add a1_0.toNat) = some (.int .i64 (rd l0 a1_0)) := (k0.cell (World.block_lt_of_cell? _ _ hx1)).trans hx1
  have cx2 : w3.cell? (ad1.add a1_1.toNat) = some (.int .i64 (rd l0 a1_1)) := (k0.cell (World.block_lt_of_cell? _ _ hx2)).trans hx2
  have d00 := HR0
  have dx0 := HR2
  have d0 := Aside0.mk (Kd.C_below HR0.out k0)
  have dx := Aside0.mk (Kd.C_below HR2.out k0)
  have m1 := World.new_ne w3 _ c3
  have m2 := World.new_ne w3 _ c40
  have m3 := World.new_ne w3 _ c41
  have m4 := World.new_ne w3 _ cx1
  have m5 := World.new_ne w3 _ cx2
  have five := @impl_GiftTerms.five
  go_region_held3 (fun w' => w'.cell? ⟨w.heap.size, 0, none⟩ = some (.slice (some ad1) l0.length c0) ∧ w'.cell? ⟨w.heap.size + 1, 0, none⟩ = some (.int .i64 a1_0) ∧ w'.cell? ⟨w.heap.size + 1, 1, none⟩ = some (.int .i64 a1_1) ∧ w'.cell? (ad1.add a1_0.toNat) = some (.int .i64 (rd l0 a1_0)) ∧ w'.cell? (ad1.add a1_1.toNat) = some (.int .i64 (rd l0 a1_1))) (first | exact ⟨c3, c40, c41, cx1, cx2⟩ | exact impl_GiftTerms.five (by repeat (first | exact Below.refl _ _ | (with_reducible apply below_alloc) | (with_reducible apply pw_below_drewN) | (with_reducible apply below_drew1) | (refine below_set ?_ (by simp; try omega)))) c3 c40 c41 cx1 cx2 | (simp only []; exact impl_GiftTerms.five (by repeat (first | exact Below.refl _ _ | (with_reducible apply below_alloc) | (with_reducible apply pw_below_drewN) | (with_reducible apply below_drew1) | (refine below_set ?_ (by simp; try omega)))) c3 c40 c41 cx1 cx2)) (fail)
  all_goals (go_wp2_with (first | (go_at_call 80; (with_reducible refine (impl_GiftTerms.orders0 k HZ4.out c40 c41 b3 d0.out dx.out ?_ ?_ ?_ ?_ ?_ HP4.out).mono ?_); (next => repeat (first | (with_reducible exact Below.refl _ _) | (with_reducible apply below_alloc) | (with_reducible apply below_drew1))); (next => repeat (first | (with_reducible refine impl_GiftTerms.newB ?_; (simp; done)) | (with_reducible refine impl_GiftTerms.drewB ?_) | (with_reducible refine Boxed.alloc ?_ _))); (next => repeat (first | (with_reducible refine impl_GiftTerms.newB ?_; (simp; done)) | (with_reducible refine impl_GiftTerms.drewB ?_) | (with_reducible refine Boxed.alloc ?_ _))); (next => exact ⟨_, by repeat (first | (with_reducible refine impl_GiftTerms.newB ?_; (simp; done)) | (with_reducible refine impl_GiftTerms.drewB ?_) | (with_reducible refine Boxed.alloc ?_ _)), by repeat (first | (with_reducible refine impl_GiftTerms.hpNew ?_; (simp; done)) | (with_reducible refine impl_GiftTerms.hpDrew ?_) | (with_reducible refine impl_GiftTerms.hpOld ?_ _)), by first | (simp; done) | (simp; omega) | omega, by first | (simp; done) | (simp; omega) | omega, by first | (simp; done) | (simp; omega) | omega, by first | (simp; done) | (simp; omega) | omega⟩); (next => exact ⟨by first | (simp; done) | (simp; omega) | omega, by first | (simp; done) | (simp; omega) | omega, by first | (simp; done) | (simp; omega) | omega⟩); (rintro e w9 ⟨rfl, v9, hv9, hb9, hr9⟩; have hc9 := hv9.cell))))
  all_goals go_ret2
  all_goals exact ⟨_, rfl, Kd.R_lower hr9 k0.size, k0.trans (hb9.mono k0.size)⟩

/-! ### laws_big: function 38 -/
def laws_big.f (l0 : List Int) (l1 : List Int) : Option (Bool) := if (l0.length : Int) > 1048576 then (some true) else (some (decide ((l1.length : Int) > (wrap64 (1048576 - (l0.length : Int))))))
set_option maxHeartbeats 8000000 in
set_option maxRecDepth 100000 in
theorem laws_big.calls (A0 : Option Addr) (c0 : Nat) (l0 : List Int) (A1 : Option Addr) (c1 : Nat) (l1 : List Int) (r : Bool) (w : World) (hr0 : Kd.C (Kd.int .u8) w A0 l0.length l0) (hc0 : l0.length ≤ c0) (hr1 : Kd.C (Kd.int .u8) w A1 l1.length l1) (hc1 : l1.length ≤ c1) (h : laws_big.f l0 l1 = some r) :
    Calls Try.prog 38 #[.slice A0 l0.length c0, .slice A1 l1.length c1] w fun e w' => e = .returned (.bool r) ∧ Drawn0 w w' := by
  have HR0 := Aside0.mk hr0
  have HC0 := Aside0.mk hc0
  clear hr0 hc0
  have HR1 := Aside0.mk hr1
  have HC1 := Aside0.mk hc1
  clear hr1 hc1
  have H : (if (l0.length : Int) > 1048576 then (some true) else (some (decide ((l1.length : Int) > (wrap64 (1048576 - (l0.length : Int))))))) = some r := h
  clear h
  by_cases c3 : (l0.length : Int) > 1048576
  · rw [if_pos c3] at H
    have c3b0 : decide (1048576 < (l0.length : Int)) = true := decide_eq_true c3
    have c3b1 : decide (1048576 < l0.length) = true := decide_eq_true (by omega)
    clear c3
    obtain rfl := Option.some.inj H
    go_enter Try.func38, Try.ntmps38
    go_wp2
    go_ret
    exact ⟨by first | rfl | (simp; done) | (simp [*]; done), by repeat (first | exact Drawn0.refl _ | apply Drawn0.step)⟩
  · rw [if_neg c3] at H
    have c3b0 : decide (1048576 < (l0.length : Int)) = false := decide_eq_false c3
    have c3b1 : decide (1048576 < l0.length) = false := decide_eq_false (by omega)
    clear c3
    obtain rfl := Option.some.inj H
    go_enter Try.func38, Try.ntmps38
    go_wp2
    go_ret
    exact ⟨by first | rfl | (simp; done) | (simp [*]; done), by repeat (first | exact Drawn0.refl _ | apply Drawn0.step)⟩

/-- A state of type 82 at block g of W; what its slices lead to came in by w0. -/
def IsS82 (w0 W : World) (g : Nat) (f0 : List Int) (f1 : Int) (f2 : Int) : Prop := ∃ A0 c0, W.heap[g]? = some (.cells #[.slice A0 f0.length c0, .int .i64 f1, .int .u64 f2] 82 (0, 0)) ∧ w0.heap.size ≤ g ∧ Kd.C (Kd.int .u8) w0 A0 f0.length f0
theorem IsS82.grown {w0 W : World} {g : Nat} {f0 : List Int} {f1 : Int} {f2 : Int} {W1 : World} {row : Option Nat} (h : IsS82 w0 W g f0 f1 f2) (hw : W.grownBy W1 row) (hne : some g ≠ row) : IsS82 w0 W1 g f0 f1 f2 := by
  obtain ⟨A0, c0, hb, hg, hr0⟩ := h
  exact ⟨A0, c0, blk_grown hb hw hne, hg, hr0⟩
theorem IsS82.own_neN {w0 W : World} {g : Nat} {f0 : List Int} {f1 : Int} {f2 : Int} {α : Type} {d : Kd α} {e : Nat} {base : Nat} {ok : Nat → Prop} {v : Value} {xs : List α} (h : IsS82 w0 W g f0 f1 f2) (ho : Kd.N d e W base ok v xs) (ht : e ≠ 82) : some g ≠ v.ownBlock := by
  obtain ⟨A0, c0, hb, hg, hr0⟩ := h
  exact Kd.N_ne ho hb ht
theorem IsS82.fresh {w0 W : World} {g : Nat} {f0 : List Int} {f1 : Int} {f2 : Int} (h : IsS82 w0 W g f0 f1 f2) : ∀ k, W.heap.size ≤ k → k ≠ g := by
  obtain ⟨A0, c0, hb, hg, hr0⟩ := h
  exact Kd.freshB hb
theorem IsS82.kept {w0 W : World} {g : Nat} {f0 : List Int} {f1 : Int} {f2 : Int} {W1 : World} {S : Nat → Prop} (h : IsS82 w0 W g f0 f1 f2) (hk : Kept W W1 S) (hne : ¬ S g) : IsS82 w0 W1 g f0 f1 f2 := by
  obtain ⟨A0, c0, hb, hg, hr0⟩ := h
  exact ⟨A0, c0, blk_kept hb hk hne, hg, hr0⟩
theorem IsS82.below {w0 W : World} {g : Nat} {f0 : List Int} {f1 : Int} {f2 : Int} {W1 : World} (h : IsS82 w0 W g f0 f1 f2) (hw : Below W.heap.size W W1) : IsS82 w0 W1 g f0 f1 f2 := h.grown (grown_of_below hw none) (by simp)
theorem IsS82.alloc {w0 W : World} {g : Nat} {f0 : List Int} {f1 : Int} {f2 : Int} (h : IsS82 w0 W g f0 f1 f2) (o : Obj) : IsS82 w0 (W.alloc o) g f0 f1 f2 := h.below (below_alloc (Below.refl _ _) o)
theorem IsS82.drewN {w0 W : World} {g : Nat} {f0 : List Int} {f1 : Int} {f2 : Int} (h : IsS82 w0 W g f0 f1 f2) (m : Nat) : IsS82 w0 (W.drewN m) g f0 f1 f2 := h
theorem IsS82.drew {w0 W : World} {g : Nat} {f0 : List Int} {f1 : Int} {f2 : Int} (h : IsS82 w0 W g f0 f1 f2) : IsS82 w0 W.drew g f0 f1 f2 := h
theorem IsS82.at_ {w0 W : World} {g : Nat} {f0 : List Int} {f1 : Int} {f2 : Int} {w' : World} {m : Nat} (hq : W.drewN m = w') (h : IsS82 w0 W g f0 f1 f2) : IsS82 w0 w' g f0 f1 f2 := by subst hq; exact IsS82.drewN h m
theorem IsS82.apart {w0 W : World} {g : Nat} {f0 : List Int} {f1 : Int} {f2 : Int} {α : Type} {d : Kd α} {e : Nat} {base : Nat} {ok : Nat → Prop} {v : Value} {xs : List α} (h : IsS82 w0 W g f0 f1 f2) (ho : d.R e W base ok v xs) (ht : ∀ q, q ∈ e :: d.E → q ≠ 82) : d.R e W base (fun k => ok k ∧ k ≠ g) v xs := by
  obtain ⟨A0, c0, hb, hg, hr0⟩ := h
  exact Kd.R_types ho hb ht
theorem IsS82.own_ne {w0 W : World} {g : Nat} {f0 : List Int} {f1 : Int} {f2 : Int} {α : Type} {d : Kd α} {e : Nat} {base : Nat} {ok : Nat → Prop} {v : Value} {xs : List α} (h : IsS82 w0 W g f0 f1 f2) (ho : d.R e W base ok v xs) (ht : e ≠ 82) : some g ≠ v.ownBlock := by
  obtain ⟨A0, c0, hb, hg, hr0⟩ := h
  exact Kd.R_ne ho hb ht
theorem IsS82.apartQ {w0 W : World} {g : Nat} {f0 : List Int} {f1 : Int} {f2 : Int} {α : Type} {d : Kd α} {e : Nat} {base : Nat} {ok : Nat → Prop} {v : Value} {xs : List α} (h : IsS82 w0 W g f0 f1 f2) (ho : d.Q e W base ok v xs) (ht : ∀ q, q ∈ e :: d.E → q ≠ 82) : d.Q e W base (fun k => ok k ∧ k ≠ g) v xs := by
  obtain ⟨A0, c0, hb, hg, hr0⟩ := h
  exact Kd.Q_types ho hb ht
theorem IsS82.own_neQ {w0 W : World} {g : Nat} {f0 : List Int} {f1 : Int} {f2 : Int} {α : Type} {d : Kd α} {e : Nat} {base : Nat} {ok : Nat → Prop} {v : Value} {xs : List α} (h : IsS82 w0 W g f0 f1 f2) (ho : d.Q e W base ok v xs) (ht : e ≠ 82) : some g ≠ v.ownBlock := by
  obtain ⟨A0, c0, hb, hg, hr0⟩ := h
  exact Kd.Q_ne ho hb ht
theorem IsS82.apartS {w0 W : World} {g : Nat} {f0 : List Int} {f1 : Int} {f2 : Int} {α : Type} {d : Kd α} {e : Nat} {base : Nat} {ok : Nat → Prop} {v : Value} {xs : List α} (h : IsS82 w0 W g f0 f1 f2) (ho : d.S e W base ok v xs) (ht : ∀ q, q ∈ e :: d.E → q ≠ 82) : d.S e W base (fun k => ok k ∧ k ≠ g) v xs := by
  obtain ⟨A0, c0, hb, hg, hr0⟩ := h
  exact Kd.S_types ho hb ht
theorem IsS82.own_neS {w0 W : World} {g : Nat} {f0 : List Int} {f1 : Int} {f2 : Int} {α : Type} {d : Kd α} {e : Nat} {base : Nat} {ok : Nat → Prop} {v : Value} {xs : List α} (h : IsS82 w0 W g f0 f1 f2) (ho : d.S e W base ok v xs) (ht : e ≠ 82) : some g ≠ v.ownBlock := by
  obtain ⟨A0, c0, hb, hg, hr0⟩ := h
  exact Kd.S_ne ho hb ht
theorem IsS82.lt {w0 W : World} {g : Nat} {f0 : List Int} {f1 : Int} {f2 : Int} (h : IsS82 w0 W g f0 f1 f2) : g < W.heap.size := by
  obtain ⟨A0, c0, hb, hg, hr0⟩ := h
  exact blk_lt hb
theorem IsS82.ge {w0 W : World} {g : Nat} {f0 : List Int} {f1 : Int} {f2 : Int} (h : IsS82 w0 W g f0 f1 f2) : w0.heap.size ≤ g := by
  obtain ⟨A0, c0, hb, hg, hr0⟩ := h
  exact hg
theorem IsS82.ne_blk {w0 W : World} {g : Nat} {f0 : List Int} {f1 : Int} {f2 : Int} {a : Nat} {cs : Array Value} {t : TypeId} {fr : Nat × Nat} (h : IsS82 w0 W g f0 f1 f2) (hb2 : W.heap[a]? = some (.cells cs t fr)) (ht : t ≠ 82) : g ≠ a := by
  obtain ⟨A0, c0, hb, hg, hr0⟩ := h
  rintro rfl
  rw [hb] at hb2
  injection hb2 with hb2
  injection hb2 with _ ht2
  exact ht ht2.symm
theorem IsS82.far {w0 W : World} {g : Nat} {f0 : List Int} {f1 : Int} {f2 : Int} {p : Addr} (h : IsS82 w0 W g f0 f1 f2) (hne : g ≠ p.block) (u : Value) : IsS82 w0 (W.setCell p u) g f0 f1 f2 := by
  obtain ⟨A0, c0, hb, hg, hr0⟩ := h
  exact ⟨A0, c0, blk_far hb hne u, hg, hr0⟩
theorem cellS82_0 {W : World} {g : Nat} {A0 : Option Addr} {c0 : Nat} {f0 : List Int} {f1 : Int} {f2 : Int} (h : W.heap[g]? = some (.cells #[.slice A0 f0.length c0, .int .i64 f1, .int .u64 f2] 82 (0, 0))) : W.cell? ⟨g, 0, none⟩ = some (.slice A0 f0.length c0) := (blk_cell h 0).trans rfl
theorem cellS82_1 {W : World} {g : Nat} {A0 : Option Addr} {c0 : Nat} {f0 : List Int} {f1 : Int} {f2 : Int} (h : W.heap[g]? = some (.cells #[.slice A0 f0.length c0, .int .i64 f1, .int .u64 f2] 82 (0, 0))) : W.cell? ⟨g, 1, none⟩ = some (.int .i64 f1) := (blk_cell h 1).trans rfl
theorem IsS82.set_1 {w0 W : World} {g : Nat} {f0 : List Int} {f1 : Int} {f2 : Int} (h : IsS82 w0 W g f0 f1 f2) (x : Int) : IsS82 w0 (W.setCell ⟨g, 1, none⟩ (.int .i64 x)) g f0 x f2 := by
  obtain ⟨A0, c0, hb, hg, hr0⟩ := h
  exact ⟨A0, c0, by simpa using blk_set hb 1 (.int .i64 x), hg, hr0⟩
theorem cellS82_2 {W : World} {g : Nat} {A0 : Option Addr} {c0 : Nat} {f0 : List Int} {f1 : Int} {f2 : Int} (h : W.heap[g]? = some (.cells #[.slice A0 f0.length c0, .int .i64 f1, .int .u64 f2] 82 (0, 0))) : W.cell? ⟨g, 2, none⟩ = some (.int .u64 f2) := (blk_cell h 2).trans rfl
theorem IsS82.set_2 {w0 W : World} {g : Nat} {f0 : List Int} {f1 : Int} {f2 : Int} (h : IsS82 w0 W g f0 f1 f2) (x : Int) : IsS82 w0 (W.setCell ⟨g, 2, none⟩ (.int .u64 x)) g f0 f1 x := by
  obtain ⟨A0, c0, hb, hg, hr0⟩ := h
  exact ⟨A0, c0, by simpa using blk_set hb 2 (.int .u64 x), hg, hr0⟩
theorem IsS82.new (w0 W : World) (A0 : Option Addr) (c0 : Nat) (f0 : List Int) (f1 : Int) (f2 : Int) (hB : Below w0.heap.size w0 W) (hr0 : Kd.C (Kd.int .u8) w0 A0 f0.length f0) : IsS82 w0 (W.alloc (.cells #[.slice A0 f0.length c0, .int .i64 f1, .int .u64 f2] 82)) W.heap.size f0 f1 f2 := ⟨A0, c0, by simpa using heap_alloc_new W _, hB.size, hr0⟩

/-! ### spec_l1Cur_next: function 115 -/
def spec_l1Cur_next.f (s0_0 : List Int) (s0_1 : Int) (s0_2 : Int) : Option (Int × Int × Int) := if s0_1 < (s0_0.length : Int) then (if 0 ≤ s0_1 then (if (wrap64 (s0_1 + 1)) ≤ (s0_0.length : Int) then (some (wrap64 (rd s0_0 s0_1), wrap64 (s0_1 + 1), IntKind.u64.wrap ((IntKind.u64.wrap ((IntKind.u64.wrap (s0_2 * 6364136223846793005)) + (IntKind.u64.wrap (wrap64 (rd s0_0 s0_1))))) + 1442695040888963407))) else (some (wrap64 (Go.bits .and .u64 ((IntKind.u64.wrap ((IntKind.u64.wrap ((IntKind.u64.wrap (s0_2 * 6364136223846793005)) + (IntKind.u64.wrap (wrap64 (rd s0_0 s0_1))))) + 1442695040888963407)) / 1099511627776) 255), wrap64 (s0_1 + 1), IntKind.u64.wrap ((IntKind.u64.wrap ((IntKind.u64.wrap (s0_2 * 6364136223846793005)) + (IntKind.u64.wrap (wrap64 (rd s0_0 s0_1))))) + 1442695040888963407)))) else (none)) else (if (wrap64 (s0_1 + 1)) ≤ (s0_0.length : Int) then (some (0, wrap64 (s0_1 + 1), IntKind.u64.wrap ((IntKind.u64.wrap (IntKind.u64.wrap (s0_2 * 6364136223846793005))) + 1442695040888963407))) else (some (wrap64 (Go.bits .and .u64 ((IntKind.u64.wrap ((IntKind.u64.wrap (IntKind.u64.wrap (s0_2 * 6364136223846793005))) + 1442695040888963407)) / 1099511627776) 255), wrap64 (s0_1 + 1), IntKind.u64.wrap ((IntKind.u64.wrap (IntKind.u64.wrap (s0_2 * 6364136223846793005))) + 1442695040888963407))))
set_option maxHeartbeats 8000000 in
set_option maxRecDepth 100000 in
theorem spec_l1Cur_next.calls (g : Nat) (s0_0 : List Int) (s0_1 : Int) (s0_2 : Int) (r1 : Int) (r2 : Int) (r3 : Int) (w0 w : World) (hI : IsS82 w0 w g s0_0 s0_1 s0_2) (hB : Below w0.heap.size w0 w) (h : spec_l1Cur_next.f s0_0 s0_1 s0_2 = some (r1, r2, r3)) :
    Calls Try.prog 115 #[.pointer (some ⟨g, 0, none⟩)] w fun e w' => e = .returned (.int .i64 r1) ∧ IsS82 w0 w' g s0_0 r2 r3 ∧ Below w0.heap.size w0 w' ∧ KeepBut w w' g none := by
  have HI0 := Aside0.mk hI
  have HK := Aside0.mk (KeepBut.refl w g none)
  have HL := Aside0.mk hB.size
  clear hI
  have HW0 := Aside0.mk hB.size
  have HB := Aside0.mk hB
  clear hB
  have H : (if s0_1 < (s0_0.length : Int) then (if 0 ≤ s0_1 then (if (wrap64 (s0_1 + 1)) ≤ (s0_0.length : Int) then (some (wrap64 (rd s0_0 s0_1), wrap64 (s0_1 + 1), IntKind.u64.wrap ((IntKind.u64.wrap ((IntKind.u64.wrap (s0_2 * 6364136223846793005)) + (IntKind.u64.wrap (wrap64 (rd s0_0 s0_1))))) + 1442695040888963407))) else (some (wrap64 (Go.bits .and .u64 ((IntKind.u64.wrap ((IntKind.u64.wrap ((IntKind.u64.wrap (s0_2 * 6364136223846793005)) + (IntKind.u64.wrap (wrap64 (rd s0_0 s0_1))))) + 1442695040888963407)) / 1099511627776) 255), wrap64 (s0_1 + 1), IntKind.u64.wrap ((IntKind.u64.wrap ((IntKind.u64.wrap (s0_2 * 6364136223846793005)) + (IntKind.u64.wrap (wrap64 (rd s0_0 s0_1))))) + 1442695040888963407)))) else (none)) else (if (wrap64 (s0_1 + 1)) ≤ (s0_0.length : Int) then (some (0, wrap64 (s0_1 + 1), IntKind.u64.wrap ((IntKind.u64.wrap (IntKind.u64.wrap (s0_2 * 6364136223846793005))) + 1442695040888963407))) else (some (wrap64 (Go.bits .and .u64 ((IntKind.u64.wrap ((IntKind.u64.wrap (IntKind.u64.wrap (s0_2 * 6364136223846793005))) + 1442695040888963407)) / 1099511627776) 255), wrap64 (s0_1 + 1), IntKind.u64.wrap ((IntKind.u64.wrap (IntKind.u64.wrap (s0_2 * 6364136223846793005))) + 1442695040888963407))))) = some (r1, r2, r3) := h
  clear h
  by_cases c2 : s0_1 < (s0_0.length : Int)
  · rw [if_pos c2] at H
    have c2b0 : decide (s0_1 < (s0_0.length : Int)) = true := decide_eq_true c2
    clear c2
    by_cases c3 : 0 ≤ s0_1
    · rw [if_pos c3] at H
      have c3b0 : decide (0 ≤ s0_1) = true := decide_eq_true c3
      clear c3
      by_cases c4 : (wrap64 (s0_1 + 1)) ≤ (s0_0.length : Int)
      · rw [if_pos c4] at H
        have c4b0 : decide ((wrap64 (s0_1 + 1)) ≤ (s0_0.length : Int)) = true := decide_eq_true c4
        clear c4
        simp only [Option.some.injEq, Prod.mk.injEq] at H
        obtain ⟨rfl, rfl, rfl⟩ := H
        obtain ⟨ASz5_0, cSz5_0, HGz5, hgz5, HSz5_0⟩ := HI0.out
        have hcz5_0 := cellS82_0 HGz5
        have hcz5_1 := cellS82_1 HGz5
        have hcz5_2 := cellS82_2 HGz5
        have hfz5_1 := blk_frozen HGz5 1
        have hfz5_2 := blk_frozen HGz5 2
        clear HGz5 hgz5
        have p179 : 0 ≤ (s0_1 : Int) := of_decide_eq_true (by first | (with_reducible assumption) | assumption)
        have q179 : s0_1 < (s0_0.length : Int) := of_decide_eq_true (by first | (with_reducible assumption) | assumption)
        obtain ⟨ad179, e179, hx179_0⟩ := Kd.at_int HSz5_0 s0_1 p179 q179
        cases e179
        replace hx179_0 := pw_cell_below HB.out hx179_0
        replace p179 := eq_true p179
        replace q179 := eq_true q179
        go_enter Try.func115, Try.ntmps115
        go_wp2
        repeat (go_quiet (fail); try go_wp2)
        go_ret
        exact ⟨by first | rfl | (simp [errW_none, errW_some] <;> rfl) | (simp [*, errW_none, errW_some] <;> rfl), by repeat (first | (with_reducible first | exact HI0.out | apply IsS82.alloc | apply IsS82.drewN | apply IsS82.drew | apply IsS82.set_1 | apply IsS82.set_2) | exact HI0.out), by repeat (first | (with_reducible first | exact HB.out | apply below_alloc | apply pw_below_drewN | apply below_drew1 | refine below_set ?_ (IsS82.ge HI0.out)) | exact HB.out), by repeat (first | (with_reducible first | exact HK.out | apply KeepBut.set_ | apply keep_drewN | apply keep_drew | apply keep_alloc) | exact HK.out)⟩
      · rw [if_neg c4] at H
        have c4b0 : decide ((wrap64 (s0_1 + 1)) ≤ (s0_0.length : Int)) = false := decide_eq_false c4
        clear c4
        simp only [Option.some.injEq, Prod.mk.injEq] at H
        obtain ⟨rfl, rfl, rfl⟩ := H
        obtain ⟨ASz6_0, cSz6_0, HGz6, hgz6, HSz6_0⟩ := HI0.out
        have hcz6_0 := cellS82_0 HGz6
        have hcz6_1 := cellS82_1 HGz6
        have hcz6_2 := cellS82_2 HGz6
        have hfz6_1 := blk_frozen HGz6 1
        have hfz6_2 := blk_frozen HGz6 2
        clear HGz6 hgz6
        have p179 : 0 ≤ (s0_1 : Int) := of_decide_eq_true (by first | (with_reducible assumption) | assumption)
        have q179 : s0_1 < (s0_0.length : Int) := of_decide_eq_true (by first | (with_reducible assumption) | assumption)
        obtain ⟨ad179, e179, hx179_0⟩ := Kd.at_int HSz6_0 s0_1 p179 q179
        cases e179
        replace hx179_0 := pw_cell_below HB.out hx179_0
        replace p179 := eq_true p179
        replace q179 := eq_true q179
        go_enter Try.func115, Try.ntmps115
        go_wp2
        repeat (go_quiet (fail); try go_wp2)
        go_ret
        exact ⟨by first | rfl | (simp [errW_none, errW_some] <;> rfl) | (simp [*, errW_none, errW_some] <;> rfl), by repeat (first | (with_reducible first | exact HI0.out | apply IsS82.alloc | apply IsS82.drewN | apply IsS82.drew | apply IsS82.set_1 | apply IsS82.set_2) | exact HI0.out), by repeat (first | (with_reducible first | exact HB.out | apply below_alloc | apply pw_below_drewN | apply below_drew1 | refine below_set ?_ (IsS82.ge HI0.out)) | exact HB.out), by repeat (first | (with_reducible first | exact HK.out | apply KeepBut.set_ | apply keep_drewN | apply keep_drew | apply keep_alloc) | exact HK.out)⟩
    · rw [if_neg c3] at H
      exact absurd H (by simp)
  · rw [if_neg c2] at H
    have c2b0 : decide (s0_1 < (s0_0.length : Int)) = false := decide_eq_false c2
    clear c2
    by_cases c7 : (wrap64 (s0_1 + 1)) ≤ (s0_0.length : Int)
    · rw [if_pos c7] at H
      have c7b0 : decide ((wrap64 (s0_1 + 1)) ≤ (s0_0.length : Int)) = true := decide_eq_true c7
      clear c7
      simp only [Option.some.injEq, Prod.mk.injEq] at H
      obtain ⟨rfl, rfl, rfl⟩ := H
      obtain ⟨ASz8_0, cSz8_0, HGz8, hgz8, HSz8_0⟩ := HI0.out
      have hcz8_0 := cellS82_0 HGz8
      have hcz8_1 := cellS82_1 HGz8
      have hcz8_2 := cellS82_2 HGz8
      have hfz8_1 := blk_frozen HGz8 1
      have hfz8_2 := blk_frozen HGz8 2
      clear HGz8 hgz8
      go_enter Try.func115, Try.ntmps115
      go_wp2
      repeat (go_quiet (fail); try go_wp2)
      go_ret
      exact ⟨by first | rfl | (simp [errW_none, errW_some] <;> rfl) | (simp [*, errW_none, errW_some] <;> rfl), by repeat (first | (with_reducible first | exact HI0.out | apply IsS82.alloc | apply IsS82.drewN | apply IsS82.drew | apply IsS82.set_1 | apply IsS82.set_2) | exact HI0.out), by repeat (first | (with_reducible first | exact HB.out | apply below_alloc | apply pw_below_drewN | apply below_drew1 | refine below_set ?_ (IsS82.ge HI0.out)) | exact HB.out), by repeat (first | (with_reducible first | exact HK.out | apply KeepBut.set_ | apply keep_drewN | apply keep_drew | apply keep_alloc) | exact HK.out)⟩
    · rw [if_neg c7] at H
      have c7b0 : decide ((wrap64 (s0_1 + 1)) ≤ (s0_0.length : Int)) = false := decide_eq_false c7
      clear c7
      simp only [Option.some.injEq, Prod.mk.injEq] at H
      obtain ⟨rfl, rfl, rfl⟩ := H
      obtain ⟨ASz9_0, cSz9_0, HGz9, hgz9, HSz9_0⟩ := HI0.out
      have hcz9_0 := cellS82_0 HGz9
      have hcz9_1 := cellS82_1 HGz9
      have hcz9_2 := cellS82_2 HGz9
      have hfz9_1 := blk_frozen HGz9 1
      have hfz9_2 := blk_frozen HGz9 2
      clear HGz9 hgz9
      go_enter Try.func115, Try.ntmps115
      go_wp2
      repeat (go_quiet (fail); try go_wp2)
      go_ret
      exact ⟨by first | rfl | (simp [errW_none, errW_some] <;> rfl) | (simp [*, errW_none, errW_some] <;> rfl), by repeat (first | (with_reducible first | exact HI0.out | apply IsS82.alloc | apply IsS82.drewN | apply IsS82.drew | apply IsS82.set_1 | apply IsS82.set_2) | exact HI0.out), by repeat (first | (with_reducible first | exact HB.out | apply below_alloc | apply pw_below_drewN | apply below_drew1 | refine below_set ?_ (IsS82.ge HI0.out)) | exact HB.out), by repeat (first | (with_reducible first | exact HK.out | apply KeepBut.set_ | apply keep_drewN | apply keep_drew | apply keep_alloc) | exact HK.out)⟩

end Go.Proofs.Ytbnlfhdjcpegkaa.PFnGiftsInSums
