/- For each Go function that the law uses, a Lean function with the same answers and a proof that its call comes to them; the conditions stand in each theorem. (Written by a program of this session, turned from the print of the kit.) -/
import Derived.Test.YtojklddddedoeaaPFnMuirheadsOrderx0
import Derived.Test.YtojklddddedoeaaPFnMuirheadsOrderx2
namespace Go.Proofs.Ytojklddddedoeaa.PFnMuirheadsOrder
open Go.RowKit Go.Proofs.YtojklddddedoeaaW.PrintWords Go.Proofs.YtojklddddedoeaaW.PrintLast Go.Proofs.YtojklddddedoeaaW.PrintMore
attribute [local go_sem] max2_int min2_int max_two min_two max_three min_three max_four min_four   -- for this text's walks alone
set_option linter.unusedVariables false
set_option linter.unusedSimpArgs false

/-! ### impl_symmetricSum: function 125 -/
attribute [local go_sem ↓] Go.wp_at_zero Go.wp_at_succ
/-- The product of the powers of an order's numbers, from an index on. -/
def impl_symmetricSum.v (k : Nat) (pw : List Int) : List Int → Nat → Int → Option Int
  | [], _, p => some p
  | n :: t, i, p => if i < pw.length then (impl_power.f k n (pw.getD i 0)).bind fun q => impl_symmetricSum.v k pw t (i + 1) (wrap64 (p * q)) else none
/-- The tries of all numbers behind an order that is begun. -/
def impl_symmetricSum.go (g : Int → List Int → Int → Option Int) (used : Int) (order : List Int) : List Int → Nat → Int → Option Int
  | [], _, s => some s
  | n :: t, i, s => (impl_has.f used (i : Int)).bind fun h => if h = true then impl_symmetricSum.go g used order t (i + 1) s else (slices_Clone_int_int.f order).bind fun c => if c.length < 17592186044416 then (g (Go.bits .or .i64 used (IntKind.i64.wrap (2 ^ i))) (c ++ [n]) s).bind fun s' => impl_symmetricSum.go g used order t (i + 1) s' else none
def impl_symmetricSum.e (k : Nat) (pw x : List Int) : Nat → Int → List Int → Int → Option Int
  | 0, _, order, s => if order.length = x.length then (impl_symmetricSum.v k pw order 0 1).bind fun p => some (wrap64 (s + p)) else none
  | d + 1, used, order, s => if order.length = x.length then (impl_symmetricSum.v k pw order 0 1).bind fun p => some (wrap64 (s + p)) else impl_symmetricSum.go (impl_symmetricSum.e k pw x d) used order x 0 s
def impl_symmetricSum.f (k : Nat) (l0 l1 : List Int) : Option (Int) := if l1.length ≤ 4 then impl_symmetricSum.e k l0 l1 l1.length 0 [] 0 else none
theorem impl_symmetricSum.v_mono (pw : List Int) (k : Nat) : ∀ (t : List Int) (i : Nat) (p : Int), LeO (impl_symmetricSum.v k pw t i p) (impl_symmetricSum.v (k + 1) pw t i p)
  | [], _, _ => LeO.refl _
  | n :: t, i, p => by
    unfold impl_symmetricSum.v
    exact LeO.ite (LeO.bind (impl_power.mono _ _ _) (fun _ => impl_symmetricSum.v_mono pw k t _ _)) (LeO.none _)
theorem impl_symmetricSum.go_mono {g g' : Int → List Int → Int → Option Int} (hg : ∀ a b c, LeO (g a b c) (g' a b c)) (used : Int) (order : List Int) : ∀ (t : List Int) (i : Nat) (s : Int), LeO (impl_symmetricSum.go g used order t i s) (impl_symmetricSum.go g' used order t i s)
  | [], _, _ => LeO.refl _
  | n :: t, i, s => by
    unfold impl_symmetricSum.go
    exact LeO.bind (LeO.refl _) (fun _ => LeO.ite (impl_symmetricSum.go_mono hg used order t _ _) (LeO.bind (LeO.refl _) (fun _ => LeO.ite (LeO.bind (hg _ _ _) (fun _ => impl_symmetricSum.go_mono hg used order t _ _)) (LeO.none _))))
theorem impl_symmetricSum.e_mono (pw x : List Int) (k : Nat) : ∀ (d : Nat) (used : Int) (order : List Int) (s : Int), LeO (impl_symmetricSum.e k pw x d used order s) (impl_symmetricSum.e (k + 1) pw x d used order s)
  | 0, _, _, _ => by
    unfold impl_symmetricSum.e
    exact LeO.ite (LeO.bind (impl_symmetricSum.v_mono _ _ _ _ _) (fun _ => LeO.refl _)) (LeO.none _)
  | d + 1, _, _, _ => by
    unfold impl_symmetricSum.e
    exact LeO.ite (LeO.bind (impl_symmetricSum.v_mono _ _ _ _ _) (fun _ => LeO.refl _)) (impl_symmetricSum.go_mono (impl_symmetricSum.e_mono pw x k d) _ _ _ _ _)
theorem impl_symmetricSum.mono : ∀ a0 a1 k, LeO (impl_symmetricSum.f k a0 a1) (impl_symmetricSum.f (k + 1) a0 a1) := by
  intro a0 a1 k
  unfold impl_symmetricSum.f
  exact LeO.ite (impl_symmetricSum.e_mono _ _ _ _ _ _ _) (LeO.none _)
theorem impl_symmetricSum.blk_drewN {w : World} {B : Nat} {t : TypeId} {v : Value} (h : Boxed w B t v) (m : Nat) : Boxed (w.drewN m) B t v := by
  have : (w.drewN m).heap = w.heap := rfl
  unfold Boxed; rw [this]; exact h
set_option maxHeartbeats 8000000 in
set_option maxRecDepth 100000 in
/-- The visit of one order: the product is added to the sum. -/
theorem impl_symmetricSum.visit (k n0 Bp Bs : Nat) (Ap : Option Addr) (cp : Nat) (pw : List Int) (Ao : Option Addr) (co : Nat) (order : List Int) (s p : Int) (w : World) (hP : Boxed w Bp 24 (.slice Ap pw.length cp)) (hS : Boxed w Bs 3 (.int .i64 s)) (hps : Bp ≠ Bs) (hn : n0 ≤ Bs) (hpw : Kd.C (Kd.int .i64) w Ap pw.length pw) (hol : order.length ≤ 4) (ho : Kd.C (Kd.int .i64) w Ao order.length order) (hv : impl_symmetricSum.v k pw order 0 1 = some p) :
    Calls Try.prog 174 #[.slice Ao order.length co, .pointer (some ⟨Bp, 0, none⟩), .pointer (some ⟨Bs, 0, none⟩)] w fun e w' => e = .returned (.tuple #[]) ∧ KeepBut w w' Bs none ∧ Below n0 w w' ∧ Boxed w' Bs 3 (.int .i64 (wrap64 (s + p))) := by
  have HV := Aside0.mk hv
  have HO := Aside0.mk ho
  have HW := Aside0.mk hpw
  have HP := Aside0.mk hP
  have HS := Aside0.mk hS
  clear hv ho hpw hP hS
  go_enter Try.func174, Try.ntmps174
  go_wp2
  go_loopw [4, 9] (fun v4 v9 wr => ∃ (i m : Nat) (q : Int), i ≤ order.length ∧ v4 = .int .i64 q ∧ v9 = .int .i64 i ∧ wr = w.drewN m ∧ impl_symmetricSum.v k pw (order.drop i) i q = some p) (fun _ v9 _ => order.length - (intOf v9).toNat)
  case atStart => exact ⟨0, 0, 1, Nat.zero_le _, rfl, rfl, by first | rfl | exact (World.drewN_zero _).symm, HV.out⟩
  case round =>
    obtain ⟨i, m, q, hi, rfl, rfl, rfl, hq⟩ := hrel
    have HQ := Aside0.mk hq
    clear hq
    by_cases hlt : i < order.length
    · have e1 : order.drop i = order.getD i 0 :: order.drop (i + 1) := by
        rw [List.drop_eq_getElem_cons hlt]; simp [List.getD_eq_getElem?_getD, hlt]
      have H := HQ.out
      rw [e1] at H
      unfold impl_symmetricSum.v at H
      by_cases c : i < pw.length
      · rw [if_pos c] at H
        obtain ⟨t, A1, H⟩ := Option.bind_eq_some_iff.mp H
        have A2 := Aside0.mk A1
        have H' := Aside0.mk H
        clear A1 H HQ e1
        have p1 : (0 : Int) ≤ (i : Int) := by omega
        have q1 : (i : Int) < (order.length : Int) := by omega
        have q2 : (i : Int) < (pw.length : Int) := by omega
        obtain ⟨ad1, e1, hx1⟩ := Kd.at_int (Kd.C_drewN HO.out m) (i : Int) p1 q1
        obtain ⟨ad2, e2, hx2⟩ := Kd.at_int (Kd.C_drewN HW.out m) (i : Int) p1 q2
        cases e1
        cases e2
        replace hx1 : (w.drewN m).cell? (ad1.add i) = some (.int .i64 (order.getD i 0)) := hx1
        replace hx2 : (w.drewN m).cell? (ad2.add i) = some (.int .i64 (pw.getD i 0)) := hx2
        have hb := (impl_symmetricSum.blk_drewN HP.out m).cell
        replace p1 := eq_true p1
        replace q1 := eq_true q1
        replace q2 := eq_true q2
        have A3 := A2.out
        generalize order.getD i 0 = z at hx1 A3
        generalize pw.getD i 0 = y at hx2 A3
        go_wp2_with (first | (go_at_call 175; (with_reducible refine (impl_power.calls k z y t _ A3).mono ?_); rintro e w' ⟨rfl, ⟨nd, rfl⟩⟩))
        go_roundw
        case rel => exact ⟨i + 1, _, _, by omega, rfl, by simp, by first | exact World.drewN_drewN _ _ _ | rfl, H'.out⟩
        case measure => simp [intOf]; omega
      · rw [if_neg c] at H; exact absurd H (by simp)
    · obtain rfl : i = order.length := by omega
      have H := HQ.out
      rw [List.drop_length] at H
      obtain rfl := Option.some.inj H
      clear H HQ
      have hb := (impl_symmetricSum.blk_drewN HS.out m).cell
      have hf := (impl_symmetricSum.blk_drewN HS.out m).frozen
      go_wp2
      go_end0
      refine ⟨rfl, ?_, ?_, ?_⟩
      · exact (keep_drewN (KeepBut.refl w Bs none) m).set_ 0 _
      · exact (pw_below_drewN (Below.refl n0 w) m).setCell (p := ⟨Bs, 0, none⟩) hn _
      · exact (impl_symmetricSum.blk_drewN HS.out m).set _
/-- What stands while the orders are visited. -/
structure impl_symmetricSum.St (n0 Bp Bs Bx Bv Be : Nat) (Ap Ax : Option Addr) (cp cx : Nat) (pw x : List Int) (w : World) : Prop where
  fp : Boxed w Bp 24 (.slice Ap pw.length cp)
  fx : Boxed w Bx 24 (.slice Ax x.length cx)
  fv : Boxed w Bv 104 (.func (.func 174) #[] #[.pointer (some ⟨Bp, 0, none⟩), .pointer (some ⟨Bs, 0, none⟩)])
  fe : Boxed w Be 113 (.func (.func 188) #[] #[.pointer (some ⟨Bx, 0, none⟩), .pointer (some ⟨Bv, 0, none⟩), .pointer (some ⟨Be, 0, none⟩)])
  rp : Kd.C (Kd.int .i64) w Ap pw.length pw
  rx : Kd.C (Kd.int .i64) w Ax x.length x
  np : Bp ≠ Bs
  nx : Bx ≠ Bs
  nv : Bv ≠ Bs
  ne : Be ≠ Bs
  ap : ∀ ad, Ap = some ad → 0 < pw.length → ad.block ≠ Bs
  ax : ∀ ad, Ax = some ad → 0 < x.length → ad.block ≠ Bs
  n0 : n0 ≤ Bs
  lt : Bs < w.heap.size
theorem impl_symmetricSum.keepB {w W : World} {B Bs : Nat} {t : TypeId} {v : Value} (h : Boxed w B t v) (hk : KeepBut w W Bs none) (hne : B ≠ Bs) : Boxed W B t v := hk.blk h hne (by simp)
theorem impl_symmetricSum.keepC {w W : World} {Bs : Nat} {A : Option Addr} {l : List Int} (h : Kd.C (Kd.int .i64) w A l.length l) (hk : KeepBut w W Bs none) (hf : ∀ ad, A = some ad → 0 < l.length → ad.block ≠ Bs) : Kd.C (Kd.int .i64) W A l.length l := Kd.C_keep 0 h hk hf
theorem impl_symmetricSum.St.keep {n0 Bp Bs Bx Bv Be : Nat} {Ap Ax : Option Addr} {cp cx : Nat} {pw x : List Int} {w W : World} (h : impl_symmetricSum.St n0 Bp Bs Bx Bv Be Ap Ax cp cx pw x w) (hk : KeepBut w W Bs none) : impl_symmetricSum.St n0 Bp Bs Bx Bv Be Ap Ax cp cx pw x W :=
  ⟨impl_symmetricSum.keepB h.fp hk h.np, impl_symmetricSum.keepB h.fx hk h.nx, impl_symmetricSum.keepB h.fv hk h.nv, impl_symmetricSum.keepB h.fe hk h.ne, impl_symmetricSum.keepC h.rp hk h.ap, impl_symmetricSum.keepC h.rx hk h.ax, h.np, h.nx, h.nv, h.ne, h.ap, h.ax, h.n0, Nat.lt_of_lt_of_le h.lt hk.1⟩
theorem impl_symmetricSum.made {W : World} {base g cap : Nat} {cl : List Int} {z : Int} (h : W.ownsRow base 3 1 (.slice (some ⟨g, 0, none⟩) (cl.length + 1) cap) (cl.length + 1) (encs (Value.int .i64) cl ++ [.int .i64 z])) : cl.length + 1 ≤ cap ∧ base ≤ g ∧ Kd.C (Kd.int .i64) W (some ⟨g, 0, none⟩) (cl ++ [z]).length (cl ++ [z]) := by
  have e : (cl ++ [z]).length = cl.length + 1 := by simp
  have hR : Kd.R (Kd.int .i64) 3 W base (fun _ => True) (.slice (some ⟨g, 0, none⟩) (cl ++ [z]).length cap) (cl ++ [z]) := Kd.R_of_own (by rw [e, encs_append]; exact h) (fun _ _ => trivial)
  obtain ⟨_, h2, h3⟩ := Kd.R_reads' hR
  rw [e] at h2
  exact ⟨h2, Kd.R_base hR g (by simp [Value.ownBlock]), h3⟩
theorem impl_symmetricSum.newsB {W w1 : World} {z : Value} {t : TypeId} (h : Below (W.alloc (.cells #[z] t)).heap.size (W.alloc (.cells #[z] t)) w1) : ∀ j u, [z][j]? = some u → w1.cell? ((⟨W.heap.size, 0, none⟩ : Addr).add j) = some u := fun j u hj =>
  (h.cell (p := (⟨W.heap.size, 0, none⟩ : Addr).add j) (by rw [add_block]; simp)).trans (cell_one_new W z t j u hj)
theorem impl_symmetricSum.beyondA {wr w1 w2 : World} {nd base : Nat} {o : Obj} {vC : Value} {cl : List Int} (hC : Kd.R (Kd.int .i64) 3 w1 base (fun _ => True) vC cl) (hcb : Below (wr.drewN nd).drew.heap.size (wr.drewN nd).drew w1) (hbase : wr.heap.size ≤ base) (hg : (w1.alloc o).grownBy w2 vC.ownBlock) : Below wr.heap.size wr w2 := by
  have h0 : Below wr.heap.size wr (wr.drewN nd).drew := (pw_below_drewN (Below.refl wr.heap.size wr) nd).drew
  have h1 : Below wr.heap.size wr w1 := h0.trans hcb
  exact Below.grown (h1.alloc h1.size o) hg (by have := h1.size; simp; omega) (fun k hk => Nat.le_trans hbase (Kd.R_base hC k hk))
theorem impl_symmetricSum.beyondB {wr w1 w2 : World} {nd base : Nat} {o : Obj} {vC : Value} {cl : List Int} (hC : Kd.R (Kd.int .i64) 3 w1 base (fun _ => True) vC cl) (hcb : Below ((wr.drewN nd).drew.alloc o).heap.size ((wr.drewN nd).drew.alloc o) w1) (hbase : wr.heap.size ≤ base) (hg : w1.grownBy w2 vC.ownBlock) : Below wr.heap.size wr w2 := by
  have h0 : Below wr.heap.size wr (wr.drewN nd).drew := (pw_below_drewN (Below.refl wr.heap.size wr) nd).drew
  have h1 : Below wr.heap.size wr w1 := (h0.alloc (Nat.le_refl _) o).trans (hcb.mono (below_alloc (Below.refl _ (wr.drewN nd).drew) _).size)
  exact Below.grown h1 hg h1.size (fun k hk => Nat.le_trans hbase (Kd.R_base hC k hk))
set_option maxHeartbeats 8000000 in
set_option maxRecDepth 100000 in
theorem impl_symmetricSum.ext (k n0 Bp Bs Bx Bv Be : Nat) (Ap Ax : Option Addr) (cp cx : Nat) (pw x : List Int) (hx4 : x.length ≤ 4) : ∀ (d : Nat) (used : Int) (Ao : Option Addr) (co : Nat) (order : List Int) (s r : Int) (w : World), impl_symmetricSum.St n0 Bp Bs Bx Bv Be Ap Ax cp cx pw x w → Boxed w Bs 3 (.int .i64 s) → order.length + d = x.length → Kd.C (Kd.int .i64) w Ao order.length order → order.length ≤ co → (∀ ad, Ao = some ad → 0 < order.length → ad.block ≠ Bs) → impl_symmetricSum.e k pw x d used order s = some r →
    Calls Try.prog 188 #[.int .i64 used, .slice Ao order.length co, .pointer (some ⟨Bx, 0, none⟩), .pointer (some ⟨Bv, 0, none⟩), .pointer (some ⟨Be, 0, none⟩)] w fun e w' => e = .returned (.tuple #[]) ∧ KeepBut w w' Bs none ∧ Below n0 w w' ∧ Boxed w' Bs 3 (.int .i64 r) := by
  obtain ⟨i0, hi0, hz0, hz1, hz2⟩ := info_parts info3
  have done : ∀ (used : Int) (Ao : Option Addr) (co : Nat) (order : List Int) (s r : Int) (w : World), impl_symmetricSum.St n0 Bp Bs Bx Bv Be Ap Ax cp cx pw x w → Boxed w Bs 3 (.int .i64 s) → order.length = x.length → Kd.C (Kd.int .i64) w Ao order.length order → ((impl_symmetricSum.v k pw order 0 1).bind fun p => some (wrap64 (s + p))) = some r →
      Calls Try.prog 188 #[.int .i64 used, .slice Ao order.length co, .pointer (some ⟨Bx, 0, none⟩), .pointer (some ⟨Bv, 0, none⟩), .pointer (some ⟨Be, 0, none⟩)] w fun e w' => e = .returned (.tuple #[]) ∧ KeepBut w w' Bs none ∧ Below n0 w w' ∧ Boxed w' Bs 3 (.int .i64 r) := by
    intro used Ao co order s r w hS hs hl ho h
    obtain ⟨p, h1, h2⟩ := Option.bind_eq_some_iff.mp h
    obtain rfl := Option.some.inj h2
    have A1 := Aside0.mk h1
    have HS := Aside0.mk hS
    have HO := Aside0.mk ho
    have HB := Aside0.mk hs
    clear h h1 h2 ho hs
    have hbx := hS.fx.cell
    have hbv := hS.fv.cell
    clear hS
    have HL := Aside0.mk hl
    have cb : ((order.length : Int) == (x.length : Int)) = true := beq_iff_eq.mpr (by omega)
    clear hl
    go_enter Try.func188, Try.ntmps188
    go_wp2_with (first | (go_at_call 174; (with_reducible refine (impl_symmetricSum.visit k n0 Bp Bs Ap cp pw Ao co order s p _ HS.out.fp HB.out HS.out.np HS.out.n0 HS.out.rp (by have := HL.out; omega) HO.out A1.out).mono ?_); rintro e w' ⟨rfl, hk, hb, hs⟩))
    refine bodyPost_ret (results_none rfl _ _ _) rfl ?_
    exact ⟨rfl, hk, hb, hs⟩
  intro d
  induction d with
  | zero =>
    intro used Ao co order s r w hS hs hl ho hco haA h
    unfold impl_symmetricSum.e at h
    rw [if_pos (by omega)] at h
    exact done used Ao co order s r w hS hs (by omega) ho h
  | succ d ih =>
    intro used Ao co order s r w hS hs hl ho hco haA h
    unfold impl_symmetricSum.e at h
    rw [if_neg (by omega)] at h
    have HL := Aside0.mk hl
    have HO := Aside0.mk ho
    have HCO := Aside0.mk hco
    have HA := Aside0.mk haA
    have HS := Aside0.mk hS
    have HB := Aside0.mk hs
    have HG := Aside0.mk h
    have hbx := hS.fx.cell
    have cb : ((order.length : Int) == (x.length : Int)) = false := beq_eq_false_iff_ne.mpr (by omega)
    have ih2 : ∀ (used : Int) (Ao : Option Addr) (co n : Nat) (order : List Int) (s r : Int) (w : World), n = order.length → impl_symmetricSum.St n0 Bp Bs Bx Bv Be Ap Ax cp cx pw x w → Boxed w Bs 3 (.int .i64 s) → order.length + d = x.length → Kd.C (Kd.int .i64) w Ao order.length order → order.length ≤ co → (∀ ad, Ao = some ad → 0 < order.length → ad.block ≠ Bs) → impl_symmetricSum.e k pw x d used order s = some r → Calls Try.prog 188 #[.int .i64 used, .slice Ao n co, .pointer (some ⟨Bx, 0, none⟩), .pointer (some ⟨Bv, 0, none⟩), .pointer (some ⟨Be, 0, none⟩)] w fun e w' => e = .returned (.tuple #[]) ∧ KeepBut w w' Bs none ∧ Below n0 w w' ∧ Boxed w' Bs 3 (.int .i64 r) := fun used Ao co n order s r w hn => by subst hn; exact ih used Ao co order s r w
    clear ih done ho hco haA hS hs h hl
    go_enter Try.func188, Try.ntmps188
    go_wp2
    go_loopw [19] (fun v19 wr => ∃ (i : Nat) (s' : Int), i ≤ x.length ∧ v19 = .int .i64 i ∧ KeepBut w wr Bs none ∧ Below n0 w wr ∧ Boxed wr Bs 3 (.int .i64 s') ∧ impl_symmetricSum.go (impl_symmetricSum.e k pw x d) used order (x.drop i) i s' = some r) (fun v19 _ => x.length - (intOf v19).toNat)
    case atStart => exact ⟨0, s, Nat.zero_le _, rfl, KeepBut.refl _ _ _, Below.refl _ _, HB.out, HG.out⟩
    case round =>
      clear HG HB
      obtain ⟨i, s', hi, rfl, hk, hb, hs, hg⟩ := hrel
      have HQ := Aside0.mk hg
      have HK := Aside0.mk hk
      have HW := Aside0.mk hb
      have HB := Aside0.mk hs
      have HT := Aside0.mk (HS.out.keep hk)
      clear hg hk hb hs hbx
      have HN : n0 ≤ wr.heap.size := by have := HT.out.n0; have := HT.out.lt; omega
      by_cases hlt : i < x.length
      · have e1 : x.drop i = x.getD i 0 :: x.drop (i + 1) := by
          rw [List.drop_eq_getElem_cons hlt]; simp [List.getD_eq_getElem?_getD, hlt]
        have H := HQ.out
        rw [e1] at H
        unfold impl_symmetricSum.go at H
        obtain ⟨hh, A1, H⟩ := Option.bind_eq_some_iff.mp H
        have A2 := Aside0.mk A1
        clear A1 HQ e1
        have p1 : (0 : Int) ≤ (i : Int) := by omega
        have q1 : (i : Int) < (x.length : Int) := by omega
        obtain ⟨ad1, e1, hx1⟩ := Kd.at_int HT.out.rx (i : Int) p1 q1
        cases e1
        replace hx1 : wr.cell? (ad1.add i) = some (.int .i64 (x.getD i 0)) := hx1
        replace q1 := eq_true q1
        replace p1 := eq_true p1
        generalize x.getD i 0 = z at hx1 H
        by_cases ch : hh = true
        · subst ch
          rw [if_pos rfl] at H
          have H' := Aside0.mk H
          clear H
          go_wp2_with (first | (go_at_call 189; (with_reducible refine (impl_has.calls used (i : Int) true _ A2.out).mono ?_); rintro e w' ⟨rfl, ⟨nd, rfl⟩⟩))
          go_roundw
          case rel => exact ⟨i + 1, s', by omega, by simp, keep_drewN HK.out nd, pw_below_drewN HW.out nd, impl_symmetricSum.blk_drewN HB.out nd, H'.out⟩
          case measure => simp [intOf]; omega
        · replace ch := Bool.eq_false_iff.mpr ch
          subst ch
          rw [if_neg (by decide)] at H
          obtain ⟨cl, A3, H⟩ := Option.bind_eq_some_iff.mp H
          by_cases cm : cl.length < 17592186044416
          · rw [if_pos cm] at H
            obtain ⟨s2, A4, H⟩ := Option.bind_eq_some_iff.mp H
            have B3 := Aside0.mk A3
            have B4 := Aside0.mk A4
            have H' := Aside0.mk H
            have CM := Aside0.mk cm
            clear H A3 A4 cm
            go_wp2_with (first | (go_at_call 189; (with_reducible refine (impl_has.calls used (i : Int) false _ A2.out).mono ?_); rintro e w' ⟨rfl, ⟨nd, rfl⟩⟩))
            have he := (impl_symmetricSum.blk_drewN HT.out.fe nd).cell
            have hel : Be < wr.heap.size := HT.out.fe.lt
            have hcl : cl.length = order.length := by
              have e_ := B3.out
              unfold slices_Clone_int_int.f at e_
              simp only [Option.bind_some, List.nil_append] at e_
              split at e_
              · rw [← Option.some.inj e_]
              · exact absurd e_ (by simp)
            have HCL := Aside0.mk hcl
            clear hcl
            have HOr := Aside0.mk (impl_symmetricSum.keepC HO.out HK.out HA.out)
            go_region_held3 (fun w' => w'.cell? ⟨Be, 0, none⟩ = some (.func (.func 188) #[] #[.pointer (some ⟨Bx, 0, none⟩), .pointer (some ⟨Bv, 0, none⟩), .pointer (some ⟨Be, 0, none⟩)])) (first | exact he | exact (hcb.cell (p := ⟨Be, 0, none⟩) (Nat.lt_of_lt_of_le hel (below_alloc (Below.refl _ (wr.drewN (nd + 1))) _).size)).trans (Boxed.alloc (impl_symmetricSum.blk_drewN HT.out.fe (nd + 1)) _).cell | exact (Boxed.alloc (impl_symmetricSum.blk_drewN HT.out.fe (nd + 1)) _).cell | exact ((HT.out.keep (KeepBut.of_below HY Bs none)).keep hk3).fe.cell | exact Boxed.cell (W := w2) ((HY.block Be hel).trans HT.out.fe) | exact (hcb.cell (p := ⟨Be, 0, none⟩) (by first | exact hel | (simp; omega))).trans he | go_keep)
              (first
                | (go_at_call 188; refine (ih2 _ (some ⟨g, 0, none⟩) cap _ (cl ++ [z]) s' s2 _ (by rw [List.length_append, List.length_singleton]) (HT.out.keep (KeepBut.of_below HY Bs none)) ((HY.block Bs HT.out.lt).trans HB.out) (by have := HL.out; have := HCL.out; rw [List.length_append, List.length_singleton]; omega) (impl_symmetricSum.made hown).2.2 (by have := (impl_symmetricSum.made hown).1; rw [List.length_append, List.length_singleton]; omega) (by intro ad e_ _; cases e_; have q_ := (impl_symmetricSum.made hown).2.1; have z_ := HT.out.lt; show g ≠ Bs; simp at q_; omega) B4.out).mono ?_; rintro e w3 ⟨rfl, hk3, hb3, hs3⟩)
                | (go_at_call 170; refine (slices_Clone_int_int.calls Ao co order cl _ (by repeat (first | exact HOr.out | (with_reducible refine Kd.C_alloc ?_ _) | (with_reducible refine Kd.C_drewN ?_ _) | (with_reducible refine Kd.C_drew ?_))) HCO.out B3.out).mono ?_; rintro e w1 ⟨vC, rfl, hC, hcb⟩)
                | (refine step_append_lies _ (by rfl) _ _ _ (by rfl) _ 3 i0 _ 1 8 Try.underlying24 hi0 hz0 hz1 hz2 rfl (by omega) vC cl.length _ (by rfl) ((Kd.own_of_R hC).alloc _) ⟨w1.heap.size, 0, none⟩ 1 1 [.int .i64 z] (by rfl) (by rfl) (World.news_of_block (cs := #[.int .i64 z]) (t := 3) (fr := (0, 0)) (heap_alloc_new w1 _)) (by simp [Value.oneCell']) (by omega) (by have := CM.out; simp only [maxLen]; omega) (by have := CM.out; omega) (by have := hcb.size; simp at this ⊢; omega) (w1.heap.size + 1) (by simp) ?_; intro g cap w2 hown hgrow hat hlt; have HY := impl_symmetricSum.beyondA hC hcb (Nat.le_refl _) hgrow)
                | (refine step_append_lies _ (by rfl) _ _ _ (by rfl) _ 3 i0 _ 1 8 Try.underlying24 hi0 hz0 hz1 hz2 rfl (by omega) vC cl.length _ (by rfl) (Kd.own_of_R hC) ⟨wr.heap.size, 0, none⟩ 1 1 [.int .i64 z] (by rfl) (by rfl) (impl_symmetricSum.newsB (W := wr.drewN (nd + 1)) hcb) (by simp [Value.oneCell']) (by omega) (by have := CM.out; simp only [maxLen]; omega) (by have := CM.out; omega) hcb.size w1.heap.size rfl ?_; intro g cap w2 hown hgrow hat hlt; have HY := impl_symmetricSum.beyondB (nd := nd) hC hcb (below_alloc (Below.refl _ (wr.drewN nd).drew) _).size hgrow))
            · go_wp2
              go_roundw
              case rel => exact ⟨i + 1, s2, by omega, by simp, (HK.out.trans (KeepBut.of_below HY Bs none) (.inl rfl)).trans hk3 (.inl rfl), (HW.out.trans (HY.mono HN)).trans hb3, hs3, H'.out⟩
              case measure => simp [intOf]; omega
            · go_wp2
              go_roundw
              case rel => exact ⟨i + 1, s2, by omega, by simp, (HK.out.trans (KeepBut.of_below HY Bs none) (.inl rfl)).trans hk3 (.inl rfl), (HW.out.trans (HY.mono HN)).trans hb3, hs3, H'.out⟩
              case measure => simp [intOf]; omega
          · rw [if_neg cm] at H; exact absurd H (by simp)
      · obtain rfl : i = x.length := by omega
        have H := HQ.out
        rw [List.drop_length] at H
        obtain rfl := Option.some.inj H
        clear H HQ
        go_wp2
        go_end0
        exact ⟨rfl, HK.out, HW.out, HB.out⟩
set_option maxHeartbeats 8000000 in
set_option maxRecDepth 100000 in
theorem impl_symmetricSum.orders (k n0 Bp Bs : Nat) (Ap Ax : Option Addr) (cp cx : Nat) (pw x : List Int) (s r : Int) (w : World) (hx4 : x.length ≤ 4) (hP : Boxed w Bp 24 (.slice Ap pw.length cp)) (hS : Boxed w Bs 3 (.int .i64 s)) (hps : Bp ≠ Bs) (hn : n0 ≤ Bs) (hpw : Kd.C (Kd.int .i64) w Ap pw.length pw) (hpx : Kd.C (Kd.int .i64) w Ax x.length x) (hap : ∀ ad, Ap = some ad → 0 < pw.length → ad.block ≠ Bs) (hax : ∀ ad, Ax = some ad → 0 < x.length → ad.block ≠ Bs) (h : impl_symmetricSum.e k pw x x.length 0 [] s = some r) :
    Calls Try.prog 173 #[.slice Ax x.length cx, .func (.func 174) #[] #[.pointer (some ⟨Bp, 0, none⟩), .pointer (some ⟨Bs, 0, none⟩)]] w fun e w' => e = .returned (.tuple #[]) ∧ KeepBut w w' Bs none ∧ Below n0 w w' ∧ Boxed w' Bs 3 (.int .i64 r) := by
  have HP := Aside0.mk hP
  have HS := Aside0.mk hS
  have HPW := Aside0.mk hpw
  have HPX := Aside0.mk hpx
  have HH := Aside0.mk h
  clear hP hS hpw hpx h
  obtain ⟨o1, ho1⟩ : ∃ o, o = Obj.cells #[Value.slice Ax x.length cx] 24 := ⟨_, rfl⟩
  obtain ⟨o2, ho2⟩ : ∃ o, o = Obj.cells #[Value.func (Fn.func 174) #[] #[Value.pointer (some { block := Bp, off := 0 }), Value.pointer (some { block := Bs, off := 0 })]] 104 := ⟨_, rfl⟩
  have b1 : Boxed (w.alloc o1) w.heap.size 24 (.slice Ax x.length cx) := by rw [ho1]; exact Boxed.new w 24 _
  have b2 : Boxed ((w.alloc o1).alloc o2) (w.heap.size + 1) 104 (.func (.func 174) #[] #[.pointer (some ⟨Bp, 0, none⟩), .pointer (some ⟨Bs, 0, none⟩)]) := by
    have := Boxed.new (w.alloc o1) 104 (.func (.func 174) #[] #[.pointer (some ⟨Bp, 0, none⟩), .pointer (some ⟨Bs, 0, none⟩)])
    rw [ho2]; simpa using this
  have b3 : Boxed (((w.alloc o1).alloc o2).alloc (.cells #[.nilFunc] 113)) (w.heap.size + 1 + 1) 113 .nilFunc := by
    have := Boxed.new ((w.alloc o1).alloc o2) 113 .nilFunc
    simpa using this
  have hc3 := b3.cell
  have hf3 := b3.frozen
  have hlt := HS.out.lt
  obtain ⟨u, hu⟩ : ∃ u, u = Value.func (Fn.func 188) #[] #[Value.pointer (some { block := w.heap.size, off := 0 }), Value.pointer (some { block := w.heap.size + 1, off := 0 }), Value.pointer (some { block := w.heap.size + 1 + 1, off := 0 })] := ⟨_, rfl⟩
  obtain ⟨W4, hW4⟩ : ∃ W4, W4 = ((w.alloc o1).alloc o2).alloc (.cells #[u] 113) := ⟨_, rfl⟩
  have HY : Below w.heap.size w W4 := by
    have h1 := (Below.refl w.heap.size w).alloc (Nat.le_refl _) o1
    have h2 := h1.alloc h1.size o2
    rw [hW4]
    exact h2.alloc h2.size _
  have HT : impl_symmetricSum.St n0 Bp Bs w.heap.size (w.heap.size + 1) (w.heap.size + 1 + 1) Ap Ax cp cx pw x W4 := by
    refine ⟨(HY.block Bp HP.out.lt).trans HP.out, ?_, ?_, ?_, Kd.C_below HPW.out HY, Kd.C_below HPX.out HY, hps, by omega, by omega, by omega, hap, hax, hn, Nat.lt_of_lt_of_le hlt HY.size⟩
    · rw [hW4]; exact (b1.alloc o2).alloc _
    · rw [hW4]; exact b2.alloc _
    · rw [hW4]
      have := Boxed.new ((w.alloc o1).alloc o2) 113 u
      rw [← hu]
      simpa using this
  have HA := Aside0.mk HT
  have HZ := Aside0.mk HY
  have HU := Aside0.mk ((HY.block Bs hlt).trans HS.out)
  clear HT HY b1 b2 b3 hps hlt
  subst hW4
  subst hu
  subst ho1
  subst ho2
  go_enter Try.func173, Try.ntmps173
  go_wp2_with (first | (go_at_call 188; refine (impl_symmetricSum.ext k n0 Bp Bs _ _ _ Ap Ax cp cx pw x hx4 x.length 0 none 0 [] s r _ HA.out HU.out (by simp) (Kd.C_nil _ _) (Nat.le_refl _) (fun _ h_ => by cases h_) HH.out).mono ?_; rintro e w' ⟨rfl, hk, hb, hs⟩))
  go_end0
  exact ⟨rfl, (KeepBut.of_below HZ.out Bs none).trans hk (.inl rfl), (HZ.out.mono (by have := HS.out.lt; omega)).trans hb, hs⟩
set_option maxHeartbeats 8000000 in
set_option maxRecDepth 100000 in
theorem impl_symmetricSum.calls (k : Nat) (A0 : Option Addr) (c0 : Nat) (l0 : List Int) (A1 : Option Addr) (c1 : Nat) (l1 : List Int) (r : Int) (w : World) (hr0 : Kd.C (Kd.int .i64) w A0 l0.length l0) (hc0 : l0.length ≤ c0) (hr1 : Kd.C (Kd.int .i64) w A1 l1.length l1) (hc1 : l1.length ≤ c1) (h : impl_symmetricSum.f k l0 l1 = some r) :
    Calls Try.prog 125 #[.slice A0 l0.length c0, .slice A1 l1.length c1] w fun e w' => e = .returned (.int .i64 r) ∧ Below w.heap.size w w' := by
  unfold impl_symmetricSum.f at h
  by_cases c : l1.length ≤ 4
  · rw [if_pos c] at h
    have HR0 := Aside0.mk hr0
    have HR1 := Aside0.mk hr1
    have HH := Aside0.mk h
    have HC := Aside0.mk c
    obtain ⟨o1, ho1⟩ : ∃ o, o = Obj.cells #[Value.slice A0 l0.length c0] 24 := ⟨_, rfl⟩
    have b1 : Boxed (w.alloc o1) w.heap.size 24 (.slice A0 l0.length c0) := by rw [ho1]; exact Boxed.new w 24 _
    obtain ⟨W2, hW2⟩ : ∃ W2, W2 = (w.alloc o1).alloc (.cells #[.int .i64 0] 3) := ⟨_, rfl⟩
    have HY : Below w.heap.size w W2 := by
      have h1 := (Below.refl w.heap.size w).alloc (Nat.le_refl _) o1
      rw [hW2]
      exact h1.alloc h1.size _
    have HP := Aside0.mk (show Boxed W2 w.heap.size 24 (.slice A0 l0.length c0) from by rw [hW2]; exact b1.alloc _)
    have HS := Aside0.mk (show Boxed W2 (w.heap.size + 1) 3 (.int .i64 0) from by
      rw [hW2]
      have := Boxed.new (w.alloc o1) 3 (.int .i64 0)
      simpa using this)
    have P0 := Aside0.mk (Kd.C_below hr0 HY)
    have P1 := Aside0.mk (Kd.C_below hr1 HY)
    have far : ∀ {A : Option Addr} {l : List Int}, Kd.C (Kd.int .i64) w A l.length l → ∀ ad, A = some ad → 0 < l.length → ad.block ≠ w.heap.size + 1 := by
      intro A l hC ad e_ hl
      subst e_
      obtain ⟨ad1, e1, hx1⟩ := Kd.at_int hC 0 (by omega) (by omega)
      cases e1
      have := World.block_lt_of_cell? w _ hx1
      rw [add_block] at this
      omega
    have F0 := Aside0.mk (far hr0)
    have F1 := Aside0.mk (far hr1)
    have HZ := Aside0.mk HY
    clear hr0 hr1 hc0 hc1 h c b1 HY far
    subst hW2
    subst ho1
    go_enter Try.func125, Try.ntmps125
    go_wp2_with (first | (go_at_call 173; refine (impl_symmetricSum.orders k w.heap.size w.heap.size (w.heap.size + 1) A0 A1 c0 c1 l0 l1 0 r _ HC.out HP.out HS.out (by omega) (by omega) P0.out P1.out F0.out F1.out HH.out).mono ?_; rintro e w' ⟨rfl, hk, hb, hs⟩; have hcs := hs.cell))
    go_ret
    exact ⟨rfl, HZ.out.trans hb⟩
  · rw [if_neg c] at h; exact absurd h (by simp)

/-! ### impl_SymmetricSum: function 49 -/
def impl_SymmetricSum.f (k : Nat) (l0 : List Int) (l1 : List Int) : Option (Int × Bool) := (impl_arePowers.f k l0).bind fun t219 => (if t219 = true then ((impl_areArguments.f k l1).bind fun t220 => (if t220 = true then (if (l0.length : Int) = (l1.length : Int) then ((impl_symmetricSum.f k l0 l1).bind fun t221 => (some (t221, true))) else (some (0, false))) else (some (0, false)))) else (some (0, false)))
theorem impl_SymmetricSum.mono : ∀ a0 a1 k, LeO (impl_SymmetricSum.f k a0 a1) (impl_SymmetricSum.f (k + 1) a0 a1) := by
  intro a0 a1 k
  unfold impl_SymmetricSum.f
  repeat' first
      | (with_reducible exact impl_areArguments.mono _ _)
      | (with_reducible exact impl_arePowers.mono _ _)
      | (with_reducible exact impl_symmetricSum.mono _ _ _)
      | (with_reducible exact LeO.refl _)
      | (with_reducible exact LeO.none _)
      | (with_reducible refine LeO.ite ?_ ?_)
      | (with_reducible refine LeO.bind ?_ (fun _ => ?_))
      | exact impl_areArguments.mono _ _
      | exact impl_arePowers.mono _ _
      | exact impl_symmetricSum.mono _ _ _
      | exact LeO.none _
      | refine LeO.ite ?_ ?_
      | refine LeO.bind ?_ (fun _ => ?_)
set_option maxHeartbeats 8000000 in
set_option maxRecDepth 100000 in
theorem impl_SymmetricSum.calls (k : Nat) (A0 : Option Addr) (c0 : Nat) (l0 : List Int) (A1 : Option Addr) (c1 : Nat) (l1 : List Int) (r1 : Int) (r2 : Bool) (w : World) (hr0 : Kd.C (Kd.int .i64) w A0 l0.length l0) (hc0 : l0.length ≤ c0) (hr1 : Kd.C (Kd.int .i64) w A1 l1.length l1) (hc1 : l1.length ≤ c1) (h : impl_SymmetricSum.f k l0 l1 = some (r1, r2)) :
    Calls Try.prog 49 #[.slice A0 l0.length c0, .slice A1 l1.length c1] w fun e w' => e = .returned (.tuple #[.int .i64 r1, .bool r2]) ∧ Below w.heap.size w w' := by
  have HR0 := Aside0.mk hr0
  have HC0 := Aside0.mk hc0
  clear hr0 hc0
  have HR1 := Aside0.mk hr1
  have HC1 := Aside0.mk hc1
  clear hr1 hc1
  have HB := Aside0.mk (Below.refl w.heap.size w)
  have H : ((impl_arePowers.f k l0).bind fun t219 => (if t219 = true then ((impl_areArguments.f k l1).bind fun t220 => (if t220 = true then (if (l0.length : Int) = (l1.length : Int) then ((impl_symmetricSum.f k l0 l1).bind fun t221 => (some (t221, true))) else (some (0, false))) else (some (0, false)))) else (some (0, false)))) = some (r1, r2) := h
  clear h
  replace H := Option.bind_eq_some_iff.mp H
  obtain ⟨t219, A30, H⟩ := H
  replace H : (if t219 = true then ((impl_areArguments.f k l1).bind fun t220 => (if t220 = true then (if (l0.length : Int) = (l1.length : Int) then ((impl_symmetricSum.f k l0 l1).bind fun t221 => (some (t221, true))) else (some (0, false))) else (some (0, false)))) else (some (0, false))) = some (r1, r2) := H
  have A3 := Aside0.mk A30
  clear A30
  by_cases c4 : t219 = true
  · subst c4
    have H1 : ((impl_areArguments.f k l1).bind fun t220 => (if t220 = true then (if (l0.length : Int) = (l1.length : Int) then ((impl_symmetricSum.f k l0 l1).bind fun t221 => (some (t221, true))) else (some (0, false))) else (some (0, false)))) = some (r1, r2) := by rw [if_pos rfl] at H; exact H
    clear H
    have H := H1
    clear H1
    replace H := Option.bind_eq_some_iff.mp H
    obtain ⟨t220, A50, H⟩ := H
    replace H : (if t220 = true then (if (l0.length : Int) = (l1.length : Int) then ((impl_symmetricSum.f k l0 l1).bind fun t221 => (some (t221, true))) else (some (0, false))) else (some (0, false))) = some (r1, r2) := H
    have A5 := Aside0.mk A50
    clear A50
    by_cases c6 : t220 = true
    · subst c6
      have H1 : (if (l0.length : Int) = (l1.length : Int) then ((impl_symmetricSum.f k l0 l1).bind fun t221 => (some (t221, true))) else (some (0, false))) = some (r1, r2) := by rw [if_pos rfl] at H; exact H
      clear H
      have H := H1
      clear H1
      by_cases c7 : (l0.length : Int) = (l1.length : Int)
      · rw [if_pos c7] at H
        have c7b0 : ((l0.length : Int) == (l1.length : Int)) = true := beq_iff_eq.mpr c7
        have c7b1 : ((l0.length : Int) != (l1.length : Int)) = false := bne_eq_false_iff_eq.mpr c7
        have c7b2 : (l0.length == l1.length) = true := by first | simpa using c7 | (simp at c7 ⊢; omega)
        clear c7
        replace H := Option.bind_eq_some_iff.mp H
        obtain ⟨t221, A80, H⟩ := H
        replace H : (some (t221, true)) = some (r1, r2) := H
        have A8 := Aside0.mk A80
        clear A80
        simp only [Option.some.injEq, Prod.mk.injEq] at H
        obtain ⟨rfl, rfl⟩ := H
        go_enter Try.func49, Try.ntmps49
        go_wp2_with (first | ((with_reducible refine gate_callee (f := 123) rfl ?_); refine goesL_ (some 7) rfl rfl Try.func123 (by kernel_rfl) rfl #[.slice A0 l0.length c0] rfl (by (try simp only [List.map_toArray, List.map_cons, List.map_nil]); first | done | rfl | (simp only [List.length_drop, List.length_take]; rfl)) ?_; (with_reducible refine (impl_arePowers.calls k _ _ l0 true _ ?side1 ?side2 A3.out).mono ?_); (case side1 => repeat (first | exact HR0.out | (with_reducible refine Kd.C_alloc ?_ _) | (with_reducible refine Kd.C_drewN ?_ _) | (with_reducible refine Kd.C_drew ?_))); (case side2 => exact HC0.out); rintro e w' ⟨rfl, ⟨nd, rfl⟩⟩; refine ⟨_, rfl, ?_⟩) | (go_at_call 124; (with_reducible refine (impl_areArguments.calls k _ _ l1 true _ ?side1 ?side2 A5.out).mono ?_); (case side1 => repeat (first | exact HR1.out | (with_reducible refine Kd.C_alloc ?_ _) | (with_reducible refine Kd.C_drewN ?_ _) | (with_reducible refine Kd.C_drew ?_))); (case side2 => exact HC1.out); rintro e w' ⟨rfl, ⟨nd, rfl⟩⟩) | ((with_reducible refine gate_callee (f := 125) rfl ?_); refine goesL_ (some 23) rfl rfl Try.func125 (by kernel_rfl) rfl #[.slice A0 l0.length c0, .slice A1 l1.length c1] rfl (by (try simp only [List.map_toArray, List.map_cons, List.map_nil]); first | done | rfl | (simp only [List.length_drop, List.length_take]; rfl)) ?_; (with_reducible refine (impl_symmetricSum.calls k _ _ l0 _ _ l1 t221 _ ?side1 ?side2 ?side3 ?side4 A8.out).mono ?_); (case side1 => repeat (first | exact HR0.out | (with_reducible refine Kd.C_alloc ?_ _) | (with_reducible refine Kd.C_drewN ?_ _) | (with_reducible refine Kd.C_drew ?_))); (case side2 => exact HC0.out); (case side3 => repeat (first | exact HR1.out | (with_reducible refine Kd.C_alloc ?_ _) | (with_reducible refine Kd.C_drewN ?_ _) | (with_reducible refine Kd.C_drew ?_))); (case side4 => exact HC1.out); rintro e w9 ⟨rfl, hb⟩; refine ⟨_, rfl, ?_⟩; have n0_ := Aside0.mk (below_step (by repeat (first | (with_reducible first | exact HB.out | apply below_alloc | apply pw_below_drewN | apply below_drew1) | exact HB.out)) hb); clear HB; have HB := n0_; clear n0_; (try clear hb); (try clear hb2); (try clear hk); (try clear hi)))
        go_ret2
        exact ⟨by first | rfl | (simp [errW_none, errW_some] <;> rfl) | (simp [*, errW_none, errW_some] <;> rfl), by repeat (first | (with_reducible first | exact HB.out | apply below_alloc | apply pw_below_drewN | apply below_drew1) | exact HB.out)⟩
      · rw [if_neg c7] at H
        have c7b0 : ((l0.length : Int) == (l1.length : Int)) = false := beq_eq_false_iff_ne.mpr c7
        have c7b1 : ((l0.length : Int) != (l1.length : Int)) = true := bne_iff_ne.mpr c7
        have c7b2 : (l0.length == l1.length) = false := by first | simpa using c7 | (simp at c7 ⊢; omega)
        simp only [Option.some.injEq, Prod.mk.injEq] at H
        obtain ⟨rfl, rfl⟩ := H
        go_enter Try.func49, Try.ntmps49
        go_wp2_with (first | ((with_reducible refine gate_callee (f := 123) rfl ?_); refine goesL_ (some 7) rfl rfl Try.func123 (by kernel_rfl) rfl #[.slice A0 l0.length c0] rfl (by (try simp only [List.map_toArray, List.map_cons, List.map_nil]); first | done | rfl | (simp only [List.length_drop, List.length_take]; rfl)) ?_; (with_reducible refine (impl_arePowers.calls k _ _ l0 true _ ?side1 ?side2 A3.out).mono ?_); (case side1 => repeat (first | exact HR0.out | (with_reducible refine Kd.C_alloc ?_ _) | (with_reducible refine Kd.C_drewN ?_ _) | (with_reducible refine Kd.C_drew ?_))); (case side2 => exact HC0.out); rintro e w' ⟨rfl, ⟨nd, rfl⟩⟩; refine ⟨_, rfl, ?_⟩) | (go_at_call 124; (with_reducible refine (impl_areArguments.calls k _ _ l1 true _ ?side1 ?side2 A5.out).mono ?_); (case side1 => repeat (first | exact HR1.out | (with_reducible refine Kd.C_alloc ?_ _) | (with_reducible refine Kd.C_drewN ?_ _) | (with_reducible refine Kd.C_drew ?_))); (case side2 => exact HC1.out); rintro e w' ⟨rfl, ⟨nd, rfl⟩⟩))
        go_ret2
        exact ⟨by first | rfl | (simp [errW_none, errW_some] <;> rfl) | (simp [*, errW_none, errW_some] <;> rfl), by repeat (first | (with_reducible first | exact HB.out | apply below_alloc | apply pw_below_drewN | apply below_drew1) | exact HB.out)⟩
    · replace c6 := Bool.eq_false_iff.mpr c6
      subst c6
      have H1 : (some (0, false)) = some (r1, r2) := by rw [if_neg (show ¬ (false = true) by decide)] at H; exact H
      clear H
      have H := H1
      clear H1
      simp only [Option.some.injEq, Prod.mk.injEq] at H
      obtain ⟨rfl, rfl⟩ := H
      go_enter Try.func49, Try.ntmps49
      go_wp2_with (first | ((with_reducible refine gate_callee (f := 123) rfl ?_); refine goesL_ (some 7) rfl rfl Try.func123 (by kernel_rfl) rfl #[.slice A0 l0.length c0] rfl (by (try simp only [List.map_toArray, List.map_cons, List.map_nil]); first | done | rfl | (simp only [List.length_drop, List.length_take]; rfl)) ?_; (with_reducible refine (impl_arePowers.calls k _ _ l0 true _ ?side1 ?side2 A3.out).mono ?_); (case side1 => repeat (first | exact HR0.out | (with_reducible refine Kd.C_alloc ?_ _) | (with_reducible refine Kd.C_drewN ?_ _) | (with_reducible refine Kd.C_drew ?_))); (case side2 => exact HC0.out); rintro e w' ⟨rfl, ⟨nd, rfl⟩⟩; refine ⟨_, rfl, ?_⟩) | (go_at_call 124; (with_reducible refine (impl_areArguments.calls k _ _ l1 false _ ?side1 ?side2 A5.out).mono ?_); (case side1 => repeat (first | exact HR1.out | (with_reducible refine Kd.C_alloc ?_ _) | (with_reducible refine Kd.C_drewN ?_ _) | (with_reducible refine Kd.C_drew ?_))); (case side2 => exact HC1.out); rintro e w' ⟨rfl, ⟨nd, rfl⟩⟩))
      go_ret2
      exact ⟨by first | rfl | (simp [errW_none, errW_some] <;> rfl) | (simp [*, errW_none, errW_some] <;> rfl), by repeat (first | (with_reducible first | exact HB.out | apply below_alloc | apply pw_below_drewN | apply below_drew1) | exact HB.out)⟩
  · replace c4 := Bool.eq_false_iff.mpr c4
    subst c4
    have H1 : (some (0, false)) = some (r1, r2) := by rw [if_neg (show ¬ (false = true) by decide)] at H; exact H
    clear H
    have H := H1
    clear H1
    simp only [Option.some.injEq, Prod.mk.injEq] at H
    obtain ⟨rfl, rfl⟩ := H
    go_enter Try.func49, Try.ntmps49
    go_wp2_with (first | ((with_reducible refine gate_callee (f := 123) rfl ?_); refine goesL_ (some 7) rfl rfl Try.func123 (by kernel_rfl) rfl #[.slice A0 l0.length c0] rfl (by (try simp only [List.map_toArray, List.map_cons, List.map_nil]); first | done | rfl | (simp only [List.length_drop, List.length_take]; rfl)) ?_; (with_reducible refine (impl_arePowers.calls k _ _ l0 false _ ?side1 ?side2 A3.out).mono ?_); (case side1 => repeat (first | exact HR0.out | (with_reducible refine Kd.C_alloc ?_ _) | (with_reducible refine Kd.C_drewN ?_ _) | (with_reducible refine Kd.C_drew ?_))); (case side2 => exact HC0.out); rintro e w' ⟨rfl, ⟨nd, rfl⟩⟩; refine ⟨_, rfl, ?_⟩))
    go_ret2
    exact ⟨by first | rfl | (simp [errW_none, errW_some] <;> rfl) | (simp [*, errW_none, errW_some] <;> rfl), by repeat (first | (with_reducible first | exact HB.out | apply below_alloc | apply pw_below_drewN | apply below_drew1) | exact HB.out)⟩

/-! ### impl_CompareSums: function 47 -/
def impl_CompareSums.j0 : Nat → Int → Int → Bool → Option (Int × Bool)
  | 0, _, _, _ => none
  | k + 1, x8, x10, x24 => if x24 = true then (some (0, false)) else (if x8 < x10 then (some ((-1), true)) else (if x8 > x10 then (some (1, true)) else (some (0, true))))
def impl_CompareSums.f (k : Nat) (l0 : List Int) (l1 : List Int) (l2 : List Int) : Option (Int × Bool) := (impl_SymmetricSum.f k l0 l2).bind fun bt222 => ((impl_SymmetricSum.f k l1 l2).bind fun bt224 => (if bt222.2 = true then (impl_CompareSums.j0 k bt222.1 bt224.1 (!bt224.2)) else (impl_CompareSums.j0 k bt222.1 bt224.1 true)))
theorem impl_CompareSums.mono_l : ∀ k, (∀ y0 y1 y2, LeO (impl_CompareSums.j0 k y0 y1 y2) (impl_CompareSums.j0 (k + 1) y0 y1 y2))
  | 0 => fun _ _ _ r h => by simp [impl_CompareSums.j0] at h
  | k + 1 => by
    have ih0 := impl_CompareSums.mono_l k
    · intro y0 y1 y2
      unfold impl_CompareSums.j0
      repeat' first
      | (with_reducible exact ih0 _ _ _)
      | (with_reducible exact impl_SymmetricSum.mono _ _ _)
      | (with_reducible exact LeO.refl _)
      | (with_reducible exact LeO.none _)
      | (with_reducible refine LeO.ite ?_ ?_)
      | (with_reducible refine LeO.bind ?_ (fun _ => ?_))
      | exact ih0 _ _ _
      | exact impl_SymmetricSum.mono _ _ _
      | exact LeO.none _
      | refine LeO.ite ?_ ?_
      | refine LeO.bind ?_ (fun _ => ?_)
theorem impl_CompareSums.mono : ∀ a0 a1 a2 k, LeO (impl_CompareSums.f k a0 a1 a2) (impl_CompareSums.f (k + 1) a0 a1 a2) := by
  intro a0 a1 a2 k
  have ih0 := impl_CompareSums.mono_l k
  unfold impl_CompareSums.f
  repeat' first
      | (with_reducible exact ih0 _ _ _)
      | (with_reducible exact impl_SymmetricSum.mono _ _ _)
      | (with_reducible exact LeO.refl _)
      | (with_reducible exact LeO.none _)
      | (with_reducible refine LeO.ite ?_ ?_)
      | (with_reducible refine LeO.bind ?_ (fun _ => ?_))
      | exact ih0 _ _ _
      | exact impl_SymmetricSum.mono _ _ _
      | exact LeO.none _
      | refine LeO.ite ?_ ?_
      | refine LeO.bind ?_ (fun _ => ?_)
set_option maxHeartbeats 8000000 in
set_option maxRecDepth 100000 in
theorem impl_CompareSums.calls (k : Nat) (A0 : Option Addr) (c0 : Nat) (l0 : List Int) (A1 : Option Addr) (c1 : Nat) (l1 : List Int) (A2 : Option Addr) (c2 : Nat) (l2 : List Int) (r1 : Int) (r2 : Bool) (w : World) (hr0 : Kd.C (Kd.int .i64) w A0 l0.length l0) (hc0 : l0.length ≤ c0) (hr1 : Kd.C (Kd.int .i64) w A1 l1.length l1) (hc1 : l1.length ≤ c1) (hr2 : Kd.C (Kd.int .i64) w A2 l2.length l2) (hc2 : l2.length ≤ c2) (h : impl_CompareSums.f k l0 l1 l2 = some (r1, r2)) :
    Calls Try.prog 47 #[.slice A0 l0.length c0, .slice A1 l1.length c1, .slice A2 l2.length c2] w fun e w' => e = .returned (.tuple #[.int .i64 r1, .bool r2]) ∧ Below w.heap.size w w' := by
  have HR0 := Aside0.mk hr0
  have HC0 := Aside0.mk hc0
  clear hr0 hc0
  have HR1 := Aside0.mk hr1
  have HC1 := Aside0.mk hc1
  clear hr1 hc1
  have HR2 := Aside0.mk hr2
  have HC2 := Aside0.mk hc2
  clear hr2 hc2
  have HB := Aside0.mk (Below.refl w.heap.size w)
  have H : ((impl_SymmetricSum.f k l0 l2).bind fun bt222 => ((impl_SymmetricSum.f k l1 l2).bind fun bt224 => (if bt222.2 = true then (impl_CompareSums.j0 k bt222.1 bt224.1 (!bt224.2)) else (impl_CompareSums.j0 k bt222.1 bt224.1 true)))) = some (r1, r2) := h
  clear h
  replace H := Option.bind_eq_some_iff.mp H
  obtain ⟨⟨t222, t223⟩, A40, H⟩ := H
  replace H : ((impl_SymmetricSum.f k l1 l2).bind fun bt224 => (if t223 = true then (impl_CompareSums.j0 k t222 bt224.1 (!bt224.2)) else (impl_CompareSums.j0 k t222 bt224.1 true))) = some (r1, r2) := H
  have A4 := Aside0.mk A40
  clear A40
  replace H := Option.bind_eq_some_iff.mp H
  obtain ⟨⟨t224, t225⟩, A50, H⟩ := H
  replace H : (if t223 = true then (impl_CompareSums.j0 k t222 t224 (!t225)) else (impl_CompareSums.j0 k t222 t224 true)) = some (r1, r2) := H
  have A5 := Aside0.mk A50
  clear A50
  have HC6 := Aside0.mk H
  clear H
  go_enter Try.func47, Try.ntmps47
  go_upto_region 3 with (first | ((with_reducible refine gate_callee (f := 49) rfl ?_); refine goesL_ (some 15) rfl rfl Try.func49 (by kernel_rfl) rfl #[.slice A0 l0.length c0, .slice A2 l2.length c2] rfl (by (try simp only [List.map_toArray, List.map_cons, List.map_nil]); first | done | rfl | (simp only [List.length_drop, List.length_take]; rfl)) ?_; (with_reducible refine (impl_SymmetricSum.calls k _ _ l0 _ _ l2 t222 t223 _ ?side1 ?side2 ?side3 ?side4 A4.out).mono ?_); (case side1 => repeat (first | exact HR0.out | (with_reducible refine Kd.C_alloc ?_ _) | (with_reducible refine Kd.C_drewN ?_ _) | (with_reducible refine Kd.C_drew ?_))); (case side2 => exact HC0.out); (case side3 => repeat (first | exact HR2.out | (with_reducible refine Kd.C_alloc ?_ _) | (with_reducible refine Kd.C_drewN ?_ _) | (with_reducible refine Kd.C_drew ?_))); (case side4 => exact HC2.out); rintro e w7 ⟨rfl, hb⟩; refine ⟨_, rfl, ?_⟩; have n0_ := Aside0.mk (below_step (by repeat (first | (with_reducible first | exact HB.out | apply below_alloc | apply pw_below_drewN | apply below_drew1) | exact HB.out)) hb); clear HB; have HB := n0_; clear n0_; (try clear hb); (try clear hb2); (try clear hk); (try clear hi)) | ((with_reducible refine gate_callee (f := 49) rfl ?_); refine goesL_ (some 21) rfl rfl Try.func49 (by kernel_rfl) rfl #[.slice A1 l1.length c1, .slice A2 l2.length c2] rfl (by (try simp only [List.map_toArray, List.map_cons, List.map_nil]); first | done | rfl | (simp only [List.length_drop, List.length_take]; rfl)) ?_; (with_reducible refine (impl_SymmetricSum.calls k _ _ l1 _ _ l2 t224 t225 _ ?side1 ?side2 ?side3 ?side4 A5.out).mono ?_); (case side1 => repeat (first | exact (Kd.C_below HR1.out HB.out) | (with_reducible refine Kd.C_alloc ?_ _) | (with_reducible refine Kd.C_drewN ?_ _) | (with_reducible refine Kd.C_drew ?_))); (case side2 => exact HC1.out); (case side3 => repeat (first | exact (Kd.C_below HR2.out HB.out) | (with_reducible refine Kd.C_alloc ?_ _) | (with_reducible refine Kd.C_drewN ?_ _) | (with_reducible refine Kd.C_drew ?_))); (case side4 => exact HC2.out); rintro e w8 ⟨rfl, hb⟩; refine ⟨_, rfl, ?_⟩; have n0_ := Aside0.mk (below_step (by repeat (first | (with_reducible first | exact HB.out | apply below_alloc | apply pw_below_drewN | apply below_drew1) | exact HB.out)) hb); clear HB; have HB := n0_; clear n0_; (try clear hb); (try clear hb2); (try clear hk); (try clear hi)))
  (try simp only [Act.put, List.setIfInBounds_toArray, List.set_cons_zero, List.set_cons_succ])
  go_cut [24] (fun v24 wc => ∃ (kq : Nat) (x24_5 : Bool), v24 = .bool x24_5 ∧ Aside0 (impl_CompareSums.j0 kq t222 t224 x24_5 = some (r1, r2)) ∧ Aside0 (kq ≤ k) ∧ Aside0 (Below w.heap.size w wc))
  case first =>
    have H := HC6.out
    clear HC6
    by_cases c9 : t223 = true
    · subst c9
      have H1 : (impl_CompareSums.j0 k t222 t224 (!t225)) = some (r1, r2) := by rw [if_pos rfl] at H; exact H
      clear H
      have H := H1
      clear H1
      have H' := Aside0.mk H
      clear H
      go_wp2
      go_meet
      case rel => exact ⟨_, (!t225), (by first | rfl | (simp; done) | (simp [*]; done)), H', ⟨by first | omega | exact Nat.le_refl _⟩, ⟨by repeat (first | (with_reducible first | exact HB.out | apply below_alloc | apply pw_below_drewN | apply below_drew1) | exact HB.out)⟩⟩
    · replace c9 := Bool.eq_false_iff.mpr c9
      subst c9
      have H1 : (impl_CompareSums.j0 k t222 t224 true) = some (r1, r2) := by rw [if_neg (show ¬ (false = true) by decide)] at H; exact H
      clear H
      have H := H1
      clear H1
      have H' := Aside0.mk H
      clear H
      go_wp2
      go_meet
      case rel => exact ⟨_, (true), (by first | rfl | (simp; done) | (simp [*]; done)), H', ⟨by first | omega | exact Nat.le_refl _⟩, ⟨by repeat (first | (with_reducible first | exact HB.out | apply below_alloc | apply pw_below_drewN | apply below_drew1) | exact HB.out)⟩⟩
  case rest =>
    clear HC6
    try clear c1
    try clear c2
    try clear p2
    try clear c4
    try clear c9
    obtain ⟨kq, x24_5, rfl, HA, HJ5, HB⟩ := hcut
    cases kq with
    | zero => exact absurd HA.out (by simp [impl_CompareSums.j0])
    | succ kj5 =>
      have H := HA.out
      clear HA
      simp only [impl_CompareSums.j0] at H
      by_cases c10 : x24_5 = true
      · subst c10
        have H1 : (some (0, false)) = some (r1, r2) := by rw [if_pos rfl] at H; exact H
        clear H
        have H := H1
        clear H1
        simp only [Option.some.injEq, Prod.mk.injEq] at H
        obtain ⟨rfl, rfl⟩ := H
        go_wp2
        go_ret2
        exact ⟨by first | rfl | (simp [errW_none, errW_some] <;> rfl) | (simp [*, errW_none, errW_some] <;> rfl), by repeat (first | (with_reducible first | exact HB.out | apply below_alloc | apply pw_below_drewN | apply below_drew1) | exact HB.out)⟩
      · replace c10 := Bool.eq_false_iff.mpr c10
        subst c10
        have H1 : (if t222 < t224 then (some ((-1), true)) else (if t222 > t224 then (some (1, true)) else (some (0, true)))) = some (r1, r2) := by rw [if_neg (show ¬ (false = true) by decide)] at H; exact H
        clear H
        have H := H1
        clear H1
        by_cases c11 : t222 < t224
        · rw [if_pos c11] at H
          have c11b0 : decide (t222 < t224) = true := decide_eq_true c11
          clear c11
          simp only [Option.some.injEq, Prod.mk.injEq] at H
          obtain ⟨rfl, rfl⟩ := H
          go_wp2
          go_ret2
          exact ⟨by first | rfl | (simp [errW_none, errW_some] <;> rfl) | (simp [*, errW_none, errW_some] <;> rfl), by repeat (first | (with_reducible first | exact HB.out | apply below_alloc | apply pw_below_drewN | apply below_drew1) | exact HB.out)⟩
        · rw [if_neg c11] at H
          have c11b0 : decide (t222 < t224) = false := decide_eq_false c11
          clear c11
          by_cases c12 : t222 > t224
          · rw [if_pos c12] at H
            have c12b0 : decide (t224 < t222) = true := decide_eq_true c12
            clear c12
            simp only [Option.some.injEq, Prod.mk.injEq] at H
            obtain ⟨rfl, rfl⟩ := H
            go_wp2
            go_ret2
            exact ⟨by first | rfl | (simp [errW_none, errW_some] <;> rfl) | (simp [*, errW_none, errW_some] <;> rfl), by repeat (first | (with_reducible first | exact HB.out | apply below_alloc | apply pw_below_drewN | apply below_drew1) | exact HB.out)⟩
          · rw [if_neg c12] at H
            have c12b0 : decide (t224 < t222) = false := decide_eq_false c12
            clear c12
            simp only [Option.some.injEq, Prod.mk.injEq] at H
            obtain ⟨rfl, rfl⟩ := H
            go_wp2
            go_ret2
            exact ⟨by first | rfl | (simp [errW_none, errW_some] <;> rfl) | (simp [*, errW_none, errW_some] <;> rfl), by repeat (first | (with_reducible first | exact HB.out | apply below_alloc | apply pw_below_drewN | apply below_drew1) | exact HB.out)⟩

/-! ### spec_l1In: function 165 -/
def spec_l1In.f (a0 : Int) (a1 : Int) (a2 : Int) : Option (Bool) := if a0 ≥ a1 then (some (decide (a0 ≤ a2))) else (some false)
set_option maxHeartbeats 8000000 in
set_option maxRecDepth 100000 in
theorem spec_l1In.calls (a0 : Int) (a1 : Int) (a2 : Int) (r : Bool) (w : World) (h : spec_l1In.f a0 a1 a2 = some r) :
    Calls Try.prog 165 #[.int .i64 a0, .int .i64 a1, .int .i64 a2] w fun e w' => e = .returned (.bool r) ∧ Drawn0 w w' := by
  have H : (if a0 ≥ a1 then (some (decide (a0 ≤ a2))) else (some false)) = some r := h
  clear h
  by_cases c4 : a0 ≥ a1
  · rw [if_pos c4] at H
    have c4b0 : decide (a1 ≤ a0) = true := decide_eq_true c4
    clear c4
    obtain rfl := Option.some.inj H
    go_enter Try.func165, Try.ntmps165
    go_wp2
    go_ret
    exact ⟨by first | rfl | (simp; done) | (simp [*]; done), by repeat (first | exact Drawn0.refl _ | apply Drawn0.step)⟩
  · rw [if_neg c4] at H
    have c4b0 : decide (a1 ≤ a0) = false := decide_eq_false c4
    clear c4
    obtain rfl := Option.some.inj H
    go_enter Try.func165, Try.ntmps165
    go_wp2
    go_ret
    exact ⟨by first | rfl | (simp; done) | (simp [*]; done), by repeat (first | exact Drawn0.refl _ | apply Drawn0.step)⟩

/-! ### spec_l1All: function 166 -/
def spec_l1All.l0 : Nat → Int → Int → List Int → Int → Int → Option (Bool)
  | 0, _, _, _, _, _ => none
  | k + 1, x1, x2, x9, x10, x11 => if x11 < x10 then (if 0 ≤ x11 then (if x11 < (x9.length : Int) then ((spec_l1In.f (rd x9 x11) x1 x2).bind fun t227 => (if t227 = true then (spec_l1All.l0 k x1 x2 x9 x10 (wrap64 (x11 + 1))) else (some false))) else (none)) else (none)) else (some true)
def spec_l1All.f (k : Nat) (l0 : List Int) (a1 : Int) (a2 : Int) : Option (Bool) := spec_l1All.l0 k a1 a2 l0 (l0.length : Int) 0
theorem spec_l1All.mono_l : ∀ k, (∀ y0 y1 y2 y3 y4, LeO (spec_l1All.l0 k y0 y1 y2 y3 y4) (spec_l1All.l0 (k + 1) y0 y1 y2 y3 y4))
  | 0 => fun _ _ _ _ _ r h => by simp [spec_l1All.l0] at h
  | k + 1 => by
    have ih0 := spec_l1All.mono_l k
    · intro y0 y1 y2 y3 y4
      unfold spec_l1All.l0
      repeat' first
      | (with_reducible exact ih0 _ _ _ _ _)
      | (with_reducible exact LeO.refl _)
      | (with_reducible exact LeO.none _)
      | (with_reducible refine LeO.ite ?_ ?_)
      | (with_reducible refine LeO.bind ?_ (fun _ => ?_))
      | exact ih0 _ _ _ _ _
      | exact LeO.none _
      | refine LeO.ite ?_ ?_
      | refine LeO.bind ?_ (fun _ => ?_)
theorem spec_l1All.mono : ∀ a0 a1 a2 k, LeO (spec_l1All.f k a0 a1 a2) (spec_l1All.f (k + 1) a0 a1 a2) := by
  intro a0 a1 a2 k
  have ih0 := spec_l1All.mono_l k
  unfold spec_l1All.f
  repeat' first
      | (with_reducible exact ih0 _ _ _ _ _)
      | (with_reducible exact LeO.refl _)
      | (with_reducible exact LeO.none _)
      | (with_reducible refine LeO.ite ?_ ?_)
      | (with_reducible refine LeO.bind ?_ (fun _ => ?_))
      | exact ih0 _ _ _ _ _
      | exact LeO.none _
      | refine LeO.ite ?_ ?_
      | refine LeO.bind ?_ (fun _ => ?_)
set_option maxHeartbeats 8000000 in
set_option maxRecDepth 100000 in
theorem spec_l1All.calls (k : Nat) (A0 : Option Addr) (c0 : Nat) (l0 : List Int) (a1 : Int) (a2 : Int) (r : Bool) (w : World) (hr0 : Kd.C (Kd.int .i64) w A0 l0.length l0) (hc0 : l0.length ≤ c0) (h : spec_l1All.f k l0 a1 a2 = some r) :
    Calls Try.prog 166 #[.slice A0 l0.length c0, .int .i64 a1, .int .i64 a2] w fun e w' => e = .returned (.bool r) ∧ Drawn0 w w' := by
  have HR0 := Aside0.mk hr0
  have HC0 := Aside0.mk hc0
  clear hr0 hc0
  have H : (spec_l1All.l0 k a1 a2 l0 (l0.length : Int) 0) = some r := h
  clear h
  have H' := Aside0.mk H
  clear H
  go_enter Try.func166, Try.ntmps166
  go_wp2
  go_loopg [11] k (fun kq v11 w' => ∃ (x11_1 : Int), v11 = .int .i64 x11_1 ∧ Aside0 (spec_l1All.l0 kq a1 a2 l0 (l0.length : Int) x11_1 = some r) ∧ Aside0 (kq ≤ k) ∧ Drawn0 w w')
  case atStart => exact ⟨(0), (by first | rfl | (simp; done) | (simp [*]; done)), H', ⟨Nat.le_refl _⟩, by repeat (first | exact Drawn0.refl _ | apply Drawn0.step)⟩
  case round =>
    clear H'
    try clear c1
    try clear p2
    obtain ⟨x11_1, rfl, HA, HK1, ⟨m1, rfl⟩⟩ := hrel
    cases gk with
    | zero => exact absurd HA.out (by simp [spec_l1All.l0])
    | succ k1 =>
      have H := HA.out
      clear HA
      simp only [spec_l1All.l0] at H
      by_cases c4 : x11_1 < (l0.length : Int)
      · rw [if_pos c4] at H
        have c4b0 : decide (x11_1 < (l0.length : Int)) = true := decide_eq_true c4
        clear c4
        by_cases c5 : 0 ≤ x11_1
        · rw [if_pos c5] at H
          have c5b0 : decide (0 ≤ x11_1) = true := decide_eq_true c5
          clear c5
          by_cases c6 : x11_1 < (l0.length : Int)
          · rw [if_pos c6] at H
            have c6b0 : decide (x11_1 < (l0.length : Int)) = true := decide_eq_true c6
            clear c6
            replace H := Option.bind_eq_some_iff.mp H
            obtain ⟨t227, A70, H⟩ := H
            replace H : (if t227 = true then (spec_l1All.l0 k1 a1 a2 l0 (l0.length : Int) (wrap64 (x11_1 + 1))) else (some false)) = some r := H
            have A7 := Aside0.mk A70
            clear A70
            by_cases c8 : t227 = true
            · subst c8
              have H1 : (spec_l1All.l0 k1 a1 a2 l0 (l0.length : Int) (wrap64 (x11_1 + 1))) = some r := by rw [if_pos rfl] at H; exact H
              clear H
              have H := H1
              clear H1
              have H' := Aside0.mk H
              clear H
              have p226 : 0 ≤ (x11_1 : Int) := of_decide_eq_true (by first | (with_reducible assumption) | assumption)
              have q226 : x11_1 < (l0.length : Int) := of_decide_eq_true (by first | (with_reducible assumption) | assumption)
              obtain ⟨ad226, e226, hx226_0⟩ := Kd.at_int HR0.out x11_1 p226 q226
              cases e226
              replace p226 := eq_true p226
              replace q226 := eq_true q226
              go_wp2_with (first | ((with_reducible refine gate_callee (f := 165) rfl ?_); refine goesL_ (some 18) rfl rfl Try.func165 (by kernel_rfl) rfl #[.int .i64 (rd l0 x11_1), .int .i64 a1, .int .i64 a2] rfl (by (try simp only [List.map_toArray, List.map_cons, List.map_nil]); first | done | rfl | (simp only [List.length_drop, List.length_take]; rfl)) ?_; (with_reducible refine (spec_l1In.calls (rd l0 x11_1) a1 a2 true _ A7.out).mono ?_); rintro e w' ⟨rfl, ⟨nd, rfl⟩⟩; refine ⟨_, rfl, ?_⟩))
              go_roundg k1
              case measure => have := HK1.out; omega
              case rel => exact ⟨(wrap64 (x11_1 + 1)), (by first | rfl | (simp; done) | (simp [*]; done)), H', ⟨by have := HK1.out; omega⟩, by repeat (first | exact Drawn0.refl _ | apply Drawn0.step)⟩
            · replace c8 := Bool.eq_false_iff.mpr c8
              subst c8
              have H1 : (some false) = some r := by rw [if_neg (show ¬ (false = true) by decide)] at H; exact H
              clear H
              have H := H1
              clear H1
              obtain rfl := Option.some.inj H
              have p226 : 0 ≤ (x11_1 : Int) := of_decide_eq_true (by first | (with_reducible assumption) | assumption)
              have q226 : x11_1 < (l0.length : Int) := of_decide_eq_true (by first | (with_reducible assumption) | assumption)
              obtain ⟨ad226, e226, hx226_0⟩ := Kd.at_int HR0.out x11_1 p226 q226
              cases e226
              replace p226 := eq_true p226
              replace q226 := eq_true q226
              go_wp2_with (first | ((with_reducible refine gate_callee (f := 165) rfl ?_); refine goesL_ (some 18) rfl rfl Try.func165 (by kernel_rfl) rfl #[.int .i64 (rd l0 x11_1), .int .i64 a1, .int .i64 a2] rfl (by (try simp only [List.map_toArray, List.map_cons, List.map_nil]); first | done | rfl | (simp only [List.length_drop, List.length_take]; rfl)) ?_; (with_reducible refine (spec_l1In.calls (rd l0 x11_1) a1 a2 false _ A7.out).mono ?_); rintro e w' ⟨rfl, ⟨nd, rfl⟩⟩; refine ⟨_, rfl, ?_⟩))
              go_ret
              exact ⟨by first | rfl | (simp; done) | (simp [*]; done), by repeat (first | exact Drawn0.refl _ | apply Drawn0.step)⟩
          · rw [if_neg c6] at H
            exact absurd H (by simp)
        · rw [if_neg c5] at H
          exact absurd H (by simp)
      · rw [if_neg c4] at H
        have c4b0 : decide (x11_1 < (l0.length : Int)) = false := decide_eq_false c4
        clear c4
        obtain rfl := Option.some.inj H
        go_wp2
        go_ret
        exact ⟨by first | rfl | (simp; done) | (simp [*]; done), by repeat (first | exact Drawn0.refl _ | apply Drawn0.step)⟩

/-! ### spec_syGiven: function 121 -/
def spec_syGiven.f (k : Nat) (l0 : List Int) (l1 : List Int) : Option (Bool) := (spec_l1In.f (l0.length : Int) 1 4).bind fun t228 => (if t228 = true then ((spec_l1All.f k l0 0 4).bind fun t229 => (if t229 = true then (if (l1.length : Int) = (l0.length : Int) then ((spec_l1All.f k l1 1 9).bind fun t230 => (some t230)) else (some false)) else (some false))) else (some false))
theorem spec_syGiven.mono : ∀ a0 a1 k, LeO (spec_syGiven.f k a0 a1) (spec_syGiven.f (k + 1) a0 a1) := by
  intro a0 a1 k
  unfold spec_syGiven.f
  repeat' first
      | (with_reducible exact spec_l1All.mono _ _ _ _)
      | (with_reducible exact LeO.refl _)
      | (with_reducible exact LeO.none _)
      | (with_reducible refine LeO.ite ?_ ?_)
      | (with_reducible refine LeO.bind ?_ (fun _ => ?_))
      | exact spec_l1All.mono _ _ _ _
      | exact LeO.none _
      | refine LeO.ite ?_ ?_
      | refine LeO.bind ?_ (fun _ => ?_)
set_option maxHeartbeats 8000000 in
set_option maxRecDepth 100000 in
theorem spec_syGiven.calls (k : Nat) (A0 : Option Addr) (c0 : Nat) (l0 : List Int) (A1 : Option Addr) (c1 : Nat) (l1 : List Int) (r : Bool) (w : World) (hr0 : Kd.C (Kd.int .i64) w A0 l0.length l0) (hc0 : l0.length ≤ c0) (hr1 : Kd.C (Kd.int .i64) w A1 l1.length l1) (hc1 : l1.length ≤ c1) (h : spec_syGiven.f k l0 l1 = some r) :
    Calls Try.prog 121 #[.slice A0 l0.length c0, .slice A1 l1.length c1] w fun e w' => e = .returned (.bool r) ∧ Drawn0 w w' := by
  have HR0 := Aside0.mk hr0
  have HC0 := Aside0.mk hc0
  clear hr0 hc0
  have HR1 := Aside0.mk hr1
  have HC1 := Aside0.mk hc1
  clear hr1 hc1
  have H : ((spec_l1In.f (l0.length : Int) 1 4).bind fun t228 => (if t228 = true then ((spec_l1All.f k l0 0 4).bind fun t229 => (if t229 = true then (if (l1.length : Int) = (l0.length : Int) then ((spec_l1All.f k l1 1 9).bind fun t230 => (some t230)) else (some false)) else (some false))) else (some false))) = some r := h
  clear h
  replace H := Option.bind_eq_some_iff.mp H
  obtain ⟨t228, A30, H⟩ := H
  replace H : (if t228 = true then ((spec_l1All.f k l0 0 4).bind fun t229 => (if t229 = true then (if (l1.length : Int) = (l0.length : Int) then ((spec_l1All.f k l1 1 9).bind fun t230 => (some t230)) else (some false)) else (some false))) else (some false)) = some r := H
  have A3 := Aside0.mk A30
  clear A30
  by_cases c4 : t228 = true
  · subst c4
    have H1 : ((spec_l1All.f k l0 0 4).bind fun t229 => (if t229 = true then (if (l1.length : Int) = (l0.length : Int) then ((spec_l1All.f k l1 1 9).bind fun t230 => (some t230)) else (some false)) else (some false))) = some r := by rw [if_pos rfl] at H; exact H
    clear H
    have H := H1
    clear H1
    replace H := Option.bind_eq_some_iff.mp H
    obtain ⟨t229, A50, H⟩ := H
    replace H : (if t229 = true then (if (l1.length : Int) = (l0.length : Int) then ((spec_l1All.f k l1 1 9).bind fun t230 => (some t230)) else (some false)) else (some false)) = some r := H
    have A5 := Aside0.mk A50
    clear A50
    by_cases c6 : t229 = true
    · subst c6
      have H1 : (if (l1.length : Int) = (l0.length : Int) then ((spec_l1All.f k l1 1 9).bind fun t230 => (some t230)) else (some false)) = some r := by rw [if_pos rfl] at H; exact H
      clear H
      have H := H1
      clear H1
      by_cases c7 : (l1.length : Int) = (l0.length : Int)
      · rw [if_pos c7] at H
        have c7b0 : ((l1.length : Int) == (l0.length : Int)) = true := beq_iff_eq.mpr c7
        have c7b1 : ((l1.length : Int) != (l0.length : Int)) = false := bne_eq_false_iff_eq.mpr c7
        have c7b2 : (l1.length == l0.length) = true := by first | simpa using c7 | (simp at c7 ⊢; omega)
        clear c7
        replace H := Option.bind_eq_some_iff.mp H
        obtain ⟨t230, A80, H⟩ := H
        replace H : (some t230) = some r := H
        have A8 := Aside0.mk A80
        clear A80
        obtain rfl := Option.some.inj H
        go_enter Try.func121, Try.ntmps121
        go_wp2_with (first | ((with_reducible refine gate_callee (f := 165) rfl ?_); refine goesL_ (some 7) rfl rfl Try.func165 (by kernel_rfl) rfl #[.int .i64 (l0.length : Int), .int .i64 1, .int .i64 4] rfl (by (try simp only [List.map_toArray, List.map_cons, List.map_nil]); first | done | rfl | (simp only [List.length_drop, List.length_take]; rfl)) ?_; (with_reducible refine (spec_l1In.calls (l0.length : Int) 1 4 true _ A3.out).mono ?_); rintro e w' ⟨rfl, ⟨nd, rfl⟩⟩; refine ⟨_, rfl, ?_⟩) | (go_at_call 166; (with_reducible refine (spec_l1All.calls k _ _ l0 0 4 true _ ?side1 ?side2 A5.out).mono ?_); (case side1 => repeat (first | exact HR0.out | (with_reducible refine Kd.C_alloc ?_ _) | (with_reducible refine Kd.C_drewN ?_ _) | (with_reducible refine Kd.C_drew ?_))); (case side2 => exact HC0.out); rintro e w' ⟨rfl, ⟨nd, rfl⟩⟩) | (go_at_call 166; (with_reducible refine (spec_l1All.calls k _ _ l1 1 9 t230 _ ?side1 ?side2 A8.out).mono ?_); (case side1 => repeat (first | exact HR1.out | (with_reducible refine Kd.C_alloc ?_ _) | (with_reducible refine Kd.C_drewN ?_ _) | (with_reducible refine Kd.C_drew ?_))); (case side2 => exact HC1.out); rintro e w' ⟨rfl, ⟨nd, rfl⟩⟩))
        go_ret
        exact ⟨by first | rfl | (simp; done) | (simp [*]; done), by repeat (first | exact Drawn0.refl _ | apply Drawn0.step)⟩
      · rw [if_neg c7] at H
        have c7b0 : ((l1.length : Int) == (l0.length : Int)) = false := beq_eq_false_iff_ne.mpr c7
        have c7b1 : ((l1.length : Int) != (l0.length : Int)) = true := bne_iff_ne.mpr c7
        have c7b2 : (l1.length == l0.length) = false := by first | simpa using c7 | (simp at c7 ⊢; omega)
        obtain rfl := Option.some.inj H
        go_enter Try.func121, Try.ntmps121
        go_wp2_with (first | ((with_reducible refine gate_callee (f := 165) rfl ?_); refine goesL_ (some 7) rfl rfl Try.func165 (by kernel_rfl) rfl #[.int .i64 (l0.length : Int), .int .i64 1, .int .i64 4] rfl (by (try simp only [List.map_toArray, List.map_cons, List.map_nil]); first | done | rfl | (simp only [List.length_drop, List.length_take]; rfl)) ?_; (with_reducible refine (spec_l1In.calls (l0.length : Int) 1 4 true _ A3.out).mono ?_); rintro e w' ⟨rfl, ⟨nd, rfl⟩⟩; refine ⟨_, rfl, ?_⟩) | (go_at_call 166; (with_reducible refine (spec_l1All.calls k _ _ l0 0 4 true _ ?side1 ?side2 A5.out).mono ?_); (case side1 => repeat (first | exact HR0.out | (with_reducible refine Kd.C_alloc ?_ _) | (with_reducible refine Kd.C_drewN ?_ _) | (with_reducible refine Kd.C_drew ?_))); (case side2 => exact HC0.out); rintro e w' ⟨rfl, ⟨nd, rfl⟩⟩))
        go_ret
        exact ⟨by first | rfl | (simp; done) | (simp [*]; done), by repeat (first | exact Drawn0.refl _ | apply Drawn0.step)⟩
    · replace c6 := Bool.eq_false_iff.mpr c6
      subst c6
      have H1 : (some false) = some r := by rw [if_neg (show ¬ (false = true) by decide)] at H; exact H
      clear H
      have H := H1
      clear H1
      obtain rfl := Option.some.inj H
      go_enter Try.func121, Try.ntmps121
      go_wp2_with (first | ((with_reducible refine gate_callee (f := 165) rfl ?_); refine goesL_ (some 7) rfl rfl Try.func165 (by kernel_rfl) rfl #[.int .i64 (l0.length : Int), .int .i64 1, .int .i64 4] rfl (by (try simp only [List.map_toArray, List.map_cons, List.map_nil]); first | done | rfl | (simp only [List.length_drop, List.length_take]; rfl)) ?_; (with_reducible refine (spec_l1In.calls (l0.length : Int) 1 4 true _ A3.out).mono ?_); rintro e w' ⟨rfl, ⟨nd, rfl⟩⟩; refine ⟨_, rfl, ?_⟩) | (go_at_call 166; (with_reducible refine (spec_l1All.calls k _ _ l0 0 4 false _ ?side1 ?side2 A5.out).mono ?_); (case side1 => repeat (first | exact HR0.out | (with_reducible refine Kd.C_alloc ?_ _) | (with_reducible refine Kd.C_drewN ?_ _) | (with_reducible refine Kd.C_drew ?_))); (case side2 => exact HC0.out); rintro e w' ⟨rfl, ⟨nd, rfl⟩⟩))
      go_ret
      exact ⟨by first | rfl | (simp; done) | (simp [*]; done), by repeat (first | exact Drawn0.refl _ | apply Drawn0.step)⟩
  · replace c4 := Bool.eq_false_iff.mpr c4
    subst c4
    have H1 : (some false) = some r := by rw [if_neg (show ¬ (false = true) by decide)] at H; exact H
    clear H
    have H := H1
    clear H1
    obtain rfl := Option.some.inj H
    go_enter Try.func121, Try.ntmps121
    go_wp2_with (first | ((with_reducible refine gate_callee (f := 165) rfl ?_); refine goesL_ (some 7) rfl rfl Try.func165 (by kernel_rfl) rfl #[.int .i64 (l0.length : Int), .int .i64 1, .int .i64 4] rfl (by (try simp only [List.map_toArray, List.map_cons, List.map_nil]); first | done | rfl | (simp only [List.length_drop, List.length_take]; rfl)) ?_; (with_reducible refine (spec_l1In.calls (l0.length : Int) 1 4 false _ A3.out).mono ?_); rintro e w' ⟨rfl, ⟨nd, rfl⟩⟩; refine ⟨_, rfl, ?_⟩))
    go_ret
    exact ⟨by first | rfl | (simp; done) | (simp [*]; done), by repeat (first | exact Drawn0.refl _ | apply Drawn0.step)⟩

end Go.Proofs.Ytojklddddedoeaa.PFnMuirheadsOrder
