/- For each Go function that the law uses, a Lean function with the same answers and a proof that its call comes to them; the conditions stand in each theorem. (Written by a program of this session, turned from the print of the kit.) -/
import Derived.Test.YtbbioadebhnfiaaPFnExactRefusingWeightsx0
import Derived.Test.YtbbioadebhnfiaaPFnExactRefusingWeightsx5
namespace Go.Proofs.Ytbbioadebhnfiaa.PFnExactRefusingWeights
open Go.RowKit Go.Proofs.YtbbioadebhnfiaaW.PrintWords Go.Proofs.YtbbioadebhnfiaaW.PrintLast Go.Proofs.YtbbioadebhnfiaaW.PrintMore
attribute [local go_sem] max2_int min2_int max_two min_two max_three min_three max_four min_four   -- for this text's walks alone
set_option linter.unusedVariables false
set_option linter.unusedSimpArgs false

/-! ### slices_Repeat_int_int: function 53 -/
def slices_Repeat_int_int.f (l0 : List Int) (a1 : Int) : Option (List Int) := if l0.length = 1 then (if 1 ≤ a1 then (if a1 ≤ 8 then some (List.replicate a1.toNat (rd l0 0)) else none) else none) else none
/-- The program's own numbers for what math/bits.Mul reaches. -/
def slices_Repeat_int_int.ren : Go.Shelf.Ren := ⟨fun | 212 => 75 | 263 => 81 | 264 => 82 | n => n, fun | 46 => 59 | 51 => 66 | 146 => 67 | 53 => 41 | 148 => 69 | n => n, fun | n => n⟩
theorem slices_Repeat_int_int.lays : Go.Proofs.Lays.n212 Try.prog slices_Repeat_int_int.ren := {
  mixed := by kernel_rfl
  f212 := Try.func75.trans (congrArg some (by kernel_rfl))
  f263 := Try.func81.trans (congrArg some (by kernel_rfl))
  f264 := Try.func82.trans (congrArg some (by kernel_rfl))
  t46 := Try.underlying59
  a46 := Try.isAgg59
  z46 := Try.sizeOf59
  v46 := Try.zeroValue59
  t51 := Try.underlying66
  a51 := Try.isAgg66
  z51 := Try.sizeOf66
  v51 := Try.zeroValue66
  t53 := Try.underlying41
  a53 := Try.isAgg41
  z53 := Try.sizeOf41
  v53 := Try.zeroValue41
  t146 := Try.underlying67
  a146 := Try.isAgg67
  z146 := Try.sizeOf67
  v146 := Try.zeroValue67
  t148 := Try.underlying69
  a148 := Try.isAgg69
  z148 := Try.sizeOf69
  v148 := Try.zeroValue69 }
theorem slices_Repeat_int_int.info : (Try.prog.info? 3).map (·.size) = some 1 := by kernel_rfl
/-- Cells are copied into a row of one's own, from the index n on. -/
theorem slices_Repeat_int_int.copy {W : World} {base B m : Nat} {xs : List Int} (t s ty : TypeId) (ht : Try.prog.underlying t = some (.slice 3)) (ho : W.ownsRow base 3 1 (.slice (some ⟨B, 0, none⟩) m m) m (encs (Value.int .i64) xs)) (n dLen dCap sLen sCap : Nat) (ys : List Int) (hd : ys.length = Nat.min sLen dLen) (hn : n + ys.length ≤ m) (ad : Addr) (hsrc : ∀ j, j < ys.length → W.cell? (ad.add j) = some (.int .i64 (ys.getD j 0))) :
    (∀ q, (Builtin.copy_ #[t, s] ty #[.slice (some ⟨B, n, none⟩) dLen dCap, .slice (some ad) sLen sCap]).run Try.prog (W.drewN q) = .ok (goInt ys.length) ((W.drewN q).setCells B n (encs (Value.int .i64) ys))) ∧
      ∀ q, ((W.drewN q).setCells B n (encs (Value.int .i64) ys)).ownsRow base 3 1 (.slice (some ⟨B, 0, none⟩) m m) m (encs (Value.int .i64) (xs.take n ++ ys ++ xs.drop (n + ys.length))) ∧ W.grownBy ((W.drewN q).setCells B n (encs (Value.int .i64) ys)) (some B) := by
  have hx : xs.length = m := by have := ho.1; rw [encs_length, Nat.mul_one] at this; exact this
  rcases ho.2 with ⟨h, _⟩ | ⟨g, cap, cur, hv, hb, hh, hnc, hcm, hcs, htake⟩
  · exact absurd h (by simp)
  · cases hv
    have hcs' : cur.size = m := by omega
    have htk : cur.toList = encs (Value.int .i64) xs := by
      rw [← htake, List.take_of_length_le]
      rw [Array.length_toList]; omega
    constructor
    · intro q
      have := run_copy_cells (P := Try.prog) (W.drewN q) t s ty 3 B n dLen dCap ad sLen sCap (encs (Value.int .i64) ys) ht slices_Repeat_int_int.info (by rw [encs_length]; exact hd) (fun j v hj => ?_) (fun j hj => ?_) (fun j hj => ?_) ?_
      · rw [encs_length] at this; exact this
      · have hl : j < ys.length := by
          rcases Nat.lt_or_ge j ys.length with h | h
          · exact h
          · rw [List.getElem?_eq_none (by rw [encs_length]; exact h)] at hj; cases hj
        have e := hsrc j hl
        rw [encs_get (d := 0) _ j hl] at hj
        cases hj
        exact e
      · rw [encs_length] at hj
        rw [show (W.drewN q).cell? ⟨B, n + j, none⟩ = W.cell? ⟨B, n + j, none⟩ from rfl, cell_of_row W B _ cur 3 (0, 0) hh]
        simp; omega
      · exact blk_frozen hh _
      · intro u hu
        simp only [encs, List.mem_map] at hu
        obtain ⟨z, _, rfl⟩ := hu
        rfl
    · intro q
      obtain ⟨cur', h3, h4, h5⟩ := setCells_row (encs (Value.int .i64) ys) n (W.drewN q) cur hh (by rw [encs_length]; omega)
      obtain ⟨s1, s2, s3, s4⟩ := setCells_same B (encs (Value.int .i64) ys) n (W.drewN q)
      have hln : (xs.take n ++ ys ++ xs.drop (n + ys.length)).length = m := by
        rw [List.length_append, List.length_append, List.length_take, List.length_drop]; omega
      refine ⟨⟨by rw [encs_length, hln, Nat.mul_one], .inr ⟨B, m, cur', rfl, hb, h3, hnc, hcm, by rw [h4, hcs], ?_⟩⟩, ⟨s1, s2, s3, by rw [s4]; exact Nat.le_refl _, fun k _ hk => setCells_far _ _ k (fun he => hk (by rw [he]))⟩⟩
      rw [h5, htk, encs_length, List.take_of_length_le (by simp only [List.length_append, List.length_take, List.length_drop, encs_length]; omega)]
      simp [encs, List.map_append, List.map_take, List.map_drop]
set_option maxHeartbeats 8000000 in
set_option maxRecDepth 100000 in
theorem slices_Repeat_int_int.at1 (ad : Addr) (c0 : Nat) (x : Int) (w : World) (hx : w.cell? (ad.add 0) = some (.int .i64 x)) :
    Calls Try.prog 53 #[.slice (some ad) 1 c0, .int .i64 1] w fun e w' => ∃ v0_ : Value, e = .returned (v0_) ∧ w'.ownsRow w.heap.size 3 1 v0_ 1 (encs (Value.int .i64) (List.replicate 1 x)) ∧ Below w.heap.size w w' := by
  have hmk := print_make (P := Try.prog) 24 3 .i64 8 Try.underlying24 info3 (by omega) 1 (by omega)
  replace hmk : ∀ W : World, (Instr.makeSlice 24 (.int .i64 1) (.int .i64 1)).run Try.prog W = .ok (.slice (some ⟨W.heap.size, 0, none⟩) 1 1) (W.alloc (.cells (madeCells #[.int .i64 0] 1) 3)) := hmk
  have hown := own_made w w.heap.size 3 .i64 1 (Nat.le_refl _) (by omega)
  obtain ⟨w1, hw1⟩ : ∃ w1, w1 = w.alloc (.cells (madeCells #[.int .i64 0] 1) 3) := ⟨_, rfl⟩
  rw [← hw1] at hown
  have hB1 : Below w.heap.size w w1 := by rw [hw1]; exact below_alloc (Below.refl _ _) _
  have hx1 : w1.cell? (ad.add 0) = some (.int .i64 x) := pw_cell_below hB1 hx
  obtain ⟨hc, hr⟩ := slices_Repeat_int_int.copy 24 24 3 Try.underlying24 hown 0 1 1 1 c0 [x] (by rfl) (by simp) ad (fun j hj => by
    have : j = 0 := by simp at hj; omega
    subst this; exact hx1)
  have hc0 := hc 0
  obtain ⟨hr0, hg0⟩ := hr 0
  rw [show w1.drewN 0 = w1 from rfl] at hc0 hr0 hg0
  obtain ⟨w2, hw2⟩ : ∃ w2, w2 = w1.setCells w.heap.size 0 (encs (Value.int .i64) [x]) := ⟨_, rfl⟩
  rw [← hw2] at hc0 hr0 hg0
  have hB2 : Below w.heap.size w w2 := hB1.grown hg0 hB1.size (fun k hk => by cases hk; exact Nat.le_refl _)
  rw [hw1] at hc0
  rw [hw2, hw1] at hr0 hB2
  have HR := Aside0.mk hr0
  have HB := Aside0.mk hB2
  clear hr0 hg0 hr hc hown hx1 hB1 hB2
  go_enter Try.func53, Try.ntmps53
  go_wp2_with (first
    | (go_at_call 75; refine (Go.Proofs.Any.bits_Mul slices_Repeat_int_int.lays 1 1 (by omega) (by omega) _).mono ?_; rintro e wq ⟨rfl, hq⟩; subst hq))
  go_loopg [8] 0 (fun kq v8 w' => ∃ n : Nat, v8 = .int .i64 (n : Int) ∧ Aside0 (1 ≤ n ∧ n + kq = 1 ∧ (n = 1)) ∧ Aside0 (w'.ownsRow wq.heap.size 3 1 (.slice (some ⟨wq.heap.size, 0, none⟩) 1 1) 1 (encs (Value.int .i64) (List.replicate n x ++ List.replicate (1 - n) 0))) ∧ Aside0 (Below wq.heap.size wq w'))
  case atStart => exact ⟨1, rfl, ⟨by omega, by omega, by omega⟩, HR, HB⟩
  case round =>
    clear HR HB hmk hc0 hw1 hw2
    obtain ⟨n, rfl, HN, HR, HB⟩ := hrel
    have hn := HN.out
    clear HN
    rcases hn.2.2 with e
    · subst e
      clear hn
      go_wp2
      go_ret
      exact ⟨_, rfl, by simpa using HR.out, HB.out⟩
set_option maxHeartbeats 8000000 in
set_option maxRecDepth 100000 in
theorem slices_Repeat_int_int.at2 (ad : Addr) (c0 : Nat) (x : Int) (w : World) (hx : w.cell? (ad.add 0) = some (.int .i64 x)) :
    Calls Try.prog 53 #[.slice (some ad) 1 c0, .int .i64 2] w fun e w' => ∃ v0_ : Value, e = .returned (v0_) ∧ w'.ownsRow w.heap.size 3 1 v0_ 2 (encs (Value.int .i64) (List.replicate 2 x)) ∧ Below w.heap.size w w' := by
  have hmk := print_make (P := Try.prog) 24 3 .i64 8 Try.underlying24 info3 (by omega) 2 (by omega)
  replace hmk : ∀ W : World, (Instr.makeSlice 24 (.int .i64 2) (.int .i64 2)).run Try.prog W = .ok (.slice (some ⟨W.heap.size, 0, none⟩) 2 2) (W.alloc (.cells (madeCells #[.int .i64 0] 2) 3)) := hmk
  have hown := own_made w w.heap.size 3 .i64 2 (Nat.le_refl _) (by omega)
  obtain ⟨w1, hw1⟩ : ∃ w1, w1 = w.alloc (.cells (madeCells #[.int .i64 0] 2) 3) := ⟨_, rfl⟩
  rw [← hw1] at hown
  have hB1 : Below w.heap.size w w1 := by rw [hw1]; exact below_alloc (Below.refl _ _) _
  have hx1 : w1.cell? (ad.add 0) = some (.int .i64 x) := pw_cell_below hB1 hx
  obtain ⟨hc, hr⟩ := slices_Repeat_int_int.copy 24 24 3 Try.underlying24 hown 0 2 2 1 c0 [x] (by rfl) (by simp) ad (fun j hj => by
    have : j = 0 := by simp at hj; omega
    subst this; exact hx1)
  have hc0 := hc 0
  obtain ⟨hr0, hg0⟩ := hr 0
  rw [show w1.drewN 0 = w1 from rfl] at hc0 hr0 hg0
  obtain ⟨w2, hw2⟩ : ∃ w2, w2 = w1.setCells w.heap.size 0 (encs (Value.int .i64) [x]) := ⟨_, rfl⟩
  rw [← hw2] at hc0 hr0 hg0
  have hB2 : Below w.heap.size w w2 := hB1.grown hg0 hB1.size (fun k hk => by cases hk; exact Nat.le_refl _)
  rw [hw1] at hc0
  rw [hw2, hw1] at hr0 hB2
  have HR := Aside0.mk hr0
  have HB := Aside0.mk hB2
  clear hr0 hg0 hr hc hown hx1 hB1 hB2
  go_enter Try.func53, Try.ntmps53
  go_wp2_with (first
    | (go_at_call 75; refine (Go.Proofs.Any.bits_Mul slices_Repeat_int_int.lays 1 2 (by omega) (by omega) _).mono ?_; rintro e wq ⟨rfl, hq⟩; subst hq))
  go_loopg [8] 1 (fun kq v8 w' => ∃ n : Nat, v8 = .int .i64 (n : Int) ∧ Aside0 (1 ≤ n ∧ n + kq = 2 ∧ (n = 1 ∨ n = 2)) ∧ Aside0 (w'.ownsRow wq.heap.size 3 1 (.slice (some ⟨wq.heap.size, 0, none⟩) 2 2) 2 (encs (Value.int .i64) (List.replicate n x ++ List.replicate (2 - n) 0))) ∧ Aside0 (Below wq.heap.size wq w'))
  case atStart => exact ⟨1, rfl, ⟨by omega, by omega, by omega⟩, HR, HB⟩
  case round =>
    clear HR HB hmk hc0 hw1 hw2
    obtain ⟨n, rfl, HN, HR, HB⟩ := hrel
    have hn := HN.out
    clear HN
    rcases hn.2.2 with e | e
    · subst e
      obtain ⟨k1, rfl⟩ : ∃ k1, gk = k1 + 1 := ⟨gk - 1, by omega⟩
      have hk1 : k1 = 0 := by omega
      clear hn
      obtain ⟨hc, hr⟩ := slices_Repeat_int_int.copy 24 24 3 Try.underlying24 HR.out 1 1 1 1 2 (List.replicate 1 x) (by rfl) (by simp) ⟨wq.heap.size, 0, none⟩ (fun j hj => by
        have hj : j < 1 := by simpa using hj
        rw [add_plain, HR.out.cellAt j (by omega)]
        have : j = 0 := by omega
        subst this; rfl)
      replace hc : (Builtin.copy_ #[24, 24] 3 #[.slice (some ⟨wq.heap.size, 1, none⟩) 1 1, .slice (some ⟨wq.heap.size, 0, none⟩) 1 2]).run Try.prog wr.drew = .ok (.int .i64 1) (wr.drew.setCells wq.heap.size 1 (encs (Value.int .i64) (List.replicate 1 x))) := hc 1
      have hmo : Try.prog.follows .mixedOrders = true := by kernel_rfl
      obtain ⟨hr1, hg1⟩ := hr 1
      have HR1 := Aside0.mk hr1
      have HB1 := Aside0.mk (HB.out.grown hg1 HB.out.size (fun k hk => by cases hk; exact Nat.le_refl _))
      clear hr hr1 hg1 HR HB
      go_wp2_with fail
      go_region_o
      go_wp2
      go_roundg k1
      case measure => omega
      case rel => exact ⟨2, rfl, ⟨by omega, by omega, by omega⟩, HR1, HB1⟩
    · subst e
      clear hn
      go_wp2
      go_ret
      exact ⟨_, rfl, by simpa using HR.out, HB.out⟩
set_option maxHeartbeats 8000000 in
set_option maxRecDepth 100000 in
theorem slices_Repeat_int_int.at3 (ad : Addr) (c0 : Nat) (x : Int) (w : World) (hx : w.cell? (ad.add 0) = some (.int .i64 x)) :
    Calls Try.prog 53 #[.slice (some ad) 1 c0, .int .i64 3] w fun e w' => ∃ v0_ : Value, e = .returned (v0_) ∧ w'.ownsRow w.heap.size 3 1 v0_ 3 (encs (Value.int .i64) (List.replicate 3 x)) ∧ Below w.heap.size w w' := by
  have hmk := print_make (P := Try.prog) 24 3 .i64 8 Try.underlying24 info3 (by omega) 3 (by omega)
  replace hmk : ∀ W : World, (Instr.makeSlice 24 (.int .i64 3) (.int .i64 3)).run Try.prog W = .ok (.slice (some ⟨W.heap.size, 0, none⟩) 3 3) (W.alloc (.cells (madeCells #[.int .i64 0] 3) 3)) := hmk
  have hown := own_made w w.heap.size 3 .i64 3 (Nat.le_refl _) (by omega)
  obtain ⟨w1, hw1⟩ : ∃ w1, w1 = w.alloc (.cells (madeCells #[.int .i64 0] 3) 3) := ⟨_, rfl⟩
  rw [← hw1] at hown
  have hB1 : Below w.heap.size w w1 := by rw [hw1]; exact below_alloc (Below.refl _ _) _
  have hx1 : w1.cell? (ad.add 0) = some (.int .i64 x) := pw_cell_below hB1 hx
  obtain ⟨hc, hr⟩ := slices_Repeat_int_int.copy 24 24 3 Try.underlying24 hown 0 3 3 1 c0 [x] (by rfl) (by simp) ad (fun j hj => by
    have : j = 0 := by simp at hj; omega
    subst this; exact hx1)
  have hc0 := hc 0
  obtain ⟨hr0, hg0⟩ := hr 0
  rw [show w1.drewN 0 = w1 from rfl] at hc0 hr0 hg0
  obtain ⟨w2, hw2⟩ : ∃ w2, w2 = w1.setCells w.heap.size 0 (encs (Value.int .i64) [x]) := ⟨_, rfl⟩
  rw [← hw2] at hc0 hr0 hg0
  have hB2 : Below w.heap.size w w2 := hB1.grown hg0 hB1.size (fun k hk => by cases hk; exact Nat.le_refl _)
  rw [hw1] at hc0
  rw [hw2, hw1] at hr0 hB2
  have HR := Aside0.mk hr0
  have HB := Aside0.mk hB2
  clear hr0 hg0 hr hc hown hx1 hB1 hB2
  go_enter Try.func53, Try.ntmps53
  go_wp2_with (first
    | (go_at_call 75; refine (Go.Proofs.Any.bits_Mul slices_Repeat_int_int.lays 1 3 (by omega) (by omega) _).mono ?_; rintro e wq ⟨rfl, hq⟩; subst hq))
  go_loopg [8] 2 (fun kq v8 w' => ∃ n : Nat, v8 = .int .i64 (n : Int) ∧ Aside0 (1 ≤ n ∧ n + kq = 3 ∧ (n = 1 ∨ n = 2 ∨ n = 3)) ∧ Aside0 (w'.ownsRow wq.heap.size 3 1 (.slice (some ⟨wq.heap.size, 0, none⟩) 3 3) 3 (encs (Value.int .i64) (List.replicate n x ++ List.replicate (3 - n) 0))) ∧ Aside0 (Below wq.heap.size wq w'))
  case atStart => exact ⟨1, rfl, ⟨by omega, by omega, by omega⟩, HR, HB⟩
  case round =>
    clear HR HB hmk hc0 hw1 hw2
    obtain ⟨n, rfl, HN, HR, HB⟩ := hrel
    have hn := HN.out
    clear HN
    rcases hn.2.2 with e | e | e
    · subst e
      obtain ⟨k1, rfl⟩ : ∃ k1, gk = k1 + 1 := ⟨gk - 1, by omega⟩
      have hk1 : k1 = 1 := by omega
      clear hn
      obtain ⟨hc, hr⟩ := slices_Repeat_int_int.copy 24 24 3 Try.underlying24 HR.out 1 2 2 1 3 (List.replicate 1 x) (by rfl) (by simp) ⟨wq.heap.size, 0, none⟩ (fun j hj => by
        have hj : j < 1 := by simpa using hj
        rw [add_plain, HR.out.cellAt j (by omega)]
        have : j = 0 := by omega
        subst this; rfl)
      replace hc : (Builtin.copy_ #[24, 24] 3 #[.slice (some ⟨wq.heap.size, 1, none⟩) 2 2, .slice (some ⟨wq.heap.size, 0, none⟩) 1 3]).run Try.prog wr.drew = .ok (.int .i64 1) (wr.drew.setCells wq.heap.size 1 (encs (Value.int .i64) (List.replicate 1 x))) := hc 1
      have hmo : Try.prog.follows .mixedOrders = true := by kernel_rfl
      obtain ⟨hr1, hg1⟩ := hr 1
      have HR1 := Aside0.mk hr1
      have HB1 := Aside0.mk (HB.out.grown hg1 HB.out.size (fun k hk => by cases hk; exact Nat.le_refl _))
      clear hr hr1 hg1 HR HB
      go_wp2_with fail
      go_region_o
      go_wp2
      go_roundg k1
      case measure => omega
      case rel => exact ⟨2, rfl, ⟨by omega, by omega, by omega⟩, HR1, HB1⟩
    · subst e
      obtain ⟨k1, rfl⟩ : ∃ k1, gk = k1 + 1 := ⟨gk - 1, by omega⟩
      have hk1 : k1 = 0 := by omega
      clear hn
      obtain ⟨hc, hr⟩ := slices_Repeat_int_int.copy 24 24 3 Try.underlying24 HR.out 2 1 1 2 3 (List.replicate 1 x) (by rfl) (by simp) ⟨wq.heap.size, 0, none⟩ (fun j hj => by
        have hj : j < 1 := by simpa using hj
        rw [add_plain, HR.out.cellAt j (by omega)]
        have : j = 0 := by omega
        subst this; rfl)
      replace hc : (Builtin.copy_ #[24, 24] 3 #[.slice (some ⟨wq.heap.size, 2, none⟩) 1 1, .slice (some ⟨wq.heap.size, 0, none⟩) 2 3]).run Try.prog wr.drew = .ok (.int .i64 1) (wr.drew.setCells wq.heap.size 2 (encs (Value.int .i64) (List.replicate 1 x))) := hc 1
      have hmo : Try.prog.follows .mixedOrders = true := by kernel_rfl
      obtain ⟨hr1, hg1⟩ := hr 1
      have HR1 := Aside0.mk hr1
      have HB1 := Aside0.mk (HB.out.grown hg1 HB.out.size (fun k hk => by cases hk; exact Nat.le_refl _))
      clear hr hr1 hg1 HR HB
      go_wp2_with fail
      go_region_o
      go_wp2
      go_roundg k1
      case measure => omega
      case rel => exact ⟨3, rfl, ⟨by omega, by omega, by omega⟩, HR1, HB1⟩
    · subst e
      clear hn
      go_wp2
      go_ret
      exact ⟨_, rfl, by simpa using HR.out, HB.out⟩
set_option maxHeartbeats 8000000 in
set_option maxRecDepth 100000 in
theorem slices_Repeat_int_int.at4 (ad : Addr) (c0 : Nat) (x : Int) (w : World) (hx : w.cell? (ad.add 0) = some (.int .i64 x)) :
    Calls Try.prog 53 #[.slice (some ad) 1 c0, .int .i64 4] w fun e w' => ∃ v0_ : Value, e = .returned (v0_) ∧ w'.ownsRow w.heap.size 3 1 v0_ 4 (encs (Value.int .i64) (List.replicate 4 x)) ∧ Below w.heap.size w w' := by
  have hmk := print_make (P := Try.prog) 24 3 .i64 8 Try.underlying24 info3 (by omega) 4 (by omega)
  replace hmk : ∀ W : World, (Instr.makeSlice 24 (.int .i64 4) (.int .i64 4)).run Try.prog W = .ok (.slice (some ⟨W.heap.size, 0, none⟩) 4 4) (W.alloc (.cells (madeCells #[.int .i64 0] 4) 3)) := hmk
  have hown := own_made w w.heap.size 3 .i64 4 (Nat.le_refl _) (by omega)
  obtain ⟨w1, hw1⟩ : ∃ w1, w1 = w.alloc (.cells (madeCells #[.int .i64 0] 4) 3) := ⟨_, rfl⟩
  rw [← hw1] at hown
  have hB1 : Below w.heap.size w w1 := by rw [hw1]; exact below_alloc (Below.refl _ _) _
  have hx1 : w1.cell? (ad.add 0) = some (.int .i64 x) := pw_cell_below hB1 hx
  obtain ⟨hc, hr⟩ := slices_Repeat_int_int.copy 24 24 3 Try.underlying24 hown 0 4 4 1 c0 [x] (by rfl) (by simp) ad (fun j hj => by
    have : j = 0 := by simp at hj; omega
    subst this; exact hx1)
  have hc0 := hc 0
  obtain ⟨hr0, hg0⟩ := hr 0
  rw [show w1.drewN 0 = w1 from rfl] at hc0 hr0 hg0
  obtain ⟨w2, hw2⟩ : ∃ w2, w2 = w1.setCells w.heap.size 0 (encs (Value.int .i64) [x]) := ⟨_, rfl⟩
  rw [← hw2] at hc0 hr0 hg0
  have hB2 : Below w.heap.size w w2 := hB1.grown hg0 hB1.size (fun k hk => by cases hk; exact Nat.le_refl _)
  rw [hw1] at hc0
  rw [hw2, hw1] at hr0 hB2
  have HR := Aside0.mk hr0
  have HB := Aside0.mk hB2
  clear hr0 hg0 hr hc hown hx1 hB1 hB2
  go_enter Try.func53, Try.ntmps53
  go_wp2_with (first
    | (go_at_call 75; refine (Go.Proofs.Any.bits_Mul slices_Repeat_int_int.lays 1 4 (by omega) (by omega) _).mono ?_; rintro e wq ⟨rfl, hq⟩; subst hq))
  go_loopg [8] 3 (fun kq v8 w' => ∃ n : Nat, v8 = .int .i64 (n : Int) ∧ Aside0 (1 ≤ n ∧ n + kq = 4 ∧ (n = 1 ∨ n = 2 ∨ n = 4)) ∧ Aside0 (w'.ownsRow wq.heap.size 3 1 (.slice (some ⟨wq.heap.size, 0, none⟩) 4 4) 4 (encs (Value.int .i64) (List.replicate n x ++ List.replicate (4 - n) 0))) ∧ Aside0 (Below wq.heap.size wq w'))
  case atStart => exact ⟨1, rfl, ⟨by omega, by omega, by omega⟩, HR, HB⟩
  case round =>
    clear HR HB hmk hc0 hw1 hw2
    obtain ⟨n, rfl, HN, HR, HB⟩ := hrel
    have hn := HN.out
    clear HN
    rcases hn.2.2 with e | e | e
    · subst e
      obtain ⟨k1, rfl⟩ : ∃ k1, gk = k1 + 1 := ⟨gk - 1, by omega⟩
      have hk1 : k1 = 2 := by omega
      clear hn
      obtain ⟨hc, hr⟩ := slices_Repeat_int_int.copy 24 24 3 Try.underlying24 HR.out 1 3 3 1 4 (List.replicate 1 x) (by rfl) (by simp) ⟨wq.heap.size, 0, none⟩ (fun j hj => by
        have hj : j < 1 := by simpa using hj
        rw [add_plain, HR.out.cellAt j (by omega)]
        have : j = 0 := by omega
        subst this; rfl)
      replace hc : (Builtin.copy_ #[24, 24] 3 #[.slice (some ⟨wq.heap.size, 1, none⟩) 3 3, .slice (some ⟨wq.heap.size, 0, none⟩) 1 4]).run Try.prog wr.drew = .ok (.int .i64 1) (wr.drew.setCells wq.heap.size 1 (encs (Value.int .i64) (List.replicate 1 x))) := hc 1
      have hmo : Try.prog.follows .mixedOrders = true := by kernel_rfl
      obtain ⟨hr1, hg1⟩ := hr 1
      have HR1 := Aside0.mk hr1
      have HB1 := Aside0.mk (HB.out.grown hg1 HB.out.size (fun k hk => by cases hk; exact Nat.le_refl _))
      clear hr hr1 hg1 HR HB
      go_wp2_with fail
      go_region_o
      go_wp2
      go_roundg k1
      case measure => omega
      case rel => exact ⟨2, rfl, ⟨by omega, by omega, by omega⟩, HR1, HB1⟩
    · subst e
      obtain ⟨k1, rfl⟩ : ∃ k1, gk = k1 + 2 := ⟨gk - 2, by omega⟩
      have hk1 : k1 = 0 := by omega
      clear hn
      obtain ⟨hc, hr⟩ := slices_Repeat_int_int.copy 24 24 3 Try.underlying24 HR.out 2 2 2 2 4 (List.replicate 2 x) (by rfl) (by simp) ⟨wq.heap.size, 0, none⟩ (fun j hj => by
        have hj : j < 2 := by simpa using hj
        rw [add_plain, HR.out.cellAt j (by omega)]
        rcases (by omega : j = 0 ∨ j = 1) with e | e <;> (subst e; rfl))
      replace hc : (Builtin.copy_ #[24, 24] 3 #[.slice (some ⟨wq.heap.size, 2, none⟩) 2 2, .slice (some ⟨wq.heap.size, 0, none⟩) 2 4]).run Try.prog wr.drew = .ok (.int .i64 2) (wr.drew.setCells wq.heap.size 2 (encs (Value.int .i64) (List.replicate 2 x))) := hc 1
      have hmo : Try.prog.follows .mixedOrders = true := by kernel_rfl
      obtain ⟨hr1, hg1⟩ := hr 1
      have HR1 := Aside0.mk hr1
      have HB1 := Aside0.mk (HB.out.grown hg1 HB.out.size (fun k hk => by cases hk; exact Nat.le_refl _))
      clear hr hr1 hg1 HR HB
      go_wp2_with fail
      go_region_o
      go_wp2
      go_roundg k1
      case measure => omega
      case rel => exact ⟨4, rfl, ⟨by omega, by omega, by omega⟩, HR1, HB1⟩
    · subst e
      clear hn
      go_wp2
      go_ret
      exact ⟨_, rfl, by simpa using HR.out, HB.out⟩
set_option maxHeartbeats 8000000 in
set_option maxRecDepth 100000 in
theorem slices_Repeat_int_int.at5 (ad : Addr) (c0 : Nat) (x : Int) (w : World) (hx : w.cell? (ad.add 0) = some (.int .i64 x)) :
    Calls Try.prog 53 #[.slice (some ad) 1 c0, .int .i64 5] w fun e w' => ∃ v0_ : Value, e = .returned (v0_) ∧ w'.ownsRow w.heap.size 3 1 v0_ 5 (encs (Value.int .i64) (List.replicate 5 x)) ∧ Below w.heap.size w w' := by
  have hmk := print_make (P := Try.prog) 24 3 .i64 8 Try.underlying24 info3 (by omega) 5 (by omega)
  replace hmk : ∀ W : World, (Instr.makeSlice 24 (.int .i64 5) (.int .i64 5)).run Try.prog W = .ok (.slice (some ⟨W.heap.size, 0, none⟩) 5 5) (W.alloc (.cells (madeCells #[.int .i64 0] 5) 3)) := hmk
  have hown := own_made w w.heap.size 3 .i64 5 (Nat.le_refl _) (by omega)
  obtain ⟨w1, hw1⟩ : ∃ w1, w1 = w.alloc (.cells (madeCells #[.int .i64 0] 5) 3) := ⟨_, rfl⟩
  rw [← hw1] at hown
  have hB1 : Below w.heap.size w w1 := by rw [hw1]; exact below_alloc (Below.refl _ _) _
  have hx1 : w1.cell? (ad.add 0) = some (.int .i64 x) := pw_cell_below hB1 hx
  obtain ⟨hc, hr⟩ := slices_Repeat_int_int.copy 24 24 3 Try.underlying24 hown 0 5 5 1 c0 [x] (by rfl) (by simp) ad (fun j hj => by
    have : j = 0 := by simp at hj; omega
    subst this; exact hx1)
  have hc0 := hc 0
  obtain ⟨hr0, hg0⟩ := hr 0
  rw [show w1.drewN 0 = w1 from rfl] at hc0 hr0 hg0
  obtain ⟨w2, hw2⟩ : ∃ w2, w2 = w1.setCells w.heap.size 0 (encs (Value.int .i64) [x]) := ⟨_, rfl⟩
  rw [← hw2] at hc0 hr0 hg0
  have hB2 : Below w.heap.size w w2 := hB1.grown hg0 hB1.size (fun k hk => by cases hk; exact Nat.le_refl _)
  rw [hw1] at hc0
  rw [hw2, hw1] at hr0 hB2
  have HR := Aside0.mk hr0
  have HB := Aside0.mk hB2
  clear hr0 hg0 hr hc hown hx1 hB1 hB2
  go_enter Try.func53, Try.ntmps53
  go_wp2_with (first
    | (go_at_call 75; refine (Go.Proofs.Any.bits_Mul slices_Repeat_int_int.lays 1 5 (by omega) (by omega) _).mono ?_; rintro e wq ⟨rfl, hq⟩; subst hq))
  go_loopg [8] 4 (fun kq v8 w' => ∃ n : Nat, v8 = .int .i64 (n : Int) ∧ Aside0 (1 ≤ n ∧ n + kq = 5 ∧ (n = 1 ∨ n = 2 ∨ n = 4 ∨ n = 5)) ∧ Aside0 (w'.ownsRow wq.heap.size 3 1 (.slice (some ⟨wq.heap.size, 0, none⟩) 5 5) 5 (encs (Value.int .i64) (List.replicate n x ++ List.replicate (5 - n) 0))) ∧ Aside0 (Below wq.heap.size wq w'))
  case atStart => exact ⟨1, rfl, ⟨by omega, by omega, by omega⟩, HR, HB⟩
  case round =>
    clear HR HB hmk hc0 hw1 hw2
    obtain ⟨n, rfl, HN, HR, HB⟩ := hrel
    have hn := HN.out
    clear HN
    rcases hn.2.2 with e | e | e | e
    · subst e
      obtain ⟨k1, rfl⟩ : ∃ k1, gk = k1 + 1 := ⟨gk - 1, by omega⟩
      have hk1 : k1 = 3 := by omega
      clear hn
      obtain ⟨hc, hr⟩ := slices_Repeat_int_int.copy 24 24 3 Try.underlying24 HR.out 1 4 4 1 5 (List.replicate 1 x) (by rfl) (by simp) ⟨wq.heap.size, 0, none⟩ (fun j hj => by
        have hj : j < 1 := by simpa using hj
        rw [add_plain, HR.out.cellAt j (by omega)]
        have : j = 0 := by omega
        subst this; rfl)
      replace hc : (Builtin.copy_ #[24, 24] 3 #[.slice (some ⟨wq.heap.size, 1, none⟩) 4 4, .slice (some ⟨wq.heap.size, 0, none⟩) 1 5]).run Try.prog wr.drew = .ok (.int .i64 1) (wr.drew.setCells wq.heap.size 1 (encs (Value.int .i64) (List.replicate 1 x))) := hc 1
      have hmo : Try.prog.follows .mixedOrders = true := by kernel_rfl
      obtain ⟨hr1, hg1⟩ := hr 1
      have HR1 := Aside0.mk hr1
      have HB1 := Aside0.mk (HB.out.grown hg1 HB.out.size (fun k hk => by cases hk; exact Nat.le_refl _))
      clear hr hr1 hg1 HR HB
      go_wp2_with fail
      go_region_o
      go_wp2
      go_roundg k1
      case measure => omega
      case rel => exact ⟨2, rfl, ⟨by omega, by omega, by omega⟩, HR1, HB1⟩
    · subst e
      obtain ⟨k1, rfl⟩ : ∃ k1, gk = k1 + 2 := ⟨gk - 2, by omega⟩
      have hk1 : k1 = 1 := by omega
      clear hn
      obtain ⟨hc, hr⟩ := slices_Repeat_int_int.copy 24 24 3 Try.underlying24 HR.out 2 3 3 2 5 (List.replicate 2 x) (by rfl) (by simp) ⟨wq.heap.size, 0, none⟩ (fun j hj => by
        have hj : j < 2 := by simpa using hj
        rw [add_plain, HR.out.cellAt j (by omega)]
        rcases (by omega : j = 0 ∨ j = 1) with e | e <;> (subst e; rfl))
      replace hc : (Builtin.copy_ #[24, 24] 3 #[.slice (some ⟨wq.heap.size, 2, none⟩) 3 3, .slice (some ⟨wq.heap.size, 0, none⟩) 2 5]).run Try.prog wr.drew = .ok (.int .i64 2) (wr.drew.setCells wq.heap.size 2 (encs (Value.int .i64) (List.replicate 2 x))) := hc 1
      have hmo : Try.prog.follows .mixedOrders = true := by kernel_rfl
      obtain ⟨hr1, hg1⟩ := hr 1
      have HR1 := Aside0.mk hr1
      have HB1 := Aside0.mk (HB.out.grown hg1 HB.out.size (fun k hk => by cases hk; exact Nat.le_refl _))
      clear hr hr1 hg1 HR HB
      go_wp2_with fail
      go_region_o
      go_wp2
      go_roundg k1
      case measure => omega
      case rel => exact ⟨4, rfl, ⟨by omega, by omega, by omega⟩, HR1, HB1⟩
    · subst e
      obtain ⟨k1, rfl⟩ : ∃ k1, gk = k1 + 1 := ⟨gk - 1, by omega⟩
      have hk1 : k1 = 0 := by omega
      clear hn
      obtain ⟨hc, hr⟩ := slices_Repeat_int_int.copy 24 24 3 Try.underlying24 HR.out 4 1 1 4 5 (List.replicate 1 x) (by rfl) (by simp) ⟨wq.heap.size, 0, none⟩ (fun j hj => by
        have hj : j < 1 := by simpa using hj
        rw [add_plain, HR.out.cellAt j (by omega)]
        have : j = 0 := by omega
        subst this; rfl)
      replace hc : (Builtin.copy_ #[24, 24] 3 #[.slice (some ⟨wq.heap.size, 4, none⟩) 1 1, .slice (some ⟨wq.heap.size, 0, none⟩) 4 5]).run Try.prog wr.drew = .ok (.int .i64 1) (wr.drew.setCells wq.heap.size 4 (encs (Value.int .i64) (List.replicate 1 x))) := hc 1
      have hmo : Try.prog.follows .mixedOrders = true := by kernel_rfl
      obtain ⟨hr1, hg1⟩ := hr 1
      have HR1 := Aside0.mk hr1
      have HB1 := Aside0.mk (HB.out.grown hg1 HB.out.size (fun k hk => by cases hk; exact Nat.le_refl _))
      clear hr hr1 hg1 HR HB
      go_wp2_with fail
      go_region_o
      go_wp2
      go_roundg k1
      case measure => omega
      case rel => exact ⟨5, rfl, ⟨by omega, by omega, by omega⟩, HR1, HB1⟩
    · subst e
      clear hn
      go_wp2
      go_ret
      exact ⟨_, rfl, by simpa using HR.out, HB.out⟩
set_option maxHeartbeats 8000000 in
set_option maxRecDepth 100000 in
theorem slices_Repeat_int_int.at6 (ad : Addr) (c0 : Nat) (x : Int) (w : World) (hx : w.cell? (ad.add 0) = some (.int .i64 x)) :
    Calls Try.prog 53 #[.slice (some ad) 1 c0, .int .i64 6] w fun e w' => ∃ v0_ : Value, e = .returned (v0_) ∧ w'.ownsRow w.heap.size 3 1 v0_ 6 (encs (Value.int .i64) (List.replicate 6 x)) ∧ Below w.heap.size w w' := by
  have hmk := print_make (P := Try.prog) 24 3 .i64 8 Try.underlying24 info3 (by omega) 6 (by omega)
  replace hmk : ∀ W : World, (Instr.makeSlice 24 (.int .i64 6) (.int .i64 6)).run Try.prog W = .ok (.slice (some ⟨W.heap.size, 0, none⟩) 6 6) (W.alloc (.cells (madeCells #[.int .i64 0] 6) 3)) := hmk
  have hown := own_made w w.heap.size 3 .i64 6 (Nat.le_refl _) (by omega)
  obtain ⟨w1, hw1⟩ : ∃ w1, w1 = w.alloc (.cells (madeCells #[.int .i64 0] 6) 3) := ⟨_, rfl⟩
  rw [← hw1] at hown
  have hB1 : Below w.heap.size w w1 := by rw [hw1]; exact below_alloc (Below.refl _ _) _
  have hx1 : w1.cell? (ad.add 0) = some (.int .i64 x) := pw_cell_below hB1 hx
  obtain ⟨hc, hr⟩ := slices_Repeat_int_int.copy 24 24 3 Try.underlying24 hown 0 6 6 1 c0 [x] (by rfl) (by simp) ad (fun j hj => by
    have : j = 0 := by simp at hj; omega
    subst this; exact hx1)
  have hc0 := hc 0
  obtain ⟨hr0, hg0⟩ := hr 0
  rw [show w1.drewN 0 = w1 from rfl] at hc0 hr0 hg0
  obtain ⟨w2, hw2⟩ : ∃ w2, w2 = w1.setCells w.heap.size 0 (encs (Value.int .i64) [x]) := ⟨_, rfl⟩
  rw [← hw2] at hc0 hr0 hg0
  have hB2 : Below w.heap.size w w2 := hB1.grown hg0 hB1.size (fun k hk => by cases hk; exact Nat.le_refl _)
  rw [hw1] at hc0
  rw [hw2, hw1] at hr0 hB2
  have HR := Aside0.mk hr0
  have HB := Aside0.mk hB2
  clear hr0 hg0 hr hc hown hx1 hB1 hB2
  go_enter Try.func53, Try.ntmps53
  go_wp2_with (first
    | (go_at_call 75; refine (Go.Proofs.Any.bits_Mul slices_Repeat_int_int.lays 1 6 (by omega) (by omega) _).mono ?_; rintro e wq ⟨rfl, hq⟩; subst hq))
  go_loopg [8] 5 (fun kq v8 w' => ∃ n : Nat, v8 = .int .i64 (n : Int) ∧ Aside0 (1 ≤ n ∧ n + kq = 6 ∧ (n = 1 ∨ n = 2 ∨ n = 4 ∨ n = 6)) ∧ Aside0 (w'.ownsRow wq.heap.size 3 1 (.slice (some ⟨wq.heap.size, 0, none⟩) 6 6) 6 (encs (Value.int .i64) (List.replicate n x ++ List.replicate (6 - n) 0))) ∧ Aside0 (Below wq.heap.size wq w'))
  case atStart => exact ⟨1, rfl, ⟨by omega, by omega, by omega⟩, HR, HB⟩
  case round =>
    clear HR HB hmk hc0 hw1 hw2
    obtain ⟨n, rfl, HN, HR, HB⟩ := hrel
    have hn := HN.out
    clear HN
    rcases hn.2.2 with e | e | e | e
    · subst e
      obtain ⟨k1, rfl⟩ : ∃ k1, gk = k1 + 1 := ⟨gk - 1, by omega⟩
      have hk1 : k1 = 4 := by omega
      clear hn
      obtain ⟨hc, hr⟩ := slices_Repeat_int_int.copy 24 24 3 Try.underlying24 HR.out 1 5 5 1 6 (List.replicate 1 x) (by rfl) (by simp) ⟨wq.heap.size, 0, none⟩ (fun j hj => by
        have hj : j < 1 := by simpa using hj
        rw [add_plain, HR.out.cellAt j (by omega)]
        have : j = 0 := by omega
        subst this; rfl)
      replace hc : (Builtin.copy_ #[24, 24] 3 #[.slice (some ⟨wq.heap.size, 1, none⟩) 5 5, .slice (some ⟨wq.heap.size, 0, none⟩) 1 6]).run Try.prog wr.drew = .ok (.int .i64 1) (wr.drew.setCells wq.heap.size 1 (encs (Value.int .i64) (List.replicate 1 x))) := hc 1
      have hmo : Try.prog.follows .mixedOrders = true := by kernel_rfl
      obtain ⟨hr1, hg1⟩ := hr 1
      have HR1 := Aside0.mk hr1
      have HB1 := Aside0.mk (HB.out.grown hg1 HB.out.size (fun k hk => by cases hk; exact Nat.le_refl _))
      clear hr hr1 hg1 HR HB
      go_wp2_with fail
      go_region_o
      go_wp2
      go_roundg k1
      case measure => omega
      case rel => exact ⟨2, rfl, ⟨by omega, by omega, by omega⟩, HR1, HB1⟩
    · subst e
      obtain ⟨k1, rfl⟩ : ∃ k1, gk = k1 + 2 := ⟨gk - 2, by omega⟩
      have hk1 : k1 = 2 := by omega
      clear hn
      obtain ⟨hc, hr⟩ := slices_Repeat_int_int.copy 24 24 3 Try.underlying24 HR.out 2 4 4 2 6 (List.replicate 2 x) (by rfl) (by simp) ⟨wq.heap.size, 0, none⟩ (fun j hj => by
        have hj : j < 2 := by simpa using hj
        rw [add_plain, HR.out.cellAt j (by omega)]
        rcases (by omega : j = 0 ∨ j = 1) with e | e <;> (subst e; rfl))
      replace hc : (Builtin.copy_ #[24, 24] 3 #[.slice (some ⟨wq.heap.size, 2, none⟩) 4 4, .slice (some ⟨wq.heap.size, 0, none⟩) 2 6]).run Try.prog wr.drew = .ok (.int .i64 2) (wr.drew.setCells wq.heap.size 2 (encs (Value.int .i64) (List.replicate 2 x))) := hc 1
      have hmo : Try.prog.follows .mixedOrders = true := by kernel_rfl
      obtain ⟨hr1, hg1⟩ := hr 1
      have HR1 := Aside0.mk hr1
      have HB1 := Aside0.mk (HB.out.grown hg1 HB.out.size (fun k hk => by cases hk; exact Nat.le_refl _))
      clear hr hr1 hg1 HR HB
      go_wp2_with fail
      go_region_o
      go_wp2
      go_roundg k1
      case measure => omega
      case rel => exact ⟨4, rfl, ⟨by omega, by omega, by omega⟩, HR1, HB1⟩
    · subst e
      obtain ⟨k1, rfl⟩ : ∃ k1, gk = k1 + 2 := ⟨gk - 2, by omega⟩
      have hk1 : k1 = 0 := by omega
      clear hn
      obtain ⟨hc, hr⟩ := slices_Repeat_int_int.copy 24 24 3 Try.underlying24 HR.out 4 2 2 4 6 (List.replicate 2 x) (by rfl) (by simp) ⟨wq.heap.size, 0, none⟩ (fun j hj => by
        have hj : j < 2 := by simpa using hj
        rw [add_plain, HR.out.cellAt j (by omega)]
        rcases (by omega : j = 0 ∨ j = 1) with e | e <;> (subst e; rfl))
      replace hc : (Builtin.copy_ #[24, 24] 3 #[.slice (some ⟨wq.heap.size, 4, none⟩) 2 2, .slice (some ⟨wq.heap.size, 0, none⟩) 4 6]).run Try.prog wr.drew = .ok (.int .i64 2) (wr.drew.setCells wq.heap.size 4 (encs (Value.int .i64) (List.replicate 2 x))) := hc 1
      have hmo : Try.prog.follows .mixedOrders = true := by kernel_rfl
      obtain ⟨hr1, hg1⟩ := hr 1
      have HR1 := Aside0.mk hr1
      have HB1 := Aside0.mk (HB.out.grown hg1 HB.out.size (fun k hk => by cases hk; exact Nat.le_refl _))
      clear hr hr1 hg1 HR HB
      go_wp2_with fail
      go_region_o
      go_wp2
      go_roundg k1
      case measure => omega
      case rel => exact ⟨6, rfl, ⟨by omega, by omega, by omega⟩, HR1, HB1⟩
    · subst e
      clear hn
      go_wp2
      go_ret
      exact ⟨_, rfl, by simpa using HR.out, HB.out⟩
set_option maxHeartbeats 8000000 in
set_option maxRecDepth 100000 in
theorem slices_Repeat_int_int.at7 (ad : Addr) (c0 : Nat) (x : Int) (w : World) (hx : w.cell? (ad.add 0) = some (.int .i64 x)) :
    Calls Try.prog 53 #[.slice (some ad) 1 c0, .int .i64 7] w fun e w' => ∃ v0_ : Value, e = .returned (v0_) ∧ w'.ownsRow w.heap.size 3 1 v0_ 7 (encs (Value.int .i64) (List.replicate 7 x)) ∧ Below w.heap.size w w' := by
  have hmk := print_make (P := Try.prog) 24 3 .i64 8 Try.underlying24 info3 (by omega) 7 (by omega)
  replace hmk : ∀ W : World, (Instr.makeSlice 24 (.int .i64 7) (.int .i64 7)).run Try.prog W = .ok (.slice (some ⟨W.heap.size, 0, none⟩) 7 7) (W.alloc (.cells (madeCells #[.int .i64 0] 7) 3)) := hmk
  have hown := own_made w w.heap.size 3 .i64 7 (Nat.le_refl _) (by omega)
  obtain ⟨w1, hw1⟩ : ∃ w1, w1 = w.alloc (.cells (madeCells #[.int .i64 0] 7) 3) := ⟨_, rfl⟩
  rw [← hw1] at hown
  have hB1 : Below w.heap.size w w1 := by rw [hw1]; exact below_alloc (Below.refl _ _) _
  have hx1 : w1.cell? (ad.add 0) = some (.int .i64 x) := pw_cell_below hB1 hx
  obtain ⟨hc, hr⟩ := slices_Repeat_int_int.copy 24 24 3 Try.underlying24 hown 0 7 7 1 c0 [x] (by rfl) (by simp) ad (fun j hj => by
    have : j = 0 := by simp at hj; omega
    subst this; exact hx1)
  have hc0 := hc 0
  obtain ⟨hr0, hg0⟩ := hr 0
  rw [show w1.drewN 0 = w1 from rfl] at hc0 hr0 hg0
  obtain ⟨w2, hw2⟩ : ∃ w2, w2 = w1.setCells w.heap.size 0 (encs (Value.int .i64) [x]) := ⟨_, rfl⟩
  rw [← hw2] at hc0 hr0 hg0
  have hB2 : Below w.heap.size w w2 := hB1.grown hg0 hB1.size (fun k hk => by cases hk; exact Nat.le_refl _)
  rw [hw1] at hc0
  rw [hw2, hw1] at hr0 hB2
  have HR := Aside0.mk hr0
  have HB := Aside0.mk hB2
  clear hr0 hg0 hr hc hown hx1 hB1 hB2
  go_enter Try.func53, Try.ntmps53
  go_wp2_with (first
    | (go_at_call 75; refine (Go.Proofs.Any.bits_Mul slices_Repeat_int_int.lays 1 7 (by omega) (by omega) _).mono ?_; rintro e wq ⟨rfl, hq⟩; subst hq))
  go_loopg [8] 6 (fun kq v8 w' => ∃ n : Nat, v8 = .int .i64 (n : Int) ∧ Aside0 (1 ≤ n ∧ n + kq = 7 ∧ (n = 1 ∨ n = 2 ∨ n = 4 ∨ n = 7)) ∧ Aside0 (w'.ownsRow wq.heap.size 3 1 (.slice (some ⟨wq.heap.size, 0, none⟩) 7 7) 7 (encs (Value.int .i64) (List.replicate n x ++ List.replicate (7 - n) 0))) ∧ Aside0 (Below wq.heap.size wq w'))
  case atStart => exact ⟨1, rfl, ⟨by omega, by omega, by omega⟩, HR, HB⟩
  case round =>
    clear HR HB hmk hc0 hw1 hw2
    obtain ⟨n, rfl, HN, HR, HB⟩ := hrel
    have hn := HN.out
    clear HN
    rcases hn.2.2 with e | e | e | e
    · subst e
      obtain ⟨k1, rfl⟩ : ∃ k1, gk = k1 + 1 := ⟨gk - 1, by omega⟩
      have hk1 : k1 = 5 := by omega
      clear hn
      obtain ⟨hc, hr⟩ := slices_Repeat_int_int.copy 24 24 3 Try.underlying24 HR.out 1 6 6 1 7 (List.replicate 1 x) (by rfl) (by simp) ⟨wq.heap.size, 0, none⟩ (fun j hj => by
        have hj : j < 1 := by simpa using hj
        rw [add_plain, HR.out.cellAt j (by omega)]
        have : j = 0 := by omega
        subst this; rfl)
      replace hc : (Builtin.copy_ #[24, 24] 3 #[.slice (some ⟨wq.heap.size, 1, none⟩) 6 6, .slice (some ⟨wq.heap.size, 0, none⟩) 1 7]).run Try.prog wr.drew = .ok (.int .i64 1) (wr.drew.setCells wq.heap.size 1 (encs (Value.int .i64) (List.replicate 1 x))) := hc 1
      have hmo : Try.prog.follows .mixedOrders = true := by kernel_rfl
      obtain ⟨hr1, hg1⟩ := hr 1
      have HR1 := Aside0.mk hr1
      have HB1 := Aside0.mk (HB.out.grown hg1 HB.out.size (fun k hk => by cases hk; exact Nat.le_refl _))
      clear hr hr1 hg1 HR HB
      go_wp2_with fail
      go_region_o
      go_wp2
      go_roundg k1
      case measure => omega
      case rel => exact ⟨2, rfl, ⟨by omega, by omega, by omega⟩, HR1, HB1⟩
    · subst e
      obtain ⟨k1, rfl⟩ : ∃ k1, gk = k1 + 2 := ⟨gk - 2, by omega⟩
      have hk1 : k1 = 3 := by omega
      clear hn
      obtain ⟨hc, hr⟩ := slices_Repeat_int_int.copy 24 24 3 Try.underlying24 HR.out 2 5 5 2 7 (List.replicate 2 x) (by rfl) (by simp) ⟨wq.heap.size, 0, none⟩ (fun j hj => by
        have hj : j < 2 := by simpa using hj
        rw [add_plain, HR.out.cellAt j (by omega)]
        rcases (by omega : j = 0 ∨ j = 1) with e | e <;> (subst e; rfl))
      replace hc : (Builtin.copy_ #[24, 24] 3 #[.slice (some ⟨wq.heap.size, 2, none⟩) 5 5, .slice (some ⟨wq.heap.size, 0, none⟩) 2 7]).run Try.prog wr.drew = .ok (.int .i64 2) (wr.drew.setCells wq.heap.size 2 (encs (Value.int .i64) (List.replicate 2 x))) := hc 1
      have hmo : Try.prog.follows .mixedOrders = true := by kernel_rfl
      obtain ⟨hr1, hg1⟩ := hr 1
      have HR1 := Aside0.mk hr1
      have HB1 := Aside0.mk (HB.out.grown hg1 HB.out.size (fun k hk => by cases hk; exact Nat.le_refl _))
      clear hr hr1 hg1 HR HB
      go_wp2_with fail
      go_region_o
      go_wp2
      go_roundg k1
      case measure => omega
      case rel => exact ⟨4, rfl, ⟨by omega, by omega, by omega⟩, HR1, HB1⟩
    · subst e
      obtain ⟨k1, rfl⟩ : ∃ k1, gk = k1 + 3 := ⟨gk - 3, by omega⟩
      have hk1 : k1 = 0 := by omega
      clear hn
      obtain ⟨hc, hr⟩ := slices_Repeat_int_int.copy 24 24 3 Try.underlying24 HR.out 4 3 3 4 7 (List.replicate 3 x) (by rfl) (by simp) ⟨wq.heap.size, 0, none⟩ (fun j hj => by
        have hj : j < 3 := by simpa using hj
        rw [add_plain, HR.out.cellAt j (by omega)]
        rcases (by omega : j = 0 ∨ j = 1 ∨ j = 2) with e | e | e <;> (subst e; rfl))
      replace hc : (Builtin.copy_ #[24, 24] 3 #[.slice (some ⟨wq.heap.size, 4, none⟩) 3 3, .slice (some ⟨wq.heap.size, 0, none⟩) 4 7]).run Try.prog wr.drew = .ok (.int .i64 3) (wr.drew.setCells wq.heap.size 4 (encs (Value.int .i64) (List.replicate 3 x))) := hc 1
      have hmo : Try.prog.follows .mixedOrders = true := by kernel_rfl
      obtain ⟨hr1, hg1⟩ := hr 1
      have HR1 := Aside0.mk hr1
      have HB1 := Aside0.mk (HB.out.grown hg1 HB.out.size (fun k hk => by cases hk; exact Nat.le_refl _))
      clear hr hr1 hg1 HR HB
      go_wp2_with fail
      go_region_o
      go_wp2
      go_roundg k1
      case measure => omega
      case rel => exact ⟨7, rfl, ⟨by omega, by omega, by omega⟩, HR1, HB1⟩
    · subst e
      clear hn
      go_wp2
      go_ret
      exact ⟨_, rfl, by simpa using HR.out, HB.out⟩
set_option maxHeartbeats 8000000 in
set_option maxRecDepth 100000 in
theorem slices_Repeat_int_int.at8 (ad : Addr) (c0 : Nat) (x : Int) (w : World) (hx : w.cell? (ad.add 0) = some (.int .i64 x)) :
    Calls Try.prog 53 #[.slice (some ad) 1 c0, .int .i64 8] w fun e w' => ∃ v0_ : Value, e = .returned (v0_) ∧ w'.ownsRow w.heap.size 3 1 v0_ 8 (encs (Value.int .i64) (List.replicate 8 x)) ∧ Below w.heap.size w w' := by
  have hmk := print_make (P := Try.prog) 24 3 .i64 8 Try.underlying24 info3 (by omega) 8 (by omega)
  replace hmk : ∀ W : World, (Instr.makeSlice 24 (.int .i64 8) (.int .i64 8)).run Try.prog W = .ok (.slice (some ⟨W.heap.size, 0, none⟩) 8 8) (W.alloc (.cells (madeCells #[.int .i64 0] 8) 3)) := hmk
  have hown := own_made w w.heap.size 3 .i64 8 (Nat.le_refl _) (by omega)
  obtain ⟨w1, hw1⟩ : ∃ w1, w1 = w.alloc (.cells (madeCells #[.int .i64 0] 8) 3) := ⟨_, rfl⟩
  rw [← hw1] at hown
  have hB1 : Below w.heap.size w w1 := by rw [hw1]; exact below_alloc (Below.refl _ _) _
  have hx1 : w1.cell? (ad.add 0) = some (.int .i64 x) := pw_cell_below hB1 hx
  obtain ⟨hc, hr⟩ := slices_Repeat_int_int.copy 24 24 3 Try.underlying24 hown 0 8 8 1 c0 [x] (by rfl) (by simp) ad (fun j hj => by
    have : j = 0 := by simp at hj; omega
    subst this; exact hx1)
  have hc0 := hc 0
  obtain ⟨hr0, hg0⟩ := hr 0
  rw [show w1.drewN 0 = w1 from rfl] at hc0 hr0 hg0
  obtain ⟨w2, hw2⟩ : ∃ w2, w2 = w1.setCells w.heap.size 0 (encs (Value.int .i64) [x]) := ⟨_, rfl⟩
  rw [← hw2] at hc0 hr0 hg0
  have hB2 : Below w.heap.size w w2 := hB1.grown hg0 hB1.size (fun k hk => by cases hk; exact Nat.le_refl _)
  rw [hw1] at hc0
  rw [hw2, hw1] at hr0 hB2
  have HR := Aside0.mk hr0
  have HB := Aside0.mk hB2
  clear hr0 hg0 hr hc hown hx1 hB1 hB2
  go_enter Try.func53, Try.ntmps53
  go_wp2_with (first
    | (go_at_call 75; refine (Go.Proofs.Any.bits_Mul slices_Repeat_int_int.lays 1 8 (by omega) (by omega) _).mono ?_; rintro e wq ⟨rfl, hq⟩; subst hq))
  go_loopg [8] 7 (fun kq v8 w' => ∃ n : Nat, v8 = .int .i64 (n : Int) ∧ Aside0 (1 ≤ n ∧ n + kq = 8 ∧ (n = 1 ∨ n = 2 ∨ n = 4 ∨ n = 8)) ∧ Aside0 (w'.ownsRow wq.heap.size 3 1 (.slice (some ⟨wq.heap.size, 0, none⟩) 8 8) 8 (encs (Value.int .i64) (List.replicate n x ++ List.replicate (8 - n) 0))) ∧ Aside0 (Below wq.heap.size wq w'))
  case atStart => exact ⟨1, rfl, ⟨by omega, by omega, by omega⟩, HR, HB⟩
  case round =>
    clear HR HB hmk hc0 hw1 hw2
    obtain ⟨n, rfl, HN, HR, HB⟩ := hrel
    have hn := HN.out
    clear HN
    rcases hn.2.2 with e | e | e | e
    · subst e
      obtain ⟨k1, rfl⟩ : ∃ k1, gk = k1 + 1 := ⟨gk - 1, by omega⟩
      have hk1 : k1 = 6 := by omega
      clear hn
      obtain ⟨hc, hr⟩ := slices_Repeat_int_int.copy 24 24 3 Try.underlying24 HR.out 1 7 7 1 8 (List.replicate 1 x) (by rfl) (by simp) ⟨wq.heap.size, 0, none⟩ (fun j hj => by
        have hj : j < 1 := by simpa using hj
        rw [add_plain, HR.out.cellAt j (by omega)]
        have : j = 0 := by omega
        subst this; rfl)
      replace hc : (Builtin.copy_ #[24, 24] 3 #[.slice (some ⟨wq.heap.size, 1, none⟩) 7 7, .slice (some ⟨wq.heap.size, 0, none⟩) 1 8]).run Try.prog wr.drew = .ok (.int .i64 1) (wr.drew.setCells wq.heap.size 1 (encs (Value.int .i64) (List.replicate 1 x))) := hc 1
      have hmo : Try.prog.follows .mixedOrders = true := by kernel_rfl
      obtain ⟨hr1, hg1⟩ := hr 1
      have HR1 := Aside0.mk hr1
      have HB1 := Aside0.mk (HB.out.grown hg1 HB.out.size (fun k hk => by cases hk; exact Nat.le_refl _))
      clear hr hr1 hg1 HR HB
      go_wp2_with fail
      go_region_o
      go_wp2
      go_roundg k1
      case measure => omega
      case rel => exact ⟨2, rfl, ⟨by omega, by omega, by omega⟩, HR1, HB1⟩
    · subst e
      obtain ⟨k1, rfl⟩ : ∃ k1, gk = k1 + 2 := ⟨gk - 2, by omega⟩
      have hk1 : k1 = 4 := by omega
      clear hn
      obtain ⟨hc, hr⟩ := slices_Repeat_int_int.copy 24 24 3 Try.underlying24 HR.out 2 6 6 2 8 (List.replicate 2 x) (by rfl) (by simp) ⟨wq.heap.size, 0, none⟩ (fun j hj => by
        have hj : j < 2 := by simpa using hj
        rw [add_plain, HR.out.cellAt j (by omega)]
        rcases (by omega : j = 0 ∨ j = 1) with e | e <;> (subst e; rfl))
      replace hc : (Builtin.copy_ #[24, 24] 3 #[.slice (some ⟨wq.heap.size, 2, none⟩) 6 6, .slice (some ⟨wq.heap.size, 0, none⟩) 2 8]).run Try.prog wr.drew = .ok (.int .i64 2) (wr.drew.setCells wq.heap.size 2 (encs (Value.int .i64) (List.replicate 2 x))) := hc 1
      have hmo : Try.prog.follows .mixedOrders = true := by kernel_rfl
      obtain ⟨hr1, hg1⟩ := hr 1
      have HR1 := Aside0.mk hr1
      have HB1 := Aside0.mk (HB.out.grown hg1 HB.out.size (fun k hk => by cases hk; exact Nat.le_refl _))
      clear hr hr1 hg1 HR HB
      go_wp2_with fail
      go_region_o
      go_wp2
      go_roundg k1
      case measure => omega
      case rel => exact ⟨4, rfl, ⟨by omega, by omega, by omega⟩, HR1, HB1⟩
    · subst e
      obtain ⟨k1, rfl⟩ : ∃ k1, gk = k1 + 4 := ⟨gk - 4, by omega⟩
      have hk1 : k1 = 0 := by omega
      clear hn
      obtain ⟨hc, hr⟩ := slices_Repeat_int_int.copy 24 24 3 Try.underlying24 HR.out 4 4 4 4 8 (List.replicate 4 x) (by rfl) (by simp) ⟨wq.heap.size, 0, none⟩ (fun j hj => by
        have hj : j < 4 := by simpa using hj
        rw [add_plain, HR.out.cellAt j (by omega)]
        rcases (by omega : j = 0 ∨ j = 1 ∨ j = 2 ∨ j = 3) with e | e | e | e <;> (subst e; rfl))
      replace hc : (Builtin.copy_ #[24, 24] 3 #[.slice (some ⟨wq.heap.size, 4, none⟩) 4 4, .slice (some ⟨wq.heap.size, 0, none⟩) 4 8]).run Try.prog wr.drew = .ok (.int .i64 4) (wr.drew.setCells wq.heap.size 4 (encs (Value.int .i64) (List.replicate 4 x))) := hc 1
      have hmo : Try.prog.follows .mixedOrders = true := by kernel_rfl
      obtain ⟨hr1, hg1⟩ := hr 1
      have HR1 := Aside0.mk hr1
      have HB1 := Aside0.mk (HB.out.grown hg1 HB.out.size (fun k hk => by cases hk; exact Nat.le_refl _))
      clear hr hr1 hg1 HR HB
      go_wp2_with fail
      go_region_o
      go_wp2
      go_roundg k1
      case measure => omega
      case rel => exact ⟨8, rfl, ⟨by omega, by omega, by omega⟩, HR1, HB1⟩
    · subst e
      clear hn
      go_wp2
      go_ret
      exact ⟨_, rfl, by simpa using HR.out, HB.out⟩
theorem slices_Repeat_int_int.calls (A0 : Option Addr) (c0 : Nat) (l0 : List Int) (a1 : Int) (r : List Int) (w : World) (hr0 : Kd.C (Kd.int .i64) w A0 l0.length l0) (hc0 : l0.length ≤ c0) (h : slices_Repeat_int_int.f l0 a1 = some r) :
    Calls Try.prog 53 #[.slice A0 l0.length c0, .int .i64 a1] w fun e w' => ∃ v0_ : Value, e = .returned (v0_) ∧ Kd.R (Kd.int .i64) 3 w' w.heap.size (fun _ => True) v0_ r ∧ Below w.heap.size w w' := by
  unfold slices_Repeat_int_int.f at h
  by_cases c1 : l0.length = 1
  · rw [if_pos c1] at h
    by_cases c2 : 1 ≤ a1
    · rw [if_pos c2] at h
      by_cases c3 : a1 ≤ 8
      · rw [if_pos c3] at h
        obtain rfl := Option.some.inj h
        obtain ⟨ad, c, e1, hl, hk, hc⟩ := Kd.C_get hr0 0 0 (by omega) (by omega)
        subst e1
        have hx : w.cell? (ad.add 0) = some (.int .i64 (rd l0 0)) := by
          have := hc 0 (.int .i64 (l0.getD 0 0)) (by rw [show c = [Value.int .i64 (l0.getD 0 0)] from hk]; rfl)
          simpa [rd] using this
        rw [c1]
        rcases (by omega : a1 = 1 ∨ a1 = 2 ∨ a1 = 3 ∨ a1 = 4 ∨ a1 = 5 ∨ a1 = 6 ∨ a1 = 7 ∨ a1 = 8) with e | e | e | e | e | e | e | e
        · subst e
          refine (slices_Repeat_int_int.at1 ad c0 (rd l0 0) w hx).mono ?_
          rintro e w' ⟨v, rfl, ho, hb⟩
          exact ⟨v, rfl, Kd.R_of_own (by rw [List.length_replicate]; exact ho) (fun _ _ => trivial), hb⟩
        · subst e
          refine (slices_Repeat_int_int.at2 ad c0 (rd l0 0) w hx).mono ?_
          rintro e w' ⟨v, rfl, ho, hb⟩
          exact ⟨v, rfl, Kd.R_of_own (by rw [List.length_replicate]; exact ho) (fun _ _ => trivial), hb⟩
        · subst e
          refine (slices_Repeat_int_int.at3 ad c0 (rd l0 0) w hx).mono ?_
          rintro e w' ⟨v, rfl, ho, hb⟩
          exact ⟨v, rfl, Kd.R_of_own (by rw [List.length_replicate]; exact ho) (fun _ _ => trivial), hb⟩
        · subst e
          refine (slices_Repeat_int_int.at4 ad c0 (rd l0 0) w hx).mono ?_
          rintro e w' ⟨v, rfl, ho, hb⟩
          exact ⟨v, rfl, Kd.R_of_own (by rw [List.length_replicate]; exact ho) (fun _ _ => trivial), hb⟩
        · subst e
          refine (slices_Repeat_int_int.at5 ad c0 (rd l0 0) w hx).mono ?_
          rintro e w' ⟨v, rfl, ho, hb⟩
          exact ⟨v, rfl, Kd.R_of_own (by rw [List.length_replicate]; exact ho) (fun _ _ => trivial), hb⟩
        · subst e
          refine (slices_Repeat_int_int.at6 ad c0 (rd l0 0) w hx).mono ?_
          rintro e w' ⟨v, rfl, ho, hb⟩
          exact ⟨v, rfl, Kd.R_of_own (by rw [List.length_replicate]; exact ho) (fun _ _ => trivial), hb⟩
        · subst e
          refine (slices_Repeat_int_int.at7 ad c0 (rd l0 0) w hx).mono ?_
          rintro e w' ⟨v, rfl, ho, hb⟩
          exact ⟨v, rfl, Kd.R_of_own (by rw [List.length_replicate]; exact ho) (fun _ _ => trivial), hb⟩
        · subst e
          refine (slices_Repeat_int_int.at8 ad c0 (rd l0 0) w hx).mono ?_
          rintro e w' ⟨v, rfl, ho, hb⟩
          exact ⟨v, rfl, Kd.R_of_own (by rw [List.length_replicate]; exact ho) (fun _ _ => trivial), hb⟩
      · rw [if_neg c3] at h; exact absurd h (by simp)
    · rw [if_neg c2] at h; exact absurd h (by simp)
  · rw [if_neg c1] at h; exact absurd h (by simp)

/-! ### impl_RefusingWeights: function 24 -/
def impl_RefusingWeights.f (k : Nat) (l0 : List Int) (l1 : List Int) : Option (List Int × Bool) := (impl_RefusalOf.f k l0 l1).bind fun bt223 => (if bt223.2 = true then ((slices_Repeat_int_int.f (([1] : List Int)) bt223.1).bind fun t228 => (if 0 ≤ (wrap64 ((l0.length : Int) - bt223.1)) then (if t228.length + (wrap64 ((l0.length : Int) - bt223.1) : Int).toNat < 17592186044416 then (some ((t228 ++ List.replicate (wrap64 ((l0.length : Int) - bt223.1) : Int).toNat 0), true)) else (none)) else (none))) else (some (([] : List Int), false)))
theorem impl_RefusingWeights.mono : ∀ a0 a1 k, LeO (impl_RefusingWeights.f k a0 a1) (impl_RefusingWeights.f (k + 1) a0 a1) := by
  intro a0 a1 k
  unfold impl_RefusingWeights.f
  repeat' first
      | (with_reducible exact impl_RefusalOf.mono _ _ _)
      | (with_reducible exact LeO.refl _)
      | (with_reducible exact LeO.none _)
      | (with_reducible refine LeO.ite ?_ ?_)
      | (with_reducible refine LeO.bind ?_ (fun _ => ?_))
      | exact impl_RefusalOf.mono _ _ _
      | exact LeO.none _
      | refine LeO.ite ?_ ?_
      | refine LeO.bind ?_ (fun _ => ?_)
set_option maxHeartbeats 8000000 in
set_option maxRecDepth 100000 in
theorem impl_RefusingWeights.calls (k : Nat) (A0 : Option Addr) (c0 : Nat) (l0 : List Int) (A1 : Option Addr) (c1 : Nat) (l1 : List Int) (r1 : List Int) (r2 : Bool) (w : World) (hr0 : Kd.C (Kd.int .i64) w A0 l0.length l0) (hc0 : l0.length ≤ c0) (hr1 : Kd.C (Kd.int .i64) w A1 l1.length l1) (hc1 : l1.length ≤ c1) (h : impl_RefusingWeights.f k l0 l1 = some (r1, r2)) :
    Calls Try.prog 24 #[.slice A0 l0.length c0, .slice A1 l1.length c1] w fun e w' => ∃ v0_ : Value, e = .returned (.tuple #[v0_, .bool r2]) ∧ Kd.R (Kd.int .i64) 3 w' w.heap.size (fun _ => True) v0_ r1 ∧ Below w.heap.size w w' := by
  have HR0 := Aside0.mk hr0
  have HC0 := Aside0.mk hc0
  clear hr0 hc0
  have HR1 := Aside0.mk hr1
  have HC1 := Aside0.mk hc1
  clear hr1 hc1
  have HB := Aside0.mk (Below.refl w.heap.size w)
  have H : ((impl_RefusalOf.f k l0 l1).bind fun bt223 => (if bt223.2 = true then ((slices_Repeat_int_int.f (([1] : List Int)) bt223.1).bind fun t228 => (if 0 ≤ (wrap64 ((l0.length : Int) - bt223.1)) then (if t228.length + (wrap64 ((l0.length : Int) - bt223.1) : Int).toNat < 17592186044416 then (some ((t228 ++ List.replicate (wrap64 ((l0.length : Int) - bt223.1) : Int).toNat 0), true)) else (none)) else (none))) else (some (([] : List Int), false)))) = some (r1, r2) := h
  clear h
  replace H := Option.bind_eq_some_iff.mp H
  obtain ⟨⟨t223, t224⟩, A30, H⟩ := H
  replace H : (if t224 = true then ((slices_Repeat_int_int.f (([1] : List Int)) t223).bind fun t228 => (if 0 ≤ (wrap64 ((l0.length : Int) - t223)) then (if t228.length + (wrap64 ((l0.length : Int) - t223) : Int).toNat < 17592186044416 then (some ((t228 ++ List.replicate (wrap64 ((l0.length : Int) - t223) : Int).toNat 0), true)) else (none)) else (none))) else (some (([] : List Int), false))) = some (r1, r2) := H
  have A3 := Aside0.mk A30
  clear A30
  by_cases c4 : t224 = true
  · subst c4
    have H1 : ((slices_Repeat_int_int.f (([1] : List Int)) t223).bind fun t228 => (if 0 ≤ (wrap64 ((l0.length : Int) - t223)) then (if t228.length + (wrap64 ((l0.length : Int) - t223) : Int).toNat < 17592186044416 then (some ((t228 ++ List.replicate (wrap64 ((l0.length : Int) - t223) : Int).toNat 0), true)) else (none)) else (none))) = some (r1, r2) := by rw [if_pos rfl] at H; exact H
    clear H
    have H := H1
    clear H1
    obtain ⟨y225, hy225⟩ : ∃ y_ : List Int, y_ = (([1] : List Int)) := ⟨_, rfl⟩
    replace H : ((slices_Repeat_int_int.f y225 t223).bind fun t228 => (if 0 ≤ (wrap64 ((l0.length : Int) - t223)) then (if t228.length + (wrap64 ((l0.length : Int) - t223) : Int).toNat < 17592186044416 then (some ((t228 ++ List.replicate (wrap64 ((l0.length : Int) - t223) : Int).toNat 0), true)) else (none)) else (none))) = some (r1, r2) := by first | (rw [hy225]; with_reducible exact H) | (have H2_ := (Option.bind_some _ _).symm.trans H; rw [hy225]; with_reducible exact H2_) | (have H2_ := (Option.bind_some _ _).symm.trans H; with_reducible exact H2_) | with_reducible exact H | (rw [hy225]; exact H) | exact H
    have Ny225 := Aside0.mk hy225
    clear hy225
    replace H := Option.bind_eq_some_iff.mp H
    obtain ⟨t228, A50, H⟩ := H
    replace H : (if 0 ≤ (wrap64 ((l0.length : Int) - t223)) then (if t228.length + (wrap64 ((l0.length : Int) - t223) : Int).toNat < 17592186044416 then (some ((t228 ++ List.replicate (wrap64 ((l0.length : Int) - t223) : Int).toNat 0), true)) else (none)) else (none)) = some (r1, r2) := H
    have A5 := Aside0.mk A50
    clear A50
    obtain ⟨ji6, hji6⟩ : ∃ j_ : Int, (wrap64 ((l0.length : Int) - t223)) = j_ := ⟨_, rfl⟩
    replace H : (if 0 ≤ (ji6) then (if t228.length + (ji6 : Int).toNat < 17592186044416 then (some ((t228 ++ List.replicate (ji6 : Int).toNat 0), true)) else (none)) else (none)) = some (r1, r2) := by first | (rw [hji6] at H; exact H) | (simp only [hji6] at H ⊢; exact H)
    (try rw [hji6] at A3)
    (try rw [hji6] at A5)
    have hji6w : (IntKind.i64.wrap ((l0.length : Int) - t223)) = ji6 := (i64_w _).trans hji6
    by_cases c7 : 0 ≤ (ji6)
    · rw [if_pos c7] at H
      have c7b0 := eq_true c7
      have c7b1 : decide (0 ≤ (ji6)) = true := decide_eq_true c7
      clear c7
      by_cases c8 : t228.length + (ji6 : Int).toNat < 17592186044416
      · rw [if_pos c8] at H
        have LMc8 := Aside0.mk c8
        clear c8
        obtain ⟨y231, hy231⟩ : ∃ y_ : List Int, y_ = (t228 ++ List.replicate (ji6 : Int).toNat 0) := ⟨_, rfl⟩
        replace H : (some (y231, true)) = some (r1, r2) := by first | (rw [hy231]; with_reducible exact H) | (have H2_ := (Option.bind_some _ _).symm.trans H; rw [hy231]; with_reducible exact H2_) | (have H2_ := (Option.bind_some _ _).symm.trans H; with_reducible exact H2_) | with_reducible exact H | (rw [hy231]; exact H) | exact H
        have Ny231 := Aside0.mk hy231
        clear hy231
        simp only [Option.some.injEq, Prod.mk.injEq] at H
        obtain ⟨rfl, rfl⟩ := H
        go_enter Try.func24, Try.ntmps24
        go_wp2_with (first | ((with_reducible refine gate_callee (f := 52) rfl ?_); refine goesL_ (some 11) rfl rfl Try.func52 (by kernel_rfl) rfl #[.slice A0 l0.length c0, .slice A1 l1.length c1] rfl (by (try simp only [List.map_toArray, List.map_cons, List.map_nil]); first | done | rfl | (simp only [List.length_drop, List.length_take]; rfl)) ?_; (with_reducible refine (impl_RefusalOf.calls k _ _ l0 _ _ l1 t223 true _ ?side1 ?side2 ?side3 ?side4 A3.out).mono ?_); (case side1 => repeat (first | exact HR0.out | (with_reducible refine Kd.C_alloc ?_ _) | (with_reducible refine Kd.C_drewN ?_ _) | (with_reducible refine Kd.C_drew ?_))); (case side2 => exact HC0.out); (case side3 => repeat (first | exact HR1.out | (with_reducible refine Kd.C_alloc ?_ _) | (with_reducible refine Kd.C_drewN ?_ _) | (with_reducible refine Kd.C_drew ?_))); (case side4 => exact HC1.out); rintro e w9 ⟨rfl, hb⟩; refine ⟨_, rfl, ?_⟩; have n0_ := Aside0.mk (below_step (by repeat (first | (with_reducible first | exact HB.out | apply below_alloc | apply pw_below_drewN | apply below_drew1) | exact HB.out)) hb); clear HB; have HB := n0_; clear n0_; (try clear hb); (try clear hb2); (try clear hk); (try clear hi)) | ((with_reducible refine gate_dst (N := 16) rfl ?_); refine Kd.R_lit (Kd.int .i64) _ 3 ?hg (N := 16) ?hd (xs := ([1] : List Int)) (inner := [.int .i64 1]) (ok := fun _ => True) (okp := fun _ => True) ?hr ?hp (fun _ hk => hk) trivial (Below.refl _ _) (Nat.le_refl _) (by simp) ?_; (case hd => rfl); (case hg => rfl); (case hr => first | (go_simp; done) | (go_simp; rfl)); (case hp => exact (Reps.one (show Kd.M (Kd.int .i64) _ _ _ 1 [.int .i64 1] from rfl) (Reps.none _ _))); intro v226 w10 ho11 hb hg_ hnew_; clear hg_ hnew_; (first | rw [← Ny225.out] at ho11 | (simp only [Int.reduceToNat] at ho11; rw [← Ny225.out] at ho11)); have n0_ := Aside0.mk (Kd.R_lower ho11 (below_size (by repeat (first | (with_reducible first | exact HB.out | apply below_alloc | apply pw_below_drewN | apply below_drew1) | exact HB.out)))); have n1_ := Aside0.mk (below_step (by repeat (first | (with_reducible first | exact HB.out | apply below_alloc | apply pw_below_drewN | apply below_drew1) | exact HB.out)) hb); clear HB; have HO227 := n0_; have HB := n1_; clear n0_ n1_; clear hb ho11; obtain ⟨Ao12, co12, eo12⟩ := Kd.R_slice HO227.out; subst eo12) | ((with_reducible refine gate_callee (f := 53) rfl ?_); refine goesL_ (some 18) rfl rfl Try.func53 (by kernel_rfl) rfl #[.slice Ao12 y225.length co12, .int .i64 t223] rfl (by (try simp only [List.map_toArray, List.map_cons, List.map_nil]); first | done | rfl | (simp only [List.length_drop, List.length_take]; rfl)) ?_; (with_reducible refine (slices_Repeat_int_int.calls _ _ y225 t223 t228 _ ?side1 ?side2 A5.out).mono ?_); (case side1 => repeat (first | exact (Kd.R_reads' HO227.out).2.2 | (with_reducible refine Kd.C_alloc ?_ _) | (with_reducible refine Kd.C_drewN ?_ _) | (with_reducible refine Kd.C_drew ?_))); (case side2 => exact (Kd.R_reads' HO227.out).2.1); rintro e w13 ⟨v229, rfl, ho0, hb⟩; refine ⟨_, rfl, ?_⟩; have n0_ := Aside0.mk (Kd.R_elder' (by (with_reducible repeat (first | apply Kd.R_alloc | apply Kd.R_drewN | apply Kd.R_drew)); exact HO227.out) (Kd.R_base ho0) hb); have n1_ := Aside0.mk (Kd.R_lower (Kd.R_new' ho0 (Kd.R_lt (by (with_reducible repeat (first | apply Kd.R_alloc | apply Kd.R_drewN | apply Kd.R_drew)); exact HO227.out))) (below_size (by repeat (first | (with_reducible first | exact HB.out | apply below_alloc | apply pw_below_drewN | apply below_drew1) | exact HB.out)))); have n2_ := Aside0.mk (below_step (by repeat (first | (with_reducible first | exact HB.out | apply below_alloc | apply pw_below_drewN | apply below_drew1) | exact HB.out)) hb); clear HO227; clear HB; have HO227 := n0_; have HO230 := n1_; have HB := n2_; clear n0_ n1_ n2_; (try clear hb); (try clear hb2); (try clear hk); (try clear hi); (try clear ho0)) | (at_builtin; refine Kd.R_append_zeros (Kd.int .i64) (w0 := w) w.heap.size rfl (.tmp 18) (.tmp 22) 24 3 3 (.int .i64 0) 8 rfl Try.underlying24 Try.underlying3 info3 rfl (by decide) (by omega) v229 t228 0 (ji6 : Int) (fun k_ => some k_ ≠ (.slice Ao12 y225.length co12 : Value).ownBlock) rfl rfl rfl ?aF ?aO (of_decide_eq_true (by first | (with_reducible assumption) | assumption)) ?aB ?aS ?aL ?_; (case aB => exact (by repeat (first | (with_reducible first | exact HB.out | apply below_alloc | apply pw_below_drewN | apply below_drew1) | exact HB.out))); (case aF => exact (fun k_ hk => Kd.fresh' (Kd.R_lt (by (with_reducible repeat (first | apply Kd.R_alloc | apply Kd.R_drewN | apply Kd.R_drew)); exact HO227.out)) k_ hk)); (case aO => exact (by (with_reducible repeat (first | apply Kd.R_alloc | apply Kd.R_drewN | apply Kd.R_drew)); exact Kd.R_mono HO230.out (fun _ hk => hk.2))); (case aS => exact (below_size (by repeat (first | (with_reducible first | exact HB.out | apply below_alloc | apply pw_below_drewN | apply below_drew1) | exact HB.out)))); (case aL => have := LMc8.out; omega); intro v232 w14 ho hb hg hat; rw [← Ny231.out] at ho; have n0_ := Aside0.mk (Kd.R_after (ok := (fun _ => True)) (by (with_reducible repeat (first | apply Kd.R_alloc | apply Kd.R_drewN | apply Kd.R_drew)); exact HO227.out) hg hat); have n1_ := Aside0.mk (hb); have n2_ := Aside0.mk (ho); clear HO227; clear HB; clear HO230; have HO227 := n0_; have HB := n1_; have HO233 := n2_; clear n0_ n1_ n2_; clear ho hb hg hat))
        go_ret2
        exact ⟨_, by first | rfl | (simp [errW_none, errW_some] <;> rfl) | (simp only [← hji6]; first | rfl | (simp [errW_none, errW_some] <;> rfl)) | (simp [*, errW_none, errW_some] <;> rfl), by (with_reducible repeat (first | apply Kd.R_alloc | apply Kd.R_drewN | apply Kd.R_drew)); exact Kd.R_mono HO233.out (fun _ hk => trivial), by repeat (first | (with_reducible first | exact HB.out | apply below_alloc | apply pw_below_drewN | apply below_drew1) | exact HB.out)⟩
      · rw [if_neg c8] at H
        exact absurd H (by simp)
    · rw [if_neg c7] at H
      exact absurd H (by simp)
  · replace c4 := Bool.eq_false_iff.mpr c4
    subst c4
    have H1 : (some (([] : List Int), false)) = some (r1, r2) := by rw [if_neg (show ¬ (false = true) by decide)] at H; exact H
    clear H
    have H := H1
    clear H1
    simp only [Option.some.injEq, Prod.mk.injEq] at H
    obtain ⟨rfl, rfl⟩ := H
    go_enter Try.func24, Try.ntmps24
    go_wp2_with (first | ((with_reducible refine gate_callee (f := 52) rfl ?_); refine goesL_ (some 11) rfl rfl Try.func52 (by kernel_rfl) rfl #[.slice A0 l0.length c0, .slice A1 l1.length c1] rfl (by (try simp only [List.map_toArray, List.map_cons, List.map_nil]); first | done | rfl | (simp only [List.length_drop, List.length_take]; rfl)) ?_; (with_reducible refine (impl_RefusalOf.calls k _ _ l0 _ _ l1 t223 false _ ?side1 ?side2 ?side3 ?side4 A3.out).mono ?_); (case side1 => repeat (first | exact HR0.out | (with_reducible refine Kd.C_alloc ?_ _) | (with_reducible refine Kd.C_drewN ?_ _) | (with_reducible refine Kd.C_drew ?_))); (case side2 => exact HC0.out); (case side3 => repeat (first | exact HR1.out | (with_reducible refine Kd.C_alloc ?_ _) | (with_reducible refine Kd.C_drewN ?_ _) | (with_reducible refine Kd.C_drew ?_))); (case side4 => exact HC1.out); rintro e w15 ⟨rfl, hb⟩; refine ⟨_, rfl, ?_⟩; have n0_ := Aside0.mk (below_step (by repeat (first | (with_reducible first | exact HB.out | apply below_alloc | apply pw_below_drewN | apply below_drew1) | exact HB.out)) hb); clear HB; have HB := n0_; clear n0_; (try clear hb); (try clear hb2); (try clear hk); (try clear hi)))
    go_ret2
    exact ⟨_, by first | rfl | (simp [errW_none, errW_some] <;> rfl) | (simp [*, errW_none, errW_some] <;> rfl), by first | exact Kd.R_nil _ _ _ _ _ | exact Kd.N_nil _ _ _ _ _ | exact Kd.V_nil _ _ _ _ _ | exact Kd.Q_nil _ _ _ _ _ | exact Kd.S_nil _ _ _ _ _, by repeat (first | (with_reducible first | exact HB.out | apply below_alloc | apply pw_below_drewN | apply below_drew1) | exact HB.out)⟩

end Go.Proofs.Ytbbioadebhnfiaa.PFnExactRefusingWeights
