/- laws.whole9: a wave of small whole numbers is drawn. -/
import Derived.Test.YtdpdjcehobjohaaGreatDoorDc
namespace Go.Proofs.YtdpdjcehobjohaaGreatDoor
open Go Go.RowKit Go.BigFrame Fl

theorem Src.grown {w w' : World} {sv : Value} {len D : Nat} (h : Src w sv len) (hd : Dice w D sv len) (hg : w.grownBy w' (some D)) : Src w' sv len := by
  obtain ⟨a, cap, rfl, hc⟩ := h
  obtain ⟨i, h, hi, hD⟩ := hd
  refine ⟨a, cap, rfl, fun hl => ?_⟩
  obtain ⟨b, o, e, hq⟩ := hc hl
  refine ⟨b, o, e, fun k hk => ?_⟩
  obtain ⟨c, h1, h2⟩ := hq k hk
  subst e
  have hne : b ≠ D := by
    rintro rfl
    rw [cell_of_row w b (o + k) _ _ _ hD] at h2
    have : (#[Value.slice (some ⟨b, o, none⟩) len cap, Value.int .i64 i, Value.int .u64 h] : Array Value)[o + k]? = some (.int .u8 c) := h2
    rcases h3 : o + k with _ | _ | _ | q <;> rw [h3] at this <;> simp at this
  exact ⟨c, h1, hg.cell h2 (by simpa using hne)⟩
theorem Dice.lt {w : World} {D len : Nat} {sv : Value} (h : Dice w D sv len) : D < w.heap.size := by
  obtain ⟨i, h, hi, hD⟩ := h; exact lt_of_block hD
theorem cvI (a : Int) (ha : -4 ≤ a ∧ a ≤ 4) : ∀ W : World, (convert 2 40 (.int .i64 a)).run Tryz.prog W = .ok (.float .f32 (fbB a)) W := by
  obtain rfl | rfl | rfl | rfl | rfl | rfl | rfl | rfl | rfl : a = 0 ∨ a = 1 ∨ a = 2 ∨ a = 3 ∨ a = 4 ∨ a = -1 ∨ a = -2 ∨ a = -3 ∨ a = -4 := by omega
  all_goals (intro W; kernel_rfl)
def updI (f : Nat → Int) (i : Nat) (v : Int) : Nat → Int := fun j => if j = i then v else f j
theorem part_upd (A B : Nat → Int) (j : Nat) (a b : Int) : upd (part (zfC A B) j) j (fbC a b) = part (zfC (updI A j a) (updI B j b)) (j + 1) := by
  funext i; unfold upd part zfC updI
  by_cases e : i = j
  · subst e; simp
  · by_cases h : i < j
    · simp [e, h, show i < j + 1 by omega]
    · simp [e, h, show ¬ i < j + 1 by omega]
theorem small_upd {m : Nat} {A B : Nat → Int} (h : Small m A B) {a b : Int} (ha : -4 ≤ a ∧ a ≤ 4) (hb : -4 ≤ b ∧ b ≤ 4) : Small (m + 1) (updI A m a) (updI B m b) := by
  intro i hi
  unfold updI
  by_cases e : i = m
  · rw [if_pos e, if_pos e]; exact ⟨ha, hb⟩
  · rw [if_neg e, if_neg e]; exact h i (by omega)
theorem grown_trans {w w1 w2 : World} {row : Option Nat} (h : w.grownBy w1 row) (k : w1.grownBy w2 row) : w.grownBy w2 row :=
  ⟨k.os.trans h.os, k.tape.trans h.tape, k.output.trans h.output, Nat.le_trans h.size k.size, fun i hi hne => (k.block i (Nat.lt_of_lt_of_le hi h.size) hne).trans (h.block i hi hne)⟩
theorem grown_new {w w' : World} {row : Option Nat} (h : w.grownBy w' row) {g : Nat} (hg : w.heap.size ≤ g) (i : Nat) (v : Value) : w.grownBy (w'.setCell ⟨g, i, none⟩ v) row :=
  ⟨h.os, h.tape, h.output, by simpa [World.setCell] using h.size, fun k hk hne => by
    rw [heap_setCell_other _ _ _ _ (by simp; omega)]; exact h.block k hk hne⟩
theorem grown_row {w w' : World} {row : Option Nat} (h : w.grownBy w' row) {g : Nat} (hg : w.heap.size ≤ g) (cs : Array Value) : w.grownBy (w'.setRow g cs) row :=
  ⟨h.os, h.tape, h.output, by simpa using h.size, fun k hk hne => by rw [setRow_other _ _ _ _ (by omega)]; exact h.block k hk hne⟩
theorem Dice.set {w : World} {D len g i : Nat} {sv v : Value} (h : Dice w D sv len) (hne : D ≠ g) : Dice (w.setCell ⟨g, i, none⟩ v) D sv len := by
  obtain ⟨i', h', hi, hD⟩ := h; exact ⟨i', h', hi, by rw [heap_setCell_other _ _ _ _ (by simpa using hne)]; exact hD⟩
theorem Dice.row {w : World} {D len g : Nat} {sv : Value} (h : Dice w D sv len) (hne : D ≠ g) (cs : Array Value) : Dice (w.setRow g cs) D sv len := by
  obtain ⟨i', h', hi, hD⟩ := h; exact ⟨i', h', hi, by rw [setRow_other _ _ _ _ hne]; exact hD⟩
theorem Dice.below {w w' : World} {D len : Nat} {sv : Value} (h : Dice w D sv len) (hb : Below w.heap.size w w') : Dice w' D sv len := by
  obtain ⟨i', h', hi, hD⟩ := h; exact ⟨i', h', hi, below_heap' hb hD⟩


set_option maxRecDepth 100000 in
set_option maxHeartbeats 4000000 in
theorem whole1_c (D : Nat) (sv : Value) (len : Nat) (hl : len ≤ 1000000) (w : World) (hs : Src w sv len) (hd : Dice w D sv len) :
    Calls Tryz.prog 7 #[.pointer (some ⟨D, 0, none⟩), .int .i64 1] w fun e w' =>
      (∃ A B : Nat → Int, e = .returned (.agg (cellsV 1 (part (zfC A B) 1))) ∧ Small 1 A B) ∧ Dice w' D sv len ∧ w.grownBy w' (some D) := by
  have sn := run_storeCells_new (P := Tryz.prog) (w.alloc (Obj.cells (cellsV 0 zW) 31 (0, 0))) 31 (cellsV 0 zW) (cellsV 1 zW) (size31c _ _) (cellsV_sizes _ _ _ _) (cellsV_one _ _)
  simp only [World.size_alloc] at sn
  have hDlt := hd.lt
  have LT := Lib.hid hDlt
  have S0 := Lib.hid hs
  have D0 := Lib.hid hd
  have I0 : Hid (Wv ((w.alloc (Obj.cells (cellsV 0 zW) 31 (0, 0))).alloc (Obj.cells (cellsV 1 zW) 31 (0, 0))) w.heap.size 0 zW) := Lib.hid (al_old _ (al_new _ rfl))
  have I1 : Hid (Wv ((w.alloc (Obj.cells (cellsV 0 zW) 31 (0, 0))).alloc (Obj.cells (cellsV 1 zW) 31 (0, 0))) (w.heap.size + 1) 1 zW) := Lib.hid (al_new _ (by simp))
  have I2 : Hid (Dice ((w.alloc (Obj.cells (cellsV 0 zW) 31 (0, 0))).alloc (Obj.cells (cellsV 1 zW) 31 (0, 0))) D sv len) := Lib.hid (hd.below (bal2 w _ _))
  have I3 : Hid (w.grownBy ((w.alloc (Obj.cells (cellsV 0 zW) 31 (0, 0))).alloc (Obj.cells (cellsV 1 zW) 31 (0, 0))) (some D)) := Lib.hid (grown_next (grown_next (grown_refl w _) (bal1 _ _)) (bal1 _ _))
  have I4 : Hid (Src ((w.alloc (Obj.cells (cellsV 0 zW) 31 (0, 0))).alloc (Obj.cells (cellsV 1 zW) 31 (0, 0))) sv len) := Lib.hid (hs.below (bal2 w _ _))
  clear hs hd hDlt
  go_enter Tryz.func7, Tryz.ntmps7
  go_wp2_with fail
  clear sn
  go_loopw [6] (fun c wr => ∃ (j : Nat) (A B : Nat → Int), j ≤ 1 ∧ c = .int .i64 j ∧ Small j A B ∧ Wv wr w.heap.size 0 zW ∧ Wv wr (w.heap.size + 1) 1 (part (zfC A B) j) ∧ Dice wr D sv len ∧ w.grownBy wr (some D) ∧ Src wr sv len) (fun c _ => (1 - intOf c).toNat)
  case atStart => exact ⟨0, fun _ => 0, fun _ => 0, by omega, rfl, fun i hi => by omega, I0.out, by rw [part_zero]; exact I1.out, I2.out, I3.out, I4.out⟩
  case round =>
    obtain ⟨j, A, B, hj, rfl, hsm, h0, h1, h2, h3, h4⟩ := hrel
    clear I0 I1 I2 I3 I4
    by_cases hlt : j < 1
    · have HSM := Lib.hid hsm
      have J0 := Lib.hid h0
      have J1 := Lib.hid h1
      have J2 := Lib.hid h2
      have J3 := Lib.hid h3
      have J4 := Lib.hid h4
      clear hsm h0 h1 h2 h3 h4
      go_wp2_with (first
        | (go_at_call 14
           ((with_reducible refine (below_c 9 (by omega) D sv len hl _ J4.out J2.out).mono ?_))
           rintro e w1 ⟨⟨r1, rfl, hr1, hr2⟩, hd1, hg1⟩
           have M0 := Lib.hid ((hg1.block _ (lt_of_block J0.out) (by have := LT.out; intro e; injection e; omega)).trans J0.out)
           have M1 := Lib.hid ((hg1.block _ (lt_of_block J1.out) (by have := LT.out; intro e; injection e; omega)).trans J1.out)
           have M2 := Lib.hid hd1
           have M4 := Lib.hid (Src.grown J4.out J2.out hg1)
           have M3 := Lib.hid (grown_trans J3.out hg1)
           have ci := cvI (r1 - 4) (by omega)
           clear hd1 hg1)
        | (go_at_call 14
           ((with_reducible refine (below_c 9 (by omega) D sv len hl _ M4.out M2.out).mono ?_))
           rintro e w2 ⟨⟨r2, rfl, hs1, hs2⟩, hd2, hg2⟩
           have N0 := Lib.hid ((hg2.block _ (lt_of_block M0.out) (by have := LT.out; intro e; injection e; omega)).trans M0.out)
           have N1 := Lib.hid ((hg2.block _ (lt_of_block M1.out) (by have := LT.out; intro e; injection e; omega)).trans M1.out)
           have N2 := Lib.hid hd2
           have N4 := Lib.hid (Src.grown M4.out M2.out hg2)
           have N3 := Lib.hid (grown_trans M3.out hg2)
           have cj := cvI (r2 - 4) (by omega)
           have c1 := cell_of_heap N1.out (cellsV_at 1 (part (zfC A B) j) j (by omega))
           have f1 := frozen_of_row w2 (w.heap.size + 1) (1 + j) _ _ N1.out
           clear hd2 hg2))
      have hne : D ≠ w.heap.size + 1 := by have := LT.out; omega
      refine ⟨⟨j + 1, updI A j (r1 - 4), updI B j (r2 - 4), by omega, by go_num, small_upd HSM.out (by omega) (by omega), ?_, ?_, N2.out.set hne, grown_new N3.out (by omega) _ _, ?_⟩, by simp [intOf]; omega⟩
      · exact (heap_setCell_other _ _ _ _ (by simp)).trans N0.out
      · rw [← part_upd]; exact Wv.set N1.out j (by omega) (fbC (r1 - 4) (r2 - 4))
      · exact Src.grown S0.out D0.out (grown_new N3.out (by omega) _ _)
    · obtain rfl : j = 1 := by omega
      go_wp2_with (first
        | (refine ld31 rfl _ rfl (w.heap.size + 1) rfl h1 ?_)
        | (refine st31 rfl _ _ rfl w.heap.size rfl rfl h0 ?_))
      exact bodyPost_ret (v := .agg (cellsV 1 _)) (results_cell_row rfl _ _ w.heap.size 31 _ (0, 0) _ rfl (heap_setRow_same h0) Tryz.underlying31 rfl (size31c _ _)) rfl ⟨⟨A, B, rfl, hsm⟩, h2.row (by have := LT.out; omega) _, grown_row h3 (Nat.le_refl _) _⟩


set_option maxRecDepth 100000 in
set_option maxHeartbeats 4000000 in
theorem whole2_c (D : Nat) (sv : Value) (len : Nat) (hl : len ≤ 1000000) (w : World) (hs : Src w sv len) (hd : Dice w D sv len) :
    Calls Tryz.prog 7 #[.pointer (some ⟨D, 0, none⟩), .int .i64 2] w fun e w' =>
      (∃ A B : Nat → Int, e = .returned (.agg (cellsV 2 (part (zfC A B) 4))) ∧ Small 4 A B) ∧ Dice w' D sv len ∧ w.grownBy w' (some D) := by
  have sn := run_storeCells_new (P := Tryz.prog) (w.alloc (Obj.cells (cellsV 0 zW) 31 (0, 0))) 31 (cellsV 0 zW) (cellsV 2 zW) (size31c _ _) (cellsV_sizes _ _ _ _) (cellsV_one _ _)
  simp only [World.size_alloc] at sn
  have hDlt := hd.lt
  have LT := Lib.hid hDlt
  have S0 := Lib.hid hs
  have D0 := Lib.hid hd
  have I0 : Hid (Wv ((w.alloc (Obj.cells (cellsV 0 zW) 31 (0, 0))).alloc (Obj.cells (cellsV 2 zW) 31 (0, 0))) w.heap.size 0 zW) := Lib.hid (al_old _ (al_new _ rfl))
  have I1 : Hid (Wv ((w.alloc (Obj.cells (cellsV 0 zW) 31 (0, 0))).alloc (Obj.cells (cellsV 2 zW) 31 (0, 0))) (w.heap.size + 1) 2 zW) := Lib.hid (al_new _ (by simp))
  have I2 : Hid (Dice ((w.alloc (Obj.cells (cellsV 0 zW) 31 (0, 0))).alloc (Obj.cells (cellsV 2 zW) 31 (0, 0))) D sv len) := Lib.hid (hd.below (bal2 w _ _))
  have I3 : Hid (w.grownBy ((w.alloc (Obj.cells (cellsV 0 zW) 31 (0, 0))).alloc (Obj.cells (cellsV 2 zW) 31 (0, 0))) (some D)) := Lib.hid (grown_next (grown_next (grown_refl w _) (bal1 _ _)) (bal1 _ _))
  have I4 : Hid (Src ((w.alloc (Obj.cells (cellsV 0 zW) 31 (0, 0))).alloc (Obj.cells (cellsV 2 zW) 31 (0, 0))) sv len) := Lib.hid (hs.below (bal2 w _ _))
  clear hs hd hDlt
  go_enter Tryz.func7, Tryz.ntmps7
  go_wp2_with fail
  clear sn
  go_loopw [6] (fun c wr => ∃ (j : Nat) (A B : Nat → Int), j ≤ 4 ∧ c = .int .i64 j ∧ Small j A B ∧ Wv wr w.heap.size 0 zW ∧ Wv wr (w.heap.size + 1) 2 (part (zfC A B) j) ∧ Dice wr D sv len ∧ w.grownBy wr (some D) ∧ Src wr sv len) (fun c _ => (4 - intOf c).toNat)
  case atStart => exact ⟨0, fun _ => 0, fun _ => 0, by omega, rfl, fun i hi => by omega, I0.out, by rw [part_zero]; exact I1.out, I2.out, I3.out, I4.out⟩
  case round =>
    obtain ⟨j, A, B, hj, rfl, hsm, h0, h1, h2, h3, h4⟩ := hrel
    clear I0 I1 I2 I3 I4
    by_cases hlt : j < 4
    · have HSM := Lib.hid hsm
      have J0 := Lib.hid h0
      have J1 := Lib.hid h1
      have J2 := Lib.hid h2
      have J3 := Lib.hid h3
      have J4 := Lib.hid h4
      clear hsm h0 h1 h2 h3 h4
      go_wp2_with (first
        | (go_at_call 14
           ((with_reducible refine (below_c 9 (by omega) D sv len hl _ J4.out J2.out).mono ?_))
           rintro e w1 ⟨⟨r1, rfl, hr1, hr2⟩, hd1, hg1⟩
           have M0 := Lib.hid ((hg1.block _ (lt_of_block J0.out) (by have := LT.out; intro e; injection e; omega)).trans J0.out)
           have M1 := Lib.hid ((hg1.block _ (lt_of_block J1.out) (by have := LT.out; intro e; injection e; omega)).trans J1.out)
           have M2 := Lib.hid hd1
           have M4 := Lib.hid (Src.grown J4.out J2.out hg1)
           have M3 := Lib.hid (grown_trans J3.out hg1)
           have ci := cvI (r1 - 4) (by omega)
           clear hd1 hg1)
        | (go_at_call 14
           ((with_reducible refine (below_c 9 (by omega) D sv len hl _ M4.out M2.out).mono ?_))
           rintro e w2 ⟨⟨r2, rfl, hs1, hs2⟩, hd2, hg2⟩
           have N0 := Lib.hid ((hg2.block _ (lt_of_block M0.out) (by have := LT.out; intro e; injection e; omega)).trans M0.out)
           have N1 := Lib.hid ((hg2.block _ (lt_of_block M1.out) (by have := LT.out; intro e; injection e; omega)).trans M1.out)
           have N2 := Lib.hid hd2
           have N4 := Lib.hid (Src.grown M4.out M2.out hg2)
           have N3 := Lib.hid (grown_trans M3.out hg2)
           have cj := cvI (r2 - 4) (by omega)
           have c1 := cell_of_heap N1.out (cellsV_at 2 (part (zfC A B) j) j (by omega))
           have f1 := frozen_of_row w2 (w.heap.size + 1) (1 + j) _ _ N1.out
           clear hd2 hg2))
      have hne : D ≠ w.heap.size + 1 := by have := LT.out; omega
      refine ⟨⟨j + 1, updI A j (r1 - 4), updI B j (r2 - 4), by omega, by go_num, small_upd HSM.out (by omega) (by omega), ?_, ?_, N2.out.set hne, grown_new N3.out (by omega) _ _, ?_⟩, by simp [intOf]; omega⟩
      · exact (heap_setCell_other _ _ _ _ (by simp)).trans N0.out
      · rw [← part_upd]; exact Wv.set N1.out j (by omega) (fbC (r1 - 4) (r2 - 4))
      · exact Src.grown S0.out D0.out (grown_new N3.out (by omega) _ _)
    · obtain rfl : j = 4 := by omega
      go_wp2_with (first
        | (refine ld31 rfl _ rfl (w.heap.size + 1) rfl h1 ?_)
        | (refine st31 rfl _ _ rfl w.heap.size rfl rfl h0 ?_))
      exact bodyPost_ret (v := .agg (cellsV 2 _)) (results_cell_row rfl _ _ w.heap.size 31 _ (0, 0) _ rfl (heap_setRow_same h0) Tryz.underlying31 rfl (size31c _ _)) rfl ⟨⟨A, B, rfl, hsm⟩, h2.row (by have := LT.out; omega) _, grown_row h3 (Nat.le_refl _) _⟩


set_option maxRecDepth 100000 in
set_option maxHeartbeats 4000000 in
theorem whole4_c (D : Nat) (sv : Value) (len : Nat) (hl : len ≤ 1000000) (w : World) (hs : Src w sv len) (hd : Dice w D sv len) :
    Calls Tryz.prog 7 #[.pointer (some ⟨D, 0, none⟩), .int .i64 4] w fun e w' =>
      (∃ A B : Nat → Int, e = .returned (.agg (cellsV 4 (part (zfC A B) 16))) ∧ Small 16 A B) ∧ Dice w' D sv len ∧ w.grownBy w' (some D) := by
  have sn := run_storeCells_new (P := Tryz.prog) (w.alloc (Obj.cells (cellsV 0 zW) 31 (0, 0))) 31 (cellsV 0 zW) (cellsV 4 zW) (size31c _ _) (cellsV_sizes _ _ _ _) (cellsV_one _ _)
  simp only [World.size_alloc] at sn
  have hDlt := hd.lt
  have LT := Lib.hid hDlt
  have S0 := Lib.hid hs
  have D0 := Lib.hid hd
  have I0 : Hid (Wv ((w.alloc (Obj.cells (cellsV 0 zW) 31 (0, 0))).alloc (Obj.cells (cellsV 4 zW) 31 (0, 0))) w.heap.size 0 zW) := Lib.hid (al_old _ (al_new _ rfl))
  have I1 : Hid (Wv ((w.alloc (Obj.cells (cellsV 0 zW) 31 (0, 0))).alloc (Obj.cells (cellsV 4 zW) 31 (0, 0))) (w.heap.size + 1) 4 zW) := Lib.hid (al_new _ (by simp))
  have I2 : Hid (Dice ((w.alloc (Obj.cells (cellsV 0 zW) 31 (0, 0))).alloc (Obj.cells (cellsV 4 zW) 31 (0, 0))) D sv len) := Lib.hid (hd.below (bal2 w _ _))
  have I3 : Hid (w.grownBy ((w.alloc (Obj.cells (cellsV 0 zW) 31 (0, 0))).alloc (Obj.cells (cellsV 4 zW) 31 (0, 0))) (some D)) := Lib.hid (grown_next (grown_next (grown_refl w _) (bal1 _ _)) (bal1 _ _))
  have I4 : Hid (Src ((w.alloc (Obj.cells (cellsV 0 zW) 31 (0, 0))).alloc (Obj.cells (cellsV 4 zW) 31 (0, 0))) sv len) := Lib.hid (hs.below (bal2 w _ _))
  clear hs hd hDlt
  go_enter Tryz.func7, Tryz.ntmps7
  go_wp2_with fail
  clear sn
  go_loopw [6] (fun c wr => ∃ (j : Nat) (A B : Nat → Int), j ≤ 16 ∧ c = .int .i64 j ∧ Small j A B ∧ Wv wr w.heap.size 0 zW ∧ Wv wr (w.heap.size + 1) 4 (part (zfC A B) j) ∧ Dice wr D sv len ∧ w.grownBy wr (some D) ∧ Src wr sv len) (fun c _ => (16 - intOf c).toNat)
  case atStart => exact ⟨0, fun _ => 0, fun _ => 0, by omega, rfl, fun i hi => by omega, I0.out, by rw [part_zero]; exact I1.out, I2.out, I3.out, I4.out⟩
  case round =>
    obtain ⟨j, A, B, hj, rfl, hsm, h0, h1, h2, h3, h4⟩ := hrel
    clear I0 I1 I2 I3 I4
    by_cases hlt : j < 16
    · have HSM := Lib.hid hsm
      have J0 := Lib.hid h0
      have J1 := Lib.hid h1
      have J2 := Lib.hid h2
      have J3 := Lib.hid h3
      have J4 := Lib.hid h4
      clear hsm h0 h1 h2 h3 h4
      go_wp2_with (first
        | (go_at_call 14
           ((with_reducible refine (below_c 9 (by omega) D sv len hl _ J4.out J2.out).mono ?_))
           rintro e w1 ⟨⟨r1, rfl, hr1, hr2⟩, hd1, hg1⟩
           have M0 := Lib.hid ((hg1.block _ (lt_of_block J0.out) (by have := LT.out; intro e; injection e; omega)).trans J0.out)
           have M1 := Lib.hid ((hg1.block _ (lt_of_block J1.out) (by have := LT.out; intro e; injection e; omega)).trans J1.out)
           have M2 := Lib.hid hd1
           have M4 := Lib.hid (Src.grown J4.out J2.out hg1)
           have M3 := Lib.hid (grown_trans J3.out hg1)
           have ci := cvI (r1 - 4) (by omega)
           clear hd1 hg1)
        | (go_at_call 14
           ((with_reducible refine (below_c 9 (by omega) D sv len hl _ M4.out M2.out).mono ?_))
           rintro e w2 ⟨⟨r2, rfl, hs1, hs2⟩, hd2, hg2⟩
           have N0 := Lib.hid ((hg2.block _ (lt_of_block M0.out) (by have := LT.out; intro e; injection e; omega)).trans M0.out)
           have N1 := Lib.hid ((hg2.block _ (lt_of_block M1.out) (by have := LT.out; intro e; injection e; omega)).trans M1.out)
           have N2 := Lib.hid hd2
           have N4 := Lib.hid (Src.grown M4.out M2.out hg2)
           have N3 := Lib.hid (grown_trans M3.out hg2)
           have cj := cvI (r2 - 4) (by omega)
           have c1 := cell_of_heap N1.out (cellsV_at 4 (part (zfC A B) j) j (by omega))
           have f1 := frozen_of_row w2 (w.heap.size + 1) (1 + j) _ _ N1.out
           clear hd2 hg2))
      have hne : D ≠ w.heap.size + 1 := by have := LT.out; omega
      refine ⟨⟨j + 1, updI A j (r1 - 4), updI B j (r2 - 4), by omega, by go_num, small_upd HSM.out (by omega) (by omega), ?_, ?_, N2.out.set hne, grown_new N3.out (by omega) _ _, ?_⟩, by simp [intOf]; omega⟩
      · exact (heap_setCell_other _ _ _ _ (by simp)).trans N0.out
      · rw [← part_upd]; exact Wv.set N1.out j (by omega) (fbC (r1 - 4) (r2 - 4))
      · exact Src.grown S0.out D0.out (grown_new N3.out (by omega) _ _)
    · obtain rfl : j = 16 := by omega
      go_wp2_with (first
        | (refine ld31 rfl _ rfl (w.heap.size + 1) rfl h1 ?_)
        | (refine st31 rfl _ _ rfl w.heap.size rfl rfl h0 ?_))
      exact bodyPost_ret (v := .agg (cellsV 4 _)) (results_cell_row rfl _ _ w.heap.size 31 _ (0, 0) _ rfl (heap_setRow_same h0) Tryz.underlying31 rfl (size31c _ _)) rfl ⟨⟨A, B, rfl, hsm⟩, h2.row (by have := LT.out; omega) _, grown_row h3 (Nat.le_refl _) _⟩

end Go.Proofs.YtdpdjcehobjohaaGreatDoor
