/- spec.l02Turned, spec.l02Rows on sides of 4. -/
import Derived.Test.YtdpdjcehobjohaaGreatDoorRa
namespace Go.Proofs.YtdpdjcehobjohaaGreatDoor
open Go Go.RowKit Go.BigFrame Fl

set_option maxRecDepth 100000 in
set_option maxHeartbeats 4000000 in
theorem turned4_c (z : Nat → CB) (w : World) :
    Calls Tryz.prog 91 #[.agg (cellsV 4 z)] w fun e w' => e = .returned (.agg (cellsV 4 (part (turn (2 ^ 2) z) 16))) ∧ Below w.heap.size w w' := by
  go_enter Tryz.func91, Tryz.ntmps91
  go_wp2_with (first
    | (go_at_call 118
       ((with_reducible refine (l01Empty_c 4 _).mono ?_))
       rintro e w1 ⟨rfl, hb1⟩
       have HE := Lib.hid (bnext (bal2 w _ _) hb1)
       have HE0 := Lib.hid (below_heap' hb1 (al_old _ (al_new (Obj.cells (cellsV 4 z) 31 (0, 0)) rfl)))
       have HE1 := Lib.hid (below_heap' hb1 (al_new (Obj.cells (cellsV 0 zW) 31 (0, 0)) (by simp : w.heap.size + 1 = _)))
       have HES : Hid (w.heap.size + 1 < w1.heap.size) := Lib.hid (lt_of_block HE1.out)
       clear hb1)
    | (refine st31 rfl _ _ rfl w1.heap.size rfl rfl (al_new (Obj.cells (cellsV 0 zW) 31 (0, 0)) rfl) ?_))
  have HB0 : Hid (Below w.heap.size w ((w1.alloc (Obj.cells (cellsV 0 zW) 31 (0, 0))).setRow w1.heap.size (cellsV 4 zW))) := Lib.hid (below_setRow (bnext HE.out (bal1 _ _)) (by have := HES.out; omega) _)
  have HA0 : Hid (Wv ((w1.alloc (Obj.cells (cellsV 0 zW) 31 (0, 0))).setRow w1.heap.size (cellsV 4 zW)) w.heap.size 4 z) := Lib.hid ((setRow_other _ _ _ _ (by have := HES.out; omega)).trans (al_old _ HE0.out))
  have HA1 : Hid (Wv ((w1.alloc (Obj.cells (cellsV 0 zW) 31 (0, 0))).setRow w1.heap.size (cellsV 4 zW)) (w.heap.size + 1) 0 zW) := Lib.hid ((setRow_other _ _ _ _ (by have := HES.out; omega)).trans (al_old _ HE1.out))
  have HA2 : Hid (Wv ((w1.alloc (Obj.cells (cellsV 0 zW) 31 (0, 0))).setRow w1.heap.size (cellsV 4 zW)) w1.heap.size 4 zW) := Lib.hid (heap_setRow_same (al_new (Obj.cells (cellsV 0 zW) 31 (0, 0)) rfl))
  clear HE HE0 HE1
  generalize ((w1.alloc (Obj.cells (cellsV 0 zW) 31 (0, 0))).setRow w1.heap.size (cellsV 4 zW)) = W0 at HB0 HA0 HA1 HA2 ⊢
  generalize w1.heap.size = S at HES HA2 ⊢
  clear w1
  go_loopw [4] (fun c wr => ∃ a : Nat, a ≤ 4 ∧ c = .int .i64 a ∧ Below w.heap.size w wr ∧ Wv wr w.heap.size 4 z ∧ Wv wr (w.heap.size + 1) 0 zW ∧ Wv wr S 4 (lMix (turn (2 ^ 2) z) false (2 ^ 2) a 0)) (fun c _ => (4 - intOf c).toNat)
  case atStart => exact ⟨0, by omega, rfl, HB0.out, HA0.out, HA1.out, by rw [lMix_zero]; exact HA2.out⟩
  case round =>
    obtain ⟨a, ha, hca, hb, h0, h1, h2⟩ := hrel
    clear HB0 HA0 HA1 HA2
    obtain rfl | rfl | rfl | rfl | rfl : a = 0 ∨ a = 1 ∨ a = 2 ∨ a = 3 ∨ a = 4 := by omega
    · replace hca : _ = Value.int .i64 0 := hca
      subst hca
      have hc0 := cell_of_heap h0 (cellsV_zero 4 z)
      have HB := Lib.hid hb
      have H0 := Lib.hid h0
      have H1 := Lib.hid h1
      have H2 := Lib.hid h2
      clear hb h0 h1 h2
      go_wp2_with fail
      clear hc0
      go_loopw [5] (fun c wr => ∃ j : Nat, j ≤ 4 ∧ c = .int .i64 j ∧ Below w.heap.size w wr ∧ Wv wr w.heap.size 4 z ∧ Wv wr (w.heap.size + 1) 0 zW ∧ Wv wr S 4 (lMix (turn (2 ^ 2) z) false (2 ^ 2) 0 j)) (fun c _ => (4 - intOf c).toNat)
      case atStart => exact ⟨0, by omega, rfl, HB.out, H0.out, H1.out, H2.out⟩
      case round =>
        obtain ⟨j, hj, hcj, hb, h0, h1, h2⟩ := hrel
        clear HB H0 H1 H2
        obtain rfl | rfl | rfl | rfl | rfl : j = 0 ∨ j = 1 ∨ j = 2 ∨ j = 3 ∨ j = 4 := by omega
        · replace hcj : _ = Value.int .i64 0 := hcj
          subst hcj
          have HB := Lib.hid hb
          have H0 := Lib.hid h0
          have H1 := Lib.hid h1
          have H2 := Lib.hid h2
          have hc0 := cell_of_heap h0 (cellsV_zero 4 z)
          have f0 : ∀ x : Under wr, x.1.cell? ⟨w.heap.size, 0, none⟩ = some (.int .i64 4) := fun x => x.cell (cell_of_heap h0 (cellsV_zero 4 z))
          have f1 : ∀ x : Under wr, x.1.cell? ⟨w.heap.size, 1, none⟩ = some (cv (z 0)) := fun x => x.cell (cell_of_heap h0 (cellsV_at 4 z 0 (by omega)))
          clear hb h0 h1 h2
          go_wp2_with fail
          refine wp_region_quiet_tail (UC wr) 17 (by kernel_rfl) (by kernel_rfl) (UC.drew wr) ?_
          simp only [List.take_succ_cons, List.take_zero, List.drop_succ_cons, List.drop_zero]
          repeat (go_big_quiet_step (fail))
          refine wpQuiet_nil ?_
          rintro _ ⟨x, rfl⟩
          have hc2 := cell_of_heap (x.heap H2.out) (cellsV_at 4 _ 0 (by omega))
          have hf2 := frozen_of_row x.1 S 1 _ _ (x.heap H2.out)
          clear f0 f1 hc0
          go_wp2_with fail
          refine ⟨⟨1, by omega, rfl, (under_below HB.out x).setCell (by have := HES.out; simp; omega) _, ?_, ?_, ?_⟩, by simp [intOf]⟩
          · exact (heap_setCell_other _ _ _ _ (by have := HES.out; simp; omega)).trans (x.heap H0.out)
          · exact (heap_setCell_other _ _ _ _ (by have := HES.out; simp; omega)).trans (x.heap H1.out)
          · have q := Wv.set (x.heap H2.out) 0 (by omega) (z 0)
            have q2 := lMix_step (turn (2 ^ 2) z) false 2 0 0 (by omega) (by omega) (by omega)
            rw [turn_pos _ _ _ _ (by omega) (by omega) (by omega)] at q2
            rw [← q2]; exact q
        · replace hcj : _ = Value.int .i64 1 := hcj
          subst hcj
          have HB := Lib.hid hb
          have H0 := Lib.hid h0
          have H1 := Lib.hid h1
          have H2 := Lib.hid h2
          have hc0 := cell_of_heap h0 (cellsV_zero 4 z)
          have f0 : ∀ x : Under wr, x.1.cell? ⟨w.heap.size, 0, none⟩ = some (.int .i64 4) := fun x => x.cell (cell_of_heap h0 (cellsV_zero 4 z))
          have f1 : ∀ x : Under wr, x.1.cell? ⟨w.heap.size, 5, none⟩ = some (cv (z 4)) := fun x => x.cell (cell_of_heap h0 (cellsV_at 4 z 4 (by omega)))
          clear hb h0 h1 h2
          go_wp2_with fail
          refine wp_region_quiet_tail (UC wr) 17 (by kernel_rfl) (by kernel_rfl) (UC.drew wr) ?_
          simp only [List.take_succ_cons, List.take_zero, List.drop_succ_cons, List.drop_zero]
          repeat (go_big_quiet_step (fail))
          refine wpQuiet_nil ?_
          rintro _ ⟨x, rfl⟩
          have hc2 := cell_of_heap (x.heap H2.out) (cellsV_at 4 _ 1 (by omega))
          have hf2 := frozen_of_row x.1 S 2 _ _ (x.heap H2.out)
          clear f0 f1 hc0
          go_wp2_with fail
          refine ⟨⟨2, by omega, rfl, (under_below HB.out x).setCell (by have := HES.out; simp; omega) _, ?_, ?_, ?_⟩, by simp [intOf]⟩
          · exact (heap_setCell_other _ _ _ _ (by have := HES.out; simp; omega)).trans (x.heap H0.out)
          · exact (heap_setCell_other _ _ _ _ (by have := HES.out; simp; omega)).trans (x.heap H1.out)
          · have q := Wv.set (x.heap H2.out) 1 (by omega) (z 4)
            have q2 := lMix_step (turn (2 ^ 2) z) false 2 0 1 (by omega) (by omega) (by omega)
            rw [turn_pos _ _ _ _ (by omega) (by omega) (by omega)] at q2
            rw [← q2]; exact q
        · replace hcj : _ = Value.int .i64 2 := hcj
          subst hcj
          have HB := Lib.hid hb
          have H0 := Lib.hid h0
          have H1 := Lib.hid h1
          have H2 := Lib.hid h2
          have hc0 := cell_of_heap h0 (cellsV_zero 4 z)
          have f0 : ∀ x : Under wr, x.1.cell? ⟨w.heap.size, 0, none⟩ = some (.int .i64 4) := fun x => x.cell (cell_of_heap h0 (cellsV_zero 4 z))
          have f1 : ∀ x : Under wr, x.1.cell? ⟨w.heap.size, 9, none⟩ = some (cv (z 8)) := fun x => x.cell (cell_of_heap h0 (cellsV_at 4 z 8 (by omega)))
          clear hb h0 h1 h2
          go_wp2_with fail
          refine wp_region_quiet_tail (UC wr) 17 (by kernel_rfl) (by kernel_rfl) (UC.drew wr) ?_
          simp only [List.take_succ_cons, List.take_zero, List.drop_succ_cons, List.drop_zero]
          repeat (go_big_quiet_step (fail))
          refine wpQuiet_nil ?_
          rintro _ ⟨x, rfl⟩
          have hc2 := cell_of_heap (x.heap H2.out) (cellsV_at 4 _ 2 (by omega))
          have hf2 := frozen_of_row x.1 S 3 _ _ (x.heap H2.out)
          clear f0 f1 hc0
          go_wp2_with fail
          refine ⟨⟨3, by omega, rfl, (under_below HB.out x).setCell (by have := HES.out; simp; omega) _, ?_, ?_, ?_⟩, by simp [intOf]⟩
          · exact (heap_setCell_other _ _ _ _ (by have := HES.out; simp; omega)).trans (x.heap H0.out)
          · exact (heap_setCell_other _ _ _ _ (by have := HES.out; simp; omega)).trans (x.heap H1.out)
          · have q := Wv.set (x.heap H2.out) 2 (by omega) (z 8)
            have q2 := lMix_step (turn (2 ^ 2) z) false 2 0 2 (by omega) (by omega) (by omega)
            rw [turn_pos _ _ _ _ (by omega) (by omega) (by omega)] at q2
            rw [← q2]; exact q
        · replace hcj : _ = Value.int .i64 3 := hcj
          subst hcj
          have HB := Lib.hid hb
          have H0 := Lib.hid h0
          have H1 := Lib.hid h1
          have H2 := Lib.hid h2
          have hc0 := cell_of_heap h0 (cellsV_zero 4 z)
          have f0 : ∀ x : Under wr, x.1.cell? ⟨w.heap.size, 0, none⟩ = some (.int .i64 4) := fun x => x.cell (cell_of_heap h0 (cellsV_zero 4 z))
          have f1 : ∀ x : Under wr, x.1.cell? ⟨w.heap.size, 13, none⟩ = some (cv (z 12)) := fun x => x.cell (cell_of_heap h0 (cellsV_at 4 z 12 (by omega)))
          clear hb h0 h1 h2
          go_wp2_with fail
          refine wp_region_quiet_tail (UC wr) 17 (by kernel_rfl) (by kernel_rfl) (UC.drew wr) ?_
          simp only [List.take_succ_cons, List.take_zero, List.drop_succ_cons, List.drop_zero]
          repeat (go_big_quiet_step (fail))
          refine wpQuiet_nil ?_
          rintro _ ⟨x, rfl⟩
          have hc2 := cell_of_heap (x.heap H2.out) (cellsV_at 4 _ 3 (by omega))
          have hf2 := frozen_of_row x.1 S 4 _ _ (x.heap H2.out)
          clear f0 f1 hc0
          go_wp2_with fail
          refine ⟨⟨4, by omega, rfl, (under_below HB.out x).setCell (by have := HES.out; simp; omega) _, ?_, ?_, ?_⟩, by simp [intOf]⟩
          · exact (heap_setCell_other _ _ _ _ (by have := HES.out; simp; omega)).trans (x.heap H0.out)
          · exact (heap_setCell_other _ _ _ _ (by have := HES.out; simp; omega)).trans (x.heap H1.out)
          · have q := Wv.set (x.heap H2.out) 3 (by omega) (z 12)
            have q2 := lMix_step (turn (2 ^ 2) z) false 2 0 3 (by omega) (by omega) (by omega)
            rw [turn_pos _ _ _ _ (by omega) (by omega) (by omega)] at q2
            rw [← q2]; exact q
        · replace hcj : _ = Value.int .i64 4 := hcj
          subst hcj
          have hc0 := cell_of_heap h0 (cellsV_zero 4 z)
          have HB := Lib.hid hb
          have H0 := Lib.hid h0
          have H1 := Lib.hid h1
          have H2 := Lib.hid h2
          clear hb h0 h1 h2
          go_wp2_with fail
          exact ⟨⟨1, by omega, rfl, HB.out, H0.out, H1.out, by rw [← lMix_line _ _ _ _ (by omega)]; exact H2.out⟩, by simp [intOf]⟩
    · replace hca : _ = Value.int .i64 1 := hca
      subst hca
      have hc0 := cell_of_heap h0 (cellsV_zero 4 z)
      have HB := Lib.hid hb
      have H0 := Lib.hid h0
      have H1 := Lib.hid h1
      have H2 := Lib.hid h2
      clear hb h0 h1 h2
      go_wp2_with fail
      clear hc0
      go_loopw [5] (fun c wr => ∃ j : Nat, j ≤ 4 ∧ c = .int .i64 j ∧ Below w.heap.size w wr ∧ Wv wr w.heap.size 4 z ∧ Wv wr (w.heap.size + 1) 0 zW ∧ Wv wr S 4 (lMix (turn (2 ^ 2) z) false (2 ^ 2) 1 j)) (fun c _ => (4 - intOf c).toNat)
      case atStart => exact ⟨0, by omega, rfl, HB.out, H0.out, H1.out, H2.out⟩
      case round =>
        obtain ⟨j, hj, hcj, hb, h0, h1, h2⟩ := hrel
        clear HB H0 H1 H2
        obtain rfl | rfl | rfl | rfl | rfl : j = 0 ∨ j = 1 ∨ j = 2 ∨ j = 3 ∨ j = 4 := by omega
        · replace hcj : _ = Value.int .i64 0 := hcj
          subst hcj
          have HB := Lib.hid hb
          have H0 := Lib.hid h0
          have H1 := Lib.hid h1
          have H2 := Lib.hid h2
          have hc0 := cell_of_heap h0 (cellsV_zero 4 z)
          have f0 : ∀ x : Under wr, x.1.cell? ⟨w.heap.size, 0, none⟩ = some (.int .i64 4) := fun x => x.cell (cell_of_heap h0 (cellsV_zero 4 z))
          have f1 : ∀ x : Under wr, x.1.cell? ⟨w.heap.size, 2, none⟩ = some (cv (z 1)) := fun x => x.cell (cell_of_heap h0 (cellsV_at 4 z 1 (by omega)))
          clear hb h0 h1 h2
          go_wp2_with fail
          refine wp_region_quiet_tail (UC wr) 17 (by kernel_rfl) (by kernel_rfl) (UC.drew wr) ?_
          simp only [List.take_succ_cons, List.take_zero, List.drop_succ_cons, List.drop_zero]
          repeat (go_big_quiet_step (fail))
          refine wpQuiet_nil ?_
          rintro _ ⟨x, rfl⟩
          have hc2 := cell_of_heap (x.heap H2.out) (cellsV_at 4 _ 4 (by omega))
          have hf2 := frozen_of_row x.1 S 5 _ _ (x.heap H2.out)
          clear f0 f1 hc0
          go_wp2_with fail
          refine ⟨⟨1, by omega, rfl, (under_below HB.out x).setCell (by have := HES.out; simp; omega) _, ?_, ?_, ?_⟩, by simp [intOf]⟩
          · exact (heap_setCell_other _ _ _ _ (by have := HES.out; simp; omega)).trans (x.heap H0.out)
          · exact (heap_setCell_other _ _ _ _ (by have := HES.out; simp; omega)).trans (x.heap H1.out)
          · have q := Wv.set (x.heap H2.out) 4 (by omega) (z 1)
            have q2 := lMix_step (turn (2 ^ 2) z) false 2 1 0 (by omega) (by omega) (by omega)
            rw [turn_pos _ _ _ _ (by omega) (by omega) (by omega)] at q2
            rw [← q2]; exact q
        · replace hcj : _ = Value.int .i64 1 := hcj
          subst hcj
          have HB := Lib.hid hb
          have H0 := Lib.hid h0
          have H1 := Lib.hid h1
          have H2 := Lib.hid h2
          have hc0 := cell_of_heap h0 (cellsV_zero 4 z)
          have f0 : ∀ x : Under wr, x.1.cell? ⟨w.heap.size, 0, none⟩ = some (.int .i64 4) := fun x => x.cell (cell_of_heap h0 (cellsV_zero 4 z))
          have f1 : ∀ x : Under wr, x.1.cell? ⟨w.heap.size, 6, none⟩ = some (cv (z 5)) := fun x => x.cell (cell_of_heap h0 (cellsV_at 4 z 5 (by omega)))
          clear hb h0 h1 h2
          go_wp2_with fail
          refine wp_region_quiet_tail (UC wr) 17 (by kernel_rfl) (by kernel_rfl) (UC.drew wr) ?_
          simp only [List.take_succ_cons, List.take_zero, List.drop_succ_cons, List.drop_zero]
          repeat (go_big_quiet_step (fail))
          refine wpQuiet_nil ?_
          rintro _ ⟨x, rfl⟩
          have hc2 := cell_of_heap (x.heap H2.out) (cellsV_at 4 _ 5 (by omega))
          have hf2 := frozen_of_row x.1 S 6 _ _ (x.heap H2.out)
          clear f0 f1 hc0
          go_wp2_with fail
          refine ⟨⟨2, by omega, rfl, (under_below HB.out x).setCell (by have := HES.out; simp; omega) _, ?_, ?_, ?_⟩, by simp [intOf]⟩
          · exact (heap_setCell_other _ _ _ _ (by have := HES.out; simp; omega)).trans (x.heap H0.out)
          · exact (heap_setCell_other _ _ _ _ (by have := HES.out; simp; omega)).trans (x.heap H1.out)
          · have q := Wv.set (x.heap H2.out) 5 (by omega) (z 5)
            have q2 := lMix_step (turn (2 ^ 2) z) false 2 1 1 (by omega) (by omega) (by omega)
            rw [turn_pos _ _ _ _ (by omega) (by omega) (by omega)] at q2
            rw [← q2]; exact q
        · replace hcj : _ = Value.int .i64 2 := hcj
          subst hcj
          have HB := Lib.hid hb
          have H0 := Lib.hid h0
          have H1 := Lib.hid h1
          have H2 := Lib.hid h2
          have hc0 := cell_of_heap h0 (cellsV_zero 4 z)
          have f0 : ∀ x : Under wr, x.1.cell? ⟨w.heap.size, 0, none⟩ = some (.int .i64 4) := fun x => x.cell (cell_of_heap h0 (cellsV_zero 4 z))
          have f1 : ∀ x : Under wr, x.1.cell? ⟨w.heap.size, 10, none⟩ = some (cv (z 9)) := fun x => x.cell (cell_of_heap h0 (cellsV_at 4 z 9 (by omega)))
          clear hb h0 h1 h2
          go_wp2_with fail
          refine wp_region_quiet_tail (UC wr) 17 (by kernel_rfl) (by kernel_rfl) (UC.drew wr) ?_
          simp only [List.take_succ_cons, List.take_zero, List.drop_succ_cons, List.drop_zero]
          repeat (go_big_quiet_step (fail))
          refine wpQuiet_nil ?_
          rintro _ ⟨x, rfl⟩
          have hc2 := cell_of_heap (x.heap H2.out) (cellsV_at 4 _ 6 (by omega))
          have hf2 := frozen_of_row x.1 S 7 _ _ (x.heap H2.out)
          clear f0 f1 hc0
          go_wp2_with fail
          refine ⟨⟨3, by omega, rfl, (under_below HB.out x).setCell (by have := HES.out; simp; omega) _, ?_, ?_, ?_⟩, by simp [intOf]⟩
          · exact (heap_setCell_other _ _ _ _ (by have := HES.out; simp; omega)).trans (x.heap H0.out)
          · exact (heap_setCell_other _ _ _ _ (by have := HES.out; simp; omega)).trans (x.heap H1.out)
          · have q := Wv.set (x.heap H2.out) 6 (by omega) (z 9)
            have q2 := lMix_step (turn (2 ^ 2) z) false 2 1 2 (by omega) (by omega) (by omega)
            rw [turn_pos _ _ _ _ (by omega) (by omega) (by omega)] at q2
            rw [← q2]; exact q
        · replace hcj : _ = Value.int .i64 3 := hcj
          subst hcj
          have HB := Lib.hid hb
          have H0 := Lib.hid h0
          have H1 := Lib.hid h1
          have H2 := Lib.hid h2
          have hc0 := cell_of_heap h0 (cellsV_zero 4 z)
          have f0 : ∀ x : Under wr, x.1.cell? ⟨w.heap.size, 0, none⟩ = some (.int .i64 4) := fun x => x.cell (cell_of_heap h0 (cellsV_zero 4 z))
          have f1 : ∀ x : Under wr, x.1.cell? ⟨w.heap.size, 14, none⟩ = some (cv (z 13)) := fun x => x.cell (cell_of_heap h0 (cellsV_at 4 z 13 (by omega)))
          clear hb h0 h1 h2
          go_wp2_with fail
          refine wp_region_quiet_tail (UC wr) 17 (by kernel_rfl) (by kernel_rfl) (UC.drew wr) ?_
          simp only [List.take_succ_cons, List.take_zero, List.drop_succ_cons, List.drop_zero]
          repeat (go_big_quiet_step (fail))
          refine wpQuiet_nil ?_
          rintro _ ⟨x, rfl⟩
          have hc2 := cell_of_heap (x.heap H2.out) (cellsV_at 4 _ 7 (by omega))
          have hf2 := frozen_of_row x.1 S 8 _ _ (x.heap H2.out)
          clear f0 f1 hc0
          go_wp2_with fail
          refine ⟨⟨4, by omega, rfl, (under_below HB.out x).setCell (by have := HES.out; simp; omega) _, ?_, ?_, ?_⟩, by simp [intOf]⟩
          · exact (heap_setCell_other _ _ _ _ (by have := HES.out; simp; omega)).trans (x.heap H0.out)
          · exact (heap_setCell_other _ _ _ _ (by have := HES.out; simp; omega)).trans (x.heap H1.out)
          · have q := Wv.set (x.heap H2.out) 7 (by omega) (z 13)
            have q2 := lMix_step (turn (2 ^ 2) z) false 2 1 3 (by omega) (by omega) (by omega)
            rw [turn_pos _ _ _ _ (by omega) (by omega) (by omega)] at q2
            rw [← q2]; exact q
        · replace hcj : _ = Value.int .i64 4 := hcj
          subst hcj
          have hc0 := cell_of_heap h0 (cellsV_zero 4 z)
          have HB := Lib.hid hb
          have H0 := Lib.hid h0
          have H1 := Lib.hid h1
          have H2 := Lib.hid h2
          clear hb h0 h1 h2
          go_wp2_with fail
          exact ⟨⟨2, by omega, rfl, HB.out, H0.out, H1.out, by rw [← lMix_line _ _ _ _ (by omega)]; exact H2.out⟩, by simp [intOf]⟩
    · replace hca : _ = Value.int .i64 2 := hca
      subst hca
      have hc0 := cell_of_heap h0 (cellsV_zero 4 z)
      have HB := Lib.hid hb
      have H0 := Lib.hid h0
      have H1 := Lib.hid h1
      have H2 := Lib.hid h2
      clear hb h0 h1 h2
      go_wp2_with fail
      clear hc0
      go_loopw [5] (fun c wr => ∃ j : Nat, j ≤ 4 ∧ c = .int .i64 j ∧ Below w.heap.size w wr ∧ Wv wr w.heap.size 4 z ∧ Wv wr (w.heap.size + 1) 0 zW ∧ Wv wr S 4 (lMix (turn (2 ^ 2) z) false (2 ^ 2) 2 j)) (fun c _ => (4 - intOf c).toNat)
      case atStart => exact ⟨0, by omega, rfl, HB.out, H0.out, H1.out, H2.out⟩
      case round =>
        obtain ⟨j, hj, hcj, hb, h0, h1, h2⟩ := hrel
        clear HB H0 H1 H2
        obtain rfl | rfl | rfl | rfl | rfl : j = 0 ∨ j = 1 ∨ j = 2 ∨ j = 3 ∨ j = 4 := by omega
        · replace hcj : _ = Value.int .i64 0 := hcj
          subst hcj
          have HB := Lib.hid hb
          have H0 := Lib.hid h0
          have H1 := Lib.hid h1
          have H2 := Lib.hid h2
          have hc0 := cell_of_heap h0 (cellsV_zero 4 z)
          have f0 : ∀ x : Under wr, x.1.cell? ⟨w.heap.size, 0, none⟩ = some (.int .i64 4) := fun x => x.cell (cell_of_heap h0 (cellsV_zero 4 z))
          have f1 : ∀ x : Under wr, x.1.cell? ⟨w.heap.size, 3, none⟩ = some (cv (z 2)) := fun x => x.cell (cell_of_heap h0 (cellsV_at 4 z 2 (by omega)))
          clear hb h0 h1 h2
          go_wp2_with fail
          refine wp_region_quiet_tail (UC wr) 17 (by kernel_rfl) (by kernel_rfl) (UC.drew wr) ?_
          simp only [List.take_succ_cons, List.take_zero, List.drop_succ_cons, List.drop_zero]
          repeat (go_big_quiet_step (fail))
          refine wpQuiet_nil ?_
          rintro _ ⟨x, rfl⟩
          have hc2 := cell_of_heap (x.heap H2.out) (cellsV_at 4 _ 8 (by omega))
          have hf2 := frozen_of_row x.1 S 9 _ _ (x.heap H2.out)
          clear f0 f1 hc0
          go_wp2_with fail
          refine ⟨⟨1, by omega, rfl, (under_below HB.out x).setCell (by have := HES.out; simp; omega) _, ?_, ?_, ?_⟩, by simp [intOf]⟩
          · exact (heap_setCell_other _ _ _ _ (by have := HES.out; simp; omega)).trans (x.heap H0.out)
          · exact (heap_setCell_other _ _ _ _ (by have := HES.out; simp; omega)).trans (x.heap H1.out)
          · have q := Wv.set (x.heap H2.out) 8 (by omega) (z 2)
            have q2 := lMix_step (turn (2 ^ 2) z) false 2 2 0 (by omega) (by omega) (by omega)
            rw [turn_pos _ _ _ _ (by omega) (by omega) (by omega)] at q2
            rw [← q2]; exact q
        · replace hcj : _ = Value.int .i64 1 := hcj
          subst hcj
          have HB := Lib.hid hb
          have H0 := Lib.hid h0
          have H1 := Lib.hid h1
          have H2 := Lib.hid h2
          have hc0 := cell_of_heap h0 (cellsV_zero 4 z)
          have f0 : ∀ x : Under wr, x.1.cell? ⟨w.heap.size, 0, none⟩ = some (.int .i64 4) := fun x => x.cell (cell_of_heap h0 (cellsV_zero 4 z))
          have f1 : ∀ x : Under wr, x.1.cell? ⟨w.heap.size, 7, none⟩ = some (cv (z 6)) := fun x => x.cell (cell_of_heap h0 (cellsV_at 4 z 6 (by omega)))
          clear hb h0 h1 h2
          go_wp2_with fail
          refine wp_region_quiet_tail (UC wr) 17 (by kernel_rfl) (by kernel_rfl) (UC.drew wr) ?_
          simp only [List.take_succ_cons, List.take_zero, List.drop_succ_cons, List.drop_zero]
          repeat (go_big_quiet_step (fail))
          refine wpQuiet_nil ?_
          rintro _ ⟨x, rfl⟩
          have hc2 := cell_of_heap (x.heap H2.out) (cellsV_at 4 _ 9 (by omega))
          have hf2 := frozen_of_row x.1 S 10 _ _ (x.heap H2.out)
          clear f0 f1 hc0
          go_wp2_with fail
          refine ⟨⟨2, by omega, rfl, (under_below HB.out x).setCell (by have := HES.out; simp; omega) _, ?_, ?_, ?_⟩, by simp [intOf]⟩
          · exact (heap_setCell_other _ _ _ _ (by have := HES.out; simp; omega)).trans (x.heap H0.out)
          · exact (heap_setCell_other _ _ _ _ (by have := HES.out; simp; omega)).trans (x.heap H1.out)
          · have q := Wv.set (x.heap H2.out) 9 (by omega) (z 6)
            have q2 := lMix_step (turn (2 ^ 2) z) false 2 2 1 (by omega) (by omega) (by omega)
            rw [turn_pos _ _ _ _ (by omega) (by omega) (by omega)] at q2
            rw [← q2]; exact q
        · replace hcj : _ = Value.int .i64 2 := hcj
          subst hcj
          have HB := Lib.hid hb
          have H0 := Lib.hid h0
          have H1 := Lib.hid h1
          have H2 := Lib.hid h2
          have hc0 := cell_of_heap h0 (cellsV_zero 4 z)
          have f0 : ∀ x : Under wr, x.1.cell? ⟨w.heap.size, 0, none⟩ = some (.int .i64 4) := fun x => x.cell (cell_of_heap h0 (cellsV_zero 4 z))
          have f1 : ∀ x : Under wr, x.1.cell? ⟨w.heap.size, 11, none⟩ = some (cv (z 10)) := fun x => x.cell (cell_of_heap h0 (cellsV_at 4 z 10 (by omega)))
          clear hb h0 h1 h2
          go_wp2_with fail
          refine wp_region_quiet_tail (UC wr) 17 (by kernel_rfl) (by kernel_rfl) (UC.drew wr) ?_
          simp only [List.take_succ_cons, List.take_zero, List.drop_succ_cons, List.drop_zero]
          repeat (go_big_quiet_step (fail))
          refine wpQuiet_nil ?_
          rintro _ ⟨x, rfl⟩
          have hc2 := cell_of_heap (x.heap H2.out) (cellsV_at 4 _ 10 (by omega))
          have hf2 := frozen_of_row x.1 S 11 _ _ (x.heap H2.out)
          clear f0 f1 hc0
          go_wp2_with fail
          refine ⟨⟨3, by omega, rfl, (under_below HB.out x).setCell (by have := HES.out; simp; omega) _, ?_, ?_, ?_⟩, by simp [intOf]⟩
          · exact (heap_setCell_other _ _ _ _ (by have := HES.out; simp; omega)).trans (x.heap H0.out)
          · exact (heap_setCell_other _ _ _ _ (by have := HES.out; simp; omega)).trans (x.heap H1.out)
          · have q := Wv.set (x.heap H2.out) 10 (by omega) (z 10)
            have q2 := lMix_step (turn (2 ^ 2) z) false 2 2 2 (by omega) (by omega) (by omega)
            rw [turn_pos _ _ _ _ (by omega) (by omega) (by omega)] at q2
            rw [← q2]; exact q
        · replace hcj : _ = Value.int .i64 3 := hcj
          subst hcj
          have HB := Lib.hid hb
          have H0 := Lib.hid h0
          have H1 := Lib.hid h1
          have H2 := Lib.hid h2
          have hc0 := cell_of_heap h0 (cellsV_zero 4 z)
          have f0 : ∀ x : Under wr, x.1.cell? ⟨w.heap.size, 0, none⟩ = some (.int .i64 4) := fun x => x.cell (cell_of_heap h0 (cellsV_zero 4 z))
          have f1 : ∀ x : Under wr, x.1.cell? ⟨w.heap.size, 15, none⟩ = some (cv (z 14)) := fun x => x.cell (cell_of_heap h0 (cellsV_at 4 z 14 (by omega)))
          clear hb h0 h1 h2
          go_wp2_with fail
          refine wp_region_quiet_tail (UC wr) 17 (by kernel_rfl) (by kernel_rfl) (UC.drew wr) ?_
          simp only [List.take_succ_cons, List.take_zero, List.drop_succ_cons, List.drop_zero]
          repeat (go_big_quiet_step (fail))
          refine wpQuiet_nil ?_
          rintro _ ⟨x, rfl⟩
          have hc2 := cell_of_heap (x.heap H2.out) (cellsV_at 4 _ 11 (by omega))
          have hf2 := frozen_of_row x.1 S 12 _ _ (x.heap H2.out)
          clear f0 f1 hc0
          go_wp2_with fail
          refine ⟨⟨4, by omega, rfl, (under_below HB.out x).setCell (by have := HES.out; simp; omega) _, ?_, ?_, ?_⟩, by simp [intOf]⟩
          · exact (heap_setCell_other _ _ _ _ (by have := HES.out; simp; omega)).trans (x.heap H0.out)
          · exact (heap_setCell_other _ _ _ _ (by have := HES.out; simp; omega)).trans (x.heap H1.out)
          · have q := Wv.set (x.heap H2.out) 11 (by omega) (z 14)
            have q2 := lMix_step (turn (2 ^ 2) z) false 2 2 3 (by omega) (by omega) (by omega)
            rw [turn_pos _ _ _ _ (by omega) (by omega) (by omega)] at q2
            rw [← q2]; exact q
        · replace hcj : _ = Value.int .i64 4 := hcj
          subst hcj
          have hc0 := cell_of_heap h0 (cellsV_zero 4 z)
          have HB := Lib.hid hb
          have H0 := Lib.hid h0
          have H1 := Lib.hid h1
          have H2 := Lib.hid h2
          clear hb h0 h1 h2
          go_wp2_with fail
          exact ⟨⟨3, by omega, rfl, HB.out, H0.out, H1.out, by rw [← lMix_line _ _ _ _ (by omega)]; exact H2.out⟩, by simp [intOf]⟩
    · replace hca : _ = Value.int .i64 3 := hca
      subst hca
      have hc0 := cell_of_heap h0 (cellsV_zero 4 z)
      have HB := Lib.hid hb
      have H0 := Lib.hid h0
      have H1 := Lib.hid h1
      have H2 := Lib.hid h2
      clear hb h0 h1 h2
      go_wp2_with fail
      clear hc0
      go_loopw [5] (fun c wr => ∃ j : Nat, j ≤ 4 ∧ c = .int .i64 j ∧ Below w.heap.size w wr ∧ Wv wr w.heap.size 4 z ∧ Wv wr (w.heap.size + 1) 0 zW ∧ Wv wr S 4 (lMix (turn (2 ^ 2) z) false (2 ^ 2) 3 j)) (fun c _ => (4 - intOf c).toNat)
      case atStart => exact ⟨0, by omega, rfl, HB.out, H0.out, H1.out, H2.out⟩
      case round =>
        obtain ⟨j, hj, hcj, hb, h0, h1, h2⟩ := hrel
        clear HB H0 H1 H2
        obtain rfl | rfl | rfl | rfl | rfl : j = 0 ∨ j = 1 ∨ j = 2 ∨ j = 3 ∨ j = 4 := by omega
        · replace hcj : _ = Value.int .i64 0 := hcj
          subst hcj
          have HB := Lib.hid hb
          have H0 := Lib.hid h0
          have H1 := Lib.hid h1
          have H2 := Lib.hid h2
          have hc0 := cell_of_heap h0 (cellsV_zero 4 z)
          have f0 : ∀ x : Under wr, x.1.cell? ⟨w.heap.size, 0, none⟩ = some (.int .i64 4) := fun x => x.cell (cell_of_heap h0 (cellsV_zero 4 z))
          have f1 : ∀ x : Under wr, x.1.cell? ⟨w.heap.size, 4, none⟩ = some (cv (z 3)) := fun x => x.cell (cell_of_heap h0 (cellsV_at 4 z 3 (by omega)))
          clear hb h0 h1 h2
          go_wp2_with fail
          refine wp_region_quiet_tail (UC wr) 17 (by kernel_rfl) (by kernel_rfl) (UC.drew wr) ?_
          simp only [List.take_succ_cons, List.take_zero, List.drop_succ_cons, List.drop_zero]
          repeat (go_big_quiet_step (fail))
          refine wpQuiet_nil ?_
          rintro _ ⟨x, rfl⟩
          have hc2 := cell_of_heap (x.heap H2.out) (cellsV_at 4 _ 12 (by omega))
          have hf2 := frozen_of_row x.1 S 13 _ _ (x.heap H2.out)
          clear f0 f1 hc0
          go_wp2_with fail
          refine ⟨⟨1, by omega, rfl, (under_below HB.out x).setCell (by have := HES.out; simp; omega) _, ?_, ?_, ?_⟩, by simp [intOf]⟩
          · exact (heap_setCell_other _ _ _ _ (by have := HES.out; simp; omega)).trans (x.heap H0.out)
          · exact (heap_setCell_other _ _ _ _ (by have := HES.out; simp; omega)).trans (x.heap H1.out)
          · have q := Wv.set (x.heap H2.out) 12 (by omega) (z 3)
            have q2 := lMix_step (turn (2 ^ 2) z) false 2 3 0 (by omega) (by omega) (by omega)
            rw [turn_pos _ _ _ _ (by omega) (by omega) (by omega)] at q2
            rw [← q2]; exact q
        · replace hcj : _ = Value.int .i64 1 := hcj
          subst hcj
          have HB := Lib.hid hb
          have H0 := Lib.hid h0
          have H1 := Lib.hid h1
          have H2 := Lib.hid h2
          have hc0 := cell_of_heap h0 (cellsV_zero 4 z)
          have f0 : ∀ x : Under wr, x.1.cell? ⟨w.heap.size, 0, none⟩ = some (.int .i64 4) := fun x => x.cell (cell_of_heap h0 (cellsV_zero 4 z))
          have f1 : ∀ x : Under wr, x.1.cell? ⟨w.heap.size, 8, none⟩ = some (cv (z 7)) := fun x => x.cell (cell_of_heap h0 (cellsV_at 4 z 7 (by omega)))
          clear hb h0 h1 h2
          go_wp2_with fail
          refine wp_region_quiet_tail (UC wr) 17 (by kernel_rfl) (by kernel_rfl) (UC.drew wr) ?_
          simp only [List.take_succ_cons, List.take_zero, List.drop_succ_cons, List.drop_zero]
          repeat (go_big_quiet_step (fail))
          refine wpQuiet_nil ?_
          rintro _ ⟨x, rfl⟩
          have hc2 := cell_of_heap (x.heap H2.out) (cellsV_at 4 _ 13 (by omega))
          have hf2 := frozen_of_row x.1 S 14 _ _ (x.heap H2.out)
          clear f0 f1 hc0
          go_wp2_with fail
          refine ⟨⟨2, by omega, rfl, (under_below HB.out x).setCell (by have := HES.out; simp; omega) _, ?_, ?_, ?_⟩, by simp [intOf]⟩
          · exact (heap_setCell_other _ _ _ _ (by have := HES.out; simp; omega)).trans (x.heap H0.out)
          · exact (heap_setCell_other _ _ _ _ (by have := HES.out; simp; omega)).trans (x.heap H1.out)
          · have q := Wv.set (x.heap H2.out) 13 (by omega) (z 7)
            have q2 := lMix_step (turn (2 ^ 2) z) false 2 3 1 (by omega) (by omega) (by omega)
            rw [turn_pos _ _ _ _ (by omega) (by omega) (by omega)] at q2
            rw [← q2]; exact q
        · replace hcj : _ = Value.int .i64 2 := hcj
          subst hcj
          have HB := Lib.hid hb
          have H0 := Lib.hid h0
          have H1 := Lib.hid h1
          have H2 := Lib.hid h2
          have hc0 := cell_of_heap h0 (cellsV_zero 4 z)
          have f0 : ∀ x : Under wr, x.1.cell? ⟨w.heap.size, 0, none⟩ = some (.int .i64 4) := fun x => x.cell (cell_of_heap h0 (cellsV_zero 4 z))
          have f1 : ∀ x : Under wr, x.1.cell? ⟨w.heap.size, 12, none⟩ = some (cv (z 11)) := fun x => x.cell (cell_of_heap h0 (cellsV_at 4 z 11 (by omega)))
          clear hb h0 h1 h2
          go_wp2_with fail
          refine wp_region_quiet_tail (UC wr) 17 (by kernel_rfl) (by kernel_rfl) (UC.drew wr) ?_
          simp only [List.take_succ_cons, List.take_zero, List.drop_succ_cons, List.drop_zero]
          repeat (go_big_quiet_step (fail))
          refine wpQuiet_nil ?_
          rintro _ ⟨x, rfl⟩
          have hc2 := cell_of_heap (x.heap H2.out) (cellsV_at 4 _ 14 (by omega))
          have hf2 := frozen_of_row x.1 S 15 _ _ (x.heap H2.out)
          clear f0 f1 hc0
          go_wp2_with fail
          refine ⟨⟨3, by omega, rfl, (under_below HB.out x).setCell (by have := HES.out; simp; omega) _, ?_, ?_, ?_⟩, by simp [intOf]⟩
          · exact (heap_setCell_other _ _ _ _ (by have := HES.out; simp; omega)).trans (x.heap H0.out)
          · exact (heap_setCell_other _ _ _ _ (by have := HES.out; simp; omega)).trans (x.heap H1.out)
          · have q := Wv.set (x.heap H2.out) 14 (by omega) (z 11)
            have q2 := lMix_step (turn (2 ^ 2) z) false 2 3 2 (by omega) (by omega) (by omega)
            rw [turn_pos _ _ _ _ (by omega) (by omega) (by omega)] at q2
            rw [← q2]; exact q
        · replace hcj : _ = Value.int .i64 3 := hcj
          subst hcj
          have HB := Lib.hid hb
          have H0 := Lib.hid h0
          have H1 := Lib.hid h1
          have H2 := Lib.hid h2
          have hc0 := cell_of_heap h0 (cellsV_zero 4 z)
          have f0 : ∀ x : Under wr, x.1.cell? ⟨w.heap.size, 0, none⟩ = some (.int .i64 4) := fun x => x.cell (cell_of_heap h0 (cellsV_zero 4 z))
          have f1 : ∀ x : Under wr, x.1.cell? ⟨w.heap.size, 16, none⟩ = some (cv (z 15)) := fun x => x.cell (cell_of_heap h0 (cellsV_at 4 z 15 (by omega)))
          clear hb h0 h1 h2
          go_wp2_with fail
          refine wp_region_quiet_tail (UC wr) 17 (by kernel_rfl) (by kernel_rfl) (UC.drew wr) ?_
          simp only [List.take_succ_cons, List.take_zero, List.drop_succ_cons, List.drop_zero]
          repeat (go_big_quiet_step (fail))
          refine wpQuiet_nil ?_
          rintro _ ⟨x, rfl⟩
          have hc2 := cell_of_heap (x.heap H2.out) (cellsV_at 4 _ 15 (by omega))
          have hf2 := frozen_of_row x.1 S 16 _ _ (x.heap H2.out)
          clear f0 f1 hc0
          go_wp2_with fail
          refine ⟨⟨4, by omega, rfl, (under_below HB.out x).setCell (by have := HES.out; simp; omega) _, ?_, ?_, ?_⟩, by simp [intOf]⟩
          · exact (heap_setCell_other _ _ _ _ (by have := HES.out; simp; omega)).trans (x.heap H0.out)
          · exact (heap_setCell_other _ _ _ _ (by have := HES.out; simp; omega)).trans (x.heap H1.out)
          · have q := Wv.set (x.heap H2.out) 15 (by omega) (z 15)
            have q2 := lMix_step (turn (2 ^ 2) z) false 2 3 3 (by omega) (by omega) (by omega)
            rw [turn_pos _ _ _ _ (by omega) (by omega) (by omega)] at q2
            rw [← q2]; exact q
        · replace hcj : _ = Value.int .i64 4 := hcj
          subst hcj
          have hc0 := cell_of_heap h0 (cellsV_zero 4 z)
          have HB := Lib.hid hb
          have H0 := Lib.hid h0
          have H1 := Lib.hid h1
          have H2 := Lib.hid h2
          clear hb h0 h1 h2
          go_wp2_with fail
          exact ⟨⟨4, by omega, rfl, HB.out, H0.out, H1.out, by rw [← lMix_line _ _ _ _ (by omega)]; exact H2.out⟩, by simp [intOf]⟩
    · replace hca : _ = Value.int .i64 4 := hca
      subst hca
      have hc0 := cell_of_heap h0 (cellsV_zero 4 z)
      go_wp2_with (first
        | (refine ld31 rfl _ rfl S rfl h2 ?_)
        | (refine st31 rfl _ _ rfl (w.heap.size + 1) rfl rfl h1 ?_))
      rw [← lMix_all (turn (2 ^ 2) z) false 2 (by omega)]
      exact bodyPost_ret (v := .agg (cellsV 4 _)) (results_cell_row rfl _ _ (w.heap.size + 1) 31 _ (0, 0) _ rfl (heap_setRow_same h1) Tryz.underlying31 rfl (size31c _ _)) rfl ⟨rfl, below_setRow hb (by omega) _⟩


set_option maxRecDepth 100000 in
set_option maxHeartbeats 4000000 in
theorem rows4_c (s : Int) (hs : s = 1 ∨ s = -1) (z : Nat → CB) (hz : LinOk OkS mulS qz s 2 false z) (w : World) :
    Calls Tryz.prog 92 #[.agg (cellsV 4 z), .int .i64 s] w fun e w' => e = .returned (.agg (cellsV 4 (part (lin mulS qz s 2 false z) 16))) ∧ Below w.heap.size w w' := by
  have HZ : Hid (∀ a, a < 4 → TrOk OkS mulS qz s 2 (cut false (2 ^ 2) z a)) := Lib.hid hz
  clear hz
  go_enter Tryz.func92, Tryz.ntmps92
  go_wp2_with (first
    | (go_at_call 118
       ((with_reducible refine (l01Empty_c 4 _).mono ?_))
       rintro e w1 ⟨rfl, hb1⟩
       have HE := Lib.hid (bnext (bal2 w _ _) hb1)
       have HE0 := Lib.hid (below_heap' hb1 (al_old _ (al_new (Obj.cells (cellsV 4 z) 31 (0, 0)) rfl)))
       have HE1 := Lib.hid (below_heap' hb1 (al_new (Obj.cells (cellsV 0 zW) 31 (0, 0)) (by simp : w.heap.size + 1 = _)))
       have HES : Hid (w.heap.size + 1 < w1.heap.size) := Lib.hid (lt_of_block HE1.out)
       clear hb1)
    | (refine st31 rfl _ _ rfl w1.heap.size rfl rfl (al_new (Obj.cells (cellsV 0 zW) 31 (0, 0)) rfl) ?_))
  have HB0 : Hid (Below w.heap.size w ((w1.alloc (Obj.cells (cellsV 0 zW) 31 (0, 0))).setRow w1.heap.size (cellsV 4 zW))) := Lib.hid (below_setRow (bnext HE.out (bal1 _ _)) (by have := HES.out; omega) _)
  have HA0 : Hid (Wv ((w1.alloc (Obj.cells (cellsV 0 zW) 31 (0, 0))).setRow w1.heap.size (cellsV 4 zW)) w.heap.size 4 z) := Lib.hid ((setRow_other _ _ _ _ (by have := HES.out; omega)).trans (al_old _ HE0.out))
  have HA1 : Hid (Wv ((w1.alloc (Obj.cells (cellsV 0 zW) 31 (0, 0))).setRow w1.heap.size (cellsV 4 zW)) (w.heap.size + 1) 0 zW) := Lib.hid ((setRow_other _ _ _ _ (by have := HES.out; omega)).trans (al_old _ HE1.out))
  have HA2 : Hid (Wv ((w1.alloc (Obj.cells (cellsV 0 zW) 31 (0, 0))).setRow w1.heap.size (cellsV 4 zW)) w1.heap.size 4 zW) := Lib.hid (heap_setRow_same (al_new (Obj.cells (cellsV 0 zW) 31 (0, 0)) rfl))
  clear HE HE0 HE1
  generalize ((w1.alloc (Obj.cells (cellsV 0 zW) 31 (0, 0))).setRow w1.heap.size (cellsV 4 zW)) = W0 at HB0 HA0 HA1 HA2 ⊢
  generalize w1.heap.size = S at HES HA2 ⊢
  clear w1
  go_loopw [6] (fun c wr => ∃ a : Nat, a ≤ 4 ∧ c = .int .i64 a ∧ Below w.heap.size w wr ∧ Wv wr w.heap.size 4 z ∧ Wv wr (w.heap.size + 1) 0 zW ∧ Wv wr S 4 (lMix (lin mulS qz s 2 false z) false (2 ^ 2) a 0)) (fun c _ => (4 - intOf c).toNat)
  case atStart => exact ⟨0, by omega, rfl, HB0.out, HA0.out, HA1.out, by rw [lMix_zero]; exact HA2.out⟩
  case round =>
    obtain ⟨a, ha, hca, hb, h0, h1, h2⟩ := hrel
    clear HB0 HA0 HA1 HA2
    obtain rfl | rfl | rfl | rfl | rfl : a = 0 ∨ a = 1 ∨ a = 2 ∨ a = 3 ∨ a = 4 := by omega
    · replace hca : _ = Value.int .i64 0 := hca
      subst hca
      have hc0 := cell_of_heap h0 (cellsV_zero 4 z)
      have HB := Lib.hid hb
      have H0 := Lib.hid h0
      have H1 := Lib.hid h1
      have H2 := Lib.hid h2
      have HS2 : Hid (S < wr.heap.size) := Lib.hid (lt_of_block h2)
      have RE : Hid (Row wr 0 (.slice (some ⟨w.heap.size, 1, none⟩) 4 64) (2 ^ 2) (cut false (2 ^ 2) z 0)) := Lib.hid
        ⟨w.heap.size, 1, 64, rfl, Nat.zero_le _, by decide, fun i hi => by
          replace hi : i < 4 := hi
          have q := cell_of_heap h0 (cellsV_at 4 z (0 + i) (by omega))
          rw [show 1 + i = 1 + (0 + i) from (Nat.add_assoc 1 0 i)]; exact q⟩
      clear hb h0 h1 h2
      go_wp2_with (first
        | (go_at_call 119
           ((with_reducible refine (TrC.get (line_c 2 (by omega)) s hs _ (HZ.out 0 (by decide)) _ _ RE.out).mono ?_))
           rintro e w1 ⟨⟨v1, rfl, b1, o1, c1, rfl, hB1, hm1, hc1⟩, hb1⟩
           have K1 := Lib.hid hc1
           have HBn := Lib.hid (bnext HB.out hb1)
           have H0n := Lib.hid (below_heap' hb1 H0.out)
           have H1n := Lib.hid (below_heap' hb1 H1.out)
           have H2n := Lib.hid (below_heap' hb1 H2.out)
           have KN : Hid (S < b1) := Lib.hid (by have := HS2.out; omega)
           clear hc1 hb1 hB1 hm1))
      clear hc0
      go_loopw [8] (fun c wr => ∃ j : Nat, j ≤ 4 ∧ c = .int .i64 j ∧ w1.grownBy wr (some S) ∧ Wv wr S 4 (lMix (lin mulS qz s 2 false z) false (2 ^ 2) 0 j)) (fun c _ => (4 - intOf c).toNat)
      case atStart => exact ⟨0, by omega, rfl, grown_refl _ _, H2n.out⟩
      case round =>
        obtain ⟨j, hj, hcj, hg, h2⟩ := hrel
        have h0 : Wv wr w.heap.size 4 z := (hg.block _ (lt_of_block H0n.out) (by have := HES.out; intro e; injection e; omega)).trans H0n.out
        obtain rfl | rfl | rfl | rfl | rfl : j = 0 ∨ j = 1 ∨ j = 2 ∨ j = 3 ∨ j = 4 := by omega
        · replace hcj : _ = Value.int .i64 0 := hcj
          subst hcj
          have G := Lib.hid hg
          have H2 := Lib.hid h2
          have hc0 := cell_of_heap h0 (cellsV_zero 4 z)
          have f0 : ∀ x : Under wr, x.1.cell? ⟨w.heap.size, 0, none⟩ = some (.int .i64 4) := fun x => x.cell (cell_of_heap h0 (cellsV_zero 4 z))
          have f1 : ∀ x : Under wr, x.1.cell? ⟨b1, o1, none⟩ = some (cv (tr mulS qz s 2 (cut false (2 ^ 2) z 0) 0)) := fun x => x.cell (hg.cell (K1.out 0 (by decide)) (by have := KN.out; simp; omega))
          clear hg h0 h2
          go_wp2_with fail
          refine wp_region_quiet_tail (UC wr) 12 (by kernel_rfl) (by kernel_rfl) (UC.drew wr) ?_
          simp only [List.take_succ_cons, List.take_zero, List.drop_succ_cons, List.drop_zero]
          repeat (go_big_quiet_step (fail))
          refine wpQuiet_nil ?_
          rintro _ ⟨x, rfl⟩
          have hc2 := cell_of_heap (x.heap H2.out) (cellsV_at 4 _ 0 (by omega))
          have hf2 := frozen_of_row x.1 S 1 _ _ (x.heap H2.out)
          clear f0 f1 hc0
          go_wp2_with fail
          refine ⟨⟨1, by omega, rfl, grown_set (grown_under G.out x) _ _, ?_⟩, by simp [intOf]⟩
          have q := Wv.set (x.heap H2.out) 0 (by omega) (tr mulS qz s 2 (cut false (2 ^ 2) z 0) 0)
          have q2 := lMix_step (lin mulS qz s 2 false z) false 2 0 0 (by omega) (by omega) (by omega)
          rw [lin_pos _ _ _ _ _ _ _ _ (by omega) (by omega) (by omega)] at q2
          rw [← q2]; exact q
        · replace hcj : _ = Value.int .i64 1 := hcj
          subst hcj
          have G := Lib.hid hg
          have H2 := Lib.hid h2
          have hc0 := cell_of_heap h0 (cellsV_zero 4 z)
          have f0 : ∀ x : Under wr, x.1.cell? ⟨w.heap.size, 0, none⟩ = some (.int .i64 4) := fun x => x.cell (cell_of_heap h0 (cellsV_zero 4 z))
          have f1 : ∀ x : Under wr, x.1.cell? ⟨b1, o1 + 1, none⟩ = some (cv (tr mulS qz s 2 (cut false (2 ^ 2) z 0) 1)) := fun x => x.cell (hg.cell (K1.out 1 (by decide)) (by have := KN.out; simp; omega))
          clear hg h0 h2
          go_wp2_with fail
          refine wp_region_quiet_tail (UC wr) 12 (by kernel_rfl) (by kernel_rfl) (UC.drew wr) ?_
          simp only [List.take_succ_cons, List.take_zero, List.drop_succ_cons, List.drop_zero]
          repeat (go_big_quiet_step (fail))
          refine wpQuiet_nil ?_
          rintro _ ⟨x, rfl⟩
          have hc2 := cell_of_heap (x.heap H2.out) (cellsV_at 4 _ 1 (by omega))
          have hf2 := frozen_of_row x.1 S 2 _ _ (x.heap H2.out)
          clear f0 f1 hc0
          go_wp2_with fail
          refine ⟨⟨2, by omega, rfl, grown_set (grown_under G.out x) _ _, ?_⟩, by simp [intOf]⟩
          have q := Wv.set (x.heap H2.out) 1 (by omega) (tr mulS qz s 2 (cut false (2 ^ 2) z 0) 1)
          have q2 := lMix_step (lin mulS qz s 2 false z) false 2 0 1 (by omega) (by omega) (by omega)
          rw [lin_pos _ _ _ _ _ _ _ _ (by omega) (by omega) (by omega)] at q2
          rw [← q2]; exact q
        · replace hcj : _ = Value.int .i64 2 := hcj
          subst hcj
          have G := Lib.hid hg
          have H2 := Lib.hid h2
          have hc0 := cell_of_heap h0 (cellsV_zero 4 z)
          have f0 : ∀ x : Under wr, x.1.cell? ⟨w.heap.size, 0, none⟩ = some (.int .i64 4) := fun x => x.cell (cell_of_heap h0 (cellsV_zero 4 z))
          have f1 : ∀ x : Under wr, x.1.cell? ⟨b1, o1 + 2, none⟩ = some (cv (tr mulS qz s 2 (cut false (2 ^ 2) z 0) 2)) := fun x => x.cell (hg.cell (K1.out 2 (by decide)) (by have := KN.out; simp; omega))
          clear hg h0 h2
          go_wp2_with fail
          refine wp_region_quiet_tail (UC wr) 12 (by kernel_rfl) (by kernel_rfl) (UC.drew wr) ?_
          simp only [List.take_succ_cons, List.take_zero, List.drop_succ_cons, List.drop_zero]
          repeat (go_big_quiet_step (fail))
          refine wpQuiet_nil ?_
          rintro _ ⟨x, rfl⟩
          have hc2 := cell_of_heap (x.heap H2.out) (cellsV_at 4 _ 2 (by omega))
          have hf2 := frozen_of_row x.1 S 3 _ _ (x.heap H2.out)
          clear f0 f1 hc0
          go_wp2_with fail
          refine ⟨⟨3, by omega, rfl, grown_set (grown_under G.out x) _ _, ?_⟩, by simp [intOf]⟩
          have q := Wv.set (x.heap H2.out) 2 (by omega) (tr mulS qz s 2 (cut false (2 ^ 2) z 0) 2)
          have q2 := lMix_step (lin mulS qz s 2 false z) false 2 0 2 (by omega) (by omega) (by omega)
          rw [lin_pos _ _ _ _ _ _ _ _ (by omega) (by omega) (by omega)] at q2
          rw [← q2]; exact q
        · replace hcj : _ = Value.int .i64 3 := hcj
          subst hcj
          have G := Lib.hid hg
          have H2 := Lib.hid h2
          have hc0 := cell_of_heap h0 (cellsV_zero 4 z)
          have f0 : ∀ x : Under wr, x.1.cell? ⟨w.heap.size, 0, none⟩ = some (.int .i64 4) := fun x => x.cell (cell_of_heap h0 (cellsV_zero 4 z))
          have f1 : ∀ x : Under wr, x.1.cell? ⟨b1, o1 + 3, none⟩ = some (cv (tr mulS qz s 2 (cut false (2 ^ 2) z 0) 3)) := fun x => x.cell (hg.cell (K1.out 3 (by decide)) (by have := KN.out; simp; omega))
          clear hg h0 h2
          go_wp2_with fail
          refine wp_region_quiet_tail (UC wr) 12 (by kernel_rfl) (by kernel_rfl) (UC.drew wr) ?_
          simp only [List.take_succ_cons, List.take_zero, List.drop_succ_cons, List.drop_zero]
          repeat (go_big_quiet_step (fail))
          refine wpQuiet_nil ?_
          rintro _ ⟨x, rfl⟩
          have hc2 := cell_of_heap (x.heap H2.out) (cellsV_at 4 _ 3 (by omega))
          have hf2 := frozen_of_row x.1 S 4 _ _ (x.heap H2.out)
          clear f0 f1 hc0
          go_wp2_with fail
          refine ⟨⟨4, by omega, rfl, grown_set (grown_under G.out x) _ _, ?_⟩, by simp [intOf]⟩
          have q := Wv.set (x.heap H2.out) 3 (by omega) (tr mulS qz s 2 (cut false (2 ^ 2) z 0) 3)
          have q2 := lMix_step (lin mulS qz s 2 false z) false 2 0 3 (by omega) (by omega) (by omega)
          rw [lin_pos _ _ _ _ _ _ _ _ (by omega) (by omega) (by omega)] at q2
          rw [← q2]; exact q
        · replace hcj : _ = Value.int .i64 4 := hcj
          subst hcj
          have hc0 := cell_of_heap h0 (cellsV_zero 4 z)
          have G := Lib.hid hg
          have M2 := Lib.hid h2
          clear hg h0 h2
          go_wp2_with fail
          have k3 := grown_below G.out (B := w.heap.size) (by have := HES.out; intro k hk; cases hk; omega) (by have := HBn.out.size; omega)
          have k1 := lt_of_block H0n.out
          have k2 := lt_of_block H1n.out
          refine ⟨⟨1, by omega, rfl, HBn.out.trans k3, ?_, ?_, ?_⟩, by simp [intOf]⟩
          · exact (G.out.block _ k1 (by have := HES.out; intro e; injection e; omega)).trans H0n.out
          · exact (G.out.block _ k2 (by have := HES.out; intro e; injection e; omega)).trans H1n.out
          · rw [← lMix_line _ _ _ _ (by omega)]; exact M2.out
    · replace hca : _ = Value.int .i64 1 := hca
      subst hca
      have hc0 := cell_of_heap h0 (cellsV_zero 4 z)
      have HB := Lib.hid hb
      have H0 := Lib.hid h0
      have H1 := Lib.hid h1
      have H2 := Lib.hid h2
      have HS2 : Hid (S < wr.heap.size) := Lib.hid (lt_of_block h2)
      have RE : Hid (Row wr 0 (.slice (some ⟨w.heap.size, 5, none⟩) 4 60) (2 ^ 2) (cut false (2 ^ 2) z 1)) := Lib.hid
        ⟨w.heap.size, 5, 60, rfl, Nat.zero_le _, by decide, fun i hi => by
          replace hi : i < 4 := hi
          have q := cell_of_heap h0 (cellsV_at 4 z (4 + i) (by omega))
          rw [show 5 + i = 1 + (4 + i) from (Nat.add_assoc 1 4 i)]; exact q⟩
      clear hb h0 h1 h2
      go_wp2_with (first
        | (go_at_call 119
           ((with_reducible refine (TrC.get (line_c 2 (by omega)) s hs _ (HZ.out 1 (by decide)) _ _ RE.out).mono ?_))
           rintro e w1 ⟨⟨v1, rfl, b1, o1, c1, rfl, hB1, hm1, hc1⟩, hb1⟩
           have K1 := Lib.hid hc1
           have HBn := Lib.hid (bnext HB.out hb1)
           have H0n := Lib.hid (below_heap' hb1 H0.out)
           have H1n := Lib.hid (below_heap' hb1 H1.out)
           have H2n := Lib.hid (below_heap' hb1 H2.out)
           have KN : Hid (S < b1) := Lib.hid (by have := HS2.out; omega)
           clear hc1 hb1 hB1 hm1))
      clear hc0
      go_loopw [8] (fun c wr => ∃ j : Nat, j ≤ 4 ∧ c = .int .i64 j ∧ w1.grownBy wr (some S) ∧ Wv wr S 4 (lMix (lin mulS qz s 2 false z) false (2 ^ 2) 1 j)) (fun c _ => (4 - intOf c).toNat)
      case atStart => exact ⟨0, by omega, rfl, grown_refl _ _, H2n.out⟩
      case round =>
        obtain ⟨j, hj, hcj, hg, h2⟩ := hrel
        have h0 : Wv wr w.heap.size 4 z := (hg.block _ (lt_of_block H0n.out) (by have := HES.out; intro e; injection e; omega)).trans H0n.out
        obtain rfl | rfl | rfl | rfl | rfl : j = 0 ∨ j = 1 ∨ j = 2 ∨ j = 3 ∨ j = 4 := by omega
        · replace hcj : _ = Value.int .i64 0 := hcj
          subst hcj
          have G := Lib.hid hg
          have H2 := Lib.hid h2
          have hc0 := cell_of_heap h0 (cellsV_zero 4 z)
          have f0 : ∀ x : Under wr, x.1.cell? ⟨w.heap.size, 0, none⟩ = some (.int .i64 4) := fun x => x.cell (cell_of_heap h0 (cellsV_zero 4 z))
          have f1 : ∀ x : Under wr, x.1.cell? ⟨b1, o1, none⟩ = some (cv (tr mulS qz s 2 (cut false (2 ^ 2) z 1) 0)) := fun x => x.cell (hg.cell (K1.out 0 (by decide)) (by have := KN.out; simp; omega))
          clear hg h0 h2
          go_wp2_with fail
          refine wp_region_quiet_tail (UC wr) 12 (by kernel_rfl) (by kernel_rfl) (UC.drew wr) ?_
          simp only [List.take_succ_cons, List.take_zero, List.drop_succ_cons, List.drop_zero]
          repeat (go_big_quiet_step (fail))
          refine wpQuiet_nil ?_
          rintro _ ⟨x, rfl⟩
          have hc2 := cell_of_heap (x.heap H2.out) (cellsV_at 4 _ 4 (by omega))
          have hf2 := frozen_of_row x.1 S 5 _ _ (x.heap H2.out)
          clear f0 f1 hc0
          go_wp2_with fail
          refine ⟨⟨1, by omega, rfl, grown_set (grown_under G.out x) _ _, ?_⟩, by simp [intOf]⟩
          have q := Wv.set (x.heap H2.out) 4 (by omega) (tr mulS qz s 2 (cut false (2 ^ 2) z 1) 0)
          have q2 := lMix_step (lin mulS qz s 2 false z) false 2 1 0 (by omega) (by omega) (by omega)
          rw [lin_pos _ _ _ _ _ _ _ _ (by omega) (by omega) (by omega)] at q2
          rw [← q2]; exact q
        · replace hcj : _ = Value.int .i64 1 := hcj
          subst hcj
          have G := Lib.hid hg
          have H2 := Lib.hid h2
          have hc0 := cell_of_heap h0 (cellsV_zero 4 z)
          have f0 : ∀ x : Under wr, x.1.cell? ⟨w.heap.size, 0, none⟩ = some (.int .i64 4) := fun x => x.cell (cell_of_heap h0 (cellsV_zero 4 z))
          have f1 : ∀ x : Under wr, x.1.cell? ⟨b1, o1 + 1, none⟩ = some (cv (tr mulS qz s 2 (cut false (2 ^ 2) z 1) 1)) := fun x => x.cell (hg.cell (K1.out 1 (by decide)) (by have := KN.out; simp; omega))
          clear hg h0 h2
          go_wp2_with fail
          refine wp_region_quiet_tail (UC wr) 12 (by kernel_rfl) (by kernel_rfl) (UC.drew wr) ?_
          simp only [List.take_succ_cons, List.take_zero, List.drop_succ_cons, List.drop_zero]
          repeat (go_big_quiet_step (fail))
          refine wpQuiet_nil ?_
          rintro _ ⟨x, rfl⟩
          have hc2 := cell_of_heap (x.heap H2.out) (cellsV_at 4 _ 5 (by omega))
          have hf2 := frozen_of_row x.1 S 6 _ _ (x.heap H2.out)
          clear f0 f1 hc0
          go_wp2_with fail
          refine ⟨⟨2, by omega, rfl, grown_set (grown_under G.out x) _ _, ?_⟩, by simp [intOf]⟩
          have q := Wv.set (x.heap H2.out) 5 (by omega) (tr mulS qz s 2 (cut false (2 ^ 2) z 1) 1)
          have q2 := lMix_step (lin mulS qz s 2 false z) false 2 1 1 (by omega) (by omega) (by omega)
          rw [lin_pos _ _ _ _ _ _ _ _ (by omega) (by omega) (by omega)] at q2
          rw [← q2]; exact q
        · replace hcj : _ = Value.int .i64 2 := hcj
          subst hcj
          have G := Lib.hid hg
          have H2 := Lib.hid h2
          have hc0 := cell_of_heap h0 (cellsV_zero 4 z)
          have f0 : ∀ x : Under wr, x.1.cell? ⟨w.heap.size, 0, none⟩ = some (.int .i64 4) := fun x => x.cell (cell_of_heap h0 (cellsV_zero 4 z))
          have f1 : ∀ x : Under wr, x.1.cell? ⟨b1, o1 + 2, none⟩ = some (cv (tr mulS qz s 2 (cut false (2 ^ 2) z 1) 2)) := fun x => x.cell (hg.cell (K1.out 2 (by decide)) (by have := KN.out; simp; omega))
          clear hg h0 h2
          go_wp2_with fail
          refine wp_region_quiet_tail (UC wr) 12 (by kernel_rfl) (by kernel_rfl) (UC.drew wr) ?_
          simp only [List.take_succ_cons, List.take_zero, List.drop_succ_cons, List.drop_zero]
          repeat (go_big_quiet_step (fail))
          refine wpQuiet_nil ?_
          rintro _ ⟨x, rfl⟩
          have hc2 := cell_of_heap (x.heap H2.out) (cellsV_at 4 _ 6 (by omega))
          have hf2 := frozen_of_row x.1 S 7 _ _ (x.heap H2.out)
          clear f0 f1 hc0
          go_wp2_with fail
          refine ⟨⟨3, by omega, rfl, grown_set (grown_under G.out x) _ _, ?_⟩, by simp [intOf]⟩
          have q := Wv.set (x.heap H2.out) 6 (by omega) (tr mulS qz s 2 (cut false (2 ^ 2) z 1) 2)
          have q2 := lMix_step (lin mulS qz s 2 false z) false 2 1 2 (by omega) (by omega) (by omega)
          rw [lin_pos _ _ _ _ _ _ _ _ (by omega) (by omega) (by omega)] at q2
          rw [← q2]; exact q
        · replace hcj : _ = Value.int .i64 3 := hcj
          subst hcj
          have G := Lib.hid hg
          have H2 := Lib.hid h2
          have hc0 := cell_of_heap h0 (cellsV_zero 4 z)
          have f0 : ∀ x : Under wr, x.1.cell? ⟨w.heap.size, 0, none⟩ = some (.int .i64 4) := fun x => x.cell (cell_of_heap h0 (cellsV_zero 4 z))
          have f1 : ∀ x : Under wr, x.1.cell? ⟨b1, o1 + 3, none⟩ = some (cv (tr mulS qz s 2 (cut false (2 ^ 2) z 1) 3)) := fun x => x.cell (hg.cell (K1.out 3 (by decide)) (by have := KN.out; simp; omega))
          clear hg h0 h2
          go_wp2_with fail
          refine wp_region_quiet_tail (UC wr) 12 (by kernel_rfl) (by kernel_rfl) (UC.drew wr) ?_
          simp only [List.take_succ_cons, List.take_zero, List.drop_succ_cons, List.drop_zero]
          repeat (go_big_quiet_step (fail))
          refine wpQuiet_nil ?_
          rintro _ ⟨x, rfl⟩
          have hc2 := cell_of_heap (x.heap H2.out) (cellsV_at 4 _ 7 (by omega))
          have hf2 := frozen_of_row x.1 S 8 _ _ (x.heap H2.out)
          clear f0 f1 hc0
          go_wp2_with fail
          refine ⟨⟨4, by omega, rfl, grown_set (grown_under G.out x) _ _, ?_⟩, by simp [intOf]⟩
          have q := Wv.set (x.heap H2.out) 7 (by omega) (tr mulS qz s 2 (cut false (2 ^ 2) z 1) 3)
          have q2 := lMix_step (lin mulS qz s 2 false z) false 2 1 3 (by omega) (by omega) (by omega)
          rw [lin_pos _ _ _ _ _ _ _ _ (by omega) (by omega) (by omega)] at q2
          rw [← q2]; exact q
        · replace hcj : _ = Value.int .i64 4 := hcj
          subst hcj
          have hc0 := cell_of_heap h0 (cellsV_zero 4 z)
          have G := Lib.hid hg
          have M2 := Lib.hid h2
          clear hg h0 h2
          go_wp2_with fail
          have k3 := grown_below G.out (B := w.heap.size) (by have := HES.out; intro k hk; cases hk; omega) (by have := HBn.out.size; omega)
          have k1 := lt_of_block H0n.out
          have k2 := lt_of_block H1n.out
          refine ⟨⟨2, by omega, rfl, HBn.out.trans k3, ?_, ?_, ?_⟩, by simp [intOf]⟩
          · exact (G.out.block _ k1 (by have := HES.out; intro e; injection e; omega)).trans H0n.out
          · exact (G.out.block _ k2 (by have := HES.out; intro e; injection e; omega)).trans H1n.out
          · rw [← lMix_line _ _ _ _ (by omega)]; exact M2.out
    · replace hca : _ = Value.int .i64 2 := hca
      subst hca
      have hc0 := cell_of_heap h0 (cellsV_zero 4 z)
      have HB := Lib.hid hb
      have H0 := Lib.hid h0
      have H1 := Lib.hid h1
      have H2 := Lib.hid h2
      have HS2 : Hid (S < wr.heap.size) := Lib.hid (lt_of_block h2)
      have RE : Hid (Row wr 0 (.slice (some ⟨w.heap.size, 9, none⟩) 4 56) (2 ^ 2) (cut false (2 ^ 2) z 2)) := Lib.hid
        ⟨w.heap.size, 9, 56, rfl, Nat.zero_le _, by decide, fun i hi => by
          replace hi : i < 4 := hi
          have q := cell_of_heap h0 (cellsV_at 4 z (8 + i) (by omega))
          rw [show 9 + i = 1 + (8 + i) from (Nat.add_assoc 1 8 i)]; exact q⟩
      clear hb h0 h1 h2
      go_wp2_with (first
        | (go_at_call 119
           ((with_reducible refine (TrC.get (line_c 2 (by omega)) s hs _ (HZ.out 2 (by decide)) _ _ RE.out).mono ?_))
           rintro e w1 ⟨⟨v1, rfl, b1, o1, c1, rfl, hB1, hm1, hc1⟩, hb1⟩
           have K1 := Lib.hid hc1
           have HBn := Lib.hid (bnext HB.out hb1)
           have H0n := Lib.hid (below_heap' hb1 H0.out)
           have H1n := Lib.hid (below_heap' hb1 H1.out)
           have H2n := Lib.hid (below_heap' hb1 H2.out)
           have KN : Hid (S < b1) := Lib.hid (by have := HS2.out; omega)
           clear hc1 hb1 hB1 hm1))
      clear hc0
      go_loopw [8] (fun c wr => ∃ j : Nat, j ≤ 4 ∧ c = .int .i64 j ∧ w1.grownBy wr (some S) ∧ Wv wr S 4 (lMix (lin mulS qz s 2 false z) false (2 ^ 2) 2 j)) (fun c _ => (4 - intOf c).toNat)
      case atStart => exact ⟨0, by omega, rfl, grown_refl _ _, H2n.out⟩
      case round =>
        obtain ⟨j, hj, hcj, hg, h2⟩ := hrel
        have h0 : Wv wr w.heap.size 4 z := (hg.block _ (lt_of_block H0n.out) (by have := HES.out; intro e; injection e; omega)).trans H0n.out
        obtain rfl | rfl | rfl | rfl | rfl : j = 0 ∨ j = 1 ∨ j = 2 ∨ j = 3 ∨ j = 4 := by omega
        · replace hcj : _ = Value.int .i64 0 := hcj
          subst hcj
          have G := Lib.hid hg
          have H2 := Lib.hid h2
          have hc0 := cell_of_heap h0 (cellsV_zero 4 z)
          have f0 : ∀ x : Under wr, x.1.cell? ⟨w.heap.size, 0, none⟩ = some (.int .i64 4) := fun x => x.cell (cell_of_heap h0 (cellsV_zero 4 z))
          have f1 : ∀ x : Under wr, x.1.cell? ⟨b1, o1, none⟩ = some (cv (tr mulS qz s 2 (cut false (2 ^ 2) z 2) 0)) := fun x => x.cell (hg.cell (K1.out 0 (by decide)) (by have := KN.out; simp; omega))
          clear hg h0 h2
          go_wp2_with fail
          refine wp_region_quiet_tail (UC wr) 12 (by kernel_rfl) (by kernel_rfl) (UC.drew wr) ?_
          simp only [List.take_succ_cons, List.take_zero, List.drop_succ_cons, List.drop_zero]
          repeat (go_big_quiet_step (fail))
          refine wpQuiet_nil ?_
          rintro _ ⟨x, rfl⟩
          have hc2 := cell_of_heap (x.heap H2.out) (cellsV_at 4 _ 8 (by omega))
          have hf2 := frozen_of_row x.1 S 9 _ _ (x.heap H2.out)
          clear f0 f1 hc0
          go_wp2_with fail
          refine ⟨⟨1, by omega, rfl, grown_set (grown_under G.out x) _ _, ?_⟩, by simp [intOf]⟩
          have q := Wv.set (x.heap H2.out) 8 (by omega) (tr mulS qz s 2 (cut false (2 ^ 2) z 2) 0)
          have q2 := lMix_step (lin mulS qz s 2 false z) false 2 2 0 (by omega) (by omega) (by omega)
          rw [lin_pos _ _ _ _ _ _ _ _ (by omega) (by omega) (by omega)] at q2
          rw [← q2]; exact q
        · replace hcj : _ = Value.int .i64 1 := hcj
          subst hcj
          have G := Lib.hid hg
          have H2 := Lib.hid h2
          have hc0 := cell_of_heap h0 (cellsV_zero 4 z)
          have f0 : ∀ x : Under wr, x.1.cell? ⟨w.heap.size, 0, none⟩ = some (.int .i64 4) := fun x => x.cell (cell_of_heap h0 (cellsV_zero 4 z))
          have f1 : ∀ x : Under wr, x.1.cell? ⟨b1, o1 + 1, none⟩ = some (cv (tr mulS qz s 2 (cut false (2 ^ 2) z 2) 1)) := fun x => x.cell (hg.cell (K1.out 1 (by decide)) (by have := KN.out; simp; omega))
          clear hg h0 h2
          go_wp2_with fail
          refine wp_region_quiet_tail (UC wr) 12 (by kernel_rfl) (by kernel_rfl) (UC.drew wr) ?_
          simp only [List.take_succ_cons, List.take_zero, List.drop_succ_cons, List.drop_zero]
          repeat (go_big_quiet_step (fail))
          refine wpQuiet_nil ?_
          rintro _ ⟨x, rfl⟩
          have hc2 := cell_of_heap (x.heap H2.out) (cellsV_at 4 _ 9 (by omega))
          have hf2 := frozen_of_row x.1 S 10 _ _ (x.heap H2.out)
          clear f0 f1 hc0
          go_wp2_with fail
          refine ⟨⟨2, by omega, rfl, grown_set (grown_under G.out x) _ _, ?_⟩, by simp [intOf]⟩
          have q := Wv.set (x.heap H2.out) 9 (by omega) (tr mulS qz s 2 (cut false (2 ^ 2) z 2) 1)
          have q2 := lMix_step (lin mulS qz s 2 false z) false 2 2 1 (by omega) (by omega) (by omega)
          rw [lin_pos _ _ _ _ _ _ _ _ (by omega) (by omega) (by omega)] at q2
          rw [← q2]; exact q
        · replace hcj : _ = Value.int .i64 2 := hcj
          subst hcj
          have G := Lib.hid hg
          have H2 := Lib.hid h2
          have hc0 := cell_of_heap h0 (cellsV_zero 4 z)
          have f0 : ∀ x : Under wr, x.1.cell? ⟨w.heap.size, 0, none⟩ = some (.int .i64 4) := fun x => x.cell (cell_of_heap h0 (cellsV_zero 4 z))
          have f1 : ∀ x : Under wr, x.1.cell? ⟨b1, o1 + 2, none⟩ = some (cv (tr mulS qz s 2 (cut false (2 ^ 2) z 2) 2)) := fun x => x.cell (hg.cell (K1.out 2 (by decide)) (by have := KN.out; simp; omega))
          clear hg h0 h2
          go_wp2_with fail
          refine wp_region_quiet_tail (UC wr) 12 (by kernel_rfl) (by kernel_rfl) (UC.drew wr) ?_
          simp only [List.take_succ_cons, List.take_zero, List.drop_succ_cons, List.drop_zero]
          repeat (go_big_quiet_step (fail))
          refine wpQuiet_nil ?_
          rintro _ ⟨x, rfl⟩
          have hc2 := cell_of_heap (x.heap H2.out) (cellsV_at 4 _ 10 (by omega))
          have hf2 := frozen_of_row x.1 S 11 _ _ (x.heap H2.out)
          clear f0 f1 hc0
          go_wp2_with fail
          refine ⟨⟨3, by omega, rfl, grown_set (grown_under G.out x) _ _, ?_⟩, by simp [intOf]⟩
          have q := Wv.set (x.heap H2.out) 10 (by omega) (tr mulS qz s 2 (cut false (2 ^ 2) z 2) 2)
          have q2 := lMix_step (lin mulS qz s 2 false z) false 2 2 2 (by omega) (by omega) (by omega)
          rw [lin_pos _ _ _ _ _ _ _ _ (by omega) (by omega) (by omega)] at q2
          rw [← q2]; exact q
        · replace hcj : _ = Value.int .i64 3 := hcj
          subst hcj
          have G := Lib.hid hg
          have H2 := Lib.hid h2
          have hc0 := cell_of_heap h0 (cellsV_zero 4 z)
          have f0 : ∀ x : Under wr, x.1.cell? ⟨w.heap.size, 0, none⟩ = some (.int .i64 4) := fun x => x.cell (cell_of_heap h0 (cellsV_zero 4 z))
          have f1 : ∀ x : Under wr, x.1.cell? ⟨b1, o1 + 3, none⟩ = some (cv (tr mulS qz s 2 (cut false (2 ^ 2) z 2) 3)) := fun x => x.cell (hg.cell (K1.out 3 (by decide)) (by have := KN.out; simp; omega))
          clear hg h0 h2
          go_wp2_with fail
          refine wp_region_quiet_tail (UC wr) 12 (by kernel_rfl) (by kernel_rfl) (UC.drew wr) ?_
          simp only [List.take_succ_cons, List.take_zero, List.drop_succ_cons, List.drop_zero]
          repeat (go_big_quiet_step (fail))
          refine wpQuiet_nil ?_
          rintro _ ⟨x, rfl⟩
          have hc2 := cell_of_heap (x.heap H2.out) (cellsV_at 4 _ 11 (by omega))
          have hf2 := frozen_of_row x.1 S 12 _ _ (x.heap H2.out)
          clear f0 f1 hc0
          go_wp2_with fail
          refine ⟨⟨4, by omega, rfl, grown_set (grown_under G.out x) _ _, ?_⟩, by simp [intOf]⟩
          have q := Wv.set (x.heap H2.out) 11 (by omega) (tr mulS qz s 2 (cut false (2 ^ 2) z 2) 3)
          have q2 := lMix_step (lin mulS qz s 2 false z) false 2 2 3 (by omega) (by omega) (by omega)
          rw [lin_pos _ _ _ _ _ _ _ _ (by omega) (by omega) (by omega)] at q2
          rw [← q2]; exact q
        · replace hcj : _ = Value.int .i64 4 := hcj
          subst hcj
          have hc0 := cell_of_heap h0 (cellsV_zero 4 z)
          have G := Lib.hid hg
          have M2 := Lib.hid h2
          clear hg h0 h2
          go_wp2_with fail
          have k3 := grown_below G.out (B := w.heap.size) (by have := HES.out; intro k hk; cases hk; omega) (by have := HBn.out.size; omega)
          have k1 := lt_of_block H0n.out
          have k2 := lt_of_block H1n.out
          refine ⟨⟨3, by omega, rfl, HBn.out.trans k3, ?_, ?_, ?_⟩, by simp [intOf]⟩
          · exact (G.out.block _ k1 (by have := HES.out; intro e; injection e; omega)).trans H0n.out
          · exact (G.out.block _ k2 (by have := HES.out; intro e; injection e; omega)).trans H1n.out
          · rw [← lMix_line _ _ _ _ (by omega)]; exact M2.out
    · replace hca : _ = Value.int .i64 3 := hca
      subst hca
      have hc0 := cell_of_heap h0 (cellsV_zero 4 z)
      have HB := Lib.hid hb
      have H0 := Lib.hid h0
      have H1 := Lib.hid h1
      have H2 := Lib.hid h2
      have HS2 : Hid (S < wr.heap.size) := Lib.hid (lt_of_block h2)
      have RE : Hid (Row wr 0 (.slice (some ⟨w.heap.size, 13, none⟩) 4 52) (2 ^ 2) (cut false (2 ^ 2) z 3)) := Lib.hid
        ⟨w.heap.size, 13, 52, rfl, Nat.zero_le _, by decide, fun i hi => by
          replace hi : i < 4 := hi
          have q := cell_of_heap h0 (cellsV_at 4 z (12 + i) (by omega))
          rw [show 13 + i = 1 + (12 + i) from (Nat.add_assoc 1 12 i)]; exact q⟩
      clear hb h0 h1 h2
      go_wp2_with (first
        | (go_at_call 119
           ((with_reducible refine (TrC.get (line_c 2 (by omega)) s hs _ (HZ.out 3 (by decide)) _ _ RE.out).mono ?_))
           rintro e w1 ⟨⟨v1, rfl, b1, o1, c1, rfl, hB1, hm1, hc1⟩, hb1⟩
           have K1 := Lib.hid hc1
           have HBn := Lib.hid (bnext HB.out hb1)
           have H0n := Lib.hid (below_heap' hb1 H0.out)
           have H1n := Lib.hid (below_heap' hb1 H1.out)
           have H2n := Lib.hid (below_heap' hb1 H2.out)
           have KN : Hid (S < b1) := Lib.hid (by have := HS2.out; omega)
           clear hc1 hb1 hB1 hm1))
      clear hc0
      go_loopw [8] (fun c wr => ∃ j : Nat, j ≤ 4 ∧ c = .int .i64 j ∧ w1.grownBy wr (some S) ∧ Wv wr S 4 (lMix (lin mulS qz s 2 false z) false (2 ^ 2) 3 j)) (fun c _ => (4 - intOf c).toNat)
      case atStart => exact ⟨0, by omega, rfl, grown_refl _ _, H2n.out⟩
      case round =>
        obtain ⟨j, hj, hcj, hg, h2⟩ := hrel
        have h0 : Wv wr w.heap.size 4 z := (hg.block _ (lt_of_block H0n.out) (by have := HES.out; intro e; injection e; omega)).trans H0n.out
        obtain rfl | rfl | rfl | rfl | rfl : j = 0 ∨ j = 1 ∨ j = 2 ∨ j = 3 ∨ j = 4 := by omega
        · replace hcj : _ = Value.int .i64 0 := hcj
          subst hcj
          have G := Lib.hid hg
          have H2 := Lib.hid h2
          have hc0 := cell_of_heap h0 (cellsV_zero 4 z)
          have f0 : ∀ x : Under wr, x.1.cell? ⟨w.heap.size, 0, none⟩ = some (.int .i64 4) := fun x => x.cell (cell_of_heap h0 (cellsV_zero 4 z))
          have f1 : ∀ x : Under wr, x.1.cell? ⟨b1, o1, none⟩ = some (cv (tr mulS qz s 2 (cut false (2 ^ 2) z 3) 0)) := fun x => x.cell (hg.cell (K1.out 0 (by decide)) (by have := KN.out; simp; omega))
          clear hg h0 h2
          go_wp2_with fail
          refine wp_region_quiet_tail (UC wr) 12 (by kernel_rfl) (by kernel_rfl) (UC.drew wr) ?_
          simp only [List.take_succ_cons, List.take_zero, List.drop_succ_cons, List.drop_zero]
          repeat (go_big_quiet_step (fail))
          refine wpQuiet_nil ?_
          rintro _ ⟨x, rfl⟩
          have hc2 := cell_of_heap (x.heap H2.out) (cellsV_at 4 _ 12 (by omega))
          have hf2 := frozen_of_row x.1 S 13 _ _ (x.heap H2.out)
          clear f0 f1 hc0
          go_wp2_with fail
          refine ⟨⟨1, by omega, rfl, grown_set (grown_under G.out x) _ _, ?_⟩, by simp [intOf]⟩
          have q := Wv.set (x.heap H2.out) 12 (by omega) (tr mulS qz s 2 (cut false (2 ^ 2) z 3) 0)
          have q2 := lMix_step (lin mulS qz s 2 false z) false 2 3 0 (by omega) (by omega) (by omega)
          rw [lin_pos _ _ _ _ _ _ _ _ (by omega) (by omega) (by omega)] at q2
          rw [← q2]; exact q
        · replace hcj : _ = Value.int .i64 1 := hcj
          subst hcj
          have G := Lib.hid hg
          have H2 := Lib.hid h2
          have hc0 := cell_of_heap h0 (cellsV_zero 4 z)
          have f0 : ∀ x : Under wr, x.1.cell? ⟨w.heap.size, 0, none⟩ = some (.int .i64 4) := fun x => x.cell (cell_of_heap h0 (cellsV_zero 4 z))
          have f1 : ∀ x : Under wr, x.1.cell? ⟨b1, o1 + 1, none⟩ = some (cv (tr mulS qz s 2 (cut false (2 ^ 2) z 3) 1)) := fun x => x.cell (hg.cell (K1.out 1 (by decide)) (by have := KN.out; simp; omega))
          clear hg h0 h2
          go_wp2_with fail
          refine wp_region_quiet_tail (UC wr) 12 (by kernel_rfl) (by kernel_rfl) (UC.drew wr) ?_
          simp only [List.take_succ_cons, List.take_zero, List.drop_succ_cons, List.drop_zero]
          repeat (go_big_quiet_step (fail))
          refine wpQuiet_nil ?_
          rintro _ ⟨x, rfl⟩
          have hc2 := cell_of_heap (x.heap H2.out) (cellsV_at 4 _ 13 (by omega))
          have hf2 := frozen_of_row x.1 S 14 _ _ (x.heap H2.out)
          clear f0 f1 hc0
          go_wp2_with fail
          refine ⟨⟨2, by omega, rfl, grown_set (grown_under G.out x) _ _, ?_⟩, by simp [intOf]⟩
          have q := Wv.set (x.heap H2.out) 13 (by omega) (tr mulS qz s 2 (cut false (2 ^ 2) z 3) 1)
          have q2 := lMix_step (lin mulS qz s 2 false z) false 2 3 1 (by omega) (by omega) (by omega)
          rw [lin_pos _ _ _ _ _ _ _ _ (by omega) (by omega) (by omega)] at q2
          rw [← q2]; exact q
        · replace hcj : _ = Value.int .i64 2 := hcj
          subst hcj
          have G := Lib.hid hg
          have H2 := Lib.hid h2
          have hc0 := cell_of_heap h0 (cellsV_zero 4 z)
          have f0 : ∀ x : Under wr, x.1.cell? ⟨w.heap.size, 0, none⟩ = some (.int .i64 4) := fun x => x.cell (cell_of_heap h0 (cellsV_zero 4 z))
          have f1 : ∀ x : Under wr, x.1.cell? ⟨b1, o1 + 2, none⟩ = some (cv (tr mulS qz s 2 (cut false (2 ^ 2) z 3) 2)) := fun x => x.cell (hg.cell (K1.out 2 (by decide)) (by have := KN.out; simp; omega))
          clear hg h0 h2
          go_wp2_with fail
          refine wp_region_quiet_tail (UC wr) 12 (by kernel_rfl) (by kernel_rfl) (UC.drew wr) ?_
          simp only [List.take_succ_cons, List.take_zero, List.drop_succ_cons, List.drop_zero]
          repeat (go_big_quiet_step (fail))
          refine wpQuiet_nil ?_
          rintro _ ⟨x, rfl⟩
          have hc2 := cell_of_heap (x.heap H2.out) (cellsV_at 4 _ 14 (by omega))
          have hf2 := frozen_of_row x.1 S 15 _ _ (x.heap H2.out)
          clear f0 f1 hc0
          go_wp2_with fail
          refine ⟨⟨3, by omega, rfl, grown_set (grown_under G.out x) _ _, ?_⟩, by simp [intOf]⟩
          have q := Wv.set (x.heap H2.out) 14 (by omega) (tr mulS qz s 2 (cut false (2 ^ 2) z 3) 2)
          have q2 := lMix_step (lin mulS qz s 2 false z) false 2 3 2 (by omega) (by omega) (by omega)
          rw [lin_pos _ _ _ _ _ _ _ _ (by omega) (by omega) (by omega)] at q2
          rw [← q2]; exact q
        · replace hcj : _ = Value.int .i64 3 := hcj
          subst hcj
          have G := Lib.hid hg
          have H2 := Lib.hid h2
          have hc0 := cell_of_heap h0 (cellsV_zero 4 z)
          have f0 : ∀ x : Under wr, x.1.cell? ⟨w.heap.size, 0, none⟩ = some (.int .i64 4) := fun x => x.cell (cell_of_heap h0 (cellsV_zero 4 z))
          have f1 : ∀ x : Under wr, x.1.cell? ⟨b1, o1 + 3, none⟩ = some (cv (tr mulS qz s 2 (cut false (2 ^ 2) z 3) 3)) := fun x => x.cell (hg.cell (K1.out 3 (by decide)) (by have := KN.out; simp; omega))
          clear hg h0 h2
          go_wp2_with fail
          refine wp_region_quiet_tail (UC wr) 12 (by kernel_rfl) (by kernel_rfl) (UC.drew wr) ?_
          simp only [List.take_succ_cons, List.take_zero, List.drop_succ_cons, List.drop_zero]
          repeat (go_big_quiet_step (fail))
          refine wpQuiet_nil ?_
          rintro _ ⟨x, rfl⟩
          have hc2 := cell_of_heap (x.heap H2.out) (cellsV_at 4 _ 15 (by omega))
          have hf2 := frozen_of_row x.1 S 16 _ _ (x.heap H2.out)
          clear f0 f1 hc0
          go_wp2_with fail
          refine ⟨⟨4, by omega, rfl, grown_set (grown_under G.out x) _ _, ?_⟩, by simp [intOf]⟩
          have q := Wv.set (x.heap H2.out) 15 (by omega) (tr mulS qz s 2 (cut false (2 ^ 2) z 3) 3)
          have q2 := lMix_step (lin mulS qz s 2 false z) false 2 3 3 (by omega) (by omega) (by omega)
          rw [lin_pos _ _ _ _ _ _ _ _ (by omega) (by omega) (by omega)] at q2
          rw [← q2]; exact q
        · replace hcj : _ = Value.int .i64 4 := hcj
          subst hcj
          have hc0 := cell_of_heap h0 (cellsV_zero 4 z)
          have G := Lib.hid hg
          have M2 := Lib.hid h2
          clear hg h0 h2
          go_wp2_with fail
          have k3 := grown_below G.out (B := w.heap.size) (by have := HES.out; intro k hk; cases hk; omega) (by have := HBn.out.size; omega)
          have k1 := lt_of_block H0n.out
          have k2 := lt_of_block H1n.out
          refine ⟨⟨4, by omega, rfl, HBn.out.trans k3, ?_, ?_, ?_⟩, by simp [intOf]⟩
          · exact (G.out.block _ k1 (by have := HES.out; intro e; injection e; omega)).trans H0n.out
          · exact (G.out.block _ k2 (by have := HES.out; intro e; injection e; omega)).trans H1n.out
          · rw [← lMix_line _ _ _ _ (by omega)]; exact M2.out
    · replace hca : _ = Value.int .i64 4 := hca
      subst hca
      have hc0 := cell_of_heap h0 (cellsV_zero 4 z)
      go_wp2_with (first
        | (refine ld31 rfl _ rfl S rfl h2 ?_)
        | (refine st31 rfl _ _ rfl (w.heap.size + 1) rfl rfl h1 ?_))
      rw [← lMix_all (lin mulS qz s 2 false z) false 2 (by omega)]
      exact bodyPost_ret (v := .agg (cellsV 4 _)) (results_cell_row rfl _ _ (w.heap.size + 1) 31 _ (0, 0) _ rfl (heap_setRow_same h1) Tryz.underlying31 rfl (size31c _ _)) rfl ⟨rfl, below_setRow hb (by omega) _⟩

end Go.Proofs.YtdpdjcehobjohaaGreatDoor
