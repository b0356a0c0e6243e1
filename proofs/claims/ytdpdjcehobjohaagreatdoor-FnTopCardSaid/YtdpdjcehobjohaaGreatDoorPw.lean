/- impl.plain of a wave and spec.l01PlusWave: all zeros are made positive. -/
import Derived.Test.YtdpdjcehobjohaaGreatDoorLw
namespace Go.Proofs.YtdpdjcehobjohaaGreatDoor
open Go Go.RowKit Go.BigFrame Fl

def plMix (z : Nat → CB) (j : Nat) : Nat → CB := fun i => if i < j then plC (z i) else z i
theorem plMix_zero (z : Nat → CB) : plMix z 0 = z := by funext i; simp [plMix]
theorem plMix_succ (z : Nat → CB) (j : Nat) : upd (plMix z j) j (plC (z j)) = plMix z (j + 1) := by
  funext i; unfold upd plMix; by_cases h : i = j
  · subst h; simp
  · by_cases h2 : i < j
    · simp [h, h2, show i < j + 1 by omega]
    · simp [h, h2, show ¬ i < j + 1 by omega]
theorem plMix_all (n : Int) (z : Nat → CB) : cellsV n (plMix z 64) = cellsV n (fun i => plC (z i)) := cellsV_ext fun i hi => by simp [plMix, hi]
theorem plMix_at (z : Nat → CB) (j : Nat) : plMix z j j = z j := by simp [plMix]

set_option maxRecDepth 100000 in
set_option maxHeartbeats 1000000 in
theorem plainW_c (n : Int) (z : Nat → CB) (w : World) :
    Calls Tryz.prog 26 #[.agg (cellsV n z)] w fun e w' => e = .returned (.agg (cellsV n (fun i => plC (z i)))) ∧ Below w.heap.size w w' := by
  go_enter Tryz.func26, Tryz.ntmps26
  go_wp2_with (refine wpList_load29 rfl _ rfl w.heap.size rfl (al_old _ (al_new (Obj.cells (cellsV n z) 31 (0, 0)) rfl)) ?_)
  go_loopw [43] (fun c wr => ∃ j : Nat, j ≤ 64 ∧ c = .int .i64 j ∧ Below w.heap.size w wr ∧ Wv wr w.heap.size n (plMix z j) ∧ Wv wr (w.heap.size + 1) 0 zW) (fun c _ => (64 - intOf c).toNat)
  case atStart => exact ⟨0, by omega, rfl, bal2 _ _ _, by rw [plMix_zero]; exact al_old _ (al_new _ rfl), al_new _ (by simp)⟩
  case round =>
    obtain ⟨j, hj, rfl, hb, h0, h1⟩ := hrel
    by_cases hlt : j < 64
    · have ix := fun w => run_index_row z j hlt w
      have HB := Lib.hid hb
      have H0 := Lib.hid h0
      have H1 := Lib.hid h1
      clear hb h0 h1
      go_wp2_with fail
      refine wp_region_quiet_tail (UC wr) 7 (by kernel_rfl) (by kernel_rfl) (UC.drew wr) ?_
      simp only [List.take_succ_cons, List.take_zero, List.drop_succ_cons, List.drop_zero]
      repeat (go_big_quiet_step (exact under_same (plainComplex_c _ _)))
      refine wpQuiet_nil ?_
      rintro _ ⟨x, rfl⟩
      have hc := cell_of_heap (x.heap H0.out) (cellsV_at n (plMix z j) j hlt)
      have hf := frozen_of_row x.1 w.heap.size (1 + j) _ _ (x.heap H0.out)
      go_wp2_with fail
      refine ⟨⟨j + 1, by omega, by go_num, (under_below HB.out x).setCell (by simp) _, ?_, ?_⟩, by simp [intOf]; omega⟩
      · have := heap_setCell_same _ _ (1 + j) _ _ (cv (plC (z j))) (x.heap H0.out)
        rw [cellsV_set _ _ _ _ hlt, plMix_succ] at this
        exact this
      · show Wv _ _ _ _
        unfold Wv
        rw [heap_setCell_other _ _ _ _ (by simp)]; exact x.heap H1.out
    · have hj64 := Lib.hid (show j = 64 by omega)
      go_wp2_with (first
        | (refine ld31 rfl _ rfl w.heap.size rfl h0 ?_)
        | (refine st31 rfl _ _ rfl (w.heap.size + 1) rfl rfl h1 ?_))
      refine bodyPost_ret (v := .agg (cellsV n (plMix z j))) (results_cell_row rfl _ _ (w.heap.size + 1) 31 _ (0, 0) _ rfl (heap_setRow_same h1) Tryz.underlying31 rfl (size31c _ _)) rfl ⟨by rw [hj64.out, plMix_all], below_setRow hb (by omega) _⟩

set_option maxHeartbeats 1000000 in
theorem l01PlusWave_c (n : Int) (z : Nat → CB) (w : World) :
    Calls Tryz.prog 29 #[.agg (cellsV n z)] w fun e w' => e = .returned (.agg (cellsV n (fun i => plC (z i)))) ∧ Below w.heap.size w w' := by
  go_enter Tryz.func29, Tryz.ntmps29
  go_wp2_with fail
  go_loopw [3] (fun c wr => ∃ j : Nat, j ≤ 64 ∧ c = .int .i64 j ∧ Below w.heap.size w wr ∧ Wv wr w.heap.size n (plMix z j) ∧ Wv wr (w.heap.size + 1) 0 zW) (fun c _ => (64 - intOf c).toNat)
  case atStart => exact ⟨0, by omega, rfl, bal2 _ _ _, by rw [plMix_zero]; exact al_old _ (al_new _ rfl), al_new _ (by simp)⟩
  case round =>
    obtain ⟨j, hj, rfl, hb, h0, h1⟩ := hrel
    by_cases hlt : j < 64
    · have HB := Lib.hid hb
      have H0 := Lib.hid h0
      have H1 := Lib.hid h1
      have hc := cell_of_heap h0 (cellsV_at n (plMix z j) j hlt)
      rw [plMix_at] at hc
      have hf := frozen_of_row wr w.heap.size (1 + j) _ _ h0
      clear hb h0 h1
      go_wp2_with (go_at_call 62; ((with_reducible refine (l01PlusComplex_c _ _).mono ?_)); rintro e w1 ⟨rfl, rfl⟩)
      refine ⟨⟨j + 1, by omega, by go_num, HB.out.setCell (by simp) _, ?_, ?_⟩, by simp [intOf]; omega⟩
      · have := heap_setCell_same _ _ (1 + j) _ _ (cv (plC (z j))) H0.out
        rw [cellsV_set _ _ _ _ hlt, plMix_succ] at this
        exact this
      · show Wv _ _ _ _
        unfold Wv
        rw [heap_setCell_other _ _ _ _ (by simp)]; exact H1.out
    · have hj64 := Lib.hid (show j = 64 by omega)
      go_wp2_with (first
        | (refine ld31 rfl _ rfl w.heap.size rfl h0 ?_)
        | (refine st31 rfl _ _ rfl (w.heap.size + 1) rfl rfl h1 ?_))
      refine bodyPost_ret (v := .agg (cellsV n (plMix z j))) (results_cell_row rfl _ _ (w.heap.size + 1) 31 _ (0, 0) _ rfl (heap_setRow_same h1) Tryz.underlying31 rfl (size31c _ _)) rfl ⟨by rw [hj64.out, plMix_all], below_setRow hb (by omega) _⟩

set_option maxHeartbeats 400000 in
theorem l01Empty_c (n : Int) (w : World) :
    Calls Tryz.prog 118 #[.int .i64 n] w fun e w' => e = .returned (.agg (cellsV n zW)) ∧ Below w.heap.size w w' := by
  go_enter Tryz.func118, Tryz.ntmps118
  go_wp2_with (refine st31 rfl _ _ rfl w.heap.size rfl rfl (al_new (Obj.cells (cellsV 0 zW) 31 (0, 0)) rfl) ?_)
  exact bodyPost_ret (v := .agg (cellsV n zW)) (results_cell_row rfl _ _ w.heap.size 31 _ (0, 0) _ rfl (heap_setRow_same (al_new (Obj.cells (cellsV 0 zW) 31 (0, 0)) rfl)) Tryz.underlying31 rfl (size31c _ _)) rfl ⟨rfl, below_setRow (bal1 _ _) (by omega) _⟩
end Go.Proofs.YtdpdjcehobjohaaGreatDoor
