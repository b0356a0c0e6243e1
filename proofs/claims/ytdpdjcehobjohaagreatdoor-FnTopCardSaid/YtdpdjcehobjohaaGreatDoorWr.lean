/- The public functions of impl and spec that transform, flip and let a wave travel, over those that they call. -/
import Derived.Test.YtdpdjcehobjohaaGreatDoorRb
namespace Go.Proofs.YtdpdjcehobjohaaGreatDoor
open Go Go.RowKit Go.BigFrame Fl
theorem isFn59 : IsFn 59 := fun _ _ => by kernel_rfl
theorem isFn63 : IsFn 63 := fun _ _ => by kernel_rfl
theorem isFn65 : IsFn 65 := fun _ _ => by kernel_rfl


set_option maxHeartbeats 400000 in
theorem signedTransform_c (n : Int) (hn : n = 1 ∨ n = 2 ∨ n = 4) (z y : Nat → CB) (hz : Fine n z) (hy : Fine n y) (w : World)
    (hf : ∀ w1, Calls Tryz.prog 59 #[.agg (cellsV n z)] w1 fun e w2 => e = .returned (.agg (cellsV n y)) ∧ Below w1.heap.size w1 w2) :
    Calls Tryz.prog 27 #[.agg (cellsV n z)] w fun e w' => e = .returned (.tuple #[.agg (cellsV n y), .int .i64 0]) ∧ Below w.heap.size w w' := by
  have HF := Lib.hid hf
  clear hf
  go_enter Tryz.func27, Tryz.ntmps27
  go_wp2_with (first
    | (refine ld31 rfl _ rfl w.heap.size rfl (al_old _ (al_new (Obj.cells (cellsV n z) 31 (0, 0)) rfl)) ?_)
    | (go_at_call 58
       ((with_reducible refine (changeWave_c n hn z y hz hy 59 isFn59 _ (fun w1 _ => HF.out w1)).mono ?_))
       rintro e w1 ⟨rfl, hb1⟩
       have H1 := Lib.hid (below_heap' hb1 (al_new (Obj.cells (cellsV 0 zW) 31 (0, 0)) (by simp : w.heap.size + 1 = _)))
       have HB := Lib.hid (bnext (bal2 w _ _) hb1)
       clear hb1)
    | (refine st31 rfl _ _ rfl (w.heap.size + 1) rfl rfl H1.out ?_))
  exact bodyPost_ret (results_wave rfl _ _ (w.heap.size + 1) n y _ rfl rfl (heap_setRow_same H1.out)) rfl ⟨rfl, below_setRow HB.out (by omega) _⟩


set_option maxHeartbeats 400000 in
theorem signedBack_c (n : Int) (hn : n = 1 ∨ n = 2 ∨ n = 4) (z y : Nat → CB) (hz : Fine n z) (hy : Fine n y) (w : World)
    (hf : ∀ w1, Calls Tryz.prog 63 #[.agg (cellsV n z)] w1 fun e w2 => e = .returned (.agg (cellsV n y)) ∧ Below w1.heap.size w1 w2) :
    Calls Tryz.prog 30 #[.agg (cellsV n z)] w fun e w' => e = .returned (.tuple #[.agg (cellsV n y), .int .i64 0]) ∧ Below w.heap.size w w' := by
  have HF := Lib.hid hf
  clear hf
  go_enter Tryz.func30, Tryz.ntmps30
  go_wp2_with (first
    | (refine ld31 rfl _ rfl w.heap.size rfl (al_old _ (al_new (Obj.cells (cellsV n z) 31 (0, 0)) rfl)) ?_)
    | (go_at_call 58
       ((with_reducible refine (changeWave_c n hn z y hz hy 63 isFn63 _ (fun w1 _ => HF.out w1)).mono ?_))
       rintro e w1 ⟨rfl, hb1⟩
       have H1 := Lib.hid (below_heap' hb1 (al_new (Obj.cells (cellsV 0 zW) 31 (0, 0)) (by simp : w.heap.size + 1 = _)))
       have HB := Lib.hid (bnext (bal2 w _ _) hb1)
       clear hb1)
    | (refine st31 rfl _ _ rfl (w.heap.size + 1) rfl rfl H1.out ?_))
  exact bodyPost_ret (results_wave rfl _ _ (w.heap.size + 1) n y _ rfl rfl (heap_setRow_same H1.out)) rfl ⟨rfl, below_setRow HB.out (by omega) _⟩


set_option maxHeartbeats 400000 in
theorem signedFlip_c (n : Int) (hn : n = 1 ∨ n = 2 ∨ n = 4) (z y : Nat → CB) (hz : Fine n z) (hy : Fine n y) (w : World)
    (hf : ∀ w1, Calls Tryz.prog 65 #[.agg (cellsV n z)] w1 fun e w2 => e = .returned (.agg (cellsV n y)) ∧ Below w1.heap.size w1 w2) :
    Calls Tryz.prog 32 #[.agg (cellsV n z)] w fun e w' => e = .returned (.tuple #[.agg (cellsV n y), .int .i64 0]) ∧ Below w.heap.size w w' := by
  have HF := Lib.hid hf
  clear hf
  go_enter Tryz.func32, Tryz.ntmps32
  go_wp2_with (first
    | (refine ld31 rfl _ rfl w.heap.size rfl (al_old _ (al_new (Obj.cells (cellsV n z) 31 (0, 0)) rfl)) ?_)
    | (go_at_call 58
       ((with_reducible refine (changeWave_c n hn z y hz hy 65 isFn65 _ (fun w1 _ => HF.out w1)).mono ?_))
       rintro e w1 ⟨rfl, hb1⟩
       have H1 := Lib.hid (below_heap' hb1 (al_new (Obj.cells (cellsV 0 zW) 31 (0, 0)) (by simp : w.heap.size + 1 = _)))
       have HB := Lib.hid (bnext (bal2 w _ _) hb1)
       clear hb1)
    | (refine st31 rfl _ _ rfl (w.heap.size + 1) rfl rfl H1.out ?_))
  exact bodyPost_ret (results_wave rfl _ _ (w.heap.size + 1) n y _ rfl rfl (heap_setRow_same H1.out)) rfl ⟨rfl, below_setRow HB.out (by omega) _⟩


set_option maxHeartbeats 400000 in
theorem transformW_c (n : Int) (z y : Nat → CB) (w : World)
    (hf : ∀ w1, Calls Tryz.prog 27 #[.agg (cellsV n z)] w1 fun e w2 => e = .returned (.tuple #[.agg (cellsV n y), .int .i64 0]) ∧ Below w1.heap.size w1 w2) :
    Calls Tryz.prog 11 #[.agg (cellsV n z)] w fun e w' => e = .returned (.tuple #[.agg (cellsV n fun i => plC (y i)), .int .i64 0]) ∧ Below w.heap.size w w' := by
  have HF := Lib.hid hf
  clear hf
  go_enter Tryz.func11, Tryz.ntmps11
  go_wp2_with (first
    | (refine ld31 rfl _ rfl w.heap.size rfl (al_old _ (al_new (Obj.cells (cellsV n z) 31 (0, 0)) rfl)) ?_)
    | (go_at_call 27
       ((with_reducible refine (HF.out _).mono ?_))
       rintro e w1 ⟨rfl, hb1⟩
       have H1 := Lib.hid (below_heap' hb1 (al_new (Obj.cells (cellsV 0 zW) 31 (0, 0)) (by simp : w.heap.size + 1 = _)))
       have HB := Lib.hid (bnext (bal2 w _ _) hb1)
       have HS : Hid (w.heap.size + 1 < w1.heap.size) := Lib.hid (lt_of_block H1.out)
       have H2 : Hid (Wv ((w1.alloc (Obj.cells (cellsV 0 zW) 31 (0, 0))).setRow w1.heap.size (cellsV n y)) w1.heap.size n y) := Lib.hid (heap_setRow_same (al_new (Obj.cells (cellsV 0 zW) 31 (0, 0)) rfl))
       have H3 : Hid (Wv ((w1.alloc (Obj.cells (cellsV 0 zW) 31 (0, 0))).setRow w1.heap.size (cellsV n y)) (w.heap.size + 1) 0 zW) := Lib.hid ((setRow_other _ _ _ _ (by have := HS.out; omega)).trans (al_old _ H1.out))
       have HB2 : Hid (Below w.heap.size w ((w1.alloc (Obj.cells (cellsV 0 zW) 31 (0, 0))).setRow w1.heap.size (cellsV n y))) := Lib.hid (below_setRow (bnext HB.out (bal1 w1 _)) (by have := HS.out; omega) _)
       clear hb1)
    | (refine st31 rfl _ _ rfl w1.heap.size rfl rfl (al_new (Obj.cells (cellsV 0 zW) 31 (0, 0)) rfl) ?_)
    | (refine ld31 rfl _ rfl w1.heap.size rfl H2.out ?_)
    | (go_at_call 26
       ((with_reducible refine (plainW_c n y _).mono ?_))
       rintro e w2 ⟨rfl, hb2⟩
       have H4 := Lib.hid (below_heap' hb2 H3.out)
       have HB3 := Lib.hid (bnext HB2.out hb2)
       clear hb2)
    | (refine st31 rfl _ _ rfl (w.heap.size + 1) rfl rfl H4.out ?_))
  exact bodyPost_ret (results_wave rfl _ _ (w.heap.size + 1) n _ _ rfl rfl (heap_setRow_same H4.out)) rfl ⟨rfl, below_setRow HB3.out (by omega) _⟩


set_option maxHeartbeats 400000 in
theorem backW_c (n : Int) (z y : Nat → CB) (w : World)
    (hf : ∀ w1, Calls Tryz.prog 30 #[.agg (cellsV n z)] w1 fun e w2 => e = .returned (.tuple #[.agg (cellsV n y), .int .i64 0]) ∧ Below w1.heap.size w1 w2) :
    Calls Tryz.prog 13 #[.agg (cellsV n z)] w fun e w' => e = .returned (.tuple #[.agg (cellsV n fun i => plC (y i)), .int .i64 0]) ∧ Below w.heap.size w w' := by
  have HF := Lib.hid hf
  clear hf
  go_enter Tryz.func13, Tryz.ntmps13
  go_wp2_with (first
    | (refine ld31 rfl _ rfl w.heap.size rfl (al_old _ (al_new (Obj.cells (cellsV n z) 31 (0, 0)) rfl)) ?_)
    | (go_at_call 30
       ((with_reducible refine (HF.out _).mono ?_))
       rintro e w1 ⟨rfl, hb1⟩
       have H1 := Lib.hid (below_heap' hb1 (al_new (Obj.cells (cellsV 0 zW) 31 (0, 0)) (by simp : w.heap.size + 1 = _)))
       have HB := Lib.hid (bnext (bal2 w _ _) hb1)
       have HS : Hid (w.heap.size + 1 < w1.heap.size) := Lib.hid (lt_of_block H1.out)
       have H2 : Hid (Wv ((w1.alloc (Obj.cells (cellsV 0 zW) 31 (0, 0))).setRow w1.heap.size (cellsV n y)) w1.heap.size n y) := Lib.hid (heap_setRow_same (al_new (Obj.cells (cellsV 0 zW) 31 (0, 0)) rfl))
       have H3 : Hid (Wv ((w1.alloc (Obj.cells (cellsV 0 zW) 31 (0, 0))).setRow w1.heap.size (cellsV n y)) (w.heap.size + 1) 0 zW) := Lib.hid ((setRow_other _ _ _ _ (by have := HS.out; omega)).trans (al_old _ H1.out))
       have HB2 : Hid (Below w.heap.size w ((w1.alloc (Obj.cells (cellsV 0 zW) 31 (0, 0))).setRow w1.heap.size (cellsV n y))) := Lib.hid (below_setRow (bnext HB.out (bal1 w1 _)) (by have := HS.out; omega) _)
       clear hb1)
    | (refine st31 rfl _ _ rfl w1.heap.size rfl rfl (al_new (Obj.cells (cellsV 0 zW) 31 (0, 0)) rfl) ?_)
    | (refine ld31 rfl _ rfl w1.heap.size rfl H2.out ?_)
    | (go_at_call 26
       ((with_reducible refine (plainW_c n y _).mono ?_))
       rintro e w2 ⟨rfl, hb2⟩
       have H4 := Lib.hid (below_heap' hb2 H3.out)
       have HB3 := Lib.hid (bnext HB2.out hb2)
       clear hb2)
    | (refine st31 rfl _ _ rfl (w.heap.size + 1) rfl rfl H4.out ?_))
  exact bodyPost_ret (results_wave rfl _ _ (w.heap.size + 1) n _ _ rfl rfl (heap_setRow_same H4.out)) rfl ⟨rfl, below_setRow HB3.out (by omega) _⟩


set_option maxHeartbeats 400000 in
theorem flipW_c (n : Int) (z y : Nat → CB) (w : World)
    (hf : ∀ w1, Calls Tryz.prog 32 #[.agg (cellsV n z)] w1 fun e w2 => e = .returned (.tuple #[.agg (cellsV n y), .int .i64 0]) ∧ Below w1.heap.size w1 w2) :
    Calls Tryz.prog 16 #[.agg (cellsV n z)] w fun e w' => e = .returned (.tuple #[.agg (cellsV n fun i => plC (y i)), .int .i64 0]) ∧ Below w.heap.size w w' := by
  have HF := Lib.hid hf
  clear hf
  go_enter Tryz.func16, Tryz.ntmps16
  go_wp2_with (first
    | (refine ld31 rfl _ rfl w.heap.size rfl (al_old _ (al_new (Obj.cells (cellsV n z) 31 (0, 0)) rfl)) ?_)
    | (go_at_call 32
       ((with_reducible refine (HF.out _).mono ?_))
       rintro e w1 ⟨rfl, hb1⟩
       have H1 := Lib.hid (below_heap' hb1 (al_new (Obj.cells (cellsV 0 zW) 31 (0, 0)) (by simp : w.heap.size + 1 = _)))
       have HB := Lib.hid (bnext (bal2 w _ _) hb1)
       have HS : Hid (w.heap.size + 1 < w1.heap.size) := Lib.hid (lt_of_block H1.out)
       have H2 : Hid (Wv ((w1.alloc (Obj.cells (cellsV 0 zW) 31 (0, 0))).setRow w1.heap.size (cellsV n y)) w1.heap.size n y) := Lib.hid (heap_setRow_same (al_new (Obj.cells (cellsV 0 zW) 31 (0, 0)) rfl))
       have H3 : Hid (Wv ((w1.alloc (Obj.cells (cellsV 0 zW) 31 (0, 0))).setRow w1.heap.size (cellsV n y)) (w.heap.size + 1) 0 zW) := Lib.hid ((setRow_other _ _ _ _ (by have := HS.out; omega)).trans (al_old _ H1.out))
       have HB2 : Hid (Below w.heap.size w ((w1.alloc (Obj.cells (cellsV 0 zW) 31 (0, 0))).setRow w1.heap.size (cellsV n y))) := Lib.hid (below_setRow (bnext HB.out (bal1 w1 _)) (by have := HS.out; omega) _)
       clear hb1)
    | (refine st31 rfl _ _ rfl w1.heap.size rfl rfl (al_new (Obj.cells (cellsV 0 zW) 31 (0, 0)) rfl) ?_)
    | (refine ld31 rfl _ rfl w1.heap.size rfl H2.out ?_)
    | (go_at_call 26
       ((with_reducible refine (plainW_c n y _).mono ?_))
       rintro e w2 ⟨rfl, hb2⟩
       have H4 := Lib.hid (below_heap' hb2 H3.out)
       have HB3 := Lib.hid (bnext HB2.out hb2)
       clear hb2)
    | (refine st31 rfl _ _ rfl (w.heap.size + 1) rfl rfl H4.out ?_))
  exact bodyPost_ret (results_wave rfl _ _ (w.heap.size + 1) n _ _ rfl rfl (heap_setRow_same H4.out)) rfl ⟨rfl, below_setRow HB3.out (by omega) _⟩


set_option maxHeartbeats 400000 in
theorem sTransformW_c (n : Int) (z y : Nat → CB) (w : World)
    (hf : ∀ w1, Calls Tryz.prog 28 #[.agg (cellsV n z)] w1 fun e w2 => e = .returned (.tuple #[.agg (cellsV n y), .int .i64 0]) ∧ Below w1.heap.size w1 w2) :
    Calls Tryz.prog 12 #[.agg (cellsV n z)] w fun e w' => e = .returned (.tuple #[.agg (cellsV n fun i => plC (y i)), .int .i64 0]) ∧ Below w.heap.size w w' := by
  have HF := Lib.hid hf
  clear hf
  go_enter Tryz.func12, Tryz.ntmps12
  go_wp2_with (first
    | (refine ld31 rfl _ rfl w.heap.size rfl (al_old _ (al_new (Obj.cells (cellsV n z) 31 (0, 0)) rfl)) ?_)
    | (go_at_call 28
       ((with_reducible refine (HF.out _).mono ?_))
       rintro e w1 ⟨rfl, hb1⟩
       have H1 := Lib.hid (below_heap' hb1 (al_new (Obj.cells (cellsV 0 zW) 31 (0, 0)) (by simp : w.heap.size + 1 = _)))
       have HB := Lib.hid (bnext (bal2 w _ _) hb1)
       have HS : Hid (w.heap.size + 1 < w1.heap.size) := Lib.hid (lt_of_block H1.out)
       have H2 : Hid (Wv ((w1.alloc (Obj.cells (cellsV 0 zW) 31 (0, 0))).setRow w1.heap.size (cellsV n y)) w1.heap.size n y) := Lib.hid (heap_setRow_same (al_new (Obj.cells (cellsV 0 zW) 31 (0, 0)) rfl))
       have H3 : Hid (Wv ((w1.alloc (Obj.cells (cellsV 0 zW) 31 (0, 0))).setRow w1.heap.size (cellsV n y)) (w.heap.size + 1) 0 zW) := Lib.hid ((setRow_other _ _ _ _ (by have := HS.out; omega)).trans (al_old _ H1.out))
       have HB2 : Hid (Below w.heap.size w ((w1.alloc (Obj.cells (cellsV 0 zW) 31 (0, 0))).setRow w1.heap.size (cellsV n y))) := Lib.hid (below_setRow (bnext HB.out (bal1 w1 _)) (by have := HS.out; omega) _)
       clear hb1)
    | (refine st31 rfl _ _ rfl w1.heap.size rfl rfl (al_new (Obj.cells (cellsV 0 zW) 31 (0, 0)) rfl) ?_)
    | (refine ld31 rfl _ rfl w1.heap.size rfl H2.out ?_)
    | (go_at_call 29
       ((with_reducible refine (l01PlusWave_c n y _).mono ?_))
       rintro e w2 ⟨rfl, hb2⟩
       have H4 := Lib.hid (below_heap' hb2 H3.out)
       have HB3 := Lib.hid (bnext HB2.out hb2)
       clear hb2)
    | (refine st31 rfl _ _ rfl (w.heap.size + 1) rfl rfl H4.out ?_))
  exact bodyPost_ret (results_wave rfl _ _ (w.heap.size + 1) n _ _ rfl rfl (heap_setRow_same H4.out)) rfl ⟨rfl, below_setRow HB3.out (by omega) _⟩


set_option maxHeartbeats 400000 in
theorem travelW_c (n : Int) (z y : Nat → CB) (d : Int) (w : World)
    (hf : ∀ w1, Calls Tryz.prog 31 #[.agg (cellsV n z), .int .i64 d] w1 fun e w2 => e = .returned (.tuple #[.agg (cellsV n y), .int .i64 0]) ∧ Below w1.heap.size w1 w2) :
    Calls Tryz.prog 15 #[.agg (cellsV n z), .int .i64 d] w fun e w' => e = .returned (.tuple #[.agg (cellsV n fun i => plC (y i)), .int .i64 0]) ∧ Below w.heap.size w w' := by
  have HF := Lib.hid hf
  clear hf
  go_enter Tryz.func15, Tryz.ntmps15
  go_wp2_with (first
    | (refine ld31 rfl _ rfl w.heap.size rfl (al_old _ (al_new (Obj.cells (cellsV n z) 31 (0, 0)) rfl)) ?_)
    | (go_at_call 31
       ((with_reducible refine (HF.out _).mono ?_))
       rintro e w1 ⟨rfl, hb1⟩
       have H1 := Lib.hid (below_heap' hb1 (al_new (Obj.cells (cellsV 0 zW) 31 (0, 0)) (by simp : w.heap.size + 1 = _)))
       have HB := Lib.hid (bnext (bal2 w _ _) hb1)
       have HS : Hid (w.heap.size + 1 < w1.heap.size) := Lib.hid (lt_of_block H1.out)
       have H2 : Hid (Wv ((w1.alloc (Obj.cells (cellsV 0 zW) 31 (0, 0))).setRow w1.heap.size (cellsV n y)) w1.heap.size n y) := Lib.hid (heap_setRow_same (al_new (Obj.cells (cellsV 0 zW) 31 (0, 0)) rfl))
       have H3 : Hid (Wv ((w1.alloc (Obj.cells (cellsV 0 zW) 31 (0, 0))).setRow w1.heap.size (cellsV n y)) (w.heap.size + 1) 0 zW) := Lib.hid ((setRow_other _ _ _ _ (by have := HS.out; omega)).trans (al_old _ H1.out))
       have HB2 : Hid (Below w.heap.size w ((w1.alloc (Obj.cells (cellsV 0 zW) 31 (0, 0))).setRow w1.heap.size (cellsV n y))) := Lib.hid (below_setRow (bnext HB.out (bal1 w1 _)) (by have := HS.out; omega) _)
       clear hb1)
    | (refine st31 rfl _ _ rfl w1.heap.size rfl rfl (al_new (Obj.cells (cellsV 0 zW) 31 (0, 0)) rfl) ?_)
    | (refine ld31 rfl _ rfl w1.heap.size rfl H2.out ?_)
    | (go_at_call 26
       ((with_reducible refine (plainW_c n y _).mono ?_))
       rintro e w2 ⟨rfl, hb2⟩
       have H4 := Lib.hid (below_heap' hb2 H3.out)
       have HB3 := Lib.hid (bnext HB2.out hb2)
       clear hb2)
    | (refine st31 rfl _ _ rfl (w.heap.size + 1) rfl rfl H4.out ?_))
  exact bodyPost_ret (results_wave rfl _ _ (w.heap.size + 1) n _ _ rfl rfl (heap_setRow_same H4.out)) rfl ⟨rfl, below_setRow HB3.out (by omega) _⟩


set_option maxHeartbeats 400000 in
theorem travelSteps_c (n : Int) (z y : Nat → CB) (d k : Int) (w : World)
    (hf : ∀ w1, Calls Tryz.prog 96 #[.agg (cellsV n z), .int .i64 d, .int .i64 k] w1 fun e w2 => e = .returned (.tuple #[.agg (cellsV n y), .int .i64 0]) ∧ Below w1.heap.size w1 w2) :
    Calls Tryz.prog 64 #[.agg (cellsV n z), .int .i64 d, .int .i64 k] w fun e w' => e = .returned (.tuple #[.agg (cellsV n fun i => plC (y i)), .int .i64 0]) ∧ Below w.heap.size w w' := by
  have HF := Lib.hid hf
  clear hf
  go_enter Tryz.func64, Tryz.ntmps64
  go_wp2_with (first
    | (refine ld31 rfl _ rfl w.heap.size rfl (al_old _ (al_new (Obj.cells (cellsV n z) 31 (0, 0)) rfl)) ?_)
    | (go_at_call 96
       ((with_reducible refine (HF.out _).mono ?_))
       rintro e w1 ⟨rfl, hb1⟩
       have H1 := Lib.hid (below_heap' hb1 (al_new (Obj.cells (cellsV 0 zW) 31 (0, 0)) (by simp : w.heap.size + 1 = _)))
       have HB := Lib.hid (bnext (bal2 w _ _) hb1)
       have HS : Hid (w.heap.size + 1 < w1.heap.size) := Lib.hid (lt_of_block H1.out)
       have H2 : Hid (Wv ((w1.alloc (Obj.cells (cellsV 0 zW) 31 (0, 0))).setRow w1.heap.size (cellsV n y)) w1.heap.size n y) := Lib.hid (heap_setRow_same (al_new (Obj.cells (cellsV 0 zW) 31 (0, 0)) rfl))
       have H3 : Hid (Wv ((w1.alloc (Obj.cells (cellsV 0 zW) 31 (0, 0))).setRow w1.heap.size (cellsV n y)) (w.heap.size + 1) 0 zW) := Lib.hid ((setRow_other _ _ _ _ (by have := HS.out; omega)).trans (al_old _ H1.out))
       have HB2 : Hid (Below w.heap.size w ((w1.alloc (Obj.cells (cellsV 0 zW) 31 (0, 0))).setRow w1.heap.size (cellsV n y))) := Lib.hid (below_setRow (bnext HB.out (bal1 w1 _)) (by have := HS.out; omega) _)
       clear hb1)
    | (refine st31 rfl _ _ rfl w1.heap.size rfl rfl (al_new (Obj.cells (cellsV 0 zW) 31 (0, 0)) rfl) ?_)
    | (refine ld31 rfl _ rfl w1.heap.size rfl H2.out ?_)
    | (go_at_call 26
       ((with_reducible refine (plainW_c n y _).mono ?_))
       rintro e w2 ⟨rfl, hb2⟩
       have H4 := Lib.hid (below_heap' hb2 H3.out)
       have HB3 := Lib.hid (bnext HB2.out hb2)
       clear hb2)
    | (refine st31 rfl _ _ rfl (w.heap.size + 1) rfl rfl H4.out ?_))
  exact bodyPost_ret (results_wave rfl _ _ (w.heap.size + 1) n _ _ rfl rfl (heap_setRow_same H4.out)) rfl ⟨rfl, below_setRow HB3.out (by omega) _⟩

/-- load of a whole wave, in a region that draws its order -/
theorem quiet_ld31 {C : World → Prop} {o : Oper} {a : Act} {K : Act → Prop} (x : Operand) (ho : o.op = .load 31 x)
    (b : Nat) (hx : a.eval x = .pointer (some ⟨b, 0, none⟩)) {n : Int} {z : Nat → CB} (H : ∀ w, C w → Wv w b n z)
    (h : K (a.put o.dst (.agg (cellsV n z)))) : o.quiet Tryz.prog a C K := by
  refine ⟨_, fun w hw => ?_, h⟩
  unfold Oper.quietAt execOp
  simp only [ho, hx, Instr.loadAt, Instr.sureAddr, Sem.run_bind, Sem.run_pure, Result.andThen_ok, run_loadVar_row w b 31 31 _ (0, 0) _ (H w hw) Tryz.underlying31 rfl (size31c _ _)]
  exact ⟨rfl, rfl⟩

set_option maxRecDepth 100000 in
set_option maxHeartbeats 1000000 in
theorem travel_c (n : Int) (hn : n = 1 ∨ n = 2 ∨ n = 4) (q : Int) (hq : -4 ≤ q ∧ q ≤ 4) (z u y : Nat → CB) (w : World)
    (hf : ∀ w1, Calls Tryz.prog 59 #[.agg (cellsV n z)] w1 fun e w2 => e = .returned (.agg (cellsV n u)) ∧ Below w1.heap.size w1 w2)
    (hm : ∀ i : Nat, (i : Int) < n * n → MulOk (u i) (part (fun i => qp (trQ n q i)) (n * n).toNat i))
    (hk : ∀ w1, Calls Tryz.prog 63 #[.agg (cellsV n (part (fun i => mulC (u i) (part (fun i => qp (trQ n q i)) (n * n).toNat i)) (n * n).toNat))] w1 fun e w2 => e = .returned (.agg (cellsV n y)) ∧ Below w1.heap.size w1 w2) :
    Calls Tryz.prog 123 #[.agg (cellsV n z), .int .i64 (16 * q)] w fun e w' => e = .returned (.agg (cellsV n y)) ∧ Below w.heap.size w w' := by
  have HF := Lib.hid hf
  have HK := Lib.hid hk
  have BC : Hid (∀ w1, Calls Tryz.prog 151 #[.agg (cellsV n u), .agg (cellsV n (part (fun i => qp (trQ n q i)) (n * n).toNat)), .func (.func 143) #[] #[]] w1 fun e w2 =>
      e = .returned (.agg (cellsV n (part (fun i => mulC (u i) (part (fun i => qp (trQ n q i)) (n * n).toNat i)) (n * n).toNat))) ∧ Below w1.heap.size w1 w2) := Lib.hid fun w1 =>
    both_c n n hn u _ (fun i => mulC (u i) (part (fun i => qp (trQ n q i)) (n * n).toNat i)) 143 #[] w1 isFn143 fun i hi w2 hb => (product_c _ _ w2 (hm i hi)).mono fun _ _ ⟨h1, h2⟩ => ⟨h1, h2 ▸ Below.refl _ _⟩
  clear hf hk hm
  go_enter Tryz.func123, Tryz.ntmps123
  go_wp2_with fail
  refine wp_region_quiet_tail (UC _) 8 (by kernel_rfl) (by kernel_rfl) (UC.drew _) ?_
  simp only [List.take_succ_cons, List.take_zero, List.drop_succ_cons, List.drop_zero]
  have h0 : ∀ x : Under ((w.alloc (Obj.cells (cellsV n z) 31 (0, 0))).alloc (Obj.cells (cellsV 0 zW) 31 (0, 0))), Wv x.1 w.heap.size n z := fun x => x.heap (al_old _ (al_new _ rfl))
  have c0 : ∀ x : Under ((w.alloc (Obj.cells (cellsV n z) 31 (0, 0))).alloc (Obj.cells (cellsV 0 zW) 31 (0, 0))), x.1.cell? ⟨w.heap.size, 0, none⟩ = some (.int .i64 n) := fun x => cell_of_heap (h0 x) (cellsV_zero n z)
  go_big_quiet_want
  refine quiet_ld31 _ rfl w.heap.size rfl (n := n) (z := z) ?_ ?_
  · rintro _ ⟨x, rfl⟩; exact h0 x
  simp only [Act.put, List.setIfInBounds_toArray, List.set_cons_succ, List.set_cons_zero]
  go_big_quiet_on
  go_big_quiet_step (exact under_call (HF.out _))
  go_big_quiet_step (fail)
  go_big_quiet_step (fail)
  go_big_quiet_step (fail)
  go_big_quiet_step (exact under_call (transfer_c n q hn hq _))
  go_big_quiet_step (exact under_call (BC.out _))
  go_big_quiet_step (exact under_call (HK.out _))
  refine wpQuiet_nil ?_
  rintro _ ⟨x, rfl⟩
  have h1 : Wv x.1 (w.heap.size + 1) 0 zW := x.heap (al_new _ (by simp))
  have hbx := Lib.hid ((bal2 w (Obj.cells (cellsV n z) 31 (0, 0)) (Obj.cells (cellsV 0 zW) 31 (0, 0))).trans (x.2.mono (by simp; omega)))
  clear h0 c0
  go_wp2_with (refine st31 rfl _ _ rfl (w.heap.size + 1) rfl rfl h1 ?_)
  exact bodyPost_ret (v := .agg (cellsV n _)) (results_cell_row rfl _ _ (w.heap.size + 1) 31 _ (0, 0) _ rfl (heap_setRow_same h1) Tryz.underlying31 rfl (size31c _ _)) rfl ⟨rfl, below_setRow hbx.out (by omega) _⟩
set_option maxRecDepth 100000 in
set_option maxHeartbeats 1000000 in
theorem travelSteps1_c (n : Int) (hn : n = 1 ∨ n = 2 ∨ n = 4) (q : Int) (hq : -4 ≤ q ∧ q ≤ 4) (z y : Nat → CB) (hz : Fine n z) (hy : Fine n y) (w : World)
    (hf : ∀ w1, Calls Tryz.prog 123 #[.agg (cellsV n z), .int .i64 (16 * q)] w1 fun e w2 => e = .returned (.agg (cellsV n y)) ∧ Below w1.heap.size w1 w2) :
    Calls Tryz.prog 96 #[.agg (cellsV n z), .int .i64 (16 * q), .int .i64 1] w fun e w' => e = .returned (.tuple #[.agg (cellsV n y), .int .i64 0]) ∧ Below w.heap.size w w' := by
  have HF := Lib.hid hf
  clear hf
  go_enter Tryz.func96, Tryz.ntmps96
  go_wp2_with (first
    | (refine ld31 rfl _ rfl w.heap.size rfl (al_old _ (al_new (Obj.cells (cellsV n z) 31 (0, 0)) rfl)) ?_)
    | (go_at_call 20
       ((with_reducible refine (isWave_t n hn z hz _).mono ?_))
       rintro e w1 ⟨rfl, hb1⟩
       have H0 := Lib.hid (below_heap' hb1 (al_old _ (al_new (Obj.cells (cellsV n z) 31 (0, 0)) rfl)))
       have H1 := Lib.hid (below_heap' hb1 (al_new (Obj.cells (cellsV 0 zW) 31 (0, 0)) (by simp : w.heap.size + 1 = _)))
       have HB := Lib.hid (bnext (bal2 w _ _) hb1)
       clear hb1)
    | (go_at_call 122
       ((with_reducible refine (isDistance_t _ _ (by omega)).mono ?_))
       rintro e w2 ⟨rfl, rfl⟩)
    | (go_at_call 100
       ((with_reducible refine (within_t _ _ _ _ (by omega)).mono ?_))
       rintro e w2 ⟨rfl, rfl⟩))
  go_loopw [24] (fun c wr => ∃ (j : Nat) (u : Nat → CB), (j = 0 ∧ u = z ∨ j = 1 ∧ u = y) ∧ c = .int .i64 j ∧ Below w.heap.size w wr ∧ Wv wr w.heap.size n u ∧ Wv wr (w.heap.size + 1) 0 zW) (fun c _ => (1 - intOf c).toNat)
  case atStart => exact ⟨0, z, .inl ⟨rfl, rfl⟩, rfl, HB.out, H0.out, H1.out⟩
  case round =>
    obtain ⟨j, u, ju, rfl, hb, h0, h1⟩ := hrel
    clear H0 H1 HB
    rcases ju with ⟨rfl, rfl⟩ | ⟨rfl, rfl⟩
    · have HB := Lib.hid hb
      have H0 := Lib.hid h0
      have H1 := Lib.hid h1
      clear hb h0 h1
      go_wp2_with (first
        | (refine ld31 rfl _ rfl w.heap.size rfl H0.out ?_)
        | (go_at_call 123
           ((with_reducible refine (HF.out _).mono ?_))
           rintro e w3 ⟨rfl, hb3⟩
           have H2 := Lib.hid (below_heap' hb3 H0.out)
           have H3 := Lib.hid (below_heap' hb3 H1.out)
           have HB3 := Lib.hid (bnext HB.out hb3)
           clear hb3)
        | (refine st31 rfl _ _ rfl w.heap.size rfl rfl H2.out ?_))
      exact ⟨⟨1, y, .inr ⟨rfl, rfl⟩, rfl, below_setRow HB3.out (Nat.le_refl _) _, heap_setRow_same H2.out, (setRow_other _ _ _ _ (by omega)).trans H3.out⟩, by simp [intOf]⟩
    · have HB := Lib.hid hb
      have H0 := Lib.hid h0
      have H1 := Lib.hid h1
      clear hb h0 h1
      go_wp2_with (first
        | (refine ld31 rfl _ rfl w.heap.size rfl H0.out ?_)
        | (go_at_call 89
           ((with_reducible refine (limitWave_c n hn u hy _).mono ?_))
           rintro e w3 ⟨rfl, hb3⟩
           have H3 := Lib.hid (below_heap' hb3 H1.out)
           have HB3 := Lib.hid (bnext HB.out hb3)
           clear hb3)
        | (refine st31 rfl _ _ rfl (w.heap.size + 1) rfl rfl H3.out ?_))
      exact bodyPost_ret (results_wave rfl _ _ (w.heap.size + 1) n u _ rfl rfl (heap_setRow_same H3.out)) rfl ⟨rfl, below_setRow HB3.out (by omega) _⟩

set_option maxHeartbeats 400000 in
theorem signedTravel_c (n : Int) (z y : Nat → CB) (d : Int) (w : World)
    (hf : ∀ w1, Calls Tryz.prog 64 #[.agg (cellsV n z), .int .i64 d, .int .i64 1] w1 fun e w2 => e = .returned (.tuple #[.agg (cellsV n y), .int .i64 0]) ∧ Below w1.heap.size w1 w2) :
    Calls Tryz.prog 31 #[.agg (cellsV n z), .int .i64 d] w fun e w' => e = .returned (.tuple #[.agg (cellsV n y), .int .i64 0]) ∧ Below w.heap.size w w' := by
  have HF := Lib.hid hf
  clear hf
  go_enter Tryz.func31, Tryz.ntmps31
  go_wp2_with (first
    | (refine ld31 rfl _ rfl w.heap.size rfl (al_old _ (al_new (Obj.cells (cellsV n z) 31 (0, 0)) rfl)) ?_)
    | (go_at_call 64
       ((with_reducible refine (HF.out _).mono ?_))
       rintro e w1 ⟨rfl, hb1⟩
       have H1 := Lib.hid (below_heap' hb1 (al_new (Obj.cells (cellsV 0 zW) 31 (0, 0)) (by simp : w.heap.size + 1 = _)))
       have HB := Lib.hid (bnext (bal2 w _ _) hb1)
       clear hb1)
    | (refine st31 rfl _ _ rfl (w.heap.size + 1) rfl rfl H1.out ?_))
  exact bodyPost_ret (results_wave rfl _ _ (w.heap.size + 1) n y _ rfl rfl (heap_setRow_same H1.out)) rfl ⟨rfl, below_setRow HB.out (by omega) _⟩

theorem rows_c (d : Nat) (hd : d ≤ 2) (s : Int) (hs : s = 1 ∨ s = -1) (z : Nat → CB) (hz : LinOk OkS mulS qz s d false z) (w : World) :
    Calls Tryz.prog 92 #[.agg (cellsV (sd d) z), .int .i64 s] w fun e w' => e = .returned (.agg (cellsV (sd d) (part (lin mulS qz s d false z) (nn d)))) ∧ Below w.heap.size w w' := by
  obtain rfl | rfl | rfl : d = 0 ∨ d = 1 ∨ d = 2 := by omega
  · exact rows1_c s hs z hz w
  · exact rows2_c s hs z hz w
  · exact rows4_c s hs z hz w
theorem turned_c (d : Nat) (hd : d ≤ 2) (z : Nat → CB) (w : World) :
    Calls Tryz.prog 91 #[.agg (cellsV (sd d) z)] w fun e w' => e = .returned (.agg (cellsV (sd d) (part (turn (2 ^ d) z) (nn d)))) ∧ Below w.heap.size w w' := by
  obtain rfl | rfl | rfl : d = 0 ∨ d = 1 ∨ d = 2 := by omega
  · exact turned1_c z w
  · exact turned2_c z w
  · exact turned4_c z w
def sRows (d : Nat) (z : Nat → CB) : Nat → CB := part (lin mulS qz (-1) d false z) (nn d)
def sTurn (d : Nat) (z : Nat → CB) : Nat → CB := part (turn (2 ^ d) z) (nn d)
def sThere (d : Nat) (z : Nat → CB) : Nat → CB := sTurn d (sRows d (sTurn d (sRows d z)))
def SOk (d : Nat) (z : Nat → CB) : Prop := LinOk OkS mulS qz (-1) d false z ∧ LinOk OkS mulS qz (-1) d false (sTurn d (sRows d z))

set_option maxHeartbeats 400000 in
theorem l02There_c (d : Nat) (hd : d ≤ 2) (z : Nat → CB) (hz : SOk d z) (w : World) :
    Calls Tryz.prog 61 #[.agg (cellsV (sd d) z)] w fun e w' => e = .returned (.agg (cellsV (sd d) (sThere d z))) ∧ Below w.heap.size w w' := by
  obtain ⟨n, hn⟩ : ∃ n, n = sd d := ⟨_, rfl⟩
  have R1 : Hid (∀ w, Calls Tryz.prog 92 #[.agg (cellsV n z), .int .i64 (-1)] w fun e w' => e = .returned (.agg (cellsV n (sRows d z))) ∧ Below w.heap.size w w') :=
    Lib.hid fun w => by rw [hn]; exact rows_c d hd (-1) (.inr rfl) z hz.1 w
  have R2 : Hid (∀ w, Calls Tryz.prog 92 #[.agg (cellsV n (sTurn d (sRows d z))), .int .i64 (-1)] w fun e w' => e = .returned (.agg (cellsV n (sRows d (sTurn d (sRows d z))))) ∧ Below w.heap.size w w') :=
    Lib.hid fun w => by rw [hn]; exact rows_c d hd (-1) (.inr rfl) _ hz.2 w
  have T : Hid (∀ z w, Calls Tryz.prog 91 #[.agg (cellsV n z)] w fun e w' => e = .returned (.agg (cellsV n (sTurn d z))) ∧ Below w.heap.size w w') :=
    Lib.hid fun z w => by rw [hn]; exact turned_c d hd z w
  rw [← hn]
  clear hz hn
  go_enter Tryz.func61, Tryz.ntmps61
  go_wp2_with (first
    | (refine ld31 rfl _ rfl w.heap.size rfl (al_old _ (al_new (Obj.cells (cellsV n z) 31 (0, 0)) rfl)) ?_)
    | (go_at_call 92
       ((with_reducible refine (R1.out _).mono ?_))
       rintro e w1 ⟨rfl, hb1⟩
       have K1 := Lib.hid (bnext (bal2 w _ _) hb1)
       have K2 := Lib.hid (below_heap' hb1 (al_new (Obj.cells (cellsV 0 zW) 31 (0, 0)) (by simp : w.heap.size + 1 = _)))
       clear hb1)
    | (go_at_call 91
       ((with_reducible refine (T.out (sRows d z) _).mono ?_))
       rintro e w2 ⟨rfl, hb2⟩
       have K3 := Lib.hid (bnext K1.out hb2)
       have K4 := Lib.hid (below_heap' hb2 K2.out)
       clear hb2)
    | (go_at_call 92
       ((with_reducible refine (R2.out _).mono ?_))
       rintro e w3 ⟨rfl, hb3⟩
       have K5 := Lib.hid (bnext K3.out hb3)
       have K6 := Lib.hid (below_heap' hb3 K4.out)
       clear hb3)
    | (go_at_call 91
       ((with_reducible refine (T.out (sRows d (sTurn d (sRows d z))) _).mono ?_))
       rintro e w4 ⟨rfl, hb4⟩
       have K7 := Lib.hid (bnext K5.out hb4)
       have K8 := Lib.hid (below_heap' hb4 K6.out)
       clear hb4)
    | (refine st31 rfl _ _ rfl (w.heap.size + 1) rfl rfl K8.out ?_))
  exact bodyPost_ret (v := .agg (cellsV n (sThere d z))) (results_cell_row rfl _ _ (w.heap.size + 1) 31 _ (0, 0) _ rfl (heap_setRow_same K8.out) Tryz.underlying31 rfl (size31c _ _)) rfl ⟨rfl, below_setRow K7.out (by omega) _⟩

set_option maxHeartbeats 400000 in
theorem l02Raw_c (n : Int) (hn : n = 1 ∨ n = 2 ∨ n = 4) (z y : Nat → CB) (hz : Fine n z) (hy : Fine n y) (w : World)
    (hf : ∀ w1, Calls Tryz.prog 61 #[.agg (cellsV n z)] w1 fun e w2 => e = .returned (.agg (cellsV n y)) ∧ Below w1.heap.size w1 w2) :
    Calls Tryz.prog 28 #[.agg (cellsV n z)] w fun e w' => e = .returned (.tuple #[.agg (cellsV n y), .int .i64 0]) ∧ Below w.heap.size w w' := by
  have HF := Lib.hid hf
  clear hf
  go_enter Tryz.func28, Tryz.ntmps28
  go_wp2_with (first
    | (refine ld31 rfl _ rfl w.heap.size rfl (al_old _ (al_new (Obj.cells (cellsV n z) 31 (0, 0)) rfl)) ?_)
    | (go_at_call 23
       ((with_reducible refine (l01Is_t n hn z hz _).mono ?_))
       rintro e w1 ⟨rfl, hb1⟩
       have H0 := Lib.hid (below_heap' hb1 (al_old _ (al_new (Obj.cells (cellsV n z) 31 (0, 0)) rfl)))
       have H1 := Lib.hid (below_heap' hb1 (al_new (Obj.cells (cellsV 0 zW) 31 (0, 0)) (by simp : w.heap.size + 1 = _)))
       have HB := Lib.hid (bnext (bal2 w _ _) hb1)
       clear hb1)
    | (refine ld31 rfl _ rfl w.heap.size rfl H0.out ?_)
    | (go_at_call 61
       ((with_reducible refine (HF.out _).mono ?_))
       rintro e w2 ⟨rfl, hb2⟩
       have H2 := Lib.hid (below_heap' hb2 H1.out)
       have HB2 := Lib.hid (bnext HB.out hb2)
       clear hb2)
    | (go_at_call 60
       ((with_reducible refine (l01Told_c n hn y hy _).mono ?_))
       rintro e w3 ⟨rfl, hb3⟩
       have H3 := Lib.hid (below_heap' hb3 H2.out)
       have HB3 := Lib.hid (bnext HB2.out hb3)
       clear hb3)
    | (refine st31 rfl _ _ rfl (w.heap.size + 1) rfl rfl H3.out ?_))
  exact bodyPost_ret (results_wave rfl _ _ (w.heap.size + 1) n y _ rfl rfl (heap_setRow_same H3.out)) rfl ⟨rfl, below_setRow HB3.out (by omega) _⟩
end Go.Proofs.YtdpdjcehobjohaaGreatDoor
