/- spec.l01Text and spec.WaveText. -/
import Derived.Test.YtdpdjcehobjohaaGreatDoorSv
namespace Go.Proofs.YtdpdjcehobjohaaGreatDoor
open Go Go.RowKit Go.BigFrame Fl

theorem joinTail_snoc (sep : List UInt8) (r : List (List UInt8)) (x : List UInt8) : Lib.joinTail sep (r ++ [x]) = Lib.joinTail sep r ++ sep ++ x := by
  simp [Lib.joinTail, List.flatten_append]
theorem join_snoc (sep : List UInt8) (r : List (List UInt8)) (x : List UInt8) (h : r ≠ []) : Lib.join (r ++ [x]) sep = Lib.join r sep ++ sep ++ x := by
  cases r with
  | nil => exact absurd rfl h
  | cons y r => rw [List.cons_append, Lib.join_cons, Lib.join_cons, joinTail_snoc, List.append_assoc, List.append_assoc, List.append_assoc]
theorem wl_succ (m : Nat) (A B : Nat → Int) : wl (m + 1) A B = wl m A B ++ [wordT (A m) (B m)] := by simp [wl, List.range_succ]
theorem joinT_zero (A B : Nat → Int) : joinT 0 A B = ⟨#[]⟩ := rfl
theorem joinT_one (A B : Nat → Int) : joinT 1 A B = wordT (A 0) (B 0) := by
  apply ByteArray.ext
  simp [joinT, wl, Lib.join_one]
theorem joinT_succ (m : Nat) (hm : 0 < m) (A B : Nat → Int) : joinT (m + 1) A B = joinT m A B ++ ⟨#[32]⟩ ++ wordT (A m) (B m) := by
  apply ByteArray.ext
  have h : ((wl m A B).map (·.data.toList)) ≠ [] := by
    intro h; have := congrArg List.length h; simp [wl_length] at this; omega
  simp only [joinT, wl_succ, List.map_append, List.map_cons, List.map_nil, join_snoc _ _ _ h, ByteArray.data_append]
  simp
def sT (n : Int) (j : Nat) (A B : Nat → Int) : ByteArray := decT n ++ ⟨#[58]⟩ ++ joinT j A B
theorem sT_size (n : Int) (j : Nat) (A B : Nat → Int) : (sT n j A B).size ≤ 2 + 20 * j := by
  have := joinT_size j A B
  unfold sT
  simp only [ByteArray.size_append, decT_size]
  show 1 + 1 + _ ≤ _
  omega
theorem sT_zero (n : Int) (A B : Nat → Int) : sT n 0 A B = decT n ++ ⟨#[58]⟩ := by
  unfold sT; rw [joinT_zero]; apply ByteArray.ext; simp [ByteArray.data_append]
theorem sT_one (n : Int) (A B : Nat → Int) : sT n 0 A B ++ hexT (A 0) ++ ⟨#[44]⟩ ++ hexT (B 0) = sT n 1 A B := by
  rw [sT_zero]; unfold sT; rw [joinT_one]; unfold wordT
  simp only [ByteArray.append_assoc]
theorem sT_step (n : Int) (j : Nat) (hj : 0 < j) (A B : Nat → Int) : sT n j A B ++ ⟨#[32]⟩ ++ hexT (A j) ++ ⟨#[44]⟩ ++ hexT (B j) = sT n (j + 1) A B := by
  unfold sT; rw [joinT_succ j hj]; unfold wordT
  simp only [ByteArray.append_assoc]


set_option maxRecDepth 100000 in
set_option maxHeartbeats 2000000 in
theorem l01Text1_c (A B : Nat → Int) (hs : Small 1 A B) (z : Nat → CB) (hz : ∀ i, i < 1 → z i = fbC (A i) (B i)) (w : World) :
    Calls Tryz.prog 24 #[.agg (cellsV 1 z)] w fun e w' => e = .returned (.string (sT 1 1 A B)) ∧ Below w.heap.size w w' := by
  have sd1 := decT_size 1
  have HZ := Lib.hid hz
  have HS : Hid (∀ i, i < 1 → (-4 ≤ A i ∧ A i ≤ 4) ∧ (-4 ≤ B i ∧ B i ≤ 4)) := Lib.hid hs
  clear hz hs
  have hc0 : (w.alloc (Obj.cells (cellsV 1 z) 31 (0, 0))).cell? ⟨w.heap.size, 0, none⟩ = some (.int .i64 1) := cell_of_heap (heap_alloc_last w _) (cellsV_zero 1 z)
  go_enter Tryz.func24, Tryz.ntmps24
  go_wp2_with (go_at_call 43; ((with_reducible refine (l01Dec_c 1 (by omega) _).mono ?_)); rintro e w1 ⟨rfl, hb1⟩; have HB1 := Lib.hid (bnext (bal1 w _) hb1); have HH := Lib.hid (below_heap' hb1 (heap_alloc_last w (Obj.cells (cellsV 1 z) 31 (0, 0)))); clear hb1)
  clear hc0
  go_loopw [4, 3] (fun c t wr => ∃ j : Nat, j ≤ 1 ∧ c = .int .i64 j ∧ t = .string (sT 1 j A B) ∧ Below w.heap.size w wr ∧ Wv wr w.heap.size 1 z) (fun c _ _ => (1 - intOf c).toNat)
  case atStart => exact ⟨0, by omega, rfl, by rw [sT_zero], HB1.out, HH.out⟩
  case round =>
    obtain ⟨j, hj, rfl, rfl, hb, h0⟩ := hrel
    clear HB1 HH
    have s0 := sT_size 1 j A B
    have s1 := hexT_size (A j)
    have s2 := hexT_size (B j)
    by_cases hlt : j < 1
    · by_cases j0 : j = 0
      · subst j0
        have HB := Lib.hid hb
        have H0 := Lib.hid h0
        have hc0 := cell_of_heap h0 (cellsV_zero 1 z)
        have f1 : ∀ x : Under wr, x.1.cell? ⟨w.heap.size, 1, none⟩ = some (cv (fbC (A 0) (B 0))) := fun x => (x.cell (cell_of_heap h0 (cellsV_at 1 z 0 (by omega)))).trans (congrArg (fun q => some (cv q)) (HZ.out 0 hlt))
        clear hb h0
        go_wp2_with fail
        clear hc0
        refine wp_region_quietC (UC wr) (by kernel_rfl) (by kernel_rfl) (UC.drew wr) ?_
        repeat (go_big_quiet_step (first | (with_reducible exact under_call (l01Show_c _ (HS.out _ hlt).1 _)) | (with_reducible exact under_call (l01Show_c _ (HS.out _ hlt).2 _))))
        refine wpQuiet_nil ?_
        rintro _ ⟨x, rfl⟩
        clear f1
        go_wp2_with fail
        refine ⟨⟨1, by omega, rfl, ?_, under_below HB.out x, x.heap H0.out⟩, by simp [intOf]⟩
        rw [← sT_one]
      · have j1 : 0 < (j : Int) := by omega
        exfalso; omega
    · have hc0 := cell_of_heap h0 (cellsV_zero 1 z)
      obtain rfl : j = 1 := by omega
      go_wp2_with fail
      go_ret; exact ⟨rfl, hb⟩

set_option maxHeartbeats 1000000 in
theorem sWaveText1_c (A B : Nat → Int) (hs : Small 1 A B) (z : Nat → CB) (hz : ∀ i, i < 1 → z i = fbC (A i) (B i)) (hf : Fine 1 z) (w : World) :
    Calls Tryz.prog 9 #[.agg (cellsV 1 z)] w fun e w' => e = .returned (.tuple #[.string (waveT 1 1 A B), .int .i64 0]) ∧ Below w.heap.size w w' := by
  have T : Hid (∀ w1, Calls Tryz.prog 24 #[.agg (cellsV 1 z)] w1 fun e w' => e = .returned (.string (waveT 1 1 A B)) ∧ Below w1.heap.size w1 w') := Lib.hid fun w1 => l01Text1_c A B hs z hz w1
  clear hs hz
  go_enter Tryz.func9, Tryz.ntmps9
  go_wp2_with (first
    | (refine ld31 rfl _ rfl w.heap.size rfl (al_new (Obj.cells (cellsV 1 z) 31 (0, 0)) rfl) ?_)
    | (go_at_call 23
       ((with_reducible refine (l01Is_t 1 (by omega) z hf _).mono ?_))
       rintro e w1 ⟨rfl, hb1⟩
       have H0 := Lib.hid (below_heap' hb1 (al_new (Obj.cells (cellsV 1 z) 31 (0, 0)) rfl))
       have HB := Lib.hid (bnext (bal1 w _) hb1)
       clear hb1)
    | (refine ld31 rfl _ rfl w.heap.size rfl H0.out ?_)
    | (go_at_call 24; ((with_reducible refine (T.out _).mono ?_)); rintro e w2 ⟨rfl, hb2⟩))
  go_ret2; exact ⟨rfl, bnext HB.out hb2⟩


set_option maxRecDepth 100000 in
set_option maxHeartbeats 2000000 in
theorem l01Text2_c (A B : Nat → Int) (hs : Small 4 A B) (z : Nat → CB) (hz : ∀ i, i < 4 → z i = fbC (A i) (B i)) (w : World) :
    Calls Tryz.prog 24 #[.agg (cellsV 2 z)] w fun e w' => e = .returned (.string (sT 2 4 A B)) ∧ Below w.heap.size w w' := by
  have sd1 := decT_size 2
  have HZ := Lib.hid hz
  have HS : Hid (∀ i, i < 4 → (-4 ≤ A i ∧ A i ≤ 4) ∧ (-4 ≤ B i ∧ B i ≤ 4)) := Lib.hid hs
  clear hz hs
  have hc0 : (w.alloc (Obj.cells (cellsV 2 z) 31 (0, 0))).cell? ⟨w.heap.size, 0, none⟩ = some (.int .i64 2) := cell_of_heap (heap_alloc_last w _) (cellsV_zero 2 z)
  go_enter Tryz.func24, Tryz.ntmps24
  go_wp2_with (go_at_call 43; ((with_reducible refine (l01Dec_c 2 (by omega) _).mono ?_)); rintro e w1 ⟨rfl, hb1⟩; have HB1 := Lib.hid (bnext (bal1 w _) hb1); have HH := Lib.hid (below_heap' hb1 (heap_alloc_last w (Obj.cells (cellsV 2 z) 31 (0, 0)))); clear hb1)
  clear hc0
  go_loopw [4, 3] (fun c t wr => ∃ j : Nat, j ≤ 4 ∧ c = .int .i64 j ∧ t = .string (sT 2 j A B) ∧ Below w.heap.size w wr ∧ Wv wr w.heap.size 2 z) (fun c _ _ => (4 - intOf c).toNat)
  case atStart => exact ⟨0, by omega, rfl, by rw [sT_zero], HB1.out, HH.out⟩
  case round =>
    obtain ⟨j, hj, rfl, rfl, hb, h0⟩ := hrel
    clear HB1 HH
    have s0 := sT_size 2 j A B
    have s1 := hexT_size (A j)
    have s2 := hexT_size (B j)
    by_cases hlt : j < 4
    · by_cases j0 : j = 0
      · subst j0
        have HB := Lib.hid hb
        have H0 := Lib.hid h0
        have hc0 := cell_of_heap h0 (cellsV_zero 2 z)
        have f1 : ∀ x : Under wr, x.1.cell? ⟨w.heap.size, 1, none⟩ = some (cv (fbC (A 0) (B 0))) := fun x => (x.cell (cell_of_heap h0 (cellsV_at 2 z 0 (by omega)))).trans (congrArg (fun q => some (cv q)) (HZ.out 0 hlt))
        clear hb h0
        go_wp2_with fail
        clear hc0
        refine wp_region_quietC (UC wr) (by kernel_rfl) (by kernel_rfl) (UC.drew wr) ?_
        repeat (go_big_quiet_step (first | (with_reducible exact under_call (l01Show_c _ (HS.out _ hlt).1 _)) | (with_reducible exact under_call (l01Show_c _ (HS.out _ hlt).2 _))))
        refine wpQuiet_nil ?_
        rintro _ ⟨x, rfl⟩
        clear f1
        go_wp2_with fail
        refine ⟨⟨1, by omega, rfl, ?_, under_below HB.out x, x.heap H0.out⟩, by simp [intOf]⟩
        rw [← sT_one]
      · have j1 : 0 < (j : Int) := by omega
        have HB := Lib.hid hb
        have H0 := Lib.hid h0
        have hc0 := cell_of_heap h0 (cellsV_zero 2 z)
        have f1 : ∀ x : Under wr, x.1.cell? ⟨w.heap.size, 1 + j, none⟩ = some (cv (fbC (A j) (B j))) := fun x => (x.cell (cell_of_heap h0 (cellsV_at 2 z j (by omega)))).trans (congrArg (fun q => some (cv q)) (HZ.out j hlt))
        clear hb h0
        go_wp2_with fail
        clear hc0
        refine wp_region_quietC (UC wr) (by kernel_rfl) (by kernel_rfl) (UC.drew wr) ?_
        repeat (go_big_quiet_step (first | (with_reducible exact under_call (l01Show_c _ (HS.out _ hlt).1 _)) | (with_reducible exact under_call (l01Show_c _ (HS.out _ hlt).2 _))))
        refine wpQuiet_nil ?_
        rintro _ ⟨x, rfl⟩
        clear f1
        go_wp2_with fail
        refine ⟨⟨j + 1, by omega, by go_num, ?_, under_below HB.out x, x.heap H0.out⟩, by simp [intOf]; omega⟩
        rw [← sT_step _ _ (by omega)]
    · have hc0 := cell_of_heap h0 (cellsV_zero 2 z)
      obtain rfl : j = 4 := by omega
      go_wp2_with fail
      go_ret; exact ⟨rfl, hb⟩

set_option maxHeartbeats 1000000 in
theorem sWaveText2_c (A B : Nat → Int) (hs : Small 4 A B) (z : Nat → CB) (hz : ∀ i, i < 4 → z i = fbC (A i) (B i)) (hf : Fine 2 z) (w : World) :
    Calls Tryz.prog 9 #[.agg (cellsV 2 z)] w fun e w' => e = .returned (.tuple #[.string (waveT 2 4 A B), .int .i64 0]) ∧ Below w.heap.size w w' := by
  have T : Hid (∀ w1, Calls Tryz.prog 24 #[.agg (cellsV 2 z)] w1 fun e w' => e = .returned (.string (waveT 2 4 A B)) ∧ Below w1.heap.size w1 w') := Lib.hid fun w1 => l01Text2_c A B hs z hz w1
  clear hs hz
  go_enter Tryz.func9, Tryz.ntmps9
  go_wp2_with (first
    | (refine ld31 rfl _ rfl w.heap.size rfl (al_new (Obj.cells (cellsV 2 z) 31 (0, 0)) rfl) ?_)
    | (go_at_call 23
       ((with_reducible refine (l01Is_t 2 (by omega) z hf _).mono ?_))
       rintro e w1 ⟨rfl, hb1⟩
       have H0 := Lib.hid (below_heap' hb1 (al_new (Obj.cells (cellsV 2 z) 31 (0, 0)) rfl))
       have HB := Lib.hid (bnext (bal1 w _) hb1)
       clear hb1)
    | (refine ld31 rfl _ rfl w.heap.size rfl H0.out ?_)
    | (go_at_call 24; ((with_reducible refine (T.out _).mono ?_)); rintro e w2 ⟨rfl, hb2⟩))
  go_ret2; exact ⟨rfl, bnext HB.out hb2⟩


set_option maxRecDepth 100000 in
set_option maxHeartbeats 2000000 in
theorem l01Text4_c (A B : Nat → Int) (hs : Small 16 A B) (z : Nat → CB) (hz : ∀ i, i < 16 → z i = fbC (A i) (B i)) (w : World) :
    Calls Tryz.prog 24 #[.agg (cellsV 4 z)] w fun e w' => e = .returned (.string (sT 4 16 A B)) ∧ Below w.heap.size w w' := by
  have sd1 := decT_size 4
  have HZ := Lib.hid hz
  have HS : Hid (∀ i, i < 16 → (-4 ≤ A i ∧ A i ≤ 4) ∧ (-4 ≤ B i ∧ B i ≤ 4)) := Lib.hid hs
  clear hz hs
  have hc0 : (w.alloc (Obj.cells (cellsV 4 z) 31 (0, 0))).cell? ⟨w.heap.size, 0, none⟩ = some (.int .i64 4) := cell_of_heap (heap_alloc_last w _) (cellsV_zero 4 z)
  go_enter Tryz.func24, Tryz.ntmps24
  go_wp2_with (go_at_call 43; ((with_reducible refine (l01Dec_c 4 (by omega) _).mono ?_)); rintro e w1 ⟨rfl, hb1⟩; have HB1 := Lib.hid (bnext (bal1 w _) hb1); have HH := Lib.hid (below_heap' hb1 (heap_alloc_last w (Obj.cells (cellsV 4 z) 31 (0, 0)))); clear hb1)
  clear hc0
  go_loopw [4, 3] (fun c t wr => ∃ j : Nat, j ≤ 16 ∧ c = .int .i64 j ∧ t = .string (sT 4 j A B) ∧ Below w.heap.size w wr ∧ Wv wr w.heap.size 4 z) (fun c _ _ => (16 - intOf c).toNat)
  case atStart => exact ⟨0, by omega, rfl, by rw [sT_zero], HB1.out, HH.out⟩
  case round =>
    obtain ⟨j, hj, rfl, rfl, hb, h0⟩ := hrel
    clear HB1 HH
    have s0 := sT_size 4 j A B
    have s1 := hexT_size (A j)
    have s2 := hexT_size (B j)
    by_cases hlt : j < 16
    · by_cases j0 : j = 0
      · subst j0
        have HB := Lib.hid hb
        have H0 := Lib.hid h0
        have hc0 := cell_of_heap h0 (cellsV_zero 4 z)
        have f1 : ∀ x : Under wr, x.1.cell? ⟨w.heap.size, 1, none⟩ = some (cv (fbC (A 0) (B 0))) := fun x => (x.cell (cell_of_heap h0 (cellsV_at 4 z 0 (by omega)))).trans (congrArg (fun q => some (cv q)) (HZ.out 0 hlt))
        clear hb h0
        go_wp2_with fail
        clear hc0
        refine wp_region_quietC (UC wr) (by kernel_rfl) (by kernel_rfl) (UC.drew wr) ?_
        repeat (go_big_quiet_step (first | (with_reducible exact under_call (l01Show_c _ (HS.out _ hlt).1 _)) | (with_reducible exact under_call (l01Show_c _ (HS.out _ hlt).2 _))))
        refine wpQuiet_nil ?_
        rintro _ ⟨x, rfl⟩
        clear f1
        go_wp2_with fail
        refine ⟨⟨1, by omega, rfl, ?_, under_below HB.out x, x.heap H0.out⟩, by simp [intOf]⟩
        rw [← sT_one]
      · have j1 : 0 < (j : Int) := by omega
        have HB := Lib.hid hb
        have H0 := Lib.hid h0
        have hc0 := cell_of_heap h0 (cellsV_zero 4 z)
        have f1 : ∀ x : Under wr, x.1.cell? ⟨w.heap.size, 1 + j, none⟩ = some (cv (fbC (A j) (B j))) := fun x => (x.cell (cell_of_heap h0 (cellsV_at 4 z j (by omega)))).trans (congrArg (fun q => some (cv q)) (HZ.out j hlt))
        clear hb h0
        go_wp2_with fail
        clear hc0
        refine wp_region_quietC (UC wr) (by kernel_rfl) (by kernel_rfl) (UC.drew wr) ?_
        repeat (go_big_quiet_step (first | (with_reducible exact under_call (l01Show_c _ (HS.out _ hlt).1 _)) | (with_reducible exact under_call (l01Show_c _ (HS.out _ hlt).2 _))))
        refine wpQuiet_nil ?_
        rintro _ ⟨x, rfl⟩
        clear f1
        go_wp2_with fail
        refine ⟨⟨j + 1, by omega, by go_num, ?_, under_below HB.out x, x.heap H0.out⟩, by simp [intOf]; omega⟩
        rw [← sT_step _ _ (by omega)]
    · have hc0 := cell_of_heap h0 (cellsV_zero 4 z)
      obtain rfl : j = 16 := by omega
      go_wp2_with fail
      go_ret; exact ⟨rfl, hb⟩

set_option maxHeartbeats 1000000 in
theorem sWaveText4_c (A B : Nat → Int) (hs : Small 16 A B) (z : Nat → CB) (hz : ∀ i, i < 16 → z i = fbC (A i) (B i)) (hf : Fine 4 z) (w : World) :
    Calls Tryz.prog 9 #[.agg (cellsV 4 z)] w fun e w' => e = .returned (.tuple #[.string (waveT 4 16 A B), .int .i64 0]) ∧ Below w.heap.size w w' := by
  have T : Hid (∀ w1, Calls Tryz.prog 24 #[.agg (cellsV 4 z)] w1 fun e w' => e = .returned (.string (waveT 4 16 A B)) ∧ Below w1.heap.size w1 w') := Lib.hid fun w1 => l01Text4_c A B hs z hz w1
  clear hs hz
  go_enter Tryz.func9, Tryz.ntmps9
  go_wp2_with (first
    | (refine ld31 rfl _ rfl w.heap.size rfl (al_new (Obj.cells (cellsV 4 z) 31 (0, 0)) rfl) ?_)
    | (go_at_call 23
       ((with_reducible refine (l01Is_t 4 (by omega) z hf _).mono ?_))
       rintro e w1 ⟨rfl, hb1⟩
       have H0 := Lib.hid (below_heap' hb1 (al_new (Obj.cells (cellsV 4 z) 31 (0, 0)) rfl))
       have HB := Lib.hid (bnext (bal1 w _) hb1)
       clear hb1)
    | (refine ld31 rfl _ rfl w.heap.size rfl H0.out ?_)
    | (go_at_call 24; ((with_reducible refine (T.out _).mono ?_)); rintro e w2 ⟨rfl, hb2⟩))
  go_ret2; exact ⟨rfl, bnext HB.out hb2⟩

end Go.Proofs.YtdpdjcehobjohaaGreatDoor
