/- impl.waveBy: the wave of a side of at most 4 with what a function tells of each cell, under a contract of that function. -/
import Derived.Test.YtdpdjcehobjohaaGreatDoorBase
namespace Go.Proofs.YtdpdjcehobjohaaGreatDoor
open Go Go.RowKit Go.BigFrame Fl

def part (g : Nat → CB) (j : Nat) : Nat → CB := fun i => if i < j then g i else (0, 0)

theorem part_zero (g : Nat → CB) : part g 0 = fun _ => (0, 0) := by funext i; simp [part]
theorem part_succ (g : Nat → CB) (j : Nat) : upd (part g j) j (g j) = part g (j + 1) := by
  funext i; unfold upd part; by_cases h : i = j
  · subst h; simp
  · by_cases h2 : i < j
    · simp [h, h2, show i < j + 1 by omega]
    · simp [h, h2, show ¬ i < j + 1 by omega]

set_option maxHeartbeats 400000 in
theorem waveBy_c (n : Int) (hn : n = 1 ∨ n = 2 ∨ n = 4) (k : FuncId) (caps : Array Value) (g : Nat → CB) (w : World)
    (hk : ∀ args w, (callFunc k args).run Tryz.prog w = .ok (.enter k args) w)
    (hof : ∀ i : Nat, (i : Int) < n * n → ∀ w1, Below w.heap.size w w1 → Calls Tryz.prog k (#[.int .i64 (i / n), .int .i64 (i % n), .int .i64 i] ++ caps) w1
      fun e w2 => e = .returned (cv (g i)) ∧ Below w1.heap.size w1 w2) :
    Calls Tryz.prog 120 #[.int .i64 n, .func (.func k) #[] caps] w fun e w' =>
      e = .returned (.agg (cellsV n (part g (n * n).toNat))) ∧ Below w.heap.size w w' := by
  have hb1 : 1 ≤ n ∧ n ≤ 4 := by omega
  have hb2 : 1 ≤ n * n ∧ n * n ≤ 16 := by rcases hn with rfl | rfl | rfl <;> decide
  have Hof := Lib.hid hof
  clear hof
  go_enter Tryz.func120, Tryz.ntmps120
  go_wp2_with (refine wpList_store_row rfl 31 _ _ rfl (w.heap.size + 1) (cellsV n (fun _ => (0, 0))) rfl rfl 31 (cellsV 0 (fun _ => (0, 0))) (heap_alloc2_new w _ _) (size31c _ _) (cellsV_sizes _ _ _ _) (cellsV_one _ _) ?_)
  go_loopw [12] (fun c wr => ∃ j : Nat, (j : Int) ≤ n * n ∧ c = .int .i64 j ∧ Below w.heap.size w wr ∧ wr.heap[w.heap.size]? = some (.cells (cellsV 0 (fun _ => (0, 0))) 31 (0, 0)) ∧
      wr.heap[w.heap.size + 1]? = some (.cells (cellsV n (part g j)) 31 (0, 0))) (fun c _ => (n * n - intOf c).toNat)
  case atStart =>
    refine ⟨0, by omega, rfl, ?_, ?_, ?_⟩
    · exact below_setRow (((Below.refl _ _).alloc (Nat.le_refl _) _).alloc (by simp) _) (by omega) _
    · rw [setRow_other _ _ _ _ (by omega)]; exact heap_alloc2_old w _ _
    · rw [part_zero]; exact heap_setRow_same (heap_alloc2_new w _ _)
  case round =>
    obtain ⟨j, hj, rfl, hb, h0, h1⟩ := hrel
    by_cases hlt : (j : Int) < n * n
    · have hdn := IntWalk.tdiv_le (j : Int) n (by omega) hb1.1
      have hj64 : j < 64 := by omega
      go_wp2_with fail
      refine wp_region_quiet_tail (UC wr) 12 (by kernel_rfl) (by kernel_rfl) (UC.drew wr) ?_
      simp only [List.take_succ_cons, List.take_zero, List.drop_succ_cons, List.drop_zero]
      repeat (go_big_quiet_step (exact under_call (Hof.out j hlt _ (under_below hb _))))
      refine wpQuiet_nil ?_
      rintro _ ⟨x, rfl⟩
      have hx0 := Lib.hid (x.heap h0)
      have hx1 := Lib.hid (x.heap h1)
      have hc := cell_of_heap hx1.out (cellsV_at n (part g j) j hj64)
      have hf := frozen_of_row x.1 (w.heap.size + 1) (1 + j) _ _ hx1.out
      have HB := Lib.hid (under_below hb x)
      clear h0 h1 hb
      go_wp2_with fail
      refine ⟨⟨j + 1, by omega, by go_num, HB.out.setCell (by simp) _, ?_, ?_⟩, by simp [intOf]; omega⟩
      · rw [heap_setCell_other _ _ _ _ (by simp)]; exact hx0.out
      · have := heap_setCell_same _ _ (1 + j) _ _ (cv (g j)) hx1.out
        rw [cellsV_set _ _ _ _ hj64, part_succ] at this
        exact this
    · have hjn := Lib.hid (show j = (n * n).toNat by omega)
      go_wp2_with (first | (refine wpList_load_row rfl 31 _ rfl (w.heap.size + 1) rfl 31 (cellsV n (part g j)) (0, 0) _ h1 Tryz.underlying31 rfl (size31c _ _) ?_) | (refine wpList_store_row rfl 31 _ _ rfl w.heap.size (cellsV n (part g j)) rfl rfl 31 (cellsV 0 (fun _ => (0, 0))) h0 (size31c _ _) (cellsV_sizes _ _ _ _) (cellsV_one _ _) ?_))
      refine bodyPost_ret (v := .agg (cellsV n (part g j))) (results_cell_row rfl _ _ w.heap.size 31 _ (0, 0) _ rfl (heap_setRow_same h0) Tryz.underlying31 rfl (size31c _ _)) rfl ⟨by rw [hjn.out], below_setRow hb (by omega) _⟩
end Go.Proofs.YtdpdjcehobjohaaGreatDoor
