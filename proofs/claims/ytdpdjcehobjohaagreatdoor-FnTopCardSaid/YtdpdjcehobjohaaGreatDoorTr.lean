/- spec.l01Phase at quarters, impl.from, impl.flip, impl.transfer and impl.back on waves of a side of at most 4. -/
import Derived.Test.YtdpdjcehobjohaaGreatDoorPh
namespace Go.Proofs.YtdpdjcehobjohaaGreatDoor
open Go Go.RowKit Go.BigFrame Fl

theorem mod64 (k : Int) (q : Nat) (h : k % 64 = 16 * q) : (k.tmod 64 + 64) % 64 = 16 * q := by
  have h1 := Int.tmod_add_mul_tdiv k 64
  rw [Int.add_emod_right, ← h]
  exact ((congrArg (· % 64) h1).symm.trans (Int.add_mul_emod_self_left _ _ _)).symm

set_option maxRecDepth 100000 in
set_option maxHeartbeats 1000000 in
theorem l01Phase_c (k : Int) (q : Nat) (w : World) (_hk : -1000000 ≤ k ∧ k ≤ 1000000) (hq : q < 4) (h : k % 64 = 16 * q) :
    Calls Tryz.prog 148 #[.int .i64 k] w fun e w' => e = .returned (cv (qz q)) ∧ w = w' := by
  have b1 := Int.lt_tmod_of_pos k (show (0 : Int) < 64 by omega)
  have b2 := Int.tmod_lt_of_pos k (show (0 : Int) < 64 by omega)
  have b3 : 0 ≤ k.tmod 64 + 64 := by omega
  have E := mod64 k q h
  clear h
  obtain rfl | rfl | rfl | rfl : q = 0 ∨ q = 1 ∨ q = 2 ∨ q = 3 := by omega
  · go_enter Tryz.func148, Tryz.ntmps148
    go_wp2_with fail
    go_loop [3, 6] (fun z b => z = cv (qz 0) ∧ b = .int .i64 8) (fun _ _ => 0)
    case atStart => exact ⟨rfl, rfl⟩
    case round =>
      obtain ⟨rfl, rfl⟩ := hrel
      go_wp2_with fail
      go_loop [3, 9] (fun z c => ∃ j : Nat, j ≤ 0 ∧ c = .int .i64 (0 - j : Int) ∧ z = cv (qz j)) (fun _ c => (intOf c).toNat)
      case atStart => exact ⟨0, by omega, rfl, rfl⟩
      case round =>
        obtain ⟨j, hj, rfl, rfl⟩ := hrel
        obtain rfl | rfl | rfl | rfl : j = 0 ∨ j = 1 ∨ j = 2 ∨ j = 3 := by omega
        all_goals first | omega | skip
        all_goals simp only [qz]
        all_goals go_wp2_with fail
        all_goals first
          | exact ⟨⟨1, by omega, rfl, rfl⟩, by simp [intOf]⟩
          | exact ⟨⟨2, by omega, rfl, rfl⟩, by simp [intOf]⟩
          | exact ⟨⟨3, by omega, rfl, rfl⟩, by simp [intOf]⟩
          | (go_ret; exact ⟨rfl, rfl⟩)
  · go_enter Tryz.func148, Tryz.ntmps148
    go_wp2_with fail
    go_loop [3, 6] (fun z b => z = cv (qz 0) ∧ b = .int .i64 8) (fun _ _ => 0)
    case atStart => exact ⟨rfl, rfl⟩
    case round =>
      obtain ⟨rfl, rfl⟩ := hrel
      go_wp2_with fail
      go_loop [3, 9] (fun z c => ∃ j : Nat, j ≤ 1 ∧ c = .int .i64 (1 - j : Int) ∧ z = cv (qz j)) (fun _ c => (intOf c).toNat)
      case atStart => exact ⟨0, by omega, rfl, rfl⟩
      case round =>
        obtain ⟨j, hj, rfl, rfl⟩ := hrel
        obtain rfl | rfl | rfl | rfl : j = 0 ∨ j = 1 ∨ j = 2 ∨ j = 3 := by omega
        all_goals first | omega | skip
        all_goals simp only [qz]
        all_goals go_wp2_with fail
        all_goals first
          | exact ⟨⟨1, by omega, rfl, rfl⟩, by simp [intOf]⟩
          | exact ⟨⟨2, by omega, rfl, rfl⟩, by simp [intOf]⟩
          | exact ⟨⟨3, by omega, rfl, rfl⟩, by simp [intOf]⟩
          | (go_ret; exact ⟨rfl, rfl⟩)
  · go_enter Tryz.func148, Tryz.ntmps148
    go_wp2_with fail
    go_loop [3, 6] (fun z b => z = cv (qz 0) ∧ b = .int .i64 8) (fun _ _ => 0)
    case atStart => exact ⟨rfl, rfl⟩
    case round =>
      obtain ⟨rfl, rfl⟩ := hrel
      go_wp2_with fail
      go_loop [3, 9] (fun z c => ∃ j : Nat, j ≤ 2 ∧ c = .int .i64 (2 - j : Int) ∧ z = cv (qz j)) (fun _ c => (intOf c).toNat)
      case atStart => exact ⟨0, by omega, rfl, rfl⟩
      case round =>
        obtain ⟨j, hj, rfl, rfl⟩ := hrel
        obtain rfl | rfl | rfl | rfl : j = 0 ∨ j = 1 ∨ j = 2 ∨ j = 3 := by omega
        all_goals first | omega | skip
        all_goals simp only [qz]
        all_goals go_wp2_with fail
        all_goals first
          | exact ⟨⟨1, by omega, rfl, rfl⟩, by simp [intOf]⟩
          | exact ⟨⟨2, by omega, rfl, rfl⟩, by simp [intOf]⟩
          | exact ⟨⟨3, by omega, rfl, rfl⟩, by simp [intOf]⟩
          | (go_ret; exact ⟨rfl, rfl⟩)
  · go_enter Tryz.func148, Tryz.ntmps148
    go_wp2_with fail
    go_loop [3, 6] (fun z b => z = cv (qz 0) ∧ b = .int .i64 8) (fun _ _ => 0)
    case atStart => exact ⟨rfl, rfl⟩
    case round =>
      obtain ⟨rfl, rfl⟩ := hrel
      go_wp2_with fail
      go_loop [3, 9] (fun z c => ∃ j : Nat, j ≤ 3 ∧ c = .int .i64 (3 - j : Int) ∧ z = cv (qz j)) (fun _ c => (intOf c).toNat)
      case atStart => exact ⟨0, by omega, rfl, rfl⟩
      case round =>
        obtain ⟨j, hj, rfl, rfl⟩ := hrel
        obtain rfl | rfl | rfl | rfl : j = 0 ∨ j = 1 ∨ j = 2 ∨ j = 3 := by omega
        all_goals first | omega | skip
        all_goals simp only [qz]
        all_goals go_wp2_with fail
        all_goals first
          | exact ⟨⟨1, by omega, rfl, rfl⟩, by simp [intOf]⟩
          | exact ⟨⟨2, by omega, rfl, rfl⟩, by simp [intOf]⟩
          | exact ⟨⟨3, by omega, rfl, rfl⟩, by simp [intOf]⟩
          | (go_ret; exact ⟨rfl, rfl⟩)

abbrev At (w : World) (b : Nat) (v : Value) (t : TypeId) : Prop := w.heap[b]? = some (.cells #[v] t (0, 0))

set_option maxHeartbeats 400000 in
theorem from_c (n : Int) (hn : n = 1 ∨ n = 2 ∨ n = 4) (z : Nat → CB) (w : World) :
    Calls Tryz.prog 97 #[.agg (cellsV n z), .func (.func 98) #[] #[]] w fun e w' => e = .returned (.agg (cellsV n (part (fun i => z (flipAt n i)) (n * n).toNat))) ∧ Below w.heap.size w w' := by
  go_enter Tryz.func97, Tryz.ntmps97
  go_wp2_with (first
    | (go_at_call 120
       ((with_reducible refine (waveBy_c n hn 124 _ (fun i => z (flipAt n i)) _ isFn124 ?_).mono ?_))
       · intro i hi w1 hb
         exact from1_c i _ _ _ n hn z w1 hi (below_heap' hb (al_old _ (al_old _ (al_new _ (by simp))))) (below_heap' hb (al_old _ (al_old _ (al_old _ (al_new _ rfl))))) (below_heap' hb (al_new _ (by simp)))
       rintro e w1 ⟨rfl, hb1⟩
       have H1 := Lib.hid (below_heap' hb1 (al_old _ (al_new (Obj.cells (cellsV 0 zW) 31 (0, 0)) (by simp : w.heap.size + 1 + 1 = _)))))
    | (refine wpList_store_row rfl 31 _ _ rfl (w.heap.size + 1 + 1) _ rfl rfl 31 (cellsV 0 zW) H1.out (size31c _ _) (cellsV_sizes _ _ _ _) (cellsV_one _ _) ?_))
  refine bodyPost_ret (v := .agg _) (results_cell_row rfl _ _ (w.heap.size + 1 + 1) 31 _ (0, 0) _ rfl (heap_setRow_same H1.out) Tryz.underlying31 rfl (size31c _ _)) rfl ⟨rfl, below_setRow (bnext (bal4 w _ _ _ _) hb1) (by omega) _⟩

set_option maxHeartbeats 400000 in
theorem flip_c (n : Int) (hn : n = 1 ∨ n = 2 ∨ n = 4) (z : Nat → CB) (w : World) :
    Calls Tryz.prog 65 #[.agg (cellsV n z)] w fun e w' => e = .returned (.agg (cellsV n (part (fun i => z (flipAt n i)) (n * n).toNat))) ∧ Below w.heap.size w w' := by
  go_enter Tryz.func65, Tryz.ntmps65
  go_wp2_with (first
    | (refine wpList_load_row rfl 31 _ rfl w.heap.size rfl 31 (cellsV n z) (0, 0) _ (al_old _ (al_new _ rfl)) Tryz.underlying31 rfl (size31c _ _) ?_)
    | (go_at_call 97
       ((with_reducible refine (from_c n hn z _).mono ?_))
       rintro e w1 ⟨rfl, hb1⟩
       have H1 := Lib.hid (below_heap' hb1 (al_new (Obj.cells (cellsV 0 zW) 31 (0, 0)) (by simp : w.heap.size + 1 = _))))
    | (refine wpList_store_row rfl 31 _ _ rfl (w.heap.size + 1) _ rfl rfl 31 (cellsV 0 zW) H1.out (size31c _ _) (cellsV_sizes _ _ _ _) (cellsV_one _ _) ?_))
  refine bodyPost_ret (v := .agg _) (results_cell_row rfl _ _ (w.heap.size + 1) 31 _ (0, 0) _ rfl (heap_setRow_same H1.out) Tryz.underlying31 rfl (size31c _ _)) rfl ⟨rfl, below_setRow (bnext (bal2 w _ _) hb1) (by omega) _⟩

/-- the folded frequency -/
def fold (n k : Int) : Int := if n = 1 ∨ k < n / 2 then k else k - n
/-- the quarters of the transfer table at a place, for a distance of q quarters -/
def trQ (n q : Int) (i : Nat) : Nat := ((-q * (fold n (i / n) * fold n (i / n) + fold n (i % n) * fold n (i % n))) % 4).toNat

theorem fold_bd (n k : Int) (hn : n = 1 ∨ n = 2 ∨ n = 4) (hk : 0 ≤ k ∧ k < n) : -4 ≤ fold n k ∧ fold n k ≤ 4 := by
  unfold fold; rcases hn with rfl | rfl | rfl <;> split <;> omega

theorem folded_f (n k : Int) (w : World) (hn : n = 1 ∨ n = 2 ∨ n = 4) (hk : 0 ≤ k ∧ k < n) :
    Calls Tryz.prog 171 #[.int .i64 n, .int .i64 k] w fun e w' => e = .returned (.int .i64 (fold n k)) ∧ w = w' := folded_c n k w hn hk
theorem sq_bd (f : Int) (h : -4 ≤ f ∧ f ≤ 4) : 0 ≤ f * f ∧ f * f ≤ 16 := by
  obtain ⟨h1, h2⟩ := h
  have : f = -4 ∨ f = -3 ∨ f = -2 ∨ f = -1 ∨ f = 0 ∨ f = 1 ∨ f = 2 ∨ f = 3 ∨ f = 4 := by omega
  rcases this with rfl | rfl | rfl | rfl | rfl | rfl | rfl | rfl | rfl <;> decide
theorem qS_bd (q S : Int) (h : -4 ≤ q ∧ q ≤ 4) (hS : 0 ≤ S ∧ S ≤ 32) : -2048 ≤ -(16 * q) * S ∧ -(16 * q) * S ≤ 2048 := by
  obtain ⟨h1, h2⟩ := h
  have : q = -4 ∨ q = -3 ∨ q = -2 ∨ q = -1 ∨ q = 0 ∨ q = 1 ∨ q = 2 ∨ q = 3 ∨ q = 4 := by omega
  rcases this with rfl | rfl | rfl | rfl | rfl | rfl | rfl | rfl | rfl <;> omega
theorem trQ_lt (n q : Int) (i : Nat) : trQ n q i < 4 := by unfold trQ; omega
theorem trQ_eq (n q : Int) (i : Nat) (f g : Int) (hf : fold n (i / n) = f) (hg : fold n (i % n) = g) : (-(16 * q) * (f * f + g * g)) % 64 = 16 * (trQ n q i : Nat) := by
  unfold trQ
  rw [hf, hg]
  have e : -(16 * q) * (f * f + g * g) = 16 * (-q * (f * f + g * g)) := by
    rw [← Int.mul_assoc, Int.mul_neg]
  rw [e, show (64 : Int) = 16 * 4 by rfl, Int.mul_emod_mul_of_pos _ _ (by omega)]
  omega

set_option maxHeartbeats 400000 in
theorem transfer1_c (i : Nat) (b1 b2 : Nat) (n q : Int) (hn : n = 1 ∨ n = 2 ∨ n = 4) (w : World) (hi : (i : Int) < n * n) (hq : -4 ≤ q ∧ q ≤ 4)
    (h1 : At w b1 (.int .i64 n) 2) (h2 : At w b2 (.int .i64 (16 * q)) 2) :
    Calls Tryz.prog 170 #[.int .i64 (i / n), .int .i64 (i % n), .int .i64 i, .pointer (some ⟨b1, 0, none⟩), .pointer (some ⟨b2, 0, none⟩)] w fun e w2 =>
      e = .returned (cv (qp (trQ n q i))) ∧ Below w.heap.size w w2 := by
  have r1 : 0 ≤ (i : Int) / n ∧ (i : Int) / n < n := by rcases hn with rfl | rfl | rfl <;> omega
  have r2 : 0 ≤ (i : Int) % n ∧ (i : Int) % n < n := by rcases hn with rfl | rfl | rfl <;> omega
  have F1 : Hid (∀ w, Calls Tryz.prog 171 #[.int .i64 n, .int .i64 (i / n)] w fun e w' => e = .returned (.int .i64 (fold n (i / n))) ∧ w = w') := Lib.hid fun w => folded_f n (i / n) w hn r1
  have F2 : Hid (∀ w, Calls Tryz.prog 171 #[.int .i64 n, .int .i64 (i % n)] w fun e w' => e = .returned (.int .i64 (fold n (i % n))) ∧ w = w') := Lib.hid fun w => folded_f n (i % n) w hn r2
  have g1 := fold_bd n _ hn r1
  have g2 := fold_bd n _ hn r2
  obtain ⟨f, hf⟩ : ∃ f, fold n (i / n) = f := ⟨_, rfl⟩
  obtain ⟨g, hg⟩ : ∃ g, fold n (i % n) = g := ⟨_, rfl⟩
  have E := Lib.hid (trQ_eq n q i f g hf hg)
  rw [hf] at F1 g1
  rw [hg] at F2 g2
  have s1 := sq_bd f g1
  have s2 := sq_bd g g2
  have s3 := qS_bd q (f * f + g * g) hq (by omega)
  have f1 : ∀ x : Under w, x.1.cell? ⟨b1, 0, none⟩ = some (.int .i64 n) := fun x => x.cell (cell_of_heap h1 rfl)
  have H2 := Lib.hid h2
  clear h1 h2 hf hg
  go_enter Tryz.func170, Tryz.ntmps170
  go_wp2_with fail
  refine wp_region_quietC (UC w) (by kernel_rfl) (by kernel_rfl) (UC.drew w) ?_
  repeat (go_big_quiet_step (first | (with_reducible exact under_same (F1.out _)) | (with_reducible exact under_same (F2.out _))))
  refine wpQuiet_nil ?_
  rintro _ ⟨x, rfl⟩
  have f2 := cell_of_heap (j := 0) (x.heap H2.out) rfl
  clear f1
  go_wp2_with (go_at_call 144; ((with_reducible refine (phaseOf_c _ (trQ n q i) _ (by omega) (trQ_lt n q i) E.out).mono ?_)); rintro e w1 ⟨rfl, hb1⟩)

  go_ret; exact ⟨rfl, bnext x.2 hb1⟩

set_option maxHeartbeats 400000 in
theorem transfer_c (n q : Int) (hn : n = 1 ∨ n = 2 ∨ n = 4) (hq : -4 ≤ q ∧ q ≤ 4) (w : World) :
    Calls Tryz.prog 152 #[.int .i64 n, .int .i64 (16 * q)] w fun e w' => e = .returned (.agg (cellsV n (part (fun i => qp (trQ n q i)) (n * n).toNat))) ∧ Below w.heap.size w w' := by
  go_enter Tryz.func152, Tryz.ntmps152
  go_wp2_with (first
    | (go_at_call 120
       ((with_reducible refine (waveBy_c n hn 170 _ (fun i => qp (trQ n q i)) _ isFn170 ?_).mono ?_))
       · intro i hi w1 hb
         exact transfer1_c i _ _ n q hn w1 hi hq (below_heap' hb (al_old _ (al_old _ (al_new _ rfl)))) (below_heap' hb (al_old _ (al_new _ (by simp))))
       rintro e w1 ⟨rfl, hb1⟩
       have H1 := Lib.hid (below_heap' hb1 (al_new (Obj.cells (cellsV 0 zW) 31 (0, 0)) (by simp : w.heap.size + 1 + 1 = _))))
    | (refine wpList_store_row rfl 31 _ _ rfl (w.heap.size + 1 + 1) _ rfl rfl 31 (cellsV 0 zW) H1.out (size31c _ _) (cellsV_sizes _ _ _ _) (cellsV_one _ _) ?_))
  refine bodyPost_ret (v := .agg _) (results_cell_row rfl _ _ (w.heap.size + 1 + 1) 31 _ (0, 0) _ rfl (heap_setRow_same H1.out) Tryz.underlying31 rfl (size31c _ _)) rfl ⟨rfl, below_setRow (bnext (bal3 w _ _ _) hb1) (by omega) _⟩
end Go.Proofs.YtdpdjcehobjohaaGreatDoor
