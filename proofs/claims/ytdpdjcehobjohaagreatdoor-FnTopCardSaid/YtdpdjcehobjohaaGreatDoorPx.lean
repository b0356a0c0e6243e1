/- impl.ParseWave on the texts of waves of small whole numbers. -/
import Derived.Test.YtdpdjcehobjohaaGreatDoorPi
namespace Go.Proofs.YtdpdjcehobjohaaGreatDoor
open Go Go.RowKit Go.BigFrame Fl

theorem waveT_data (n : Int) (m : Nat) (A B : Nat → Int) : (waveT n m A B).data.toList = (48 + UInt8.ofNat n.toNat) :: 58 :: (joinT m A B).data.toList := by
  unfold waveT decT; simp [ByteArray.data_append]
theorem pre_data (k : Int) : (decT k ++ (⟨#[58]⟩ : ByteArray)).data.toList = [48 + UInt8.ofNat k.toNat, 58] := by
  unfold decT; simp [ByteArray.data_append]
theorem cutHit_c (n : Int) (m : Nat) (A B : Nat → Int) (w : World) :
    Calls Tryz.prog 45 #[.string (waveT n m A B), .string (decT n ++ ⟨#[58]⟩)] w fun e w' => e = .returned (.tuple #[.string (joinT m A B), .bool true]) ∧ w = w' := by
  refine (Tryz.strings_CutPrefix _ _ w).mono ?_
  rintro e w' ⟨rfl, rfl⟩
  refine ⟨?_, rfl⟩
  rw [waveT_data, pre_data]
  have e1 : Lib.hasPrefix ((48 + UInt8.ofNat n.toNat) :: 58 :: (joinT m A B).data.toList) [48 + UInt8.ofNat n.toNat, 58] = true := by simp [Lib.hasPrefix]
  unfold Lib.trimPrefix
  rw [e1, if_pos rfl]
  simp
theorem cutMiss_c (n k : Int) (h : (48 + UInt8.ofNat k.toNat) ≠ (48 + UInt8.ofNat n.toNat)) (m : Nat) (A B : Nat → Int) (w : World) :
    Calls Tryz.prog 45 #[.string (waveT n m A B), .string (decT k ++ ⟨#[58]⟩)] w fun e w' => e = .returned (.tuple #[.string (waveT n m A B), .bool false]) ∧ w = w' := by
  refine (Tryz.strings_CutPrefix _ _ w).mono ?_
  rintro e w' ⟨rfl, rfl⟩
  refine ⟨?_, rfl⟩
  have e1 : Lib.hasPrefix (waveT n m A B).data.toList (decT k ++ (⟨#[58]⟩ : ByteArray)).data.toList = false := by
    rw [waveT_data, pre_data]
    simp only [Lib.hasPrefix, List.isPrefixOf, Bool.and_eq_false_iff, beq_eq_false_iff_ne]
    exact .inl h
  unfold Lib.trimPrefix
  rw [e1, if_neg (by simp)]
theorem split_c (m : Nat) (hm : 0 < m ∧ m ≤ 16) (A B : Nat → Int) (w : World) (he : Env w) :
    Calls Tryz.prog 46 #[.string (joinT m A B), .string ⟨#[32]⟩] w fun e w' => e = .returned (.slice (some ⟨w.heap.size, 0, none⟩) m m) ∧ w' = w.alloc (.cells (wvs m A B).toArray 9 (0, 0)) := by
  obtain ⟨-, q, hq⟩ := he
  have hs := joinT_size m A B
  have := Tryz.strings_Split (joinT m A B) ⟨#[32]⟩ q w (by omega) hq (by decide)
  rw [count_joinT m hm.1, split_joinT m hm.1, show m - 1 + 1 = m by omega] at this
  exact this
theorem wvs_at (m : Nat) (A B : Nat → Int) (i : Nat) (h : i < m) : (wvs m A B).toArray[i]? = some (.string (wordT (A i) (B i))) := by
  simp [wvs, wl, h]
abbrev zfC (A B : Nat → Int) : Nat → CB := fun i => fbC (A i) (B i)
def fourV : Array Value := #[.int .i64 1, .int .i64 2, .int .i64 4, .int .i64 8]


set_option maxRecDepth 100000 in
set_option maxHeartbeats 4000000 in
theorem signedParse1_c (A B : Nat → Int) (hs : Small 1 A B) (w : World) (he : Env w) :
    Calls Tryz.prog 25 #[.string (waveT 1 1 A B)] w fun e w' => e = .returned (.tuple #[.agg (cellsV 1 (part (zfC A B) 1)), .int .i64 0]) ∧ Below w.heap.size w w' := by
  have HE := Lib.hid he
  have HS : Hid (∀ i, i < 1 → (-4 ≤ A i ∧ A i ≤ 4) ∧ (-4 ≤ B i ∧ B i ≤ 4)) := Lib.hid hs
  have s1 := decT_size 1
  have s2 := decT_size 2
  have s4 := decT_size 4
  clear he
  go_enter Tryz.func25, Tryz.ntmps25
  go_wp2_with fail
  go_loopw [15] (fun c wr => ∃ k : Nat, k ≤ 0 ∧ c = .int .i64 k ∧ ((w.alloc (Obj.cells (cellsV 0 zW) 31 (0, 0))).alloc (Obj.cells fourV 2 (0, 0))) = wr) (fun c _ => (0 - intOf c).toNat)
  case atStart => exact ⟨0, by omega, rfl, rfl⟩
  case round =>
    obtain ⟨k, hk, hck, rfl⟩ := hrel
    obtain rfl : k = 0 := by omega
    · replace hck : _ = Value.int .i64 0 := hck
      subst hck
      have hc0 : ((w.alloc (Obj.cells (cellsV 0 zW) 31 (0, 0))).alloc (Obj.cells fourV 2 (0, 0))).cell? ⟨w.heap.size + 1, 0, none⟩ = some (.int .i64 1) := cell_of_heap (al_new (Obj.cells fourV 2 (0, 0)) (by simp)) rfl
      have EB : Hid (Env (((w.alloc (Obj.cells (cellsV 0 zW) 31 (0, 0))).alloc (Obj.cells fourV 2 (0, 0))).alloc (Obj.cells (cellsV 1 zW) 31 (0, 0)))) := Lib.hid ((((HE.out.below (bal1 _ _)).below (bal1 _ _)).below (bal1 _ _)))
      have EC : Hid (Env ((((w.alloc (Obj.cells (cellsV 0 zW) 31 (0, 0))).alloc (Obj.cells fourV 2 (0, 0))).alloc (Obj.cells (cellsV 1 zW) 31 (0, 0))).alloc (Obj.cells (wvs 1 A B).toArray 9 (0, 0)))) := Lib.hid (EB.out.below (bal1 _ _))
      have K0 : Hid (Wv ((((w.alloc (Obj.cells (cellsV 0 zW) 31 (0, 0))).alloc (Obj.cells fourV 2 (0, 0))).alloc (Obj.cells (cellsV 1 zW) 31 (0, 0))).alloc (Obj.cells (wvs 1 A B).toArray 9 (0, 0))) w.heap.size 0 zW) := Lib.hid (al_old _ (al_old _ (al_old _ (al_new (Obj.cells (cellsV 0 zW) 31 (0, 0)) rfl))))
      have K1 : Hid (Wv ((((w.alloc (Obj.cells (cellsV 0 zW) 31 (0, 0))).alloc (Obj.cells fourV 2 (0, 0))).alloc (Obj.cells (cellsV 1 zW) 31 (0, 0))).alloc (Obj.cells (wvs 1 A B).toArray 9 (0, 0))) (w.heap.size + 1 + 1) 1 zW) := Lib.hid (al_old _ (al_new (Obj.cells (cellsV 1 zW) 31 (0, 0)) (by simp)))
      have K2 : Hid (((((w.alloc (Obj.cells (cellsV 0 zW) 31 (0, 0))).alloc (Obj.cells fourV 2 (0, 0))).alloc (Obj.cells (cellsV 1 zW) 31 (0, 0))).alloc (Obj.cells (wvs 1 A B).toArray 9 (0, 0))).heap[w.heap.size + 1 + 1 + 1]? = some (.cells (wvs 1 A B).toArray 9 (0, 0))) := Lib.hid (al_new (Obj.cells (wvs 1 A B).toArray 9 (0, 0)) (by simp))
      have KB : Hid (Below w.heap.size w ((((w.alloc (Obj.cells (cellsV 0 zW) 31 (0, 0))).alloc (Obj.cells fourV 2 (0, 0))).alloc (Obj.cells (cellsV 1 zW) 31 (0, 0))).alloc (Obj.cells (wvs 1 A B).toArray 9 (0, 0)))) := Lib.hid (bal4 w _ _ _ _)
      have sn := run_storeCells_new (P := Tryz.prog) ((w.alloc (Obj.cells (cellsV 0 zW) 31 (0, 0))).alloc (Obj.cells fourV 2 (0, 0))) 31 (cellsV 0 zW) (cellsV 1 zW) (size31c _ _) (cellsV_sizes _ _ _ _) (cellsV_one _ _)
      simp only [World.size_alloc] at sn
      have HW : Hid (∀ i, i < 1 → ((((w.alloc (Obj.cells (cellsV 0 zW) 31 (0, 0))).alloc (Obj.cells fourV 2 (0, 0))).alloc (Obj.cells (cellsV 1 zW) 31 (0, 0))).alloc (Obj.cells (wvs 1 A B).toArray 9 (0, 0))).cell? ⟨w.heap.size + 1 + 1 + 1, i, none⟩ = some (.string (wordT (A i) (B i)))) := Lib.hid fun i hi => cell_of_heap K2.out (wvs_at 1 A B i hi)
      go_wp2_with (first
        | (go_at_call 21; ((with_reducible refine (decimal_c 1 (by omega) _).mono ?_)); rintro e w1 ⟨rfl, rfl⟩)
        | (go_at_call 45; ((with_reducible refine (cutHit_c 1 1 A B _).mono ?_)); rintro e w1 ⟨rfl, rfl⟩)
        | (go_at_call 46; ((with_reducible refine (split_c 1 (by omega) A B _ EB.out).mono ?_)); rintro e w1 ⟨rfl, rfl⟩)
        | (go_at_call 47
           ((with_reducible refine (containsWords_c _ 1 (by omega) A B hs _ EC.out HW.out).mono ?_))
           rintro e w3 ⟨rfl, hb3⟩
           have N0 := Lib.hid (below_heap' hb3 K0.out)
           have N1 := Lib.hid (below_heap' hb3 K1.out)
           have N2 := Lib.hid (below_heap' hb3 K2.out)
           have NB := Lib.hid (bnext KB.out hb3)
           clear hb3))
      clear sn hc0
      go_loopw [45] (fun c wr => ∃ j : Nat, j ≤ 1 ∧ c = .int .i64 j ∧ Below w.heap.size w wr ∧ Wv wr w.heap.size 0 zW ∧ Wv wr (w.heap.size + 1 + 1) 1 (part (zfC A B) j) ∧ wr.heap[w.heap.size + 1 + 1 + 1]? = some (.cells (wvs 1 A B).toArray 9 (0, 0))) (fun c _ => (1 - intOf c).toNat)
      case atStart => exact ⟨0, by omega, rfl, NB.out, N0.out, by rw [part_zero]; exact N1.out, N2.out⟩
      case round =>
        obtain ⟨j, hj, rfl, hb, h0, h1, h2⟩ := hrel
        clear NB N0 N1 N2
        by_cases hlt : j < 1
        · have hcw := cell_of_heap h2 (wvs_at 1 A B j hlt)
          have P0 := Lib.hid h0
          have P1 := Lib.hid h1
          have P2 := Lib.hid h2
          have PB := Lib.hid hb
          clear hb h0 h1 h2
          go_wp2_with (first
            | (go_at_call 50
               ((with_reducible refine (readComplex_c _ _ (HS.out j hlt).1 (HS.out j hlt).2 _ (HE.out.below PB.out)).mono ?_))
               rintro e w4 ⟨rfl, hb4⟩
               have R0 := Lib.hid (below_heap' hb4 P0.out)
               have R1 := Lib.hid (below_heap' hb4 P1.out)
               have R2 := Lib.hid (below_heap' hb4 P2.out)
               have RB := Lib.hid (bnext PB.out hb4)
               have c1 := cell_of_heap R1.out (cellsV_at 1 (part (zfC A B) j) j (by omega))
               have f1 := frozen_of_row w4 (w.heap.size + 1 + 1) (1 + j) _ _ R1.out
               clear hb4))
          refine ⟨⟨j + 1, by omega, by go_num, RB.out.setCell (by simp; omega) _, ?_, ?_, ?_⟩, by simp [intOf]; omega⟩
          · exact (heap_setCell_other _ _ _ _ (by simp; omega)).trans R0.out
          · have q := Wv.set R1.out j (by omega) (fbC (A j) (B j))
            rw [← part_succ]; exact q
          · exact (heap_setCell_other _ _ _ _ (by simp)).trans R2.out
        · obtain rfl : j = 1 := by omega
          go_wp2_with (first
            | (refine ld31 rfl _ rfl (w.heap.size + 1 + 1) rfl h1 ?_)
            | (refine st31 rfl _ _ rfl w.heap.size rfl rfl h0 ?_))
          exact bodyPost_ret (results_wave rfl _ _ w.heap.size 1 _ _ rfl rfl (heap_setRow_same h0)) rfl ⟨rfl, below_setRow hb (Nat.le_refl _) _⟩


set_option maxRecDepth 100000 in
set_option maxHeartbeats 4000000 in
theorem signedParse2_c (A B : Nat → Int) (hs : Small 4 A B) (w : World) (he : Env w) :
    Calls Tryz.prog 25 #[.string (waveT 2 4 A B)] w fun e w' => e = .returned (.tuple #[.agg (cellsV 2 (part (zfC A B) 4)), .int .i64 0]) ∧ Below w.heap.size w w' := by
  have HE := Lib.hid he
  have HS : Hid (∀ i, i < 4 → (-4 ≤ A i ∧ A i ≤ 4) ∧ (-4 ≤ B i ∧ B i ≤ 4)) := Lib.hid hs
  have s1 := decT_size 1
  have s2 := decT_size 2
  have s4 := decT_size 4
  clear he
  go_enter Tryz.func25, Tryz.ntmps25
  go_wp2_with fail
  go_loopw [15] (fun c wr => ∃ k : Nat, k ≤ 1 ∧ c = .int .i64 k ∧ ((w.alloc (Obj.cells (cellsV 0 zW) 31 (0, 0))).alloc (Obj.cells fourV 2 (0, 0))) = wr) (fun c _ => (1 - intOf c).toNat)
  case atStart => exact ⟨0, by omega, rfl, rfl⟩
  case round =>
    obtain ⟨k, hk, hck, rfl⟩ := hrel
    obtain rfl | rfl : k = 0 ∨ k = 1 := by omega
    · replace hck : _ = Value.int .i64 0 := hck
      subst hck
      have hc0 : ((w.alloc (Obj.cells (cellsV 0 zW) 31 (0, 0))).alloc (Obj.cells fourV 2 (0, 0))).cell? ⟨w.heap.size + 1, 0, none⟩ = some (.int .i64 1) := cell_of_heap (al_new (Obj.cells fourV 2 (0, 0)) (by simp)) rfl
      go_wp2_with (first
        | (go_at_call 21; ((with_reducible refine (decimal_c 1 (by omega) _).mono ?_)); rintro e w1 ⟨rfl, rfl⟩)
        | (go_at_call 45; ((with_reducible refine (cutMiss_c 2 1 (by decide) 4 A B _).mono ?_)); rintro e w1 ⟨rfl, rfl⟩))
      exact ⟨⟨1, by omega, rfl, trivial⟩, by simp [intOf]⟩
    · replace hck : _ = Value.int .i64 1 := hck
      subst hck
      have hc0 : ((w.alloc (Obj.cells (cellsV 0 zW) 31 (0, 0))).alloc (Obj.cells fourV 2 (0, 0))).cell? ⟨w.heap.size + 1, 1, none⟩ = some (.int .i64 2) := cell_of_heap (al_new (Obj.cells fourV 2 (0, 0)) (by simp)) rfl
      have EB : Hid (Env (((w.alloc (Obj.cells (cellsV 0 zW) 31 (0, 0))).alloc (Obj.cells fourV 2 (0, 0))).alloc (Obj.cells (cellsV 2 zW) 31 (0, 0)))) := Lib.hid ((((HE.out.below (bal1 _ _)).below (bal1 _ _)).below (bal1 _ _)))
      have EC : Hid (Env ((((w.alloc (Obj.cells (cellsV 0 zW) 31 (0, 0))).alloc (Obj.cells fourV 2 (0, 0))).alloc (Obj.cells (cellsV 2 zW) 31 (0, 0))).alloc (Obj.cells (wvs 4 A B).toArray 9 (0, 0)))) := Lib.hid (EB.out.below (bal1 _ _))
      have K0 : Hid (Wv ((((w.alloc (Obj.cells (cellsV 0 zW) 31 (0, 0))).alloc (Obj.cells fourV 2 (0, 0))).alloc (Obj.cells (cellsV 2 zW) 31 (0, 0))).alloc (Obj.cells (wvs 4 A B).toArray 9 (0, 0))) w.heap.size 0 zW) := Lib.hid (al_old _ (al_old _ (al_old _ (al_new (Obj.cells (cellsV 0 zW) 31 (0, 0)) rfl))))
      have K1 : Hid (Wv ((((w.alloc (Obj.cells (cellsV 0 zW) 31 (0, 0))).alloc (Obj.cells fourV 2 (0, 0))).alloc (Obj.cells (cellsV 2 zW) 31 (0, 0))).alloc (Obj.cells (wvs 4 A B).toArray 9 (0, 0))) (w.heap.size + 1 + 1) 2 zW) := Lib.hid (al_old _ (al_new (Obj.cells (cellsV 2 zW) 31 (0, 0)) (by simp)))
      have K2 : Hid (((((w.alloc (Obj.cells (cellsV 0 zW) 31 (0, 0))).alloc (Obj.cells fourV 2 (0, 0))).alloc (Obj.cells (cellsV 2 zW) 31 (0, 0))).alloc (Obj.cells (wvs 4 A B).toArray 9 (0, 0))).heap[w.heap.size + 1 + 1 + 1]? = some (.cells (wvs 4 A B).toArray 9 (0, 0))) := Lib.hid (al_new (Obj.cells (wvs 4 A B).toArray 9 (0, 0)) (by simp))
      have KB : Hid (Below w.heap.size w ((((w.alloc (Obj.cells (cellsV 0 zW) 31 (0, 0))).alloc (Obj.cells fourV 2 (0, 0))).alloc (Obj.cells (cellsV 2 zW) 31 (0, 0))).alloc (Obj.cells (wvs 4 A B).toArray 9 (0, 0)))) := Lib.hid (bal4 w _ _ _ _)
      have sn := run_storeCells_new (P := Tryz.prog) ((w.alloc (Obj.cells (cellsV 0 zW) 31 (0, 0))).alloc (Obj.cells fourV 2 (0, 0))) 31 (cellsV 0 zW) (cellsV 2 zW) (size31c _ _) (cellsV_sizes _ _ _ _) (cellsV_one _ _)
      simp only [World.size_alloc] at sn
      have HW : Hid (∀ i, i < 4 → ((((w.alloc (Obj.cells (cellsV 0 zW) 31 (0, 0))).alloc (Obj.cells fourV 2 (0, 0))).alloc (Obj.cells (cellsV 2 zW) 31 (0, 0))).alloc (Obj.cells (wvs 4 A B).toArray 9 (0, 0))).cell? ⟨w.heap.size + 1 + 1 + 1, i, none⟩ = some (.string (wordT (A i) (B i)))) := Lib.hid fun i hi => cell_of_heap K2.out (wvs_at 4 A B i hi)
      go_wp2_with (first
        | (go_at_call 21; ((with_reducible refine (decimal_c 2 (by omega) _).mono ?_)); rintro e w1 ⟨rfl, rfl⟩)
        | (go_at_call 45; ((with_reducible refine (cutHit_c 2 4 A B _).mono ?_)); rintro e w1 ⟨rfl, rfl⟩)
        | (go_at_call 46; ((with_reducible refine (split_c 4 (by omega) A B _ EB.out).mono ?_)); rintro e w1 ⟨rfl, rfl⟩)
        | (go_at_call 47
           ((with_reducible refine (containsWords_c _ 4 (by omega) A B hs _ EC.out HW.out).mono ?_))
           rintro e w3 ⟨rfl, hb3⟩
           have N0 := Lib.hid (below_heap' hb3 K0.out)
           have N1 := Lib.hid (below_heap' hb3 K1.out)
           have N2 := Lib.hid (below_heap' hb3 K2.out)
           have NB := Lib.hid (bnext KB.out hb3)
           clear hb3))
      clear sn hc0
      go_loopw [45] (fun c wr => ∃ j : Nat, j ≤ 4 ∧ c = .int .i64 j ∧ Below w.heap.size w wr ∧ Wv wr w.heap.size 0 zW ∧ Wv wr (w.heap.size + 1 + 1) 2 (part (zfC A B) j) ∧ wr.heap[w.heap.size + 1 + 1 + 1]? = some (.cells (wvs 4 A B).toArray 9 (0, 0))) (fun c _ => (4 - intOf c).toNat)
      case atStart => exact ⟨0, by omega, rfl, NB.out, N0.out, by rw [part_zero]; exact N1.out, N2.out⟩
      case round =>
        obtain ⟨j, hj, rfl, hb, h0, h1, h2⟩ := hrel
        clear NB N0 N1 N2
        by_cases hlt : j < 4
        · have hcw := cell_of_heap h2 (wvs_at 4 A B j hlt)
          have P0 := Lib.hid h0
          have P1 := Lib.hid h1
          have P2 := Lib.hid h2
          have PB := Lib.hid hb
          clear hb h0 h1 h2
          go_wp2_with (first
            | (go_at_call 50
               ((with_reducible refine (readComplex_c _ _ (HS.out j hlt).1 (HS.out j hlt).2 _ (HE.out.below PB.out)).mono ?_))
               rintro e w4 ⟨rfl, hb4⟩
               have R0 := Lib.hid (below_heap' hb4 P0.out)
               have R1 := Lib.hid (below_heap' hb4 P1.out)
               have R2 := Lib.hid (below_heap' hb4 P2.out)
               have RB := Lib.hid (bnext PB.out hb4)
               have c1 := cell_of_heap R1.out (cellsV_at 2 (part (zfC A B) j) j (by omega))
               have f1 := frozen_of_row w4 (w.heap.size + 1 + 1) (1 + j) _ _ R1.out
               clear hb4))
          refine ⟨⟨j + 1, by omega, by go_num, RB.out.setCell (by simp; omega) _, ?_, ?_, ?_⟩, by simp [intOf]; omega⟩
          · exact (heap_setCell_other _ _ _ _ (by simp; omega)).trans R0.out
          · have q := Wv.set R1.out j (by omega) (fbC (A j) (B j))
            rw [← part_succ]; exact q
          · exact (heap_setCell_other _ _ _ _ (by simp)).trans R2.out
        · obtain rfl : j = 4 := by omega
          go_wp2_with (first
            | (refine ld31 rfl _ rfl (w.heap.size + 1 + 1) rfl h1 ?_)
            | (refine st31 rfl _ _ rfl w.heap.size rfl rfl h0 ?_))
          exact bodyPost_ret (results_wave rfl _ _ w.heap.size 2 _ _ rfl rfl (heap_setRow_same h0)) rfl ⟨rfl, below_setRow hb (Nat.le_refl _) _⟩


set_option maxRecDepth 100000 in
set_option maxHeartbeats 4000000 in
theorem signedParse4_c (A B : Nat → Int) (hs : Small 16 A B) (w : World) (he : Env w) :
    Calls Tryz.prog 25 #[.string (waveT 4 16 A B)] w fun e w' => e = .returned (.tuple #[.agg (cellsV 4 (part (zfC A B) 16)), .int .i64 0]) ∧ Below w.heap.size w w' := by
  have HE := Lib.hid he
  have HS : Hid (∀ i, i < 16 → (-4 ≤ A i ∧ A i ≤ 4) ∧ (-4 ≤ B i ∧ B i ≤ 4)) := Lib.hid hs
  have s1 := decT_size 1
  have s2 := decT_size 2
  have s4 := decT_size 4
  clear he
  go_enter Tryz.func25, Tryz.ntmps25
  go_wp2_with fail
  go_loopw [15] (fun c wr => ∃ k : Nat, k ≤ 2 ∧ c = .int .i64 k ∧ ((w.alloc (Obj.cells (cellsV 0 zW) 31 (0, 0))).alloc (Obj.cells fourV 2 (0, 0))) = wr) (fun c _ => (2 - intOf c).toNat)
  case atStart => exact ⟨0, by omega, rfl, rfl⟩
  case round =>
    obtain ⟨k, hk, hck, rfl⟩ := hrel
    obtain rfl | rfl | rfl : k = 0 ∨ k = 1 ∨ k = 2 := by omega
    · replace hck : _ = Value.int .i64 0 := hck
      subst hck
      have hc0 : ((w.alloc (Obj.cells (cellsV 0 zW) 31 (0, 0))).alloc (Obj.cells fourV 2 (0, 0))).cell? ⟨w.heap.size + 1, 0, none⟩ = some (.int .i64 1) := cell_of_heap (al_new (Obj.cells fourV 2 (0, 0)) (by simp)) rfl
      go_wp2_with (first
        | (go_at_call 21; ((with_reducible refine (decimal_c 1 (by omega) _).mono ?_)); rintro e w1 ⟨rfl, rfl⟩)
        | (go_at_call 45; ((with_reducible refine (cutMiss_c 4 1 (by decide) 16 A B _).mono ?_)); rintro e w1 ⟨rfl, rfl⟩))
      exact ⟨⟨1, by omega, rfl, trivial⟩, by simp [intOf]⟩
    · replace hck : _ = Value.int .i64 1 := hck
      subst hck
      have hc0 : ((w.alloc (Obj.cells (cellsV 0 zW) 31 (0, 0))).alloc (Obj.cells fourV 2 (0, 0))).cell? ⟨w.heap.size + 1, 1, none⟩ = some (.int .i64 2) := cell_of_heap (al_new (Obj.cells fourV 2 (0, 0)) (by simp)) rfl
      go_wp2_with (first
        | (go_at_call 21; ((with_reducible refine (decimal_c 2 (by omega) _).mono ?_)); rintro e w1 ⟨rfl, rfl⟩)
        | (go_at_call 45; ((with_reducible refine (cutMiss_c 4 2 (by decide) 16 A B _).mono ?_)); rintro e w1 ⟨rfl, rfl⟩))
      exact ⟨⟨2, by omega, rfl, trivial⟩, by simp [intOf]⟩
    · replace hck : _ = Value.int .i64 2 := hck
      subst hck
      have hc0 : ((w.alloc (Obj.cells (cellsV 0 zW) 31 (0, 0))).alloc (Obj.cells fourV 2 (0, 0))).cell? ⟨w.heap.size + 1, 2, none⟩ = some (.int .i64 4) := cell_of_heap (al_new (Obj.cells fourV 2 (0, 0)) (by simp)) rfl
      have EB : Hid (Env (((w.alloc (Obj.cells (cellsV 0 zW) 31 (0, 0))).alloc (Obj.cells fourV 2 (0, 0))).alloc (Obj.cells (cellsV 4 zW) 31 (0, 0)))) := Lib.hid ((((HE.out.below (bal1 _ _)).below (bal1 _ _)).below (bal1 _ _)))
      have EC : Hid (Env ((((w.alloc (Obj.cells (cellsV 0 zW) 31 (0, 0))).alloc (Obj.cells fourV 2 (0, 0))).alloc (Obj.cells (cellsV 4 zW) 31 (0, 0))).alloc (Obj.cells (wvs 16 A B).toArray 9 (0, 0)))) := Lib.hid (EB.out.below (bal1 _ _))
      have K0 : Hid (Wv ((((w.alloc (Obj.cells (cellsV 0 zW) 31 (0, 0))).alloc (Obj.cells fourV 2 (0, 0))).alloc (Obj.cells (cellsV 4 zW) 31 (0, 0))).alloc (Obj.cells (wvs 16 A B).toArray 9 (0, 0))) w.heap.size 0 zW) := Lib.hid (al_old _ (al_old _ (al_old _ (al_new (Obj.cells (cellsV 0 zW) 31 (0, 0)) rfl))))
      have K1 : Hid (Wv ((((w.alloc (Obj.cells (cellsV 0 zW) 31 (0, 0))).alloc (Obj.cells fourV 2 (0, 0))).alloc (Obj.cells (cellsV 4 zW) 31 (0, 0))).alloc (Obj.cells (wvs 16 A B).toArray 9 (0, 0))) (w.heap.size + 1 + 1) 4 zW) := Lib.hid (al_old _ (al_new (Obj.cells (cellsV 4 zW) 31 (0, 0)) (by simp)))
      have K2 : Hid (((((w.alloc (Obj.cells (cellsV 0 zW) 31 (0, 0))).alloc (Obj.cells fourV 2 (0, 0))).alloc (Obj.cells (cellsV 4 zW) 31 (0, 0))).alloc (Obj.cells (wvs 16 A B).toArray 9 (0, 0))).heap[w.heap.size + 1 + 1 + 1]? = some (.cells (wvs 16 A B).toArray 9 (0, 0))) := Lib.hid (al_new (Obj.cells (wvs 16 A B).toArray 9 (0, 0)) (by simp))
      have KB : Hid (Below w.heap.size w ((((w.alloc (Obj.cells (cellsV 0 zW) 31 (0, 0))).alloc (Obj.cells fourV 2 (0, 0))).alloc (Obj.cells (cellsV 4 zW) 31 (0, 0))).alloc (Obj.cells (wvs 16 A B).toArray 9 (0, 0)))) := Lib.hid (bal4 w _ _ _ _)
      have sn := run_storeCells_new (P := Tryz.prog) ((w.alloc (Obj.cells (cellsV 0 zW) 31 (0, 0))).alloc (Obj.cells fourV 2 (0, 0))) 31 (cellsV 0 zW) (cellsV 4 zW) (size31c _ _) (cellsV_sizes _ _ _ _) (cellsV_one _ _)
      simp only [World.size_alloc] at sn
      have HW : Hid (∀ i, i < 16 → ((((w.alloc (Obj.cells (cellsV 0 zW) 31 (0, 0))).alloc (Obj.cells fourV 2 (0, 0))).alloc (Obj.cells (cellsV 4 zW) 31 (0, 0))).alloc (Obj.cells (wvs 16 A B).toArray 9 (0, 0))).cell? ⟨w.heap.size + 1 + 1 + 1, i, none⟩ = some (.string (wordT (A i) (B i)))) := Lib.hid fun i hi => cell_of_heap K2.out (wvs_at 16 A B i hi)
      go_wp2_with (first
        | (go_at_call 21; ((with_reducible refine (decimal_c 4 (by omega) _).mono ?_)); rintro e w1 ⟨rfl, rfl⟩)
        | (go_at_call 45; ((with_reducible refine (cutHit_c 4 16 A B _).mono ?_)); rintro e w1 ⟨rfl, rfl⟩)
        | (go_at_call 46; ((with_reducible refine (split_c 16 (by omega) A B _ EB.out).mono ?_)); rintro e w1 ⟨rfl, rfl⟩)
        | (go_at_call 47
           ((with_reducible refine (containsWords_c _ 16 (by omega) A B hs _ EC.out HW.out).mono ?_))
           rintro e w3 ⟨rfl, hb3⟩
           have N0 := Lib.hid (below_heap' hb3 K0.out)
           have N1 := Lib.hid (below_heap' hb3 K1.out)
           have N2 := Lib.hid (below_heap' hb3 K2.out)
           have NB := Lib.hid (bnext KB.out hb3)
           clear hb3))
      clear sn hc0
      go_loopw [45] (fun c wr => ∃ j : Nat, j ≤ 16 ∧ c = .int .i64 j ∧ Below w.heap.size w wr ∧ Wv wr w.heap.size 0 zW ∧ Wv wr (w.heap.size + 1 + 1) 4 (part (zfC A B) j) ∧ wr.heap[w.heap.size + 1 + 1 + 1]? = some (.cells (wvs 16 A B).toArray 9 (0, 0))) (fun c _ => (16 - intOf c).toNat)
      case atStart => exact ⟨0, by omega, rfl, NB.out, N0.out, by rw [part_zero]; exact N1.out, N2.out⟩
      case round =>
        obtain ⟨j, hj, rfl, hb, h0, h1, h2⟩ := hrel
        clear NB N0 N1 N2
        by_cases hlt : j < 16
        · have hcw := cell_of_heap h2 (wvs_at 16 A B j hlt)
          have P0 := Lib.hid h0
          have P1 := Lib.hid h1
          have P2 := Lib.hid h2
          have PB := Lib.hid hb
          clear hb h0 h1 h2
          go_wp2_with (first
            | (go_at_call 50
               ((with_reducible refine (readComplex_c _ _ (HS.out j hlt).1 (HS.out j hlt).2 _ (HE.out.below PB.out)).mono ?_))
               rintro e w4 ⟨rfl, hb4⟩
               have R0 := Lib.hid (below_heap' hb4 P0.out)
               have R1 := Lib.hid (below_heap' hb4 P1.out)
               have R2 := Lib.hid (below_heap' hb4 P2.out)
               have RB := Lib.hid (bnext PB.out hb4)
               have c1 := cell_of_heap R1.out (cellsV_at 4 (part (zfC A B) j) j (by omega))
               have f1 := frozen_of_row w4 (w.heap.size + 1 + 1) (1 + j) _ _ R1.out
               clear hb4))
          refine ⟨⟨j + 1, by omega, by go_num, RB.out.setCell (by simp; omega) _, ?_, ?_, ?_⟩, by simp [intOf]; omega⟩
          · exact (heap_setCell_other _ _ _ _ (by simp; omega)).trans R0.out
          · have q := Wv.set R1.out j (by omega) (fbC (A j) (B j))
            rw [← part_succ]; exact q
          · exact (heap_setCell_other _ _ _ _ (by simp)).trans R2.out
        · obtain rfl : j = 16 := by omega
          go_wp2_with (first
            | (refine ld31 rfl _ rfl (w.heap.size + 1 + 1) rfl h1 ?_)
            | (refine st31 rfl _ _ rfl w.heap.size rfl rfl h0 ?_))
          exact bodyPost_ret (results_wave rfl _ _ w.heap.size 4 _ _ rfl rfl (heap_setRow_same h0)) rfl ⟨rfl, below_setRow hb (Nat.le_refl _) _⟩


set_option maxHeartbeats 400000 in
theorem parseWave_c (n : Int) (y : Nat → CB) (t : ByteArray) (w : World)
    (hf : ∀ w1, Below w.heap.size w w1 → Calls Tryz.prog 25 #[.string t] w1 fun e w2 => e = .returned (.tuple #[.agg (cellsV n y), .int .i64 0]) ∧ Below w1.heap.size w1 w2) :
    Calls Tryz.prog 10 #[.string t] w fun e w' => e = .returned (.tuple #[.agg (cellsV n fun i => plC (y i)), .int .i64 0]) ∧ Below w.heap.size w w' := by
  have HF := Lib.hid (hf _ (bal1 w (Obj.cells (cellsV 0 zW) 31 (0, 0))))
  clear hf
  go_enter Tryz.func10, Tryz.ntmps10
  go_wp2_with (first
    | (go_at_call 25
       ((with_reducible refine (HF.out).mono ?_))
       rintro e w1 ⟨rfl, hb1⟩
       have H1 := Lib.hid (below_heap' hb1 (al_new (Obj.cells (cellsV 0 zW) 31 (0, 0)) rfl))
       have HB := Lib.hid (bnext (bal1 w _) hb1)
       have HS : Hid (w.heap.size < w1.heap.size) := Lib.hid (lt_of_block H1.out)
       have H2 : Hid (Wv ((w1.alloc (Obj.cells (cellsV 0 zW) 31 (0, 0))).setRow w1.heap.size (cellsV n y)) w1.heap.size n y) := Lib.hid (heap_setRow_same (al_new (Obj.cells (cellsV 0 zW) 31 (0, 0)) rfl))
       have H3 : Hid (Wv ((w1.alloc (Obj.cells (cellsV 0 zW) 31 (0, 0))).setRow w1.heap.size (cellsV n y)) w.heap.size 0 zW) := Lib.hid ((setRow_other _ _ _ _ (by have := HS.out; omega)).trans (al_old _ H1.out))
       have HB2 : Hid (Below w.heap.size w ((w1.alloc (Obj.cells (cellsV 0 zW) 31 (0, 0))).setRow w1.heap.size (cellsV n y))) := Lib.hid (below_setRow (bnext HB.out (bal1 w1 _)) (by have := HS.out; omega) _)
       clear hb1)
    | (refine st31 rfl _ _ rfl w1.heap.size rfl rfl (al_new (Obj.cells (cellsV 0 zW) 31 (0, 0)) rfl) ?_)
    | (refine ld31 rfl _ rfl w1.heap.size rfl H2.out ?_)
    | (go_at_call 26
       ((with_reducible refine (plainW_c n y _).mono ?_))
       rintro e w2 ⟨rfl, hb2⟩
       have H4 := Lib.hid (below_heap' hb2 H3.out)
       have HB3 := Lib.hid (bnext HB2.out hb2)
       clear hb2)
    | (refine st31 rfl _ _ rfl w.heap.size rfl rfl H4.out ?_))
  exact bodyPost_ret (results_wave rfl _ _ w.heap.size n _ _ rfl rfl (heap_setRow_same H4.out)) rfl ⟨rfl, below_setRow HB3.out (Nat.le_refl _) _⟩
end Go.Proofs.YtdpdjcehobjohaaGreatDoor
