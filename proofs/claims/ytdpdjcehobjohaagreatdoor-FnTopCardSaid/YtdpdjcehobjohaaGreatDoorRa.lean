/- spec.l02Turned, spec.l02Rows and spec.l02There on sides of at most 4. -/
import Derived.Test.YtdpdjcehobjohaaGreatDoorFb
namespace Go.Proofs.YtdpdjcehobjohaaGreatDoor
open Go Go.RowKit Go.BigFrame Fl

/-- rows and columns exchanged -/
def turn (n : Nat) (z : Nat → CB) : Nat → CB := fun i => z (pos true n (i / n) (i % n))
theorem turn_pos (d : Nat) (z : Nat → CB) (a j : Nat) (hd : d ≤ 2) (ha : a < 2 ^ d) (hj : j < 2 ^ d) : turn (2 ^ d) z (pos false (2 ^ d) a j) = z (pos true (2 ^ d) a j) := by
  have h2 := li_pos false d a j hd ha hj
  unfold li il at h2
  simp only [Bool.false_eq_true, if_false] at h2
  unfold turn; rw [h2.1, h2.2]
theorem grown_under {w wr : World} {row : Option Nat} (h : w.grownBy wr row) (x : Under wr) : w.grownBy x.1 row :=
  ⟨x.2.os.trans h.os, x.2.tape.trans h.tape, x.2.output.trans h.output, Nat.le_trans h.size x.2.size, fun k hk hne => (x.2.block k (Nat.lt_of_lt_of_le hk h.size)).trans (h.block k hk hne)⟩

set_option maxRecDepth 100000 in
set_option maxHeartbeats 4000000 in
theorem turned1_c (z : Nat → CB) (w : World) :
    Calls Tryz.prog 91 #[.agg (cellsV 1 z)] w fun e w' => e = .returned (.agg (cellsV 1 (part (turn (2 ^ 0) z) 1))) ∧ Below w.heap.size w w' := by
  go_enter Tryz.func91, Tryz.ntmps91
  go_wp2_with (first
    | (go_at_call 118
       ((with_reducible refine (l01Empty_c 1 _).mono ?_))
       rintro e w1 ⟨rfl, hb1⟩
       have HE := Lib.hid (bnext (bal2 w _ _) hb1)
       have HE0 := Lib.hid (below_heap' hb1 (al_old _ (al_new (Obj.cells (cellsV 1 z) 31 (0, 0)) rfl)))
       have HE1 := Lib.hid (below_heap' hb1 (al_new (Obj.cells (cellsV 0 zW) 31 (0, 0)) (by simp : w.heap.size + 1 = _)))
       have HES : Hid (w.heap.size + 1 < w1.heap.size) := Lib.hid (lt_of_block HE1.out)
       clear hb1)
    | (refine st31 rfl _ _ rfl w1.heap.size rfl rfl (al_new (Obj.cells (cellsV 0 zW) 31 (0, 0)) rfl) ?_))
  have HB0 : Hid (Below w.heap.size w ((w1.alloc (Obj.cells (cellsV 0 zW) 31 (0, 0))).setRow w1.heap.size (cellsV 1 zW))) := Lib.hid (below_setRow (bnext HE.out (bal1 _ _)) (by have := HES.out; omega) _)
  have HA0 : Hid (Wv ((w1.alloc (Obj.cells (cellsV 0 zW) 31 (0, 0))).setRow w1.heap.size (cellsV 1 zW)) w.heap.size 1 z) := Lib.hid ((setRow_other _ _ _ _ (by have := HES.out; omega)).trans (al_old _ HE0.out))
  have HA1 : Hid (Wv ((w1.alloc (Obj.cells (cellsV 0 zW) 31 (0, 0))).setRow w1.heap.size (cellsV 1 zW)) (w.heap.size + 1) 0 zW) := Lib.hid ((setRow_other _ _ _ _ (by have := HES.out; omega)).trans (al_old _ HE1.out))
  have HA2 : Hid (Wv ((w1.alloc (Obj.cells (cellsV 0 zW) 31 (0, 0))).setRow w1.heap.size (cellsV 1 zW)) w1.heap.size 1 zW) := Lib.hid (heap_setRow_same (al_new (Obj.cells (cellsV 0 zW) 31 (0, 0)) rfl))
  clear HE HE0 HE1
  generalize ((w1.alloc (Obj.cells (cellsV 0 zW) 31 (0, 0))).setRow w1.heap.size (cellsV 1 zW)) = W0 at HB0 HA0 HA1 HA2 ⊢
  generalize w1.heap.size = S at HES HA2 ⊢
  clear w1
  go_loopw [4] (fun c wr => ∃ a : Nat, a ≤ 1 ∧ c = .int .i64 a ∧ Below w.heap.size w wr ∧ Wv wr w.heap.size 1 z ∧ Wv wr (w.heap.size + 1) 0 zW ∧ Wv wr S 1 (lMix (turn (2 ^ 0) z) false (2 ^ 0) a 0)) (fun c _ => (1 - intOf c).toNat)
  case atStart => exact ⟨0, by omega, rfl, HB0.out, HA0.out, HA1.out, by rw [lMix_zero]; exact HA2.out⟩
  case round =>
    obtain ⟨a, ha, hca, hb, h0, h1, h2⟩ := hrel
    clear HB0 HA0 HA1 HA2
    obtain rfl | rfl : a = 0 ∨ a = 1 := by omega
    · replace hca : _ = Value.int .i64 0 := hca
      subst hca
      have hc0 := cell_of_heap h0 (cellsV_zero 1 z)
      have HB := Lib.hid hb
      have H0 := Lib.hid h0
      have H1 := Lib.hid h1
      have H2 := Lib.hid h2
      clear hb h0 h1 h2
      go_wp2_with fail
      clear hc0
      go_loopw [5] (fun c wr => ∃ j : Nat, j ≤ 1 ∧ c = .int .i64 j ∧ Below w.heap.size w wr ∧ Wv wr w.heap.size 1 z ∧ Wv wr (w.heap.size + 1) 0 zW ∧ Wv wr S 1 (lMix (turn (2 ^ 0) z) false (2 ^ 0) 0 j)) (fun c _ => (1 - intOf c).toNat)
      case atStart => exact ⟨0, by omega, rfl, HB.out, H0.out, H1.out, H2.out⟩
      case round =>
        obtain ⟨j, hj, hcj, hb, h0, h1, h2⟩ := hrel
        clear HB H0 H1 H2
        obtain rfl | rfl : j = 0 ∨ j = 1 := by omega
        · replace hcj : _ = Value.int .i64 0 := hcj
          subst hcj
          have HB := Lib.hid hb
          have H0 := Lib.hid h0
          have H1 := Lib.hid h1
          have H2 := Lib.hid h2
          have hc0 := cell_of_heap h0 (cellsV_zero 1 z)
          have f0 : ∀ x : Under wr, x.1.cell? ⟨w.heap.size, 0, none⟩ = some (.int .i64 1) := fun x => x.cell (cell_of_heap h0 (cellsV_zero 1 z))
          have f1 : ∀ x : Under wr, x.1.cell? ⟨w.heap.size, 1, none⟩ = some (cv (z 0)) := fun x => x.cell (cell_of_heap h0 (cellsV_at 1 z 0 (by omega)))
          clear hb h0 h1 h2
          go_wp2_with fail
          refine wp_region_quiet_tail (UC wr) 17 (by kernel_rfl) (by kernel_rfl) (UC.drew wr) ?_
          simp only [List.take_succ_cons, List.take_zero, List.drop_succ_cons, List.drop_zero]
          repeat (go_big_quiet_step (fail))
          refine wpQuiet_nil ?_
          rintro _ ⟨x, rfl⟩
          have hc2 := cell_of_heap (x.heap H2.out) (cellsV_at 1 _ 0 (by omega))
          have hf2 := frozen_of_row x.1 S 1 _ _ (x.heap H2.out)
          clear f0 f1 hc0
          go_wp2_with fail
          refine ⟨⟨1, by omega, rfl, (under_below HB.out x).setCell (by have := HES.out; simp; omega) _, ?_, ?_, ?_⟩, by simp [intOf]⟩
          · exact (heap_setCell_other _ _ _ _ (by have := HES.out; simp; omega)).trans (x.heap H0.out)
          · exact (heap_setCell_other _ _ _ _ (by have := HES.out; simp; omega)).trans (x.heap H1.out)
          · have q := Wv.set (x.heap H2.out) 0 (by omega) (z 0)
            have q2 := lMix_step (turn (2 ^ 0) z) false 0 0 0 (by omega) (by omega) (by omega)
            rw [turn_pos _ _ _ _ (by omega) (by omega) (by omega)] at q2
            rw [← q2]; exact q
        · replace hcj : _ = Value.int .i64 1 := hcj
          subst hcj
          have hc0 := cell_of_heap h0 (cellsV_zero 1 z)
          have HB := Lib.hid hb
          have H0 := Lib.hid h0
          have H1 := Lib.hid h1
          have H2 := Lib.hid h2
          clear hb h0 h1 h2
          go_wp2_with fail
          exact ⟨⟨1, by omega, rfl, HB.out, H0.out, H1.out, by rw [← lMix_line _ _ _ _ (by omega)]; exact H2.out⟩, by simp [intOf]⟩
    · replace hca : _ = Value.int .i64 1 := hca
      subst hca
      have hc0 := cell_of_heap h0 (cellsV_zero 1 z)
      go_wp2_with (first
        | (refine ld31 rfl _ rfl S rfl h2 ?_)
        | (refine st31 rfl _ _ rfl (w.heap.size + 1) rfl rfl h1 ?_))
      rw [← lMix_all (turn (2 ^ 0) z) false 0 (by omega)]
      exact bodyPost_ret (v := .agg (cellsV 1 _)) (results_cell_row rfl _ _ (w.heap.size + 1) 31 _ (0, 0) _ rfl (heap_setRow_same h1) Tryz.underlying31 rfl (size31c _ _)) rfl ⟨rfl, below_setRow hb (by omega) _⟩


set_option maxRecDepth 100000 in
set_option maxHeartbeats 4000000 in
theorem rows1_c (s : Int) (hs : s = 1 ∨ s = -1) (z : Nat → CB) (hz : LinOk OkS mulS qz s 0 false z) (w : World) :
    Calls Tryz.prog 92 #[.agg (cellsV 1 z), .int .i64 s] w fun e w' => e = .returned (.agg (cellsV 1 (part (lin mulS qz s 0 false z) 1))) ∧ Below w.heap.size w w' := by
  have HZ : Hid (∀ a, a < 1 → TrOk OkS mulS qz s 0 (cut false (2 ^ 0) z a)) := Lib.hid hz
  clear hz
  go_enter Tryz.func92, Tryz.ntmps92
  go_wp2_with (first
    | (go_at_call 118
       ((with_reducible refine (l01Empty_c 1 _).mono ?_))
       rintro e w1 ⟨rfl, hb1⟩
       have HE := Lib.hid (bnext (bal2 w _ _) hb1)
       have HE0 := Lib.hid (below_heap' hb1 (al_old _ (al_new (Obj.cells (cellsV 1 z) 31 (0, 0)) rfl)))
       have HE1 := Lib.hid (below_heap' hb1 (al_new (Obj.cells (cellsV 0 zW) 31 (0, 0)) (by simp : w.heap.size + 1 = _)))
       have HES : Hid (w.heap.size + 1 < w1.heap.size) := Lib.hid (lt_of_block HE1.out)
       clear hb1)
    | (refine st31 rfl _ _ rfl w1.heap.size rfl rfl (al_new (Obj.cells (cellsV 0 zW) 31 (0, 0)) rfl) ?_))
  have HB0 : Hid (Below w.heap.size w ((w1.alloc (Obj.cells (cellsV 0 zW) 31 (0, 0))).setRow w1.heap.size (cellsV 1 zW))) := Lib.hid (below_setRow (bnext HE.out (bal1 _ _)) (by have := HES.out; omega) _)
  have HA0 : Hid (Wv ((w1.alloc (Obj.cells (cellsV 0 zW) 31 (0, 0))).setRow w1.heap.size (cellsV 1 zW)) w.heap.size 1 z) := Lib.hid ((setRow_other _ _ _ _ (by have := HES.out; omega)).trans (al_old _ HE0.out))
  have HA1 : Hid (Wv ((w1.alloc (Obj.cells (cellsV 0 zW) 31 (0, 0))).setRow w1.heap.size (cellsV 1 zW)) (w.heap.size + 1) 0 zW) := Lib.hid ((setRow_other _ _ _ _ (by have := HES.out; omega)).trans (al_old _ HE1.out))
  have HA2 : Hid (Wv ((w1.alloc (Obj.cells (cellsV 0 zW) 31 (0, 0))).setRow w1.heap.size (cellsV 1 zW)) w1.heap.size 1 zW) := Lib.hid (heap_setRow_same (al_new (Obj.cells (cellsV 0 zW) 31 (0, 0)) rfl))
  clear HE HE0 HE1
  generalize ((w1.alloc (Obj.cells (cellsV 0 zW) 31 (0, 0))).setRow w1.heap.size (cellsV 1 zW)) = W0 at HB0 HA0 HA1 HA2 ⊢
  generalize w1.heap.size = S at HES HA2 ⊢
  clear w1
  go_loopw [6] (fun c wr => ∃ a : Nat, a ≤ 1 ∧ c = .int .i64 a ∧ Below w.heap.size w wr ∧ Wv wr w.heap.size 1 z ∧ Wv wr (w.heap.size + 1) 0 zW ∧ Wv wr S 1 (lMix (lin mulS qz s 0 false z) false (2 ^ 0) a 0)) (fun c _ => (1 - intOf c).toNat)
  case atStart => exact ⟨0, by omega, rfl, HB0.out, HA0.out, HA1.out, by rw [lMix_zero]; exact HA2.out⟩
  case round =>
    obtain ⟨a, ha, hca, hb, h0, h1, h2⟩ := hrel
    clear HB0 HA0 HA1 HA2
    obtain rfl | rfl : a = 0 ∨ a = 1 := by omega
    · replace hca : _ = Value.int .i64 0 := hca
      subst hca
      have hc0 := cell_of_heap h0 (cellsV_zero 1 z)
      have HB := Lib.hid hb
      have H0 := Lib.hid h0
      have H1 := Lib.hid h1
      have H2 := Lib.hid h2
      have HS2 : Hid (S < wr.heap.size) := Lib.hid (lt_of_block h2)
      have RE : Hid (Row wr 0 (.slice (some ⟨w.heap.size, 1, none⟩) 1 64) (2 ^ 0) (cut false (2 ^ 0) z 0)) := Lib.hid
        ⟨w.heap.size, 1, 64, rfl, Nat.zero_le _, by decide, fun i hi => by
          replace hi : i < 1 := hi
          have q := cell_of_heap h0 (cellsV_at 1 z (0 + i) (by omega))
          rw [show 1 + i = 1 + (0 + i) from (Nat.add_assoc 1 0 i)]; exact q⟩
      clear hb h0 h1 h2
      go_wp2_with (first
        | (go_at_call 119
           ((with_reducible refine (TrC.get (line_c 0 (by omega)) s hs _ (HZ.out 0 (by decide)) _ _ RE.out).mono ?_))
           rintro e w1 ⟨⟨v1, rfl, b1, o1, c1, rfl, hB1, hm1, hc1⟩, hb1⟩
           have K1 := Lib.hid hc1
           have HBn := Lib.hid (bnext HB.out hb1)
           have H0n := Lib.hid (below_heap' hb1 H0.out)
           have H1n := Lib.hid (below_heap' hb1 H1.out)
           have H2n := Lib.hid (below_heap' hb1 H2.out)
           have KN : Hid (S < b1) := Lib.hid (by have := HS2.out; omega)
           clear hc1 hb1 hB1 hm1))
      clear hc0
      go_loopw [8] (fun c wr => ∃ j : Nat, j ≤ 1 ∧ c = .int .i64 j ∧ w1.grownBy wr (some S) ∧ Wv wr S 1 (lMix (lin mulS qz s 0 false z) false (2 ^ 0) 0 j)) (fun c _ => (1 - intOf c).toNat)
      case atStart => exact ⟨0, by omega, rfl, grown_refl _ _, H2n.out⟩
      case round =>
        obtain ⟨j, hj, hcj, hg, h2⟩ := hrel
        have h0 : Wv wr w.heap.size 1 z := (hg.block _ (lt_of_block H0n.out) (by have := HES.out; intro e; injection e; omega)).trans H0n.out
        obtain rfl | rfl : j = 0 ∨ j = 1 := by omega
        · replace hcj : _ = Value.int .i64 0 := hcj
          subst hcj
          have G := Lib.hid hg
          have H2 := Lib.hid h2
          have hc0 := cell_of_heap h0 (cellsV_zero 1 z)
          have f0 : ∀ x : Under wr, x.1.cell? ⟨w.heap.size, 0, none⟩ = some (.int .i64 1) := fun x => x.cell (cell_of_heap h0 (cellsV_zero 1 z))
          have f1 : ∀ x : Under wr, x.1.cell? ⟨b1, o1, none⟩ = some (cv (tr mulS qz s 0 (cut false (2 ^ 0) z 0) 0)) := fun x => x.cell (hg.cell (K1.out 0 (by decide)) (by have := KN.out; simp; omega))
          clear hg h0 h2
          go_wp2_with fail
          refine wp_region_quiet_tail (UC wr) 12 (by kernel_rfl) (by kernel_rfl) (UC.drew wr) ?_
          simp only [List.take_succ_cons, List.take_zero, List.drop_succ_cons, List.drop_zero]
          repeat (go_big_quiet_step (fail))
          refine wpQuiet_nil ?_
          rintro _ ⟨x, rfl⟩
          have hc2 := cell_of_heap (x.heap H2.out) (cellsV_at 1 _ 0 (by omega))
          have hf2 := frozen_of_row x.1 S 1 _ _ (x.heap H2.out)
          clear f0 f1 hc0
          go_wp2_with fail
          refine ⟨⟨1, by omega, rfl, grown_set (grown_under G.out x) _ _, ?_⟩, by simp [intOf]⟩
          have q := Wv.set (x.heap H2.out) 0 (by omega) (tr mulS qz s 0 (cut false (2 ^ 0) z 0) 0)
          have q2 := lMix_step (lin mulS qz s 0 false z) false 0 0 0 (by omega) (by omega) (by omega)
          rw [lin_pos _ _ _ _ _ _ _ _ (by omega) (by omega) (by omega)] at q2
          rw [← q2]; exact q
        · replace hcj : _ = Value.int .i64 1 := hcj
          subst hcj
          have hc0 := cell_of_heap h0 (cellsV_zero 1 z)
          have G := Lib.hid hg
          have M2 := Lib.hid h2
          clear hg h0 h2
          go_wp2_with fail
          have k3 := grown_below G.out (B := w.heap.size) (by have := HES.out; intro k hk; cases hk; omega) (by have := HBn.out.size; omega)
          have k1 := lt_of_block H0n.out
          have k2 := lt_of_block H1n.out
          refine ⟨⟨1, by omega, rfl, HBn.out.trans k3, ?_, ?_, ?_⟩, by simp [intOf]⟩
          · exact (G.out.block _ k1 (by have := HES.out; intro e; injection e; omega)).trans H0n.out
          · exact (G.out.block _ k2 (by have := HES.out; intro e; injection e; omega)).trans H1n.out
          · rw [← lMix_line _ _ _ _ (by omega)]; exact M2.out
    · replace hca : _ = Value.int .i64 1 := hca
      subst hca
      have hc0 := cell_of_heap h0 (cellsV_zero 1 z)
      go_wp2_with (first
        | (refine ld31 rfl _ rfl S rfl h2 ?_)
        | (refine st31 rfl _ _ rfl (w.heap.size + 1) rfl rfl h1 ?_))
      rw [← lMix_all (lin mulS qz s 0 false z) false 0 (by omega)]
      exact bodyPost_ret (v := .agg (cellsV 1 _)) (results_cell_row rfl _ _ (w.heap.size + 1) 31 _ (0, 0) _ rfl (heap_setRow_same h1) Tryz.underlying31 rfl (size31c _ _)) rfl ⟨rfl, below_setRow hb (by omega) _⟩


set_option maxRecDepth 100000 in
set_option maxHeartbeats 4000000 in
theorem turned2_c (z : Nat → CB) (w : World) :
    Calls Tryz.prog 91 #[.agg (cellsV 2 z)] w fun e w' => e = .returned (.agg (cellsV 2 (part (turn (2 ^ 1) z) 4))) ∧ Below w.heap.size w w' := by
  go_enter Tryz.func91, Tryz.ntmps91
  go_wp2_with (first
    | (go_at_call 118
       ((with_reducible refine (l01Empty_c 2 _).mono ?_))
       rintro e w1 ⟨rfl, hb1⟩
       have HE := Lib.hid (bnext (bal2 w _ _) hb1)
       have HE0 := Lib.hid (below_heap' hb1 (al_old _ (al_new (Obj.cells (cellsV 2 z) 31 (0, 0)) rfl)))
       have HE1 := Lib.hid (below_heap' hb1 (al_new (Obj.cells (cellsV 0 zW) 31 (0, 0)) (by simp : w.heap.size + 1 = _)))
       have HES : Hid (w.heap.size + 1 < w1.heap.size) := Lib.hid (lt_of_block HE1.out)
       clear hb1)
    | (refine st31 rfl _ _ rfl w1.heap.size rfl rfl (al_new (Obj.cells (cellsV 0 zW) 31 (0, 0)) rfl) ?_))
  have HB0 : Hid (Below w.heap.size w ((w1.alloc (Obj.cells (cellsV 0 zW) 31 (0, 0))).setRow w1.heap.size (cellsV 2 zW))) := Lib.hid (below_setRow (bnext HE.out (bal1 _ _)) (by have := HES.out; omega) _)
  have HA0 : Hid (Wv ((w1.alloc (Obj.cells (cellsV 0 zW) 31 (0, 0))).setRow w1.heap.size (cellsV 2 zW)) w.heap.size 2 z) := Lib.hid ((setRow_other _ _ _ _ (by have := HES.out; omega)).trans (al_old _ HE0.out))
  have HA1 : Hid (Wv ((w1.alloc (Obj.cells (cellsV 0 zW) 31 (0, 0))).setRow w1.heap.size (cellsV 2 zW)) (w.heap.size + 1) 0 zW) := Lib.hid ((setRow_other _ _ _ _ (by have := HES.out; omega)).trans (al_old _ HE1.out))
  have HA2 : Hid (Wv ((w1.alloc (Obj.cells (cellsV 0 zW) 31 (0, 0))).setRow w1.heap.size (cellsV 2 zW)) w1.heap.size 2 zW) := Lib.hid (heap_setRow_same (al_new (Obj.cells (cellsV 0 zW) 31 (0, 0)) rfl))
  clear HE HE0 HE1
  generalize ((w1.alloc (Obj.cells (cellsV 0 zW) 31 (0, 0))).setRow w1.heap.size (cellsV 2 zW)) = W0 at HB0 HA0 HA1 HA2 ⊢
  generalize w1.heap.size = S at HES HA2 ⊢
  clear w1
  go_loopw [4] (fun c wr => ∃ a : Nat, a ≤ 2 ∧ c = .int .i64 a ∧ Below w.heap.size w wr ∧ Wv wr w.heap.size 2 z ∧ Wv wr (w.heap.size + 1) 0 zW ∧ Wv wr S 2 (lMix (turn (2 ^ 1) z) false (2 ^ 1) a 0)) (fun c _ => (2 - intOf c).toNat)
  case atStart => exact ⟨0, by omega, rfl, HB0.out, HA0.out, HA1.out, by rw [lMix_zero]; exact HA2.out⟩
  case round =>
    obtain ⟨a, ha, hca, hb, h0, h1, h2⟩ := hrel
    clear HB0 HA0 HA1 HA2
    obtain rfl | rfl | rfl : a = 0 ∨ a = 1 ∨ a = 2 := by omega
    · replace hca : _ = Value.int .i64 0 := hca
      subst hca
      have hc0 := cell_of_heap h0 (cellsV_zero 2 z)
      have HB := Lib.hid hb
      have H0 := Lib.hid h0
      have H1 := Lib.hid h1
      have H2 := Lib.hid h2
      clear hb h0 h1 h2
      go_wp2_with fail
      clear hc0
      go_loopw [5] (fun c wr => ∃ j : Nat, j ≤ 2 ∧ c = .int .i64 j ∧ Below w.heap.size w wr ∧ Wv wr w.heap.size 2 z ∧ Wv wr (w.heap.size + 1) 0 zW ∧ Wv wr S 2 (lMix (turn (2 ^ 1) z) false (2 ^ 1) 0 j)) (fun c _ => (2 - intOf c).toNat)
      case atStart => exact ⟨0, by omega, rfl, HB.out, H0.out, H1.out, H2.out⟩
      case round =>
        obtain ⟨j, hj, hcj, hb, h0, h1, h2⟩ := hrel
        clear HB H0 H1 H2
        obtain rfl | rfl | rfl : j = 0 ∨ j = 1 ∨ j = 2 := by omega
        · replace hcj : _ = Value.int .i64 0 := hcj
          subst hcj
          have HB := Lib.hid hb
          have H0 := Lib.hid h0
          have H1 := Lib.hid h1
          have H2 := Lib.hid h2
          have hc0 := cell_of_heap h0 (cellsV_zero 2 z)
          have f0 : ∀ x : Under wr, x.1.cell? ⟨w.heap.size, 0, none⟩ = some (.int .i64 2) := fun x => x.cell (cell_of_heap h0 (cellsV_zero 2 z))
          have f1 : ∀ x : Under wr, x.1.cell? ⟨w.heap.size, 1, none⟩ = some (cv (z 0)) := fun x => x.cell (cell_of_heap h0 (cellsV_at 2 z 0 (by omega)))
          clear hb h0 h1 h2
          go_wp2_with fail
          refine wp_region_quiet_tail (UC wr) 17 (by kernel_rfl) (by kernel_rfl) (UC.drew wr) ?_
          simp only [List.take_succ_cons, List.take_zero, List.drop_succ_cons, List.drop_zero]
          repeat (go_big_quiet_step (fail))
          refine wpQuiet_nil ?_
          rintro _ ⟨x, rfl⟩
          have hc2 := cell_of_heap (x.heap H2.out) (cellsV_at 2 _ 0 (by omega))
          have hf2 := frozen_of_row x.1 S 1 _ _ (x.heap H2.out)
          clear f0 f1 hc0
          go_wp2_with fail
          refine ⟨⟨1, by omega, rfl, (under_below HB.out x).setCell (by have := HES.out; simp; omega) _, ?_, ?_, ?_⟩, by simp [intOf]⟩
          · exact (heap_setCell_other _ _ _ _ (by have := HES.out; simp; omega)).trans (x.heap H0.out)
          · exact (heap_setCell_other _ _ _ _ (by have := HES.out; simp; omega)).trans (x.heap H1.out)
          · have q := Wv.set (x.heap H2.out) 0 (by omega) (z 0)
            have q2 := lMix_step (turn (2 ^ 1) z) false 1 0 0 (by omega) (by omega) (by omega)
            rw [turn_pos _ _ _ _ (by omega) (by omega) (by omega)] at q2
            rw [← q2]; exact q
        · replace hcj : _ = Value.int .i64 1 := hcj
          subst hcj
          have HB := Lib.hid hb
          have H0 := Lib.hid h0
          have H1 := Lib.hid h1
          have H2 := Lib.hid h2
          have hc0 := cell_of_heap h0 (cellsV_zero 2 z)
          have f0 : ∀ x : Under wr, x.1.cell? ⟨w.heap.size, 0, none⟩ = some (.int .i64 2) := fun x => x.cell (cell_of_heap h0 (cellsV_zero 2 z))
          have f1 : ∀ x : Under wr, x.1.cell? ⟨w.heap.size, 3, none⟩ = some (cv (z 2)) := fun x => x.cell (cell_of_heap h0 (cellsV_at 2 z 2 (by omega)))
          clear hb h0 h1 h2
          go_wp2_with fail
          refine wp_region_quiet_tail (UC wr) 17 (by kernel_rfl) (by kernel_rfl) (UC.drew wr) ?_
          simp only [List.take_succ_cons, List.take_zero, List.drop_succ_cons, List.drop_zero]
          repeat (go_big_quiet_step (fail))
          refine wpQuiet_nil ?_
          rintro _ ⟨x, rfl⟩
          have hc2 := cell_of_heap (x.heap H2.out) (cellsV_at 2 _ 1 (by omega))
          have hf2 := frozen_of_row x.1 S 2 _ _ (x.heap H2.out)
          clear f0 f1 hc0
          go_wp2_with fail
          refine ⟨⟨2, by omega, rfl, (under_below HB.out x).setCell (by have := HES.out; simp; omega) _, ?_, ?_, ?_⟩, by simp [intOf]⟩
          · exact (heap_setCell_other _ _ _ _ (by have := HES.out; simp; omega)).trans (x.heap H0.out)
          · exact (heap_setCell_other _ _ _ _ (by have := HES.out; simp; omega)).trans (x.heap H1.out)
          · have q := Wv.set (x.heap H2.out) 1 (by omega) (z 2)
            have q2 := lMix_step (turn (2 ^ 1) z) false 1 0 1 (by omega) (by omega) (by omega)
            rw [turn_pos _ _ _ _ (by omega) (by omega) (by omega)] at q2
            rw [← q2]; exact q
        · replace hcj : _ = Value.int .i64 2 := hcj
          subst hcj
          have hc0 := cell_of_heap h0 (cellsV_zero 2 z)
          have HB := Lib.hid hb
          have H0 := Lib.hid h0
          have H1 := Lib.hid h1
          have H2 := Lib.hid h2
          clear hb h0 h1 h2
          go_wp2_with fail
          exact ⟨⟨1, by omega, rfl, HB.out, H0.out, H1.out, by rw [← lMix_line _ _ _ _ (by omega)]; exact H2.out⟩, by simp [intOf]⟩
    · replace hca : _ = Value.int .i64 1 := hca
      subst hca
      have hc0 := cell_of_heap h0 (cellsV_zero 2 z)
      have HB := Lib.hid hb
      have H0 := Lib.hid h0
      have H1 := Lib.hid h1
      have H2 := Lib.hid h2
      clear hb h0 h1 h2
      go_wp2_with fail
      clear hc0
      go_loopw [5] (fun c wr => ∃ j : Nat, j ≤ 2 ∧ c = .int .i64 j ∧ Below w.heap.size w wr ∧ Wv wr w.heap.size 2 z ∧ Wv wr (w.heap.size + 1) 0 zW ∧ Wv wr S 2 (lMix (turn (2 ^ 1) z) false (2 ^ 1) 1 j)) (fun c _ => (2 - intOf c).toNat)
      case atStart => exact ⟨0, by omega, rfl, HB.out, H0.out, H1.out, H2.out⟩
      case round =>
        obtain ⟨j, hj, hcj, hb, h0, h1, h2⟩ := hrel
        clear HB H0 H1 H2
        obtain rfl | rfl | rfl : j = 0 ∨ j = 1 ∨ j = 2 := by omega
        · replace hcj : _ = Value.int .i64 0 := hcj
          subst hcj
          have HB := Lib.hid hb
          have H0 := Lib.hid h0
          have H1 := Lib.hid h1
          have H2 := Lib.hid h2
          have hc0 := cell_of_heap h0 (cellsV_zero 2 z)
          have f0 : ∀ x : Under wr, x.1.cell? ⟨w.heap.size, 0, none⟩ = some (.int .i64 2) := fun x => x.cell (cell_of_heap h0 (cellsV_zero 2 z))
          have f1 : ∀ x : Under wr, x.1.cell? ⟨w.heap.size, 2, none⟩ = some (cv (z 1)) := fun x => x.cell (cell_of_heap h0 (cellsV_at 2 z 1 (by omega)))
          clear hb h0 h1 h2
          go_wp2_with fail
          refine wp_region_quiet_tail (UC wr) 17 (by kernel_rfl) (by kernel_rfl) (UC.drew wr) ?_
          simp only [List.take_succ_cons, List.take_zero, List.drop_succ_cons, List.drop_zero]
          repeat (go_big_quiet_step (fail))
          refine wpQuiet_nil ?_
          rintro _ ⟨x, rfl⟩
          have hc2 := cell_of_heap (x.heap H2.out) (cellsV_at 2 _ 2 (by omega))
          have hf2 := frozen_of_row x.1 S 3 _ _ (x.heap H2.out)
          clear f0 f1 hc0
          go_wp2_with fail
          refine ⟨⟨1, by omega, rfl, (under_below HB.out x).setCell (by have := HES.out; simp; omega) _, ?_, ?_, ?_⟩, by simp [intOf]⟩
          · exact (heap_setCell_other _ _ _ _ (by have := HES.out; simp; omega)).trans (x.heap H0.out)
          · exact (heap_setCell_other _ _ _ _ (by have := HES.out; simp; omega)).trans (x.heap H1.out)
          · have q := Wv.set (x.heap H2.out) 2 (by omega) (z 1)
            have q2 := lMix_step (turn (2 ^ 1) z) false 1 1 0 (by omega) (by omega) (by omega)
            rw [turn_pos _ _ _ _ (by omega) (by omega) (by omega)] at q2
            rw [← q2]; exact q
        · replace hcj : _ = Value.int .i64 1 := hcj
          subst hcj
          have HB := Lib.hid hb
          have H0 := Lib.hid h0
          have H1 := Lib.hid h1
          have H2 := Lib.hid h2
          have hc0 := cell_of_heap h0 (cellsV_zero 2 z)
          have f0 : ∀ x : Under wr, x.1.cell? ⟨w.heap.size, 0, none⟩ = some (.int .i64 2) := fun x => x.cell (cell_of_heap h0 (cellsV_zero 2 z))
          have f1 : ∀ x : Under wr, x.1.cell? ⟨w.heap.size, 4, none⟩ = some (cv (z 3)) := fun x => x.cell (cell_of_heap h0 (cellsV_at 2 z 3 (by omega)))
          clear hb h0 h1 h2
          go_wp2_with fail
          refine wp_region_quiet_tail (UC wr) 17 (by kernel_rfl) (by kernel_rfl) (UC.drew wr) ?_
          simp only [List.take_succ_cons, List.take_zero, List.drop_succ_cons, List.drop_zero]
          repeat (go_big_quiet_step (fail))
          refine wpQuiet_nil ?_
          rintro _ ⟨x, rfl⟩
          have hc2 := cell_of_heap (x.heap H2.out) (cellsV_at 2 _ 3 (by omega))
          have hf2 := frozen_of_row x.1 S 4 _ _ (x.heap H2.out)
          clear f0 f1 hc0
          go_wp2_with fail
          refine ⟨⟨2, by omega, rfl, (under_below HB.out x).setCell (by have := HES.out; simp; omega) _, ?_, ?_, ?_⟩, by simp [intOf]⟩
          · exact (heap_setCell_other _ _ _ _ (by have := HES.out; simp; omega)).trans (x.heap H0.out)
          · exact (heap_setCell_other _ _ _ _ (by have := HES.out; simp; omega)).trans (x.heap H1.out)
          · have q := Wv.set (x.heap H2.out) 3 (by omega) (z 3)
            have q2 := lMix_step (turn (2 ^ 1) z) false 1 1 1 (by omega) (by omega) (by omega)
            rw [turn_pos _ _ _ _ (by omega) (by omega) (by omega)] at q2
            rw [← q2]; exact q
        · replace hcj : _ = Value.int .i64 2 := hcj
          subst hcj
          have hc0 := cell_of_heap h0 (cellsV_zero 2 z)
          have HB := Lib.hid hb
          have H0 := Lib.hid h0
          have H1 := Lib.hid h1
          have H2 := Lib.hid h2
          clear hb h0 h1 h2
          go_wp2_with fail
          exact ⟨⟨2, by omega, rfl, HB.out, H0.out, H1.out, by rw [← lMix_line _ _ _ _ (by omega)]; exact H2.out⟩, by simp [intOf]⟩
    · replace hca : _ = Value.int .i64 2 := hca
      subst hca
      have hc0 := cell_of_heap h0 (cellsV_zero 2 z)
      go_wp2_with (first
        | (refine ld31 rfl _ rfl S rfl h2 ?_)
        | (refine st31 rfl _ _ rfl (w.heap.size + 1) rfl rfl h1 ?_))
      rw [← lMix_all (turn (2 ^ 1) z) false 1 (by omega)]
      exact bodyPost_ret (v := .agg (cellsV 2 _)) (results_cell_row rfl _ _ (w.heap.size + 1) 31 _ (0, 0) _ rfl (heap_setRow_same h1) Tryz.underlying31 rfl (size31c _ _)) rfl ⟨rfl, below_setRow hb (by omega) _⟩


set_option maxRecDepth 100000 in
set_option maxHeartbeats 4000000 in
theorem rows2_c (s : Int) (hs : s = 1 ∨ s = -1) (z : Nat → CB) (hz : LinOk OkS mulS qz s 1 false z) (w : World) :
    Calls Tryz.prog 92 #[.agg (cellsV 2 z), .int .i64 s] w fun e w' => e = .returned (.agg (cellsV 2 (part (lin mulS qz s 1 false z) 4))) ∧ Below w.heap.size w w' := by
  have HZ : Hid (∀ a, a < 2 → TrOk OkS mulS qz s 1 (cut false (2 ^ 1) z a)) := Lib.hid hz
  clear hz
  go_enter Tryz.func92, Tryz.ntmps92
  go_wp2_with (first
    | (go_at_call 118
       ((with_reducible refine (l01Empty_c 2 _).mono ?_))
       rintro e w1 ⟨rfl, hb1⟩
       have HE := Lib.hid (bnext (bal2 w _ _) hb1)
       have HE0 := Lib.hid (below_heap' hb1 (al_old _ (al_new (Obj.cells (cellsV 2 z) 31 (0, 0)) rfl)))
       have HE1 := Lib.hid (below_heap' hb1 (al_new (Obj.cells (cellsV 0 zW) 31 (0, 0)) (by simp : w.heap.size + 1 = _)))
       have HES : Hid (w.heap.size + 1 < w1.heap.size) := Lib.hid (lt_of_block HE1.out)
       clear hb1)
    | (refine st31 rfl _ _ rfl w1.heap.size rfl rfl (al_new (Obj.cells (cellsV 0 zW) 31 (0, 0)) rfl) ?_))
  have HB0 : Hid (Below w.heap.size w ((w1.alloc (Obj.cells (cellsV 0 zW) 31 (0, 0))).setRow w1.heap.size (cellsV 2 zW))) := Lib.hid (below_setRow (bnext HE.out (bal1 _ _)) (by have := HES.out; omega) _)
  have HA0 : Hid (Wv ((w1.alloc (Obj.cells (cellsV 0 zW) 31 (0, 0))).setRow w1.heap.size (cellsV 2 zW)) w.heap.size 2 z) := Lib.hid ((setRow_other _ _ _ _ (by have := HES.out; omega)).trans (al_old _ HE0.out))
  have HA1 : Hid (Wv ((w1.alloc (Obj.cells (cellsV 0 zW) 31 (0, 0))).setRow w1.heap.size (cellsV 2 zW)) (w.heap.size + 1) 0 zW) := Lib.hid ((setRow_other _ _ _ _ (by have := HES.out; omega)).trans (al_old _ HE1.out))
  have HA2 : Hid (Wv ((w1.alloc (Obj.cells (cellsV 0 zW) 31 (0, 0))).setRow w1.heap.size (cellsV 2 zW)) w1.heap.size 2 zW) := Lib.hid (heap_setRow_same (al_new (Obj.cells (cellsV 0 zW) 31 (0, 0)) rfl))
  clear HE HE0 HE1
  generalize ((w1.alloc (Obj.cells (cellsV 0 zW) 31 (0, 0))).setRow w1.heap.size (cellsV 2 zW)) = W0 at HB0 HA0 HA1 HA2 ⊢
  generalize w1.heap.size = S at HES HA2 ⊢
  clear w1
  go_loopw [6] (fun c wr => ∃ a : Nat, a ≤ 2 ∧ c = .int .i64 a ∧ Below w.heap.size w wr ∧ Wv wr w.heap.size 2 z ∧ Wv wr (w.heap.size + 1) 0 zW ∧ Wv wr S 2 (lMix (lin mulS qz s 1 false z) false (2 ^ 1) a 0)) (fun c _ => (2 - intOf c).toNat)
  case atStart => exact ⟨0, by omega, rfl, HB0.out, HA0.out, HA1.out, by rw [lMix_zero]; exact HA2.out⟩
  case round =>
    obtain ⟨a, ha, hca, hb, h0, h1, h2⟩ := hrel
    clear HB0 HA0 HA1 HA2
    obtain rfl | rfl | rfl : a = 0 ∨ a = 1 ∨ a = 2 := by omega
    · replace hca : _ = Value.int .i64 0 := hca
      subst hca
      have hc0 := cell_of_heap h0 (cellsV_zero 2 z)
      have HB := Lib.hid hb
      have H0 := Lib.hid h0
      have H1 := Lib.hid h1
      have H2 := Lib.hid h2
      have HS2 : Hid (S < wr.heap.size) := Lib.hid (lt_of_block h2)
      have RE : Hid (Row wr 0 (.slice (some ⟨w.heap.size, 1, none⟩) 2 64) (2 ^ 1) (cut false (2 ^ 1) z 0)) := Lib.hid
        ⟨w.heap.size, 1, 64, rfl, Nat.zero_le _, by decide, fun i hi => by
          replace hi : i < 2 := hi
          have q := cell_of_heap h0 (cellsV_at 2 z (0 + i) (by omega))
          rw [show 1 + i = 1 + (0 + i) from (Nat.add_assoc 1 0 i)]; exact q⟩
      clear hb h0 h1 h2
      go_wp2_with (first
        | (go_at_call 119
           ((with_reducible refine (TrC.get (line_c 1 (by omega)) s hs _ (HZ.out 0 (by decide)) _ _ RE.out).mono ?_))
           rintro e w1 ⟨⟨v1, rfl, b1, o1, c1, rfl, hB1, hm1, hc1⟩, hb1⟩
           have K1 := Lib.hid hc1
           have HBn := Lib.hid (bnext HB.out hb1)
           have H0n := Lib.hid (below_heap' hb1 H0.out)
           have H1n := Lib.hid (below_heap' hb1 H1.out)
           have H2n := Lib.hid (below_heap' hb1 H2.out)
           have KN : Hid (S < b1) := Lib.hid (by have := HS2.out; omega)
           clear hc1 hb1 hB1 hm1))
      clear hc0
      go_loopw [8] (fun c wr => ∃ j : Nat, j ≤ 2 ∧ c = .int .i64 j ∧ w1.grownBy wr (some S) ∧ Wv wr S 2 (lMix (lin mulS qz s 1 false z) false (2 ^ 1) 0 j)) (fun c _ => (2 - intOf c).toNat)
      case atStart => exact ⟨0, by omega, rfl, grown_refl _ _, H2n.out⟩
      case round =>
        obtain ⟨j, hj, hcj, hg, h2⟩ := hrel
        have h0 : Wv wr w.heap.size 2 z := (hg.block _ (lt_of_block H0n.out) (by have := HES.out; intro e; injection e; omega)).trans H0n.out
        obtain rfl | rfl | rfl : j = 0 ∨ j = 1 ∨ j = 2 := by omega
        · replace hcj : _ = Value.int .i64 0 := hcj
          subst hcj
          have G := Lib.hid hg
          have H2 := Lib.hid h2
          have hc0 := cell_of_heap h0 (cellsV_zero 2 z)
          have f0 : ∀ x : Under wr, x.1.cell? ⟨w.heap.size, 0, none⟩ = some (.int .i64 2) := fun x => x.cell (cell_of_heap h0 (cellsV_zero 2 z))
          have f1 : ∀ x : Under wr, x.1.cell? ⟨b1, o1, none⟩ = some (cv (tr mulS qz s 1 (cut false (2 ^ 1) z 0) 0)) := fun x => x.cell (hg.cell (K1.out 0 (by decide)) (by have := KN.out; simp; omega))
          clear hg h0 h2
          go_wp2_with fail
          refine wp_region_quiet_tail (UC wr) 12 (by kernel_rfl) (by kernel_rfl) (UC.drew wr) ?_
          simp only [List.take_succ_cons, List.take_zero, List.drop_succ_cons, List.drop_zero]
          repeat (go_big_quiet_step (fail))
          refine wpQuiet_nil ?_
          rintro _ ⟨x, rfl⟩
          have hc2 := cell_of_heap (x.heap H2.out) (cellsV_at 2 _ 0 (by omega))
          have hf2 := frozen_of_row x.1 S 1 _ _ (x.heap H2.out)
          clear f0 f1 hc0
          go_wp2_with fail
          refine ⟨⟨1, by omega, rfl, grown_set (grown_under G.out x) _ _, ?_⟩, by simp [intOf]⟩
          have q := Wv.set (x.heap H2.out) 0 (by omega) (tr mulS qz s 1 (cut false (2 ^ 1) z 0) 0)
          have q2 := lMix_step (lin mulS qz s 1 false z) false 1 0 0 (by omega) (by omega) (by omega)
          rw [lin_pos _ _ _ _ _ _ _ _ (by omega) (by omega) (by omega)] at q2
          rw [← q2]; exact q
        · replace hcj : _ = Value.int .i64 1 := hcj
          subst hcj
          have G := Lib.hid hg
          have H2 := Lib.hid h2
          have hc0 := cell_of_heap h0 (cellsV_zero 2 z)
          have f0 : ∀ x : Under wr, x.1.cell? ⟨w.heap.size, 0, none⟩ = some (.int .i64 2) := fun x => x.cell (cell_of_heap h0 (cellsV_zero 2 z))
          have f1 : ∀ x : Under wr, x.1.cell? ⟨b1, o1 + 1, none⟩ = some (cv (tr mulS qz s 1 (cut false (2 ^ 1) z 0) 1)) := fun x => x.cell (hg.cell (K1.out 1 (by decide)) (by have := KN.out; simp; omega))
          clear hg h0 h2
          go_wp2_with fail
          refine wp_region_quiet_tail (UC wr) 12 (by kernel_rfl) (by kernel_rfl) (UC.drew wr) ?_
          simp only [List.take_succ_cons, List.take_zero, List.drop_succ_cons, List.drop_zero]
          repeat (go_big_quiet_step (fail))
          refine wpQuiet_nil ?_
          rintro _ ⟨x, rfl⟩
          have hc2 := cell_of_heap (x.heap H2.out) (cellsV_at 2 _ 1 (by omega))
          have hf2 := frozen_of_row x.1 S 2 _ _ (x.heap H2.out)
          clear f0 f1 hc0
          go_wp2_with fail
          refine ⟨⟨2, by omega, rfl, grown_set (grown_under G.out x) _ _, ?_⟩, by simp [intOf]⟩
          have q := Wv.set (x.heap H2.out) 1 (by omega) (tr mulS qz s 1 (cut false (2 ^ 1) z 0) 1)
          have q2 := lMix_step (lin mulS qz s 1 false z) false 1 0 1 (by omega) (by omega) (by omega)
          rw [lin_pos _ _ _ _ _ _ _ _ (by omega) (by omega) (by omega)] at q2
          rw [← q2]; exact q
        · replace hcj : _ = Value.int .i64 2 := hcj
          subst hcj
          have hc0 := cell_of_heap h0 (cellsV_zero 2 z)
          have G := Lib.hid hg
          have M2 := Lib.hid h2
          clear hg h0 h2
          go_wp2_with fail
          have k3 := grown_below G.out (B := w.heap.size) (by have := HES.out; intro k hk; cases hk; omega) (by have := HBn.out.size; omega)
          have k1 := lt_of_block H0n.out
          have k2 := lt_of_block H1n.out
          refine ⟨⟨1, by omega, rfl, HBn.out.trans k3, ?_, ?_, ?_⟩, by simp [intOf]⟩
          · exact (G.out.block _ k1 (by have := HES.out; intro e; injection e; omega)).trans H0n.out
          · exact (G.out.block _ k2 (by have := HES.out; intro e; injection e; omega)).trans H1n.out
          · rw [← lMix_line _ _ _ _ (by omega)]; exact M2.out
    · replace hca : _ = Value.int .i64 1 := hca
      subst hca
      have hc0 := cell_of_heap h0 (cellsV_zero 2 z)
      have HB := Lib.hid hb
      have H0 := Lib.hid h0
      have H1 := Lib.hid h1
      have H2 := Lib.hid h2
      have HS2 : Hid (S < wr.heap.size) := Lib.hid (lt_of_block h2)
      have RE : Hid (Row wr 0 (.slice (some ⟨w.heap.size, 3, none⟩) 2 62) (2 ^ 1) (cut false (2 ^ 1) z 1)) := Lib.hid
        ⟨w.heap.size, 3, 62, rfl, Nat.zero_le _, by decide, fun i hi => by
          replace hi : i < 2 := hi
          have q := cell_of_heap h0 (cellsV_at 2 z (2 + i) (by omega))
          rw [show 3 + i = 1 + (2 + i) from (Nat.add_assoc 1 2 i)]; exact q⟩
      clear hb h0 h1 h2
      go_wp2_with (first
        | (go_at_call 119
           ((with_reducible refine (TrC.get (line_c 1 (by omega)) s hs _ (HZ.out 1 (by decide)) _ _ RE.out).mono ?_))
           rintro e w1 ⟨⟨v1, rfl, b1, o1, c1, rfl, hB1, hm1, hc1⟩, hb1⟩
           have K1 := Lib.hid hc1
           have HBn := Lib.hid (bnext HB.out hb1)
           have H0n := Lib.hid (below_heap' hb1 H0.out)
           have H1n := Lib.hid (below_heap' hb1 H1.out)
           have H2n := Lib.hid (below_heap' hb1 H2.out)
           have KN : Hid (S < b1) := Lib.hid (by have := HS2.out; omega)
           clear hc1 hb1 hB1 hm1))
      clear hc0
      go_loopw [8] (fun c wr => ∃ j : Nat, j ≤ 2 ∧ c = .int .i64 j ∧ w1.grownBy wr (some S) ∧ Wv wr S 2 (lMix (lin mulS qz s 1 false z) false (2 ^ 1) 1 j)) (fun c _ => (2 - intOf c).toNat)
      case atStart => exact ⟨0, by omega, rfl, grown_refl _ _, H2n.out⟩
      case round =>
        obtain ⟨j, hj, hcj, hg, h2⟩ := hrel
        have h0 : Wv wr w.heap.size 2 z := (hg.block _ (lt_of_block H0n.out) (by have := HES.out; intro e; injection e; omega)).trans H0n.out
        obtain rfl | rfl | rfl : j = 0 ∨ j = 1 ∨ j = 2 := by omega
        · replace hcj : _ = Value.int .i64 0 := hcj
          subst hcj
          have G := Lib.hid hg
          have H2 := Lib.hid h2
          have hc0 := cell_of_heap h0 (cellsV_zero 2 z)
          have f0 : ∀ x : Under wr, x.1.cell? ⟨w.heap.size, 0, none⟩ = some (.int .i64 2) := fun x => x.cell (cell_of_heap h0 (cellsV_zero 2 z))
          have f1 : ∀ x : Under wr, x.1.cell? ⟨b1, o1, none⟩ = some (cv (tr mulS qz s 1 (cut false (2 ^ 1) z 1) 0)) := fun x => x.cell (hg.cell (K1.out 0 (by decide)) (by have := KN.out; simp; omega))
          clear hg h0 h2
          go_wp2_with fail
          refine wp_region_quiet_tail (UC wr) 12 (by kernel_rfl) (by kernel_rfl) (UC.drew wr) ?_
          simp only [List.take_succ_cons, List.take_zero, List.drop_succ_cons, List.drop_zero]
          repeat (go_big_quiet_step (fail))
          refine wpQuiet_nil ?_
          rintro _ ⟨x, rfl⟩
          have hc2 := cell_of_heap (x.heap H2.out) (cellsV_at 2 _ 2 (by omega))
          have hf2 := frozen_of_row x.1 S 3 _ _ (x.heap H2.out)
          clear f0 f1 hc0
          go_wp2_with fail
          refine ⟨⟨1, by omega, rfl, grown_set (grown_under G.out x) _ _, ?_⟩, by simp [intOf]⟩
          have q := Wv.set (x.heap H2.out) 2 (by omega) (tr mulS qz s 1 (cut false (2 ^ 1) z 1) 0)
          have q2 := lMix_step (lin mulS qz s 1 false z) false 1 1 0 (by omega) (by omega) (by omega)
          rw [lin_pos _ _ _ _ _ _ _ _ (by omega) (by omega) (by omega)] at q2
          rw [← q2]; exact q
        · replace hcj : _ = Value.int .i64 1 := hcj
          subst hcj
          have G := Lib.hid hg
          have H2 := Lib.hid h2
          have hc0 := cell_of_heap h0 (cellsV_zero 2 z)
          have f0 : ∀ x : Under wr, x.1.cell? ⟨w.heap.size, 0, none⟩ = some (.int .i64 2) := fun x => x.cell (cell_of_heap h0 (cellsV_zero 2 z))
          have f1 : ∀ x : Under wr, x.1.cell? ⟨b1, o1 + 1, none⟩ = some (cv (tr mulS qz s 1 (cut false (2 ^ 1) z 1) 1)) := fun x => x.cell (hg.cell (K1.out 1 (by decide)) (by have := KN.out; simp; omega))
          clear hg h0 h2
          go_wp2_with fail
          refine wp_region_quiet_tail (UC wr) 12 (by kernel_rfl) (by kernel_rfl) (UC.drew wr) ?_
          simp only [List.take_succ_cons, List.take_zero, List.drop_succ_cons, List.drop_zero]
          repeat (go_big_quiet_step (fail))
          refine wpQuiet_nil ?_
          rintro _ ⟨x, rfl⟩
          have hc2 := cell_of_heap (x.heap H2.out) (cellsV_at 2 _ 3 (by omega))
          have hf2 := frozen_of_row x.1 S 4 _ _ (x.heap H2.out)
          clear f0 f1 hc0
          go_wp2_with fail
          refine ⟨⟨2, by omega, rfl, grown_set (grown_under G.out x) _ _, ?_⟩, by simp [intOf]⟩
          have q := Wv.set (x.heap H2.out) 3 (by omega) (tr mulS qz s 1 (cut false (2 ^ 1) z 1) 1)
          have q2 := lMix_step (lin mulS qz s 1 false z) false 1 1 1 (by omega) (by omega) (by omega)
          rw [lin_pos _ _ _ _ _ _ _ _ (by omega) (by omega) (by omega)] at q2
          rw [← q2]; exact q
        · replace hcj : _ = Value.int .i64 2 := hcj
          subst hcj
          have hc0 := cell_of_heap h0 (cellsV_zero 2 z)
          have G := Lib.hid hg
          have M2 := Lib.hid h2
          clear hg h0 h2
          go_wp2_with fail
          have k3 := grown_below G.out (B := w.heap.size) (by have := HES.out; intro k hk; cases hk; omega) (by have := HBn.out.size; omega)
          have k1 := lt_of_block H0n.out
          have k2 := lt_of_block H1n.out
          refine ⟨⟨2, by omega, rfl, HBn.out.trans k3, ?_, ?_, ?_⟩, by simp [intOf]⟩
          · exact (G.out.block _ k1 (by have := HES.out; intro e; injection e; omega)).trans H0n.out
          · exact (G.out.block _ k2 (by have := HES.out; intro e; injection e; omega)).trans H1n.out
          · rw [← lMix_line _ _ _ _ (by omega)]; exact M2.out
    · replace hca : _ = Value.int .i64 2 := hca
      subst hca
      have hc0 := cell_of_heap h0 (cellsV_zero 2 z)
      go_wp2_with (first
        | (refine ld31 rfl _ rfl S rfl h2 ?_)
        | (refine st31 rfl _ _ rfl (w.heap.size + 1) rfl rfl h1 ?_))
      rw [← lMix_all (lin mulS qz s 1 false z) false 1 (by omega)]
      exact bodyPost_ret (v := .agg (cellsV 2 _)) (results_cell_row rfl _ _ (w.heap.size + 1) 31 _ (0, 0) _ rfl (heap_setRow_same h1) Tryz.underlying31 rfl (size31c _ _)) rfl ⟨rfl, below_setRow hb (by omega) _⟩

end Go.Proofs.YtdpdjcehobjohaaGreatDoor
