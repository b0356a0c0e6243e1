/- impl.lines on sides of 4. -/
import Derived.Test.YtdpdjcehobjohaaGreatDoorLa
namespace Go.Proofs.YtdpdjcehobjohaaGreatDoor
open Go Go.RowKit Go.BigFrame Fl

set_option maxRecDepth 100000 in
set_option maxHeartbeats 8000000 in
theorem lines4false_c (s : Int) (hs : s = 1 ∨ s = -1) (z : Nat → CB) (hz : ∀ a, a < 4 → TrOk MulOk mulC qp s 2 (cut false (2 ^ 2) z a)) (w : World) :
    Calls Tryz.prog 90 #[.agg (cellsV 4 z), .int .i64 s, .bool false] w fun e w' => e = .returned (.agg (cellsV 4 (part (lin mulC qp s 2 false z) 16))) ∧ Below w.heap.size w w' := by
  obtain ⟨i0, hi, hz0, hz1, hz2⟩ := info_parts info28
  have HZ := Lib.hid hz
  clear hz
  go_enter Tryz.func90, Tryz.ntmps90
  go_wp2_with fail
  have hs1 := st_row (((w.alloc (Obj.cells (cellsV 4 z) 31 (0, 0))).alloc (Obj.cells (cellsV 0 zW) 31 (0, 0))).alloc (Obj.cells (cellsV 0 zW) 31 (0, 0))).drew (w.heap.size + 1 + 1) 0 4 zW zW (al_new (Obj.cells (cellsV 0 zW) 31 (0, 0)) (by simp))
  go_region
  have HB0 : Hid (Below w.heap.size w ((((w.alloc (Obj.cells (cellsV 4 z) 31 (0, 0))).alloc (Obj.cells (cellsV 0 zW) 31 (0, 0))).alloc (Obj.cells (cellsV 0 zW) 31 (0, 0))).drew.setRow (w.heap.size + 1 + 1) (cellsV 4 zW))) := Lib.hid (below_setRow (bal3 w _ _ _).drew (by omega) _)
  have HA0 : Hid (Wv ((((w.alloc (Obj.cells (cellsV 4 z) 31 (0, 0))).alloc (Obj.cells (cellsV 0 zW) 31 (0, 0))).alloc (Obj.cells (cellsV 0 zW) 31 (0, 0))).drew.setRow (w.heap.size + 1 + 1) (cellsV 4 zW)) w.heap.size 4 z) := Lib.hid ((setRow_other _ _ _ _ (by omega)).trans (al_old _ (al_old _ (al_new (Obj.cells (cellsV 4 z) 31 (0, 0)) rfl))))
  have HA1 : Hid (Wv ((((w.alloc (Obj.cells (cellsV 4 z) 31 (0, 0))).alloc (Obj.cells (cellsV 0 zW) 31 (0, 0))).alloc (Obj.cells (cellsV 0 zW) 31 (0, 0))).drew.setRow (w.heap.size + 1 + 1) (cellsV 4 zW)) (w.heap.size + 1) 0 zW) := Lib.hid ((setRow_other _ _ _ _ (by omega)).trans (al_old _ (al_new (Obj.cells (cellsV 0 zW) 31 (0, 0)) (by simp))))
  have HA2 : Hid (Wv ((((w.alloc (Obj.cells (cellsV 4 z) 31 (0, 0))).alloc (Obj.cells (cellsV 0 zW) 31 (0, 0))).alloc (Obj.cells (cellsV 0 zW) 31 (0, 0))).drew.setRow (w.heap.size + 1 + 1) (cellsV 4 zW)) (w.heap.size + 1 + 1) 4 zW) := Lib.hid (heap_setRow_same (al_new (Obj.cells (cellsV 0 zW) 31 (0, 0)) (by simp)))
  clear hs1
  generalize ((((w.alloc (Obj.cells (cellsV 4 z) 31 (0, 0))).alloc (Obj.cells (cellsV 0 zW) 31 (0, 0))).alloc (Obj.cells (cellsV 0 zW) 31 (0, 0))).drew.setRow (w.heap.size + 1 + 1) (cellsV 4 zW)) = W0 at HB0 HA0 HA1 HA2 ⊢
  go_wp2_with fail
  go_loopw [20] (fun c wr => ∃ a : Nat, a ≤ 4 ∧ c = .int .i64 a ∧ Below w.heap.size w wr ∧ Wv wr w.heap.size 4 z ∧ Wv wr (w.heap.size + 1) 0 zW ∧ Wv wr (w.heap.size + 1 + 1) 4 (lMix (lin mulC qp s 2 false z) false (2 ^ 2) a 0)) (fun c _ => (4 - intOf c).toNat)
  case atStart => exact ⟨0, by omega, rfl, HB0.out, HA0.out, HA1.out, by rw [lMix_zero]; exact HA2.out⟩
  case round =>
    obtain ⟨a, ha, hca, hb, h0, h1, h2⟩ := hrel
    clear HB0 HA0 HA1 HA2
    obtain rfl | rfl | rfl | rfl | rfl : a = 0 ∨ a = 1 ∨ a = 2 ∨ a = 3 ∨ a = 4 := by omega
    · replace hca : _ = Value.int .i64 0 := hca
      subst hca
      obtain ⟨wo, rfl⟩ : ∃ x, x = wr := ⟨_, rfl⟩
      have HB := Lib.hid hb
      have H0 := Lib.hid h0
      have H1 := Lib.hid h1
      have H2 := Lib.hid h2
      have HS : Hid (w.heap.size + 1 + 1 < wo.heap.size) := Lib.hid (lt_of_block h2)
      clear hb h0 h1 h2
      go_wp2_with fail
      go_loopw [25, 10] (fun c v wr => ∃ j : Nat, j ≤ 4 ∧ c = .int .i64 j ∧ Below wo.heap.size wo wr ∧ wr.ownsRow wo.heap.size 28 1 v j (cvs j (cut false (2 ^ 2) z 0))) (fun c _ _ => (4 - intOf c).toNat)
      case atStart => exact ⟨0, by omega, rfl, bal1 _ _, World.ownsRow_made wo #[] 0 (by omega) (by decide) rfl⟩
      case round =>
        obtain ⟨j, hj, rfl, hb, ho⟩ := hrel
        obtain rfl | rfl | rfl | rfl | rfl : j = 0 ∨ j = 1 ∨ j = 2 ∨ j = 3 ∨ j = 4 := by omega
        · have KB := Lib.hid hb
          have KO := Lib.hid ho
          have hc0 : wr.cell? ⟨w.heap.size, 1, none⟩ = some (cv (z 0)) := cell_of_heap (below_heap' hb H0.out) (cellsV_at 4 z 0 (by omega))
          clear hb ho
          go_wp2_with (at_builtin; refine wpList_app1 _ rfl (.tmp 40) (.tmp 49) 50 rfl wo.heap.size 28 i0 (cv (0, 0)) 8 Tryz.underlying50 hi hz0 hz1 hz2 rfl _ _ _ rfl (KO.out.alloc _) ⟨wr.heap.size, 0, none⟩ 1 (cv (z 0)) rfl (by simp) rfl (by omega) (by omega) (by have := KB.out.size; simp; omega) ?_; intro v' w1 q1 q2 _; have T : Hid (w1.ownsRow wo.heap.size 28 1 v' 1 (cvs 1 (cut false (2 ^ 2) z 0))) := Lib.hid (by rw [← cvs_succ]; exact q1); have KB1 := Lib.hid (KB.out.trans (((bal1 wr _).mono KB.out.size).trans (grown_below q2 (own_lt KO.out) (by have := KB.out.size; simp; omega)))); clear q1 q2)
          exact ⟨⟨1, by omega, rfl, KB1.out, T.out⟩, by simp [intOf]⟩
        · have KB := Lib.hid hb
          have KO := Lib.hid ho
          have hc0 : wr.cell? ⟨w.heap.size, 2, none⟩ = some (cv (z 1)) := cell_of_heap (below_heap' hb H0.out) (cellsV_at 4 z 1 (by omega))
          clear hb ho
          go_wp2_with (at_builtin; refine wpList_app1 _ rfl (.tmp 40) (.tmp 49) 50 rfl wo.heap.size 28 i0 (cv (0, 0)) 8 Tryz.underlying50 hi hz0 hz1 hz2 rfl _ _ _ rfl (KO.out.alloc _) ⟨wr.heap.size, 0, none⟩ 1 (cv (z 1)) rfl (by simp) rfl (by omega) (by omega) (by have := KB.out.size; simp; omega) ?_; intro v' w1 q1 q2 _; have T : Hid (w1.ownsRow wo.heap.size 28 1 v' 2 (cvs 2 (cut false (2 ^ 2) z 0))) := Lib.hid (by rw [← cvs_succ]; exact q1); have KB1 := Lib.hid (KB.out.trans (((bal1 wr _).mono KB.out.size).trans (grown_below q2 (own_lt KO.out) (by have := KB.out.size; simp; omega)))); clear q1 q2)
          exact ⟨⟨2, by omega, rfl, KB1.out, T.out⟩, by simp [intOf]⟩
        · have KB := Lib.hid hb
          have KO := Lib.hid ho
          have hc0 : wr.cell? ⟨w.heap.size, 3, none⟩ = some (cv (z 2)) := cell_of_heap (below_heap' hb H0.out) (cellsV_at 4 z 2 (by omega))
          clear hb ho
          go_wp2_with (at_builtin; refine wpList_app1 _ rfl (.tmp 40) (.tmp 49) 50 rfl wo.heap.size 28 i0 (cv (0, 0)) 8 Tryz.underlying50 hi hz0 hz1 hz2 rfl _ _ _ rfl (KO.out.alloc _) ⟨wr.heap.size, 0, none⟩ 1 (cv (z 2)) rfl (by simp) rfl (by omega) (by omega) (by have := KB.out.size; simp; omega) ?_; intro v' w1 q1 q2 _; have T : Hid (w1.ownsRow wo.heap.size 28 1 v' 3 (cvs 3 (cut false (2 ^ 2) z 0))) := Lib.hid (by rw [← cvs_succ]; exact q1); have KB1 := Lib.hid (KB.out.trans (((bal1 wr _).mono KB.out.size).trans (grown_below q2 (own_lt KO.out) (by have := KB.out.size; simp; omega)))); clear q1 q2)
          exact ⟨⟨3, by omega, rfl, KB1.out, T.out⟩, by simp [intOf]⟩
        · have KB := Lib.hid hb
          have KO := Lib.hid ho
          have hc0 : wr.cell? ⟨w.heap.size, 4, none⟩ = some (cv (z 3)) := cell_of_heap (below_heap' hb H0.out) (cellsV_at 4 z 3 (by omega))
          clear hb ho
          go_wp2_with (at_builtin; refine wpList_app1 _ rfl (.tmp 40) (.tmp 49) 50 rfl wo.heap.size 28 i0 (cv (0, 0)) 8 Tryz.underlying50 hi hz0 hz1 hz2 rfl _ _ _ rfl (KO.out.alloc _) ⟨wr.heap.size, 0, none⟩ 1 (cv (z 3)) rfl (by simp) rfl (by omega) (by omega) (by have := KB.out.size; simp; omega) ?_; intro v' w1 q1 q2 _; have T : Hid (w1.ownsRow wo.heap.size 28 1 v' 4 (cvs 4 (cut false (2 ^ 2) z 0))) := Lib.hid (by rw [← cvs_succ]; exact q1); have KB1 := Lib.hid (KB.out.trans (((bal1 wr _).mono KB.out.size).trans (grown_below q2 (own_lt KO.out) (by have := KB.out.size; simp; omega)))); clear q1 q2)
          exact ⟨⟨4, by omega, rfl, KB1.out, T.out⟩, by simp [intOf]⟩
        · have KB := Lib.hid hb
          have RE : Hid (Row wr 0 _ (2 ^ 2) (cut false (2 ^ 2) z 0)) := Lib.hid ((Row.of_own ho (by omega)).weak (Nat.zero_le _))
          clear hb ho
          go_wp2_with (first
          | (go_at_call 117
             ((with_reducible refine (TrC.get (transform_c 2 (by omega)) s hs _ (HZ.out 0 (by omega)) _ _ RE.out).mono ?_))
             rintro e w1 ⟨⟨v1, rfl, b1, o1, c1, rfl, hB1, hm1, hc1⟩, hb1⟩
             have K1 := Lib.hid hc1
             have K2 : Hid (Below wo.heap.size wo w1) := Lib.hid (KB.out.trans (hb1.mono KB.out.size))
             have KN : Hid (w.heap.size + 1 + 1 < b1) := Lib.hid (by have := HS.out; have := KB.out.size; omega)
             clear hc1 hb1 hB1 hm1))
          go_loopw [56] (fun c wr => ∃ j : Nat, j ≤ 4 ∧ c = .int .i64 j ∧ w1.grownBy wr (some (w.heap.size + 1 + 1)) ∧ Wv wr (w.heap.size + 1 + 1) 4 (lMix (lin mulC qp s 2 false z) false (2 ^ 2) 0 j)) (fun c _ => (4 - intOf c).toNat)
          case atStart => exact ⟨0, by omega, rfl, grown_refl _ _, below_heap' K2.out H2.out⟩
          case round =>
            obtain ⟨j, hj, rfl, hg, h2⟩ := hrel
            obtain rfl | rfl | rfl | rfl | rfl : j = 0 ∨ j = 1 ∨ j = 2 ∨ j = 3 ∨ j = 4 := by omega
            · have G := Lib.hid hg
              have M2 := Lib.hid h2
              have hcr : wr.cell? ⟨b1, o1, none⟩ = some (cv (tr mulC qp s 2 (cut false (2 ^ 2) z 0) 0)) := hg.cell (K1.out 0 (by decide)) (by have := KN.out; simp; omega)
              have hc0 := cell_of_heap h2 (cellsV_at 4 _ 0 (by omega))
              have hf0 := frozen_of_row wr (w.heap.size + 1 + 1) 1 _ _ h2
              clear hg h2
              go_wp2_with fail
              refine ⟨⟨1, by omega, rfl, grown_set G.out _ _, ?_⟩, by simp [intOf]⟩
              have q := M2.out.set 0 (by omega) (tr mulC qp s 2 (cut false (2 ^ 2) z 0) 0)
              have q2 := lMix_step (lin mulC qp s 2 false z) false 2 0 0 (by omega) (by omega) (by omega)
              rw [lin_pos _ _ _ _ _ _ _ _ (by omega) (by omega) (by omega)] at q2
              rw [← q2]; exact q
            · have G := Lib.hid hg
              have M2 := Lib.hid h2
              have hcr : wr.cell? ⟨b1, o1 + 1, none⟩ = some (cv (tr mulC qp s 2 (cut false (2 ^ 2) z 0) 1)) := hg.cell (K1.out 1 (by decide)) (by have := KN.out; simp; omega)
              have hc0 := cell_of_heap h2 (cellsV_at 4 _ 1 (by omega))
              have hf0 := frozen_of_row wr (w.heap.size + 1 + 1) 2 _ _ h2
              clear hg h2
              go_wp2_with fail
              refine ⟨⟨2, by omega, rfl, grown_set G.out _ _, ?_⟩, by simp [intOf]⟩
              have q := M2.out.set 1 (by omega) (tr mulC qp s 2 (cut false (2 ^ 2) z 0) 1)
              have q2 := lMix_step (lin mulC qp s 2 false z) false 2 0 1 (by omega) (by omega) (by omega)
              rw [lin_pos _ _ _ _ _ _ _ _ (by omega) (by omega) (by omega)] at q2
              rw [← q2]; exact q
            · have G := Lib.hid hg
              have M2 := Lib.hid h2
              have hcr : wr.cell? ⟨b1, o1 + 2, none⟩ = some (cv (tr mulC qp s 2 (cut false (2 ^ 2) z 0) 2)) := hg.cell (K1.out 2 (by decide)) (by have := KN.out; simp; omega)
              have hc0 := cell_of_heap h2 (cellsV_at 4 _ 2 (by omega))
              have hf0 := frozen_of_row wr (w.heap.size + 1 + 1) 3 _ _ h2
              clear hg h2
              go_wp2_with fail
              refine ⟨⟨3, by omega, rfl, grown_set G.out _ _, ?_⟩, by simp [intOf]⟩
              have q := M2.out.set 2 (by omega) (tr mulC qp s 2 (cut false (2 ^ 2) z 0) 2)
              have q2 := lMix_step (lin mulC qp s 2 false z) false 2 0 2 (by omega) (by omega) (by omega)
              rw [lin_pos _ _ _ _ _ _ _ _ (by omega) (by omega) (by omega)] at q2
              rw [← q2]; exact q
            · have G := Lib.hid hg
              have M2 := Lib.hid h2
              have hcr : wr.cell? ⟨b1, o1 + 3, none⟩ = some (cv (tr mulC qp s 2 (cut false (2 ^ 2) z 0) 3)) := hg.cell (K1.out 3 (by decide)) (by have := KN.out; simp; omega)
              have hc0 := cell_of_heap h2 (cellsV_at 4 _ 3 (by omega))
              have hf0 := frozen_of_row wr (w.heap.size + 1 + 1) 4 _ _ h2
              clear hg h2
              go_wp2_with fail
              refine ⟨⟨4, by omega, rfl, grown_set G.out _ _, ?_⟩, by simp [intOf]⟩
              have q := M2.out.set 3 (by omega) (tr mulC qp s 2 (cut false (2 ^ 2) z 0) 3)
              have q2 := lMix_step (lin mulC qp s 2 false z) false 2 0 3 (by omega) (by omega) (by omega)
              rw [lin_pos _ _ _ _ _ _ _ _ (by omega) (by omega) (by omega)] at q2
              rw [← q2]; exact q
            · have G := Lib.hid hg
              have M2 := Lib.hid h2
              clear hg h2
              go_wp2_with fail
              have k3 := grown_below G.out (B := w.heap.size) (by intro k hk; cases hk; omega) (by have := HB.out.size; have := K2.out.size; omega)
              have k1 := lt_of_block (below_heap' K2.out H0.out)
              have k2 := lt_of_block (below_heap' K2.out H1.out)
              refine ⟨⟨1, by omega, rfl, (HB.out.trans (K2.out.mono HB.out.size)).trans k3, ?_, ?_, ?_⟩, by simp [intOf]⟩
              · exact (G.out.block _ k1 (by intro e; injection e; omega)).trans (below_heap' K2.out H0.out)
              · exact (G.out.block _ k2 (by intro e; injection e; omega)).trans (below_heap' K2.out H1.out)
              · rw [← lMix_line _ _ _ _ (by omega)]; exact M2.out
    · replace hca : _ = Value.int .i64 1 := hca
      subst hca
      obtain ⟨wo, rfl⟩ : ∃ x, x = wr := ⟨_, rfl⟩
      have HB := Lib.hid hb
      have H0 := Lib.hid h0
      have H1 := Lib.hid h1
      have H2 := Lib.hid h2
      have HS : Hid (w.heap.size + 1 + 1 < wo.heap.size) := Lib.hid (lt_of_block h2)
      clear hb h0 h1 h2
      go_wp2_with fail
      go_loopw [25, 10] (fun c v wr => ∃ j : Nat, j ≤ 4 ∧ c = .int .i64 j ∧ Below wo.heap.size wo wr ∧ wr.ownsRow wo.heap.size 28 1 v j (cvs j (cut false (2 ^ 2) z 1))) (fun c _ _ => (4 - intOf c).toNat)
      case atStart => exact ⟨0, by omega, rfl, bal1 _ _, World.ownsRow_made wo #[] 0 (by omega) (by decide) rfl⟩
      case round =>
        obtain ⟨j, hj, rfl, hb, ho⟩ := hrel
        obtain rfl | rfl | rfl | rfl | rfl : j = 0 ∨ j = 1 ∨ j = 2 ∨ j = 3 ∨ j = 4 := by omega
        · have KB := Lib.hid hb
          have KO := Lib.hid ho
          have hc0 : wr.cell? ⟨w.heap.size, 5, none⟩ = some (cv (z 4)) := cell_of_heap (below_heap' hb H0.out) (cellsV_at 4 z 4 (by omega))
          clear hb ho
          go_wp2_with (at_builtin; refine wpList_app1 _ rfl (.tmp 40) (.tmp 49) 50 rfl wo.heap.size 28 i0 (cv (0, 0)) 8 Tryz.underlying50 hi hz0 hz1 hz2 rfl _ _ _ rfl (KO.out.alloc _) ⟨wr.heap.size, 0, none⟩ 1 (cv (z 4)) rfl (by simp) rfl (by omega) (by omega) (by have := KB.out.size; simp; omega) ?_; intro v' w1 q1 q2 _; have T : Hid (w1.ownsRow wo.heap.size 28 1 v' 1 (cvs 1 (cut false (2 ^ 2) z 1))) := Lib.hid (by rw [← cvs_succ]; exact q1); have KB1 := Lib.hid (KB.out.trans (((bal1 wr _).mono KB.out.size).trans (grown_below q2 (own_lt KO.out) (by have := KB.out.size; simp; omega)))); clear q1 q2)
          exact ⟨⟨1, by omega, rfl, KB1.out, T.out⟩, by simp [intOf]⟩
        · have KB := Lib.hid hb
          have KO := Lib.hid ho
          have hc0 : wr.cell? ⟨w.heap.size, 6, none⟩ = some (cv (z 5)) := cell_of_heap (below_heap' hb H0.out) (cellsV_at 4 z 5 (by omega))
          clear hb ho
          go_wp2_with (at_builtin; refine wpList_app1 _ rfl (.tmp 40) (.tmp 49) 50 rfl wo.heap.size 28 i0 (cv (0, 0)) 8 Tryz.underlying50 hi hz0 hz1 hz2 rfl _ _ _ rfl (KO.out.alloc _) ⟨wr.heap.size, 0, none⟩ 1 (cv (z 5)) rfl (by simp) rfl (by omega) (by omega) (by have := KB.out.size; simp; omega) ?_; intro v' w1 q1 q2 _; have T : Hid (w1.ownsRow wo.heap.size 28 1 v' 2 (cvs 2 (cut false (2 ^ 2) z 1))) := Lib.hid (by rw [← cvs_succ]; exact q1); have KB1 := Lib.hid (KB.out.trans (((bal1 wr _).mono KB.out.size).trans (grown_below q2 (own_lt KO.out) (by have := KB.out.size; simp; omega)))); clear q1 q2)
          exact ⟨⟨2, by omega, rfl, KB1.out, T.out⟩, by simp [intOf]⟩
        · have KB := Lib.hid hb
          have KO := Lib.hid ho
          have hc0 : wr.cell? ⟨w.heap.size, 7, none⟩ = some (cv (z 6)) := cell_of_heap (below_heap' hb H0.out) (cellsV_at 4 z 6 (by omega))
          clear hb ho
          go_wp2_with (at_builtin; refine wpList_app1 _ rfl (.tmp 40) (.tmp 49) 50 rfl wo.heap.size 28 i0 (cv (0, 0)) 8 Tryz.underlying50 hi hz0 hz1 hz2 rfl _ _ _ rfl (KO.out.alloc _) ⟨wr.heap.size, 0, none⟩ 1 (cv (z 6)) rfl (by simp) rfl (by omega) (by omega) (by have := KB.out.size; simp; omega) ?_; intro v' w1 q1 q2 _; have T : Hid (w1.ownsRow wo.heap.size 28 1 v' 3 (cvs 3 (cut false (2 ^ 2) z 1))) := Lib.hid (by rw [← cvs_succ]; exact q1); have KB1 := Lib.hid (KB.out.trans (((bal1 wr _).mono KB.out.size).trans (grown_below q2 (own_lt KO.out) (by have := KB.out.size; simp; omega)))); clear q1 q2)
          exact ⟨⟨3, by omega, rfl, KB1.out, T.out⟩, by simp [intOf]⟩
        · have KB := Lib.hid hb
          have KO := Lib.hid ho
          have hc0 : wr.cell? ⟨w.heap.size, 8, none⟩ = some (cv (z 7)) := cell_of_heap (below_heap' hb H0.out) (cellsV_at 4 z 7 (by omega))
          clear hb ho
          go_wp2_with (at_builtin; refine wpList_app1 _ rfl (.tmp 40) (.tmp 49) 50 rfl wo.heap.size 28 i0 (cv (0, 0)) 8 Tryz.underlying50 hi hz0 hz1 hz2 rfl _ _ _ rfl (KO.out.alloc _) ⟨wr.heap.size, 0, none⟩ 1 (cv (z 7)) rfl (by simp) rfl (by omega) (by omega) (by have := KB.out.size; simp; omega) ?_; intro v' w1 q1 q2 _; have T : Hid (w1.ownsRow wo.heap.size 28 1 v' 4 (cvs 4 (cut false (2 ^ 2) z 1))) := Lib.hid (by rw [← cvs_succ]; exact q1); have KB1 := Lib.hid (KB.out.trans (((bal1 wr _).mono KB.out.size).trans (grown_below q2 (own_lt KO.out) (by have := KB.out.size; simp; omega)))); clear q1 q2)
          exact ⟨⟨4, by omega, rfl, KB1.out, T.out⟩, by simp [intOf]⟩
        · have KB := Lib.hid hb
          have RE : Hid (Row wr 0 _ (2 ^ 2) (cut false (2 ^ 2) z 1)) := Lib.hid ((Row.of_own ho (by omega)).weak (Nat.zero_le _))
          clear hb ho
          go_wp2_with (first
          | (go_at_call 117
             ((with_reducible refine (TrC.get (transform_c 2 (by omega)) s hs _ (HZ.out 1 (by omega)) _ _ RE.out).mono ?_))
             rintro e w1 ⟨⟨v1, rfl, b1, o1, c1, rfl, hB1, hm1, hc1⟩, hb1⟩
             have K1 := Lib.hid hc1
             have K2 : Hid (Below wo.heap.size wo w1) := Lib.hid (KB.out.trans (hb1.mono KB.out.size))
             have KN : Hid (w.heap.size + 1 + 1 < b1) := Lib.hid (by have := HS.out; have := KB.out.size; omega)
             clear hc1 hb1 hB1 hm1))
          go_loopw [56] (fun c wr => ∃ j : Nat, j ≤ 4 ∧ c = .int .i64 j ∧ w1.grownBy wr (some (w.heap.size + 1 + 1)) ∧ Wv wr (w.heap.size + 1 + 1) 4 (lMix (lin mulC qp s 2 false z) false (2 ^ 2) 1 j)) (fun c _ => (4 - intOf c).toNat)
          case atStart => exact ⟨0, by omega, rfl, grown_refl _ _, below_heap' K2.out H2.out⟩
          case round =>
            obtain ⟨j, hj, rfl, hg, h2⟩ := hrel
            obtain rfl | rfl | rfl | rfl | rfl : j = 0 ∨ j = 1 ∨ j = 2 ∨ j = 3 ∨ j = 4 := by omega
            · have G := Lib.hid hg
              have M2 := Lib.hid h2
              have hcr : wr.cell? ⟨b1, o1, none⟩ = some (cv (tr mulC qp s 2 (cut false (2 ^ 2) z 1) 0)) := hg.cell (K1.out 0 (by decide)) (by have := KN.out; simp; omega)
              have hc0 := cell_of_heap h2 (cellsV_at 4 _ 4 (by omega))
              have hf0 := frozen_of_row wr (w.heap.size + 1 + 1) 5 _ _ h2
              clear hg h2
              go_wp2_with fail
              refine ⟨⟨1, by omega, rfl, grown_set G.out _ _, ?_⟩, by simp [intOf]⟩
              have q := M2.out.set 4 (by omega) (tr mulC qp s 2 (cut false (2 ^ 2) z 1) 0)
              have q2 := lMix_step (lin mulC qp s 2 false z) false 2 1 0 (by omega) (by omega) (by omega)
              rw [lin_pos _ _ _ _ _ _ _ _ (by omega) (by omega) (by omega)] at q2
              rw [← q2]; exact q
            · have G := Lib.hid hg
              have M2 := Lib.hid h2
              have hcr : wr.cell? ⟨b1, o1 + 1, none⟩ = some (cv (tr mulC qp s 2 (cut false (2 ^ 2) z 1) 1)) := hg.cell (K1.out 1 (by decide)) (by have := KN.out; simp; omega)
              have hc0 := cell_of_heap h2 (cellsV_at 4 _ 5 (by omega))
              have hf0 := frozen_of_row wr (w.heap.size + 1 + 1) 6 _ _ h2
              clear hg h2
              go_wp2_with fail
              refine ⟨⟨2, by omega, rfl, grown_set G.out _ _, ?_⟩, by simp [intOf]⟩
              have q := M2.out.set 5 (by omega) (tr mulC qp s 2 (cut false (2 ^ 2) z 1) 1)
              have q2 := lMix_step (lin mulC qp s 2 false z) false 2 1 1 (by omega) (by omega) (by omega)
              rw [lin_pos _ _ _ _ _ _ _ _ (by omega) (by omega) (by omega)] at q2
              rw [← q2]; exact q
            · have G := Lib.hid hg
              have M2 := Lib.hid h2
              have hcr : wr.cell? ⟨b1, o1 + 2, none⟩ = some (cv (tr mulC qp s 2 (cut false (2 ^ 2) z 1) 2)) := hg.cell (K1.out 2 (by decide)) (by have := KN.out; simp; omega)
              have hc0 := cell_of_heap h2 (cellsV_at 4 _ 6 (by omega))
              have hf0 := frozen_of_row wr (w.heap.size + 1 + 1) 7 _ _ h2
              clear hg h2
              go_wp2_with fail
              refine ⟨⟨3, by omega, rfl, grown_set G.out _ _, ?_⟩, by simp [intOf]⟩
              have q := M2.out.set 6 (by omega) (tr mulC qp s 2 (cut false (2 ^ 2) z 1) 2)
              have q2 := lMix_step (lin mulC qp s 2 false z) false 2 1 2 (by omega) (by omega) (by omega)
              rw [lin_pos _ _ _ _ _ _ _ _ (by omega) (by omega) (by omega)] at q2
              rw [← q2]; exact q
            · have G := Lib.hid hg
              have M2 := Lib.hid h2
              have hcr : wr.cell? ⟨b1, o1 + 3, none⟩ = some (cv (tr mulC qp s 2 (cut false (2 ^ 2) z 1) 3)) := hg.cell (K1.out 3 (by decide)) (by have := KN.out; simp; omega)
              have hc0 := cell_of_heap h2 (cellsV_at 4 _ 7 (by omega))
              have hf0 := frozen_of_row wr (w.heap.size + 1 + 1) 8 _ _ h2
              clear hg h2
              go_wp2_with fail
              refine ⟨⟨4, by omega, rfl, grown_set G.out _ _, ?_⟩, by simp [intOf]⟩
              have q := M2.out.set 7 (by omega) (tr mulC qp s 2 (cut false (2 ^ 2) z 1) 3)
              have q2 := lMix_step (lin mulC qp s 2 false z) false 2 1 3 (by omega) (by omega) (by omega)
              rw [lin_pos _ _ _ _ _ _ _ _ (by omega) (by omega) (by omega)] at q2
              rw [← q2]; exact q
            · have G := Lib.hid hg
              have M2 := Lib.hid h2
              clear hg h2
              go_wp2_with fail
              have k3 := grown_below G.out (B := w.heap.size) (by intro k hk; cases hk; omega) (by have := HB.out.size; have := K2.out.size; omega)
              have k1 := lt_of_block (below_heap' K2.out H0.out)
              have k2 := lt_of_block (below_heap' K2.out H1.out)
              refine ⟨⟨2, by omega, rfl, (HB.out.trans (K2.out.mono HB.out.size)).trans k3, ?_, ?_, ?_⟩, by simp [intOf]⟩
              · exact (G.out.block _ k1 (by intro e; injection e; omega)).trans (below_heap' K2.out H0.out)
              · exact (G.out.block _ k2 (by intro e; injection e; omega)).trans (below_heap' K2.out H1.out)
              · rw [← lMix_line _ _ _ _ (by omega)]; exact M2.out
    · replace hca : _ = Value.int .i64 2 := hca
      subst hca
      obtain ⟨wo, rfl⟩ : ∃ x, x = wr := ⟨_, rfl⟩
      have HB := Lib.hid hb
      have H0 := Lib.hid h0
      have H1 := Lib.hid h1
      have H2 := Lib.hid h2
      have HS : Hid (w.heap.size + 1 + 1 < wo.heap.size) := Lib.hid (lt_of_block h2)
      clear hb h0 h1 h2
      go_wp2_with fail
      go_loopw [25, 10] (fun c v wr => ∃ j : Nat, j ≤ 4 ∧ c = .int .i64 j ∧ Below wo.heap.size wo wr ∧ wr.ownsRow wo.heap.size 28 1 v j (cvs j (cut false (2 ^ 2) z 2))) (fun c _ _ => (4 - intOf c).toNat)
      case atStart => exact ⟨0, by omega, rfl, bal1 _ _, World.ownsRow_made wo #[] 0 (by omega) (by decide) rfl⟩
      case round =>
        obtain ⟨j, hj, rfl, hb, ho⟩ := hrel
        obtain rfl | rfl | rfl | rfl | rfl : j = 0 ∨ j = 1 ∨ j = 2 ∨ j = 3 ∨ j = 4 := by omega
        · have KB := Lib.hid hb
          have KO := Lib.hid ho
          have hc0 : wr.cell? ⟨w.heap.size, 9, none⟩ = some (cv (z 8)) := cell_of_heap (below_heap' hb H0.out) (cellsV_at 4 z 8 (by omega))
          clear hb ho
          go_wp2_with (at_builtin; refine wpList_app1 _ rfl (.tmp 40) (.tmp 49) 50 rfl wo.heap.size 28 i0 (cv (0, 0)) 8 Tryz.underlying50 hi hz0 hz1 hz2 rfl _ _ _ rfl (KO.out.alloc _) ⟨wr.heap.size, 0, none⟩ 1 (cv (z 8)) rfl (by simp) rfl (by omega) (by omega) (by have := KB.out.size; simp; omega) ?_; intro v' w1 q1 q2 _; have T : Hid (w1.ownsRow wo.heap.size 28 1 v' 1 (cvs 1 (cut false (2 ^ 2) z 2))) := Lib.hid (by rw [← cvs_succ]; exact q1); have KB1 := Lib.hid (KB.out.trans (((bal1 wr _).mono KB.out.size).trans (grown_below q2 (own_lt KO.out) (by have := KB.out.size; simp; omega)))); clear q1 q2)
          exact ⟨⟨1, by omega, rfl, KB1.out, T.out⟩, by simp [intOf]⟩
        · have KB := Lib.hid hb
          have KO := Lib.hid ho
          have hc0 : wr.cell? ⟨w.heap.size, 10, none⟩ = some (cv (z 9)) := cell_of_heap (below_heap' hb H0.out) (cellsV_at 4 z 9 (by omega))
          clear hb ho
          go_wp2_with (at_builtin; refine wpList_app1 _ rfl (.tmp 40) (.tmp 49) 50 rfl wo.heap.size 28 i0 (cv (0, 0)) 8 Tryz.underlying50 hi hz0 hz1 hz2 rfl _ _ _ rfl (KO.out.alloc _) ⟨wr.heap.size, 0, none⟩ 1 (cv (z 9)) rfl (by simp) rfl (by omega) (by omega) (by have := KB.out.size; simp; omega) ?_; intro v' w1 q1 q2 _; have T : Hid (w1.ownsRow wo.heap.size 28 1 v' 2 (cvs 2 (cut false (2 ^ 2) z 2))) := Lib.hid (by rw [← cvs_succ]; exact q1); have KB1 := Lib.hid (KB.out.trans (((bal1 wr _).mono KB.out.size).trans (grown_below q2 (own_lt KO.out) (by have := KB.out.size; simp; omega)))); clear q1 q2)
          exact ⟨⟨2, by omega, rfl, KB1.out, T.out⟩, by simp [intOf]⟩
        · have KB := Lib.hid hb
          have KO := Lib.hid ho
          have hc0 : wr.cell? ⟨w.heap.size, 11, none⟩ = some (cv (z 10)) := cell_of_heap (below_heap' hb H0.out) (cellsV_at 4 z 10 (by omega))
          clear hb ho
          go_wp2_with (at_builtin; refine wpList_app1 _ rfl (.tmp 40) (.tmp 49) 50 rfl wo.heap.size 28 i0 (cv (0, 0)) 8 Tryz.underlying50 hi hz0 hz1 hz2 rfl _ _ _ rfl (KO.out.alloc _) ⟨wr.heap.size, 0, none⟩ 1 (cv (z 10)) rfl (by simp) rfl (by omega) (by omega) (by have := KB.out.size; simp; omega) ?_; intro v' w1 q1 q2 _; have T : Hid (w1.ownsRow wo.heap.size 28 1 v' 3 (cvs 3 (cut false (2 ^ 2) z 2))) := Lib.hid (by rw [← cvs_succ]; exact q1); have KB1 := Lib.hid (KB.out.trans (((bal1 wr _).mono KB.out.size).trans (grown_below q2 (own_lt KO.out) (by have := KB.out.size; simp; omega)))); clear q1 q2)
          exact ⟨⟨3, by omega, rfl, KB1.out, T.out⟩, by simp [intOf]⟩
        · have KB := Lib.hid hb
          have KO := Lib.hid ho
          have hc0 : wr.cell? ⟨w.heap.size, 12, none⟩ = some (cv (z 11)) := cell_of_heap (below_heap' hb H0.out) (cellsV_at 4 z 11 (by omega))
          clear hb ho
          go_wp2_with (at_builtin; refine wpList_app1 _ rfl (.tmp 40) (.tmp 49) 50 rfl wo.heap.size 28 i0 (cv (0, 0)) 8 Tryz.underlying50 hi hz0 hz1 hz2 rfl _ _ _ rfl (KO.out.alloc _) ⟨wr.heap.size, 0, none⟩ 1 (cv (z 11)) rfl (by simp) rfl (by omega) (by omega) (by have := KB.out.size; simp; omega) ?_; intro v' w1 q1 q2 _; have T : Hid (w1.ownsRow wo.heap.size 28 1 v' 4 (cvs 4 (cut false (2 ^ 2) z 2))) := Lib.hid (by rw [← cvs_succ]; exact q1); have KB1 := Lib.hid (KB.out.trans (((bal1 wr _).mono KB.out.size).trans (grown_below q2 (own_lt KO.out) (by have := KB.out.size; simp; omega)))); clear q1 q2)
          exact ⟨⟨4, by omega, rfl, KB1.out, T.out⟩, by simp [intOf]⟩
        · have KB := Lib.hid hb
          have RE : Hid (Row wr 0 _ (2 ^ 2) (cut false (2 ^ 2) z 2)) := Lib.hid ((Row.of_own ho (by omega)).weak (Nat.zero_le _))
          clear hb ho
          go_wp2_with (first
          | (go_at_call 117
             ((with_reducible refine (TrC.get (transform_c 2 (by omega)) s hs _ (HZ.out 2 (by omega)) _ _ RE.out).mono ?_))
             rintro e w1 ⟨⟨v1, rfl, b1, o1, c1, rfl, hB1, hm1, hc1⟩, hb1⟩
             have K1 := Lib.hid hc1
             have K2 : Hid (Below wo.heap.size wo w1) := Lib.hid (KB.out.trans (hb1.mono KB.out.size))
             have KN : Hid (w.heap.size + 1 + 1 < b1) := Lib.hid (by have := HS.out; have := KB.out.size; omega)
             clear hc1 hb1 hB1 hm1))
          go_loopw [56] (fun c wr => ∃ j : Nat, j ≤ 4 ∧ c = .int .i64 j ∧ w1.grownBy wr (some (w.heap.size + 1 + 1)) ∧ Wv wr (w.heap.size + 1 + 1) 4 (lMix (lin mulC qp s 2 false z) false (2 ^ 2) 2 j)) (fun c _ => (4 - intOf c).toNat)
          case atStart => exact ⟨0, by omega, rfl, grown_refl _ _, below_heap' K2.out H2.out⟩
          case round =>
            obtain ⟨j, hj, rfl, hg, h2⟩ := hrel
            obtain rfl | rfl | rfl | rfl | rfl : j = 0 ∨ j = 1 ∨ j = 2 ∨ j = 3 ∨ j = 4 := by omega
            · have G := Lib.hid hg
              have M2 := Lib.hid h2
              have hcr : wr.cell? ⟨b1, o1, none⟩ = some (cv (tr mulC qp s 2 (cut false (2 ^ 2) z 2) 0)) := hg.cell (K1.out 0 (by decide)) (by have := KN.out; simp; omega)
              have hc0 := cell_of_heap h2 (cellsV_at 4 _ 8 (by omega))
              have hf0 := frozen_of_row wr (w.heap.size + 1 + 1) 9 _ _ h2
              clear hg h2
              go_wp2_with fail
              refine ⟨⟨1, by omega, rfl, grown_set G.out _ _, ?_⟩, by simp [intOf]⟩
              have q := M2.out.set 8 (by omega) (tr mulC qp s 2 (cut false (2 ^ 2) z 2) 0)
              have q2 := lMix_step (lin mulC qp s 2 false z) false 2 2 0 (by omega) (by omega) (by omega)
              rw [lin_pos _ _ _ _ _ _ _ _ (by omega) (by omega) (by omega)] at q2
              rw [← q2]; exact q
            · have G := Lib.hid hg
              have M2 := Lib.hid h2
              have hcr : wr.cell? ⟨b1, o1 + 1, none⟩ = some (cv (tr mulC qp s 2 (cut false (2 ^ 2) z 2) 1)) := hg.cell (K1.out 1 (by decide)) (by have := KN.out; simp; omega)
              have hc0 := cell_of_heap h2 (cellsV_at 4 _ 9 (by omega))
              have hf0 := frozen_of_row wr (w.heap.size + 1 + 1) 10 _ _ h2
              clear hg h2
              go_wp2_with fail
              refine ⟨⟨2, by omega, rfl, grown_set G.out _ _, ?_⟩, by simp [intOf]⟩
              have q := M2.out.set 9 (by omega) (tr mulC qp s 2 (cut false (2 ^ 2) z 2) 1)
              have q2 := lMix_step (lin mulC qp s 2 false z) false 2 2 1 (by omega) (by omega) (by omega)
              rw [lin_pos _ _ _ _ _ _ _ _ (by omega) (by omega) (by omega)] at q2
              rw [← q2]; exact q
            · have G := Lib.hid hg
              have M2 := Lib.hid h2
              have hcr : wr.cell? ⟨b1, o1 + 2, none⟩ = some (cv (tr mulC qp s 2 (cut false (2 ^ 2) z 2) 2)) := hg.cell (K1.out 2 (by decide)) (by have := KN.out; simp; omega)
              have hc0 := cell_of_heap h2 (cellsV_at 4 _ 10 (by omega))
              have hf0 := frozen_of_row wr (w.heap.size + 1 + 1) 11 _ _ h2
              clear hg h2
              go_wp2_with fail
              refine ⟨⟨3, by omega, rfl, grown_set G.out _ _, ?_⟩, by simp [intOf]⟩
              have q := M2.out.set 10 (by omega) (tr mulC qp s 2 (cut false (2 ^ 2) z 2) 2)
              have q2 := lMix_step (lin mulC qp s 2 false z) false 2 2 2 (by omega) (by omega) (by omega)
              rw [lin_pos _ _ _ _ _ _ _ _ (by omega) (by omega) (by omega)] at q2
              rw [← q2]; exact q
            · have G := Lib.hid hg
              have M2 := Lib.hid h2
              have hcr : wr.cell? ⟨b1, o1 + 3, none⟩ = some (cv (tr mulC qp s 2 (cut false (2 ^ 2) z 2) 3)) := hg.cell (K1.out 3 (by decide)) (by have := KN.out; simp; omega)
              have hc0 := cell_of_heap h2 (cellsV_at 4 _ 11 (by omega))
              have hf0 := frozen_of_row wr (w.heap.size + 1 + 1) 12 _ _ h2
              clear hg h2
              go_wp2_with fail
              refine ⟨⟨4, by omega, rfl, grown_set G.out _ _, ?_⟩, by simp [intOf]⟩
              have q := M2.out.set 11 (by omega) (tr mulC qp s 2 (cut false (2 ^ 2) z 2) 3)
              have q2 := lMix_step (lin mulC qp s 2 false z) false 2 2 3 (by omega) (by omega) (by omega)
              rw [lin_pos _ _ _ _ _ _ _ _ (by omega) (by omega) (by omega)] at q2
              rw [← q2]; exact q
            · have G := Lib.hid hg
              have M2 := Lib.hid h2
              clear hg h2
              go_wp2_with fail
              have k3 := grown_below G.out (B := w.heap.size) (by intro k hk; cases hk; omega) (by have := HB.out.size; have := K2.out.size; omega)
              have k1 := lt_of_block (below_heap' K2.out H0.out)
              have k2 := lt_of_block (below_heap' K2.out H1.out)
              refine ⟨⟨3, by omega, rfl, (HB.out.trans (K2.out.mono HB.out.size)).trans k3, ?_, ?_, ?_⟩, by simp [intOf]⟩
              · exact (G.out.block _ k1 (by intro e; injection e; omega)).trans (below_heap' K2.out H0.out)
              · exact (G.out.block _ k2 (by intro e; injection e; omega)).trans (below_heap' K2.out H1.out)
              · rw [← lMix_line _ _ _ _ (by omega)]; exact M2.out
    · replace hca : _ = Value.int .i64 3 := hca
      subst hca
      obtain ⟨wo, rfl⟩ : ∃ x, x = wr := ⟨_, rfl⟩
      have HB := Lib.hid hb
      have H0 := Lib.hid h0
      have H1 := Lib.hid h1
      have H2 := Lib.hid h2
      have HS : Hid (w.heap.size + 1 + 1 < wo.heap.size) := Lib.hid (lt_of_block h2)
      clear hb h0 h1 h2
      go_wp2_with fail
      go_loopw [25, 10] (fun c v wr => ∃ j : Nat, j ≤ 4 ∧ c = .int .i64 j ∧ Below wo.heap.size wo wr ∧ wr.ownsRow wo.heap.size 28 1 v j (cvs j (cut false (2 ^ 2) z 3))) (fun c _ _ => (4 - intOf c).toNat)
      case atStart => exact ⟨0, by omega, rfl, bal1 _ _, World.ownsRow_made wo #[] 0 (by omega) (by decide) rfl⟩
      case round =>
        obtain ⟨j, hj, rfl, hb, ho⟩ := hrel
        obtain rfl | rfl | rfl | rfl | rfl : j = 0 ∨ j = 1 ∨ j = 2 ∨ j = 3 ∨ j = 4 := by omega
        · have KB := Lib.hid hb
          have KO := Lib.hid ho
          have hc0 : wr.cell? ⟨w.heap.size, 13, none⟩ = some (cv (z 12)) := cell_of_heap (below_heap' hb H0.out) (cellsV_at 4 z 12 (by omega))
          clear hb ho
          go_wp2_with (at_builtin; refine wpList_app1 _ rfl (.tmp 40) (.tmp 49) 50 rfl wo.heap.size 28 i0 (cv (0, 0)) 8 Tryz.underlying50 hi hz0 hz1 hz2 rfl _ _ _ rfl (KO.out.alloc _) ⟨wr.heap.size, 0, none⟩ 1 (cv (z 12)) rfl (by simp) rfl (by omega) (by omega) (by have := KB.out.size; simp; omega) ?_; intro v' w1 q1 q2 _; have T : Hid (w1.ownsRow wo.heap.size 28 1 v' 1 (cvs 1 (cut false (2 ^ 2) z 3))) := Lib.hid (by rw [← cvs_succ]; exact q1); have KB1 := Lib.hid (KB.out.trans (((bal1 wr _).mono KB.out.size).trans (grown_below q2 (own_lt KO.out) (by have := KB.out.size; simp; omega)))); clear q1 q2)
          exact ⟨⟨1, by omega, rfl, KB1.out, T.out⟩, by simp [intOf]⟩
        · have KB := Lib.hid hb
          have KO := Lib.hid ho
          have hc0 : wr.cell? ⟨w.heap.size, 14, none⟩ = some (cv (z 13)) := cell_of_heap (below_heap' hb H0.out) (cellsV_at 4 z 13 (by omega))
          clear hb ho
          go_wp2_with (at_builtin; refine wpList_app1 _ rfl (.tmp 40) (.tmp 49) 50 rfl wo.heap.size 28 i0 (cv (0, 0)) 8 Tryz.underlying50 hi hz0 hz1 hz2 rfl _ _ _ rfl (KO.out.alloc _) ⟨wr.heap.size, 0, none⟩ 1 (cv (z 13)) rfl (by simp) rfl (by omega) (by omega) (by have := KB.out.size; simp; omega) ?_; intro v' w1 q1 q2 _; have T : Hid (w1.ownsRow wo.heap.size 28 1 v' 2 (cvs 2 (cut false (2 ^ 2) z 3))) := Lib.hid (by rw [← cvs_succ]; exact q1); have KB1 := Lib.hid (KB.out.trans (((bal1 wr _).mono KB.out.size).trans (grown_below q2 (own_lt KO.out) (by have := KB.out.size; simp; omega)))); clear q1 q2)
          exact ⟨⟨2, by omega, rfl, KB1.out, T.out⟩, by simp [intOf]⟩
        · have KB := Lib.hid hb
          have KO := Lib.hid ho
          have hc0 : wr.cell? ⟨w.heap.size, 15, none⟩ = some (cv (z 14)) := cell_of_heap (below_heap' hb H0.out) (cellsV_at 4 z 14 (by omega))
          clear hb ho
          go_wp2_with (at_builtin; refine wpList_app1 _ rfl (.tmp 40) (.tmp 49) 50 rfl wo.heap.size 28 i0 (cv (0, 0)) 8 Tryz.underlying50 hi hz0 hz1 hz2 rfl _ _ _ rfl (KO.out.alloc _) ⟨wr.heap.size, 0, none⟩ 1 (cv (z 14)) rfl (by simp) rfl (by omega) (by omega) (by have := KB.out.size; simp; omega) ?_; intro v' w1 q1 q2 _; have T : Hid (w1.ownsRow wo.heap.size 28 1 v' 3 (cvs 3 (cut false (2 ^ 2) z 3))) := Lib.hid (by rw [← cvs_succ]; exact q1); have KB1 := Lib.hid (KB.out.trans (((bal1 wr _).mono KB.out.size).trans (grown_below q2 (own_lt KO.out) (by have := KB.out.size; simp; omega)))); clear q1 q2)
          exact ⟨⟨3, by omega, rfl, KB1.out, T.out⟩, by simp [intOf]⟩
        · have KB := Lib.hid hb
          have KO := Lib.hid ho
          have hc0 : wr.cell? ⟨w.heap.size, 16, none⟩ = some (cv (z 15)) := cell_of_heap (below_heap' hb H0.out) (cellsV_at 4 z 15 (by omega))
          clear hb ho
          go_wp2_with (at_builtin; refine wpList_app1 _ rfl (.tmp 40) (.tmp 49) 50 rfl wo.heap.size 28 i0 (cv (0, 0)) 8 Tryz.underlying50 hi hz0 hz1 hz2 rfl _ _ _ rfl (KO.out.alloc _) ⟨wr.heap.size, 0, none⟩ 1 (cv (z 15)) rfl (by simp) rfl (by omega) (by omega) (by have := KB.out.size; simp; omega) ?_; intro v' w1 q1 q2 _; have T : Hid (w1.ownsRow wo.heap.size 28 1 v' 4 (cvs 4 (cut false (2 ^ 2) z 3))) := Lib.hid (by rw [← cvs_succ]; exact q1); have KB1 := Lib.hid (KB.out.trans (((bal1 wr _).mono KB.out.size).trans (grown_below q2 (own_lt KO.out) (by have := KB.out.size; simp; omega)))); clear q1 q2)
          exact ⟨⟨4, by omega, rfl, KB1.out, T.out⟩, by simp [intOf]⟩
        · have KB := Lib.hid hb
          have RE : Hid (Row wr 0 _ (2 ^ 2) (cut false (2 ^ 2) z 3)) := Lib.hid ((Row.of_own ho (by omega)).weak (Nat.zero_le _))
          clear hb ho
          go_wp2_with (first
          | (go_at_call 117
             ((with_reducible refine (TrC.get (transform_c 2 (by omega)) s hs _ (HZ.out 3 (by omega)) _ _ RE.out).mono ?_))
             rintro e w1 ⟨⟨v1, rfl, b1, o1, c1, rfl, hB1, hm1, hc1⟩, hb1⟩
             have K1 := Lib.hid hc1
             have K2 : Hid (Below wo.heap.size wo w1) := Lib.hid (KB.out.trans (hb1.mono KB.out.size))
             have KN : Hid (w.heap.size + 1 + 1 < b1) := Lib.hid (by have := HS.out; have := KB.out.size; omega)
             clear hc1 hb1 hB1 hm1))
          go_loopw [56] (fun c wr => ∃ j : Nat, j ≤ 4 ∧ c = .int .i64 j ∧ w1.grownBy wr (some (w.heap.size + 1 + 1)) ∧ Wv wr (w.heap.size + 1 + 1) 4 (lMix (lin mulC qp s 2 false z) false (2 ^ 2) 3 j)) (fun c _ => (4 - intOf c).toNat)
          case atStart => exact ⟨0, by omega, rfl, grown_refl _ _, below_heap' K2.out H2.out⟩
          case round =>
            obtain ⟨j, hj, rfl, hg, h2⟩ := hrel
            obtain rfl | rfl | rfl | rfl | rfl : j = 0 ∨ j = 1 ∨ j = 2 ∨ j = 3 ∨ j = 4 := by omega
            · have G := Lib.hid hg
              have M2 := Lib.hid h2
              have hcr : wr.cell? ⟨b1, o1, none⟩ = some (cv (tr mulC qp s 2 (cut false (2 ^ 2) z 3) 0)) := hg.cell (K1.out 0 (by decide)) (by have := KN.out; simp; omega)
              have hc0 := cell_of_heap h2 (cellsV_at 4 _ 12 (by omega))
              have hf0 := frozen_of_row wr (w.heap.size + 1 + 1) 13 _ _ h2
              clear hg h2
              go_wp2_with fail
              refine ⟨⟨1, by omega, rfl, grown_set G.out _ _, ?_⟩, by simp [intOf]⟩
              have q := M2.out.set 12 (by omega) (tr mulC qp s 2 (cut false (2 ^ 2) z 3) 0)
              have q2 := lMix_step (lin mulC qp s 2 false z) false 2 3 0 (by omega) (by omega) (by omega)
              rw [lin_pos _ _ _ _ _ _ _ _ (by omega) (by omega) (by omega)] at q2
              rw [← q2]; exact q
            · have G := Lib.hid hg
              have M2 := Lib.hid h2
              have hcr : wr.cell? ⟨b1, o1 + 1, none⟩ = some (cv (tr mulC qp s 2 (cut false (2 ^ 2) z 3) 1)) := hg.cell (K1.out 1 (by decide)) (by have := KN.out; simp; omega)
              have hc0 := cell_of_heap h2 (cellsV_at 4 _ 13 (by omega))
              have hf0 := frozen_of_row wr (w.heap.size + 1 + 1) 14 _ _ h2
              clear hg h2
              go_wp2_with fail
              refine ⟨⟨2, by omega, rfl, grown_set G.out _ _, ?_⟩, by simp [intOf]⟩
              have q := M2.out.set 13 (by omega) (tr mulC qp s 2 (cut false (2 ^ 2) z 3) 1)
              have q2 := lMix_step (lin mulC qp s 2 false z) false 2 3 1 (by omega) (by omega) (by omega)
              rw [lin_pos _ _ _ _ _ _ _ _ (by omega) (by omega) (by omega)] at q2
              rw [← q2]; exact q
            · have G := Lib.hid hg
              have M2 := Lib.hid h2
              have hcr : wr.cell? ⟨b1, o1 + 2, none⟩ = some (cv (tr mulC qp s 2 (cut false (2 ^ 2) z 3) 2)) := hg.cell (K1.out 2 (by decide)) (by have := KN.out; simp; omega)
              have hc0 := cell_of_heap h2 (cellsV_at 4 _ 14 (by omega))
              have hf0 := frozen_of_row wr (w.heap.size + 1 + 1) 15 _ _ h2
              clear hg h2
              go_wp2_with fail
              refine ⟨⟨3, by omega, rfl, grown_set G.out _ _, ?_⟩, by simp [intOf]⟩
              have q := M2.out.set 14 (by omega) (tr mulC qp s 2 (cut false (2 ^ 2) z 3) 2)
              have q2 := lMix_step (lin mulC qp s 2 false z) false 2 3 2 (by omega) (by omega) (by omega)
              rw [lin_pos _ _ _ _ _ _ _ _ (by omega) (by omega) (by omega)] at q2
              rw [← q2]; exact q
            · have G := Lib.hid hg
              have M2 := Lib.hid h2
              have hcr : wr.cell? ⟨b1, o1 + 3, none⟩ = some (cv (tr mulC qp s 2 (cut false (2 ^ 2) z 3) 3)) := hg.cell (K1.out 3 (by decide)) (by have := KN.out; simp; omega)
              have hc0 := cell_of_heap h2 (cellsV_at 4 _ 15 (by omega))
              have hf0 := frozen_of_row wr (w.heap.size + 1 + 1) 16 _ _ h2
              clear hg h2
              go_wp2_with fail
              refine ⟨⟨4, by omega, rfl, grown_set G.out _ _, ?_⟩, by simp [intOf]⟩
              have q := M2.out.set 15 (by omega) (tr mulC qp s 2 (cut false (2 ^ 2) z 3) 3)
              have q2 := lMix_step (lin mulC qp s 2 false z) false 2 3 3 (by omega) (by omega) (by omega)
              rw [lin_pos _ _ _ _ _ _ _ _ (by omega) (by omega) (by omega)] at q2
              rw [← q2]; exact q
            · have G := Lib.hid hg
              have M2 := Lib.hid h2
              clear hg h2
              go_wp2_with fail
              have k3 := grown_below G.out (B := w.heap.size) (by intro k hk; cases hk; omega) (by have := HB.out.size; have := K2.out.size; omega)
              have k1 := lt_of_block (below_heap' K2.out H0.out)
              have k2 := lt_of_block (below_heap' K2.out H1.out)
              refine ⟨⟨4, by omega, rfl, (HB.out.trans (K2.out.mono HB.out.size)).trans k3, ?_, ?_, ?_⟩, by simp [intOf]⟩
              · exact (G.out.block _ k1 (by intro e; injection e; omega)).trans (below_heap' K2.out H0.out)
              · exact (G.out.block _ k2 (by intro e; injection e; omega)).trans (below_heap' K2.out H1.out)
              · rw [← lMix_line _ _ _ _ (by omega)]; exact M2.out
    · go_wp2_with (first
        | (refine ld31 rfl _ rfl (w.heap.size + 1 + 1) rfl h2 ?_)
        | (refine st31 rfl _ _ rfl (w.heap.size + 1) rfl rfl h1 ?_))
      rw [← lMix_all (lin mulC qp s 2 false z) false 2 (by omega)]
      exact bodyPost_ret (v := .agg (cellsV 4 _)) (results_cell_row rfl _ _ (w.heap.size + 1) 31 _ (0, 0) _ rfl (heap_setRow_same h1) Tryz.underlying31 rfl (size31c _ _)) rfl ⟨rfl, below_setRow hb (by omega) _⟩

end Go.Proofs.YtdpdjcehobjohaaGreatDoor
