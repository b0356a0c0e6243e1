/- spec.l02Line on lists of 1, 2 and 4 complex numbers. -/
import Derived.Test.YtdpdjcehobjohaaGreatDoorTf
namespace Go.Proofs.YtdpdjcehobjohaaGreatDoor
open Go Go.RowKit Go.BigFrame Fl

def OkS (x y : CB) : Prop := ExOk x.1 y.1 (neg32 x.2) y.2 ∧ ExOk x.1 y.2 x.2 y.1
theorem l01TimesS_c (x y : CB) (w : World) (h : OkS x y) :
    Calls Tryz.prog 147 #[cv x, cv y] w fun e w' => e = .returned (cv (mulS x y)) ∧ w = w' := l01Times_c x y w h.1 h.2

set_option maxRecDepth 100000 in
set_option maxHeartbeats 1000000 in
theorem line1 : TrC 119 OkS mulS qz 0 := by
  intro s hs f hf v w hv
  obtain ⟨b, o, cap, rfl, -, -, hc⟩ := hv
  have H0 : w.cell? ⟨b, o, none⟩ = some (cv (f 0)) := hc 0 (by omega)
  clear hc
  go_enter Tryz.func119, Tryz.ntmps119
  go_wp2_with fail
  go_ret
  exact ⟨⟨_, rfl, w.heap.size, 0, 1, rfl, Nat.le_refl _, Nat.le_refl _, fun i hi => by
    have : i = 0 := by omega
    subst this
    exact cell_of_heap (al_new (.cells #[cv (f 0)] 28 (0, 0)) rfl) rfl⟩, bal1 _ _⟩


set_option maxRecDepth 100000 in
set_option maxHeartbeats 2000000 in
theorem line2 (ih : TrC 119 OkS mulS qz 0) : TrC 119 OkS mulS qz 1 := by
  intro s hs f hf v w hv
  obtain ⟨i0, hi, hz0, hz1, hz2⟩ := info_parts info28
  obtain ⟨b, o, cap, rfl, -, -, hc⟩ := hv
  obtain ⟨hf1, hf2, hf3⟩ := hf
  have IH := Lib.hid ih
  have F1 := Lib.hid hf1
  have F2 := Lib.hid hf2
  have F3 := Lib.hid hf3
  have HC : Hid (∀ W, Below w.heap.size w W → ∀ i, i < 2 → W.cell? ⟨b, o + i, none⟩ = some (cv (f i))) := Lib.hid fun W hb i hi => by
    have := hc i hi
    rw [hb.cell (p := ⟨b, o + i, none⟩) (block_lt_of_cell this)]; exact this
  clear ih hf1 hf2 hf3 hc
  go_enter Tryz.func119, Tryz.ntmps119
  go_wp2_with fail
  go_loopw [8, 6, 7] (fun c ve vo wr => ∃ j : Nat, j ≤ 1 ∧ c = .int .i64 (2 * j : Nat) ∧ Below w.heap.size w wr ∧ Two wr w.heap.size ve vo j j (evn f) (odf f)) (fun c _ _ _ => (2 - intOf c).toNat)
  case atStart =>
    refine ⟨0, by omega, rfl, bal2 _ _ _, ?_, ?_, ?_⟩
    · exact (World.ownsRow_made w #[] 0 (by omega) (by decide) rfl).alloc _
    · have q := World.ownsRow_made (base := w.heap.size) (e := 28) (size := 1) (w.alloc (.cells #[] 28 (0, 0))) #[] 0 (by simp) (by decide) rfl
      rw [World.size_alloc] at q; exact q
    · right; right; simp [Value.ownBlock]
  case round =>
    obtain ⟨j, hj, rfl, hb, h2⟩ := hrel
    obtain rfl | rfl : j = 0 ∨ j = 1 := by omega
    · have HB := Lib.hid hb
      have H2 := Lib.hid h2
      have hc0 : wr.cell? ⟨b, o, none⟩ = some (cv (f 0)) := HC.out wr hb 0 (by omega)
      clear hb h2
      go_wp2_with (first
        | (at_builtin; refine wpList_app1 _ rfl (.tmp 29) (.tmp 34) 50 rfl w.heap.size 28 i0 (cv (0, 0)) 8 Tryz.underlying50 hi hz0 hz1 hz2 rfl _ _ _ rfl (H2.out.e.alloc _) ⟨wr.heap.size, 0, none⟩ 1 (cv (f 0)) rfl (by simp) rfl (by omega) (by omega) (by have := HB.out.size; simp; omega) ?_; intro v1 w1 h1 h2 h3; have T := Lib.hid ((H2.out.alloc _).even h1 h2 h3); have HB1 := Lib.hid (HB.out.trans (((bal1 wr _).mono HB.out.size).trans (grown_below h2 (own_lt H2.out.e) (by have := HB.out.size; simp; omega)))); clear h1 h2 h3; have hc1 : w1.cell? ⟨b, o + 1, none⟩ = some (cv (f 1)) := HC.out w1 HB1.out 1 (by omega))
        | (at_builtin; refine wpList_app1 _ rfl (.tmp 36) (.tmp 42) 50 rfl w.heap.size 28 i0 (cv (0, 0)) 8 Tryz.underlying50 hi hz0 hz1 hz2 rfl _ _ _ rfl (T.out.o.alloc _) ⟨w1.heap.size, 0, none⟩ 1 (cv (f 1)) rfl (by simp) rfl (by omega) (by omega) (by have := HB1.out.size; simp; omega) ?_; intro v2 w2 h1 h2 h3; have T2 := Lib.hid ((T.out.alloc _).odd h1 h2 h3); have HB2 := Lib.hid (HB1.out.trans (((bal1 w1 _).mono HB1.out.size).trans (grown_below h2 (own_lt T.out.o) (by have := HB1.out.size; simp; omega)))); clear h1 h2 h3))
      exact ⟨⟨1, by omega, rfl, HB2.out, T2.out⟩, by simp [intOf]⟩
    · have HB := Lib.hid hb
      have H2 := Lib.hid h2
      have RE : Hid (Row wr 0 _ (2 ^ 0) (evn f)) := Lib.hid ((Row.of_own h2.e (by omega)).weak (Nat.zero_le _))
      clear hb h2
      go_wp2_with (first
        | (go_at_call 119
           ((with_reducible refine (TrC.get IH.out s hs (evn f) F1.out _ _ RE.out).mono ?_))
           rintro e w1 ⟨⟨v1, rfl, b1, o1, c1, rfl, hB1, hm1, hc1⟩, hb1⟩
           have RO : Hid (Row w1 0 _ (2 ^ 0) (odf f)) := Lib.hid ((Row.of_own (own_below H2.out.o hb1 (Nat.le_refl _)) (by omega)).weak (Nat.zero_le _))
           have K1 := Lib.hid hc1
           have K2 := Lib.hid hb1
           clear hc1 hb1)
        | (go_at_call 119
           ((with_reducible refine (TrC.get IH.out s hs (odf f) F2.out _ _ RO.out).mono ?_))
           rintro e w2 ⟨⟨v2, rfl, b2, o2, c2, rfl, hB2, hm2, hc2⟩, hb2⟩
           have K3 := Lib.hid hc2
           have K4 := Lib.hid hb2
           clear hc2 hb2))
      have HN : Hid (Below w.heap.size w w2) := Lib.hid (((HB.out.trans (K2.out.mono HB.out.size)).trans (K4.out.mono (by have := HB.out.size; have := K2.out.size; omega))))
      have K5 : Hid (∀ W, Below w2.heap.size w2 W → ∀ i, i < 2 ^ 0 → W.cell? ⟨b1, o1 + i, none⟩ = some (cv (tr mulS qz s 0 (evn f) i))) := Lib.hid fun W hb i hi => by
        have q := K1.out i hi
        have q2 : w2.cell? ⟨b1, o1 + i, none⟩ = _ := (K4.out.cell (p := ⟨b1, o1 + i, none⟩) (block_lt_of_cell q)).trans q
        exact (hb.cell (p := ⟨b1, o1 + i, none⟩) (block_lt_of_cell q2)).trans q2
      have K6 : Hid (∀ W, Below w2.heap.size w2 W → ∀ i, i < 2 ^ 0 → W.cell? ⟨b2, o2 + i, none⟩ = some (cv (tr mulS qz s 0 (odf f) i))) := Lib.hid fun W hb i hi => by
        have q := K3.out i hi
        exact (hb.cell (p := ⟨b2, o2 + i, none⟩) (block_lt_of_cell q)).trans q
      have BL : Hid (b1 < w2.heap.size) := Lib.hid (block_lt_of_cell (K5.out w2 (Below.refl _ _) 0 (by decide)))
      clear K1 K2 K3 K4 RE RO H2 HB hm1 hm2 hB1 hB2 hj
      go_loopw [12] (fun c wr => ∃ j : Nat, j ≤ 1 ∧ c = .int .i64 j ∧ Below w2.heap.size w2 wr ∧ wr.heap[w2.heap.size]? = some (.cells (cvsA 2 (bMix (tr mulS qz s 1 f) 1 j)) 28 (0, 0))) (fun c _ => (1 - intOf c).toNat)
      case atStart => exact ⟨0, by omega, rfl, bal1 _ _, by rw [bMix_zero]; exact al_new _ rfl⟩
      case round =>
        obtain ⟨j, hj, rfl, hb, h2⟩ := hrel
        obtain rfl | rfl : j = 0 ∨ j = 1 := by omega
        · have HB := Lib.hid hb
          have H2 := Lib.hid h2
          have ce : ∀ x : Under wr, x.1.cell? ⟨b1, o1, none⟩ = some (cv (tr mulS qz s 0 (evn f) 0)) := fun x => x.cell (K5.out wr hb 0 (by decide))
          have co : ∀ x : Under wr, x.1.cell? ⟨b2, o2, none⟩ = some (cv (tr mulS qz s 0 (odf f) 0)) := fun x => x.cell (K6.out wr hb 0 (by decide))
          clear hb h2
          rcases hs with rfl | rfl
          · go_wp2_with fail
            refine wp_region_quietC (UC wr) (by kernel_rfl) (by kernel_rfl) (UC.drew wr) ?_
            repeat (go_big_quiet_step (first | (with_reducible exact under_same (l01Phase_c _ (qi 1 0) _ (by omega) (by decide) (by decide))) | (with_reducible exact under_same (l01TimesS_c _ _ _ (F3.out.m 0 (by decide))))))
            refine wpQuiet_nil ?_
            rintro _ ⟨x, rfl⟩
            have ce1 := ce x
            have c1 := cell_of_heap (x.heap H2.out) (cvsA_at 2 _ 0 (by omega))
            have f1 := frozen_of_row x.1 w2.heap.size 0 _ _ (x.heap H2.out)
            have c2 := cell_of_heap (heap_setCell_same x.1 w2.heap.size 0 _ _ (cv (addC (tr mulS qz 1 0 (evn f) 0) (mulS (qz (qi 1 0)) (tr mulS qz 1 0 (odf f) 0)))) (x.heap H2.out)) (by rw [cvsA_set _ _ _ _ (by omega)]; exact cvsA_at 2 _ 1 (by omega))
            have f2 := frozen_of_row (x.1.setCell ⟨w2.heap.size, 0, none⟩ (cv (addC (tr mulS qz 1 0 (evn f) 0) (mulS (qz (qi 1 0)) (tr mulS qz 1 0 (odf f) 0))))) w2.heap.size 1 _ _ (heap_setCell_same x.1 w2.heap.size 0 _ _ (cv (addC (tr mulS qz 1 0 (evn f) 0) (mulS (qz (qi 1 0)) (tr mulS qz 1 0 (odf f) 0)))) (x.heap H2.out))
            have ce2 : (x.1.setCell ⟨w2.heap.size, 0, none⟩ (cv (addC (tr mulS qz 1 0 (evn f) 0) (mulS (qz (qi 1 0)) (tr mulS qz 1 0 (odf f) 0))))).cell? ⟨b1, o1, none⟩ = _ := (((Below.refl w2.heap.size x.1).setCell (Nat.le_refl _) _).cell (by exact BL.out)).trans ce1
            clear ce co
            go_wp2_with (first
              | (go_at_call 149
                 ((with_reducible refine (l01Add_c _ _ _ (F3.out.a 0 (by decide))).mono ?_))
                 rintro e w3 ⟨rfl, rfl⟩)
              | (go_at_call 150
                 ((with_reducible refine (l01Less_c _ _ _ (F3.out.b 0 (by decide))).mono ?_))
                 rintro e w3 ⟨rfl, rfl⟩))
            refine ⟨⟨1, by omega, rfl, ((HB.out.trans (x.2.mono HB.out.size)).setCell (by simp) _).setCell (by simp) _, ?_⟩, by simp [intOf]⟩
            have q := heap_setCell_same _ w2.heap.size 1 _ _ (cv (subC (tr mulS qz 1 0 (evn f) 0) (mulS (qz (qi 1 0)) (tr mulS qz 1 0 (odf f) 0)))) (heap_setCell_same x.1 w2.heap.size 0 _ _ (cv (addC (tr mulS qz 1 0 (evn f) 0) (mulS (qz (qi 1 0)) (tr mulS qz 1 0 (odf f) 0)))) (x.heap H2.out))
            rw [cvsA_set _ _ _ _ (by omega), cvsA_set _ _ _ _ (by omega)] at q
            rw [← bMix_succ _ 1 0 (by omega), show tr mulS qz 1 1 f 0 = (addC (tr mulS qz 1 0 (evn f) 0) (mulS (qz (qi 1 0)) (tr mulS qz 1 0 (odf f) 0))) from tr_lo _ _ _ _ _ _ (by decide), show tr mulS qz 1 1 f (0 + 1) = (subC (tr mulS qz 1 0 (evn f) 0) (mulS (qz (qi 1 0)) (tr mulS qz 1 0 (odf f) 0))) from tr_hi _ _ _ _ _ _ (by decide)]
            exact q
          · go_wp2_with fail
            refine wp_region_quietC (UC wr) (by kernel_rfl) (by kernel_rfl) (UC.drew wr) ?_
            repeat (go_big_quiet_step (first | (with_reducible exact under_same (l01Phase_c _ (qi (-1) 0) _ (by omega) (by decide) (by decide))) | (with_reducible exact under_same (l01TimesS_c _ _ _ (F3.out.m 0 (by decide))))))
            refine wpQuiet_nil ?_
            rintro _ ⟨x, rfl⟩
            have ce1 := ce x
            have c1 := cell_of_heap (x.heap H2.out) (cvsA_at 2 _ 0 (by omega))
            have f1 := frozen_of_row x.1 w2.heap.size 0 _ _ (x.heap H2.out)
            have c2 := cell_of_heap (heap_setCell_same x.1 w2.heap.size 0 _ _ (cv (addC (tr mulS qz (-1) 0 (evn f) 0) (mulS (qz (qi (-1) 0)) (tr mulS qz (-1) 0 (odf f) 0)))) (x.heap H2.out)) (by rw [cvsA_set _ _ _ _ (by omega)]; exact cvsA_at 2 _ 1 (by omega))
            have f2 := frozen_of_row (x.1.setCell ⟨w2.heap.size, 0, none⟩ (cv (addC (tr mulS qz (-1) 0 (evn f) 0) (mulS (qz (qi (-1) 0)) (tr mulS qz (-1) 0 (odf f) 0))))) w2.heap.size 1 _ _ (heap_setCell_same x.1 w2.heap.size 0 _ _ (cv (addC (tr mulS qz (-1) 0 (evn f) 0) (mulS (qz (qi (-1) 0)) (tr mulS qz (-1) 0 (odf f) 0)))) (x.heap H2.out))
            have ce2 : (x.1.setCell ⟨w2.heap.size, 0, none⟩ (cv (addC (tr mulS qz (-1) 0 (evn f) 0) (mulS (qz (qi (-1) 0)) (tr mulS qz (-1) 0 (odf f) 0))))).cell? ⟨b1, o1, none⟩ = _ := (((Below.refl w2.heap.size x.1).setCell (Nat.le_refl _) _).cell (by exact BL.out)).trans ce1
            clear ce co
            go_wp2_with (first
              | (go_at_call 149
                 ((with_reducible refine (l01Add_c _ _ _ (F3.out.a 0 (by decide))).mono ?_))
                 rintro e w3 ⟨rfl, rfl⟩)
              | (go_at_call 150
                 ((with_reducible refine (l01Less_c _ _ _ (F3.out.b 0 (by decide))).mono ?_))
                 rintro e w3 ⟨rfl, rfl⟩))
            refine ⟨⟨1, by omega, rfl, ((HB.out.trans (x.2.mono HB.out.size)).setCell (by simp) _).setCell (by simp) _, ?_⟩, by simp [intOf]⟩
            have q := heap_setCell_same _ w2.heap.size 1 _ _ (cv (subC (tr mulS qz (-1) 0 (evn f) 0) (mulS (qz (qi (-1) 0)) (tr mulS qz (-1) 0 (odf f) 0)))) (heap_setCell_same x.1 w2.heap.size 0 _ _ (cv (addC (tr mulS qz (-1) 0 (evn f) 0) (mulS (qz (qi (-1) 0)) (tr mulS qz (-1) 0 (odf f) 0)))) (x.heap H2.out))
            rw [cvsA_set _ _ _ _ (by omega), cvsA_set _ _ _ _ (by omega)] at q
            rw [← bMix_succ _ 1 0 (by omega), show tr mulS qz (-1) 1 f 0 = (addC (tr mulS qz (-1) 0 (evn f) 0) (mulS (qz (qi (-1) 0)) (tr mulS qz (-1) 0 (odf f) 0))) from tr_lo _ _ _ _ _ _ (by decide), show tr mulS qz (-1) 1 f (0 + 1) = (subC (tr mulS qz (-1) 0 (evn f) 0) (mulS (qz (qi (-1) 0)) (tr mulS qz (-1) 0 (odf f) 0))) from tr_hi _ _ _ _ _ _ (by decide)]
            exact q
        · go_wp2_with fail
          go_ret
          exact ⟨⟨_, rfl, (Row.of_heap HN.out.size h2).ext (fun i hi => bMix_all _ 1 i hi)⟩, HN.out.trans (hb.mono HN.out.size)⟩



set_option maxRecDepth 100000 in
set_option maxHeartbeats 2000000 in
theorem line4 (ih : TrC 119 OkS mulS qz 1) : TrC 119 OkS mulS qz 2 := by
  intro s hs f hf v w hv
  obtain ⟨i0, hi, hz0, hz1, hz2⟩ := info_parts info28
  obtain ⟨b, o, cap, rfl, -, -, hc⟩ := hv
  obtain ⟨hf1, hf2, hf3⟩ := hf
  have IH := Lib.hid ih
  have F1 := Lib.hid hf1
  have F2 := Lib.hid hf2
  have F3 := Lib.hid hf3
  have HC : Hid (∀ W, Below w.heap.size w W → ∀ i, i < 4 → W.cell? ⟨b, o + i, none⟩ = some (cv (f i))) := Lib.hid fun W hb i hi => by
    have := hc i hi
    rw [hb.cell (p := ⟨b, o + i, none⟩) (block_lt_of_cell this)]; exact this
  clear ih hf1 hf2 hf3 hc
  go_enter Tryz.func119, Tryz.ntmps119
  go_wp2_with fail
  go_loopw [8, 6, 7] (fun c ve vo wr => ∃ j : Nat, j ≤ 2 ∧ c = .int .i64 (2 * j : Nat) ∧ Below w.heap.size w wr ∧ Two wr w.heap.size ve vo j j (evn f) (odf f)) (fun c _ _ _ => (4 - intOf c).toNat)
  case atStart =>
    refine ⟨0, by omega, rfl, bal2 _ _ _, ?_, ?_, ?_⟩
    · exact (World.ownsRow_made w #[] 0 (by omega) (by decide) rfl).alloc _
    · have q := World.ownsRow_made (base := w.heap.size) (e := 28) (size := 1) (w.alloc (.cells #[] 28 (0, 0))) #[] 0 (by simp) (by decide) rfl
      rw [World.size_alloc] at q; exact q
    · right; right; simp [Value.ownBlock]
  case round =>
    obtain ⟨j, hj, rfl, hb, h2⟩ := hrel
    obtain rfl | rfl | rfl : j = 0 ∨ j = 1 ∨ j = 2 := by omega
    · have HB := Lib.hid hb
      have H2 := Lib.hid h2
      have hc0 : wr.cell? ⟨b, o, none⟩ = some (cv (f 0)) := HC.out wr hb 0 (by omega)
      clear hb h2
      go_wp2_with (first
        | (at_builtin; refine wpList_app1 _ rfl (.tmp 29) (.tmp 34) 50 rfl w.heap.size 28 i0 (cv (0, 0)) 8 Tryz.underlying50 hi hz0 hz1 hz2 rfl _ _ _ rfl (H2.out.e.alloc _) ⟨wr.heap.size, 0, none⟩ 1 (cv (f 0)) rfl (by simp) rfl (by omega) (by omega) (by have := HB.out.size; simp; omega) ?_; intro v1 w1 h1 h2 h3; have T := Lib.hid ((H2.out.alloc _).even h1 h2 h3); have HB1 := Lib.hid (HB.out.trans (((bal1 wr _).mono HB.out.size).trans (grown_below h2 (own_lt H2.out.e) (by have := HB.out.size; simp; omega)))); clear h1 h2 h3; have hc1 : w1.cell? ⟨b, o + 1, none⟩ = some (cv (f 1)) := HC.out w1 HB1.out 1 (by omega))
        | (at_builtin; refine wpList_app1 _ rfl (.tmp 36) (.tmp 42) 50 rfl w.heap.size 28 i0 (cv (0, 0)) 8 Tryz.underlying50 hi hz0 hz1 hz2 rfl _ _ _ rfl (T.out.o.alloc _) ⟨w1.heap.size, 0, none⟩ 1 (cv (f 1)) rfl (by simp) rfl (by omega) (by omega) (by have := HB1.out.size; simp; omega) ?_; intro v2 w2 h1 h2 h3; have T2 := Lib.hid ((T.out.alloc _).odd h1 h2 h3); have HB2 := Lib.hid (HB1.out.trans (((bal1 w1 _).mono HB1.out.size).trans (grown_below h2 (own_lt T.out.o) (by have := HB1.out.size; simp; omega)))); clear h1 h2 h3))
      exact ⟨⟨1, by omega, rfl, HB2.out, T2.out⟩, by simp [intOf]⟩
    · have HB := Lib.hid hb
      have H2 := Lib.hid h2
      have hc0 : wr.cell? ⟨b, o + 2, none⟩ = some (cv (f 2)) := HC.out wr hb 2 (by omega)
      clear hb h2
      go_wp2_with (first
        | (at_builtin; refine wpList_app1 _ rfl (.tmp 29) (.tmp 34) 50 rfl w.heap.size 28 i0 (cv (0, 0)) 8 Tryz.underlying50 hi hz0 hz1 hz2 rfl _ _ _ rfl (H2.out.e.alloc _) ⟨wr.heap.size, 0, none⟩ 1 (cv (f 2)) rfl (by simp) rfl (by omega) (by omega) (by have := HB.out.size; simp; omega) ?_; intro v1 w1 h1 h2 h3; have T := Lib.hid ((H2.out.alloc _).even h1 h2 h3); have HB1 := Lib.hid (HB.out.trans (((bal1 wr _).mono HB.out.size).trans (grown_below h2 (own_lt H2.out.e) (by have := HB.out.size; simp; omega)))); clear h1 h2 h3; have hc1 : w1.cell? ⟨b, o + 3, none⟩ = some (cv (f 3)) := HC.out w1 HB1.out 3 (by omega))
        | (at_builtin; refine wpList_app1 _ rfl (.tmp 36) (.tmp 42) 50 rfl w.heap.size 28 i0 (cv (0, 0)) 8 Tryz.underlying50 hi hz0 hz1 hz2 rfl _ _ _ rfl (T.out.o.alloc _) ⟨w1.heap.size, 0, none⟩ 1 (cv (f 3)) rfl (by simp) rfl (by omega) (by omega) (by have := HB1.out.size; simp; omega) ?_; intro v2 w2 h1 h2 h3; have T2 := Lib.hid ((T.out.alloc _).odd h1 h2 h3); have HB2 := Lib.hid (HB1.out.trans (((bal1 w1 _).mono HB1.out.size).trans (grown_below h2 (own_lt T.out.o) (by have := HB1.out.size; simp; omega)))); clear h1 h2 h3))
      exact ⟨⟨2, by omega, rfl, HB2.out, T2.out⟩, by simp [intOf]⟩
    · have HB := Lib.hid hb
      have H2 := Lib.hid h2
      have RE : Hid (Row wr 0 _ (2 ^ 1) (evn f)) := Lib.hid ((Row.of_own h2.e (by omega)).weak (Nat.zero_le _))
      clear hb h2
      go_wp2_with (first
        | (go_at_call 119
           ((with_reducible refine (TrC.get IH.out s hs (evn f) F1.out _ _ RE.out).mono ?_))
           rintro e w1 ⟨⟨v1, rfl, b1, o1, c1, rfl, hB1, hm1, hc1⟩, hb1⟩
           have RO : Hid (Row w1 0 _ (2 ^ 1) (odf f)) := Lib.hid ((Row.of_own (own_below H2.out.o hb1 (Nat.le_refl _)) (by omega)).weak (Nat.zero_le _))
           have K1 := Lib.hid hc1
           have K2 := Lib.hid hb1
           clear hc1 hb1)
        | (go_at_call 119
           ((with_reducible refine (TrC.get IH.out s hs (odf f) F2.out _ _ RO.out).mono ?_))
           rintro e w2 ⟨⟨v2, rfl, b2, o2, c2, rfl, hB2, hm2, hc2⟩, hb2⟩
           have K3 := Lib.hid hc2
           have K4 := Lib.hid hb2
           clear hc2 hb2))
      have HN : Hid (Below w.heap.size w w2) := Lib.hid (((HB.out.trans (K2.out.mono HB.out.size)).trans (K4.out.mono (by have := HB.out.size; have := K2.out.size; omega))))
      have K5 : Hid (∀ W, Below w2.heap.size w2 W → ∀ i, i < 2 ^ 1 → W.cell? ⟨b1, o1 + i, none⟩ = some (cv (tr mulS qz s 1 (evn f) i))) := Lib.hid fun W hb i hi => by
        have q := K1.out i hi
        have q2 : w2.cell? ⟨b1, o1 + i, none⟩ = _ := (K4.out.cell (p := ⟨b1, o1 + i, none⟩) (block_lt_of_cell q)).trans q
        exact (hb.cell (p := ⟨b1, o1 + i, none⟩) (block_lt_of_cell q2)).trans q2
      have K6 : Hid (∀ W, Below w2.heap.size w2 W → ∀ i, i < 2 ^ 1 → W.cell? ⟨b2, o2 + i, none⟩ = some (cv (tr mulS qz s 1 (odf f) i))) := Lib.hid fun W hb i hi => by
        have q := K3.out i hi
        exact (hb.cell (p := ⟨b2, o2 + i, none⟩) (block_lt_of_cell q)).trans q
      have BL : Hid (b1 < w2.heap.size) := Lib.hid (block_lt_of_cell (K5.out w2 (Below.refl _ _) 0 (by decide)))
      clear K1 K2 K3 K4 RE RO H2 HB hm1 hm2 hB1 hB2 hj
      go_loopw [12] (fun c wr => ∃ j : Nat, j ≤ 2 ∧ c = .int .i64 j ∧ Below w2.heap.size w2 wr ∧ wr.heap[w2.heap.size]? = some (.cells (cvsA 4 (bMix (tr mulS qz s 2 f) 2 j)) 28 (0, 0))) (fun c _ => (2 - intOf c).toNat)
      case atStart => exact ⟨0, by omega, rfl, bal1 _ _, by rw [bMix_zero]; exact al_new _ rfl⟩
      case round =>
        obtain ⟨j, hj, rfl, hb, h2⟩ := hrel
        obtain rfl | rfl | rfl : j = 0 ∨ j = 1 ∨ j = 2 := by omega
        · have HB := Lib.hid hb
          have H2 := Lib.hid h2
          have ce : ∀ x : Under wr, x.1.cell? ⟨b1, o1, none⟩ = some (cv (tr mulS qz s 1 (evn f) 0)) := fun x => x.cell (K5.out wr hb 0 (by decide))
          have co : ∀ x : Under wr, x.1.cell? ⟨b2, o2, none⟩ = some (cv (tr mulS qz s 1 (odf f) 0)) := fun x => x.cell (K6.out wr hb 0 (by decide))
          clear hb h2
          rcases hs with rfl | rfl
          · go_wp2_with fail
            refine wp_region_quietC (UC wr) (by kernel_rfl) (by kernel_rfl) (UC.drew wr) ?_
            repeat (go_big_quiet_step (first | (with_reducible exact under_same (l01Phase_c _ (qi 1 0) _ (by omega) (by decide) (by decide))) | (with_reducible exact under_same (l01TimesS_c _ _ _ (F3.out.m 0 (by decide))))))
            refine wpQuiet_nil ?_
            rintro _ ⟨x, rfl⟩
            have ce1 := ce x
            have c1 := cell_of_heap (x.heap H2.out) (cvsA_at 4 _ 0 (by omega))
            have f1 := frozen_of_row x.1 w2.heap.size 0 _ _ (x.heap H2.out)
            have c2 := cell_of_heap (heap_setCell_same x.1 w2.heap.size 0 _ _ (cv (addC (tr mulS qz 1 1 (evn f) 0) (mulS (qz (qi 1 0)) (tr mulS qz 1 1 (odf f) 0)))) (x.heap H2.out)) (by rw [cvsA_set _ _ _ _ (by omega)]; exact cvsA_at 4 _ 2 (by omega))
            have f2 := frozen_of_row (x.1.setCell ⟨w2.heap.size, 0, none⟩ (cv (addC (tr mulS qz 1 1 (evn f) 0) (mulS (qz (qi 1 0)) (tr mulS qz 1 1 (odf f) 0))))) w2.heap.size 2 _ _ (heap_setCell_same x.1 w2.heap.size 0 _ _ (cv (addC (tr mulS qz 1 1 (evn f) 0) (mulS (qz (qi 1 0)) (tr mulS qz 1 1 (odf f) 0)))) (x.heap H2.out))
            have ce2 : (x.1.setCell ⟨w2.heap.size, 0, none⟩ (cv (addC (tr mulS qz 1 1 (evn f) 0) (mulS (qz (qi 1 0)) (tr mulS qz 1 1 (odf f) 0))))).cell? ⟨b1, o1, none⟩ = _ := (((Below.refl w2.heap.size x.1).setCell (Nat.le_refl _) _).cell (by exact BL.out)).trans ce1
            clear ce co
            go_wp2_with (first
              | (go_at_call 149
                 ((with_reducible refine (l01Add_c _ _ _ (F3.out.a 0 (by decide))).mono ?_))
                 rintro e w3 ⟨rfl, rfl⟩)
              | (go_at_call 150
                 ((with_reducible refine (l01Less_c _ _ _ (F3.out.b 0 (by decide))).mono ?_))
                 rintro e w3 ⟨rfl, rfl⟩))
            refine ⟨⟨1, by omega, rfl, ((HB.out.trans (x.2.mono HB.out.size)).setCell (by simp) _).setCell (by simp) _, ?_⟩, by simp [intOf]⟩
            have q := heap_setCell_same _ w2.heap.size 2 _ _ (cv (subC (tr mulS qz 1 1 (evn f) 0) (mulS (qz (qi 1 0)) (tr mulS qz 1 1 (odf f) 0)))) (heap_setCell_same x.1 w2.heap.size 0 _ _ (cv (addC (tr mulS qz 1 1 (evn f) 0) (mulS (qz (qi 1 0)) (tr mulS qz 1 1 (odf f) 0)))) (x.heap H2.out))
            rw [cvsA_set _ _ _ _ (by omega), cvsA_set _ _ _ _ (by omega)] at q
            rw [← bMix_succ _ 2 0 (by omega), show tr mulS qz 1 2 f 0 = (addC (tr mulS qz 1 1 (evn f) 0) (mulS (qz (qi 1 0)) (tr mulS qz 1 1 (odf f) 0))) from tr_lo _ _ _ _ _ _ (by decide), show tr mulS qz 1 2 f (0 + 2) = (subC (tr mulS qz 1 1 (evn f) 0) (mulS (qz (qi 1 0)) (tr mulS qz 1 1 (odf f) 0))) from tr_hi _ _ _ _ _ _ (by decide)]
            exact q
          · go_wp2_with fail
            refine wp_region_quietC (UC wr) (by kernel_rfl) (by kernel_rfl) (UC.drew wr) ?_
            repeat (go_big_quiet_step (first | (with_reducible exact under_same (l01Phase_c _ (qi (-1) 0) _ (by omega) (by decide) (by decide))) | (with_reducible exact under_same (l01TimesS_c _ _ _ (F3.out.m 0 (by decide))))))
            refine wpQuiet_nil ?_
            rintro _ ⟨x, rfl⟩
            have ce1 := ce x
            have c1 := cell_of_heap (x.heap H2.out) (cvsA_at 4 _ 0 (by omega))
            have f1 := frozen_of_row x.1 w2.heap.size 0 _ _ (x.heap H2.out)
            have c2 := cell_of_heap (heap_setCell_same x.1 w2.heap.size 0 _ _ (cv (addC (tr mulS qz (-1) 1 (evn f) 0) (mulS (qz (qi (-1) 0)) (tr mulS qz (-1) 1 (odf f) 0)))) (x.heap H2.out)) (by rw [cvsA_set _ _ _ _ (by omega)]; exact cvsA_at 4 _ 2 (by omega))
            have f2 := frozen_of_row (x.1.setCell ⟨w2.heap.size, 0, none⟩ (cv (addC (tr mulS qz (-1) 1 (evn f) 0) (mulS (qz (qi (-1) 0)) (tr mulS qz (-1) 1 (odf f) 0))))) w2.heap.size 2 _ _ (heap_setCell_same x.1 w2.heap.size 0 _ _ (cv (addC (tr mulS qz (-1) 1 (evn f) 0) (mulS (qz (qi (-1) 0)) (tr mulS qz (-1) 1 (odf f) 0)))) (x.heap H2.out))
            have ce2 : (x.1.setCell ⟨w2.heap.size, 0, none⟩ (cv (addC (tr mulS qz (-1) 1 (evn f) 0) (mulS (qz (qi (-1) 0)) (tr mulS qz (-1) 1 (odf f) 0))))).cell? ⟨b1, o1, none⟩ = _ := (((Below.refl w2.heap.size x.1).setCell (Nat.le_refl _) _).cell (by exact BL.out)).trans ce1
            clear ce co
            go_wp2_with (first
              | (go_at_call 149
                 ((with_reducible refine (l01Add_c _ _ _ (F3.out.a 0 (by decide))).mono ?_))
                 rintro e w3 ⟨rfl, rfl⟩)
              | (go_at_call 150
                 ((with_reducible refine (l01Less_c _ _ _ (F3.out.b 0 (by decide))).mono ?_))
                 rintro e w3 ⟨rfl, rfl⟩))
            refine ⟨⟨1, by omega, rfl, ((HB.out.trans (x.2.mono HB.out.size)).setCell (by simp) _).setCell (by simp) _, ?_⟩, by simp [intOf]⟩
            have q := heap_setCell_same _ w2.heap.size 2 _ _ (cv (subC (tr mulS qz (-1) 1 (evn f) 0) (mulS (qz (qi (-1) 0)) (tr mulS qz (-1) 1 (odf f) 0)))) (heap_setCell_same x.1 w2.heap.size 0 _ _ (cv (addC (tr mulS qz (-1) 1 (evn f) 0) (mulS (qz (qi (-1) 0)) (tr mulS qz (-1) 1 (odf f) 0)))) (x.heap H2.out))
            rw [cvsA_set _ _ _ _ (by omega), cvsA_set _ _ _ _ (by omega)] at q
            rw [← bMix_succ _ 2 0 (by omega), show tr mulS qz (-1) 2 f 0 = (addC (tr mulS qz (-1) 1 (evn f) 0) (mulS (qz (qi (-1) 0)) (tr mulS qz (-1) 1 (odf f) 0))) from tr_lo _ _ _ _ _ _ (by decide), show tr mulS qz (-1) 2 f (0 + 2) = (subC (tr mulS qz (-1) 1 (evn f) 0) (mulS (qz (qi (-1) 0)) (tr mulS qz (-1) 1 (odf f) 0))) from tr_hi _ _ _ _ _ _ (by decide)]
            exact q
        · have HB := Lib.hid hb
          have H2 := Lib.hid h2
          have ce : ∀ x : Under wr, x.1.cell? ⟨b1, o1 + 1, none⟩ = some (cv (tr mulS qz s 1 (evn f) 1)) := fun x => x.cell (K5.out wr hb 1 (by decide))
          have co : ∀ x : Under wr, x.1.cell? ⟨b2, o2 + 1, none⟩ = some (cv (tr mulS qz s 1 (odf f) 1)) := fun x => x.cell (K6.out wr hb 1 (by decide))
          clear hb h2
          rcases hs with rfl | rfl
          · go_wp2_with fail
            refine wp_region_quietC (UC wr) (by kernel_rfl) (by kernel_rfl) (UC.drew wr) ?_
            repeat (go_big_quiet_step (first | (with_reducible exact under_same (l01Phase_c _ (qi 1 1) _ (by omega) (by decide) (by decide))) | (with_reducible exact under_same (l01TimesS_c _ _ _ (F3.out.m 1 (by decide))))))
            refine wpQuiet_nil ?_
            rintro _ ⟨x, rfl⟩
            have ce1 := ce x
            have c1 := cell_of_heap (x.heap H2.out) (cvsA_at 4 _ 1 (by omega))
            have f1 := frozen_of_row x.1 w2.heap.size 1 _ _ (x.heap H2.out)
            have c2 := cell_of_heap (heap_setCell_same x.1 w2.heap.size 1 _ _ (cv (addC (tr mulS qz 1 1 (evn f) 1) (mulS (qz (qi 1 1)) (tr mulS qz 1 1 (odf f) 1)))) (x.heap H2.out)) (by rw [cvsA_set _ _ _ _ (by omega)]; exact cvsA_at 4 _ 3 (by omega))
            have f2 := frozen_of_row (x.1.setCell ⟨w2.heap.size, 1, none⟩ (cv (addC (tr mulS qz 1 1 (evn f) 1) (mulS (qz (qi 1 1)) (tr mulS qz 1 1 (odf f) 1))))) w2.heap.size 3 _ _ (heap_setCell_same x.1 w2.heap.size 1 _ _ (cv (addC (tr mulS qz 1 1 (evn f) 1) (mulS (qz (qi 1 1)) (tr mulS qz 1 1 (odf f) 1)))) (x.heap H2.out))
            have ce2 : (x.1.setCell ⟨w2.heap.size, 1, none⟩ (cv (addC (tr mulS qz 1 1 (evn f) 1) (mulS (qz (qi 1 1)) (tr mulS qz 1 1 (odf f) 1))))).cell? ⟨b1, o1 + 1, none⟩ = _ := (((Below.refl w2.heap.size x.1).setCell (Nat.le_refl _) _).cell (by exact BL.out)).trans ce1
            clear ce co
            go_wp2_with (first
              | (go_at_call 149
                 ((with_reducible refine (l01Add_c _ _ _ (F3.out.a 1 (by decide))).mono ?_))
                 rintro e w3 ⟨rfl, rfl⟩)
              | (go_at_call 150
                 ((with_reducible refine (l01Less_c _ _ _ (F3.out.b 1 (by decide))).mono ?_))
                 rintro e w3 ⟨rfl, rfl⟩))
            refine ⟨⟨2, by omega, rfl, ((HB.out.trans (x.2.mono HB.out.size)).setCell (by simp) _).setCell (by simp) _, ?_⟩, by simp [intOf]⟩
            have q := heap_setCell_same _ w2.heap.size 3 _ _ (cv (subC (tr mulS qz 1 1 (evn f) 1) (mulS (qz (qi 1 1)) (tr mulS qz 1 1 (odf f) 1)))) (heap_setCell_same x.1 w2.heap.size 1 _ _ (cv (addC (tr mulS qz 1 1 (evn f) 1) (mulS (qz (qi 1 1)) (tr mulS qz 1 1 (odf f) 1)))) (x.heap H2.out))
            rw [cvsA_set _ _ _ _ (by omega), cvsA_set _ _ _ _ (by omega)] at q
            rw [← bMix_succ _ 2 1 (by omega), show tr mulS qz 1 2 f 1 = (addC (tr mulS qz 1 1 (evn f) 1) (mulS (qz (qi 1 1)) (tr mulS qz 1 1 (odf f) 1))) from tr_lo _ _ _ _ _ _ (by decide), show tr mulS qz 1 2 f (1 + 2) = (subC (tr mulS qz 1 1 (evn f) 1) (mulS (qz (qi 1 1)) (tr mulS qz 1 1 (odf f) 1))) from tr_hi _ _ _ _ _ _ (by decide)]
            exact q
          · go_wp2_with fail
            refine wp_region_quietC (UC wr) (by kernel_rfl) (by kernel_rfl) (UC.drew wr) ?_
            repeat (go_big_quiet_step (first | (with_reducible exact under_same (l01Phase_c _ (qi (-1) 1) _ (by omega) (by decide) (by decide))) | (with_reducible exact under_same (l01TimesS_c _ _ _ (F3.out.m 1 (by decide))))))
            refine wpQuiet_nil ?_
            rintro _ ⟨x, rfl⟩
            have ce1 := ce x
            have c1 := cell_of_heap (x.heap H2.out) (cvsA_at 4 _ 1 (by omega))
            have f1 := frozen_of_row x.1 w2.heap.size 1 _ _ (x.heap H2.out)
            have c2 := cell_of_heap (heap_setCell_same x.1 w2.heap.size 1 _ _ (cv (addC (tr mulS qz (-1) 1 (evn f) 1) (mulS (qz (qi (-1) 1)) (tr mulS qz (-1) 1 (odf f) 1)))) (x.heap H2.out)) (by rw [cvsA_set _ _ _ _ (by omega)]; exact cvsA_at 4 _ 3 (by omega))
            have f2 := frozen_of_row (x.1.setCell ⟨w2.heap.size, 1, none⟩ (cv (addC (tr mulS qz (-1) 1 (evn f) 1) (mulS (qz (qi (-1) 1)) (tr mulS qz (-1) 1 (odf f) 1))))) w2.heap.size 3 _ _ (heap_setCell_same x.1 w2.heap.size 1 _ _ (cv (addC (tr mulS qz (-1) 1 (evn f) 1) (mulS (qz (qi (-1) 1)) (tr mulS qz (-1) 1 (odf f) 1)))) (x.heap H2.out))
            have ce2 : (x.1.setCell ⟨w2.heap.size, 1, none⟩ (cv (addC (tr mulS qz (-1) 1 (evn f) 1) (mulS (qz (qi (-1) 1)) (tr mulS qz (-1) 1 (odf f) 1))))).cell? ⟨b1, o1 + 1, none⟩ = _ := (((Below.refl w2.heap.size x.1).setCell (Nat.le_refl _) _).cell (by exact BL.out)).trans ce1
            clear ce co
            go_wp2_with (first
              | (go_at_call 149
                 ((with_reducible refine (l01Add_c _ _ _ (F3.out.a 1 (by decide))).mono ?_))
                 rintro e w3 ⟨rfl, rfl⟩)
              | (go_at_call 150
                 ((with_reducible refine (l01Less_c _ _ _ (F3.out.b 1 (by decide))).mono ?_))
                 rintro e w3 ⟨rfl, rfl⟩))
            refine ⟨⟨2, by omega, rfl, ((HB.out.trans (x.2.mono HB.out.size)).setCell (by simp) _).setCell (by simp) _, ?_⟩, by simp [intOf]⟩
            have q := heap_setCell_same _ w2.heap.size 3 _ _ (cv (subC (tr mulS qz (-1) 1 (evn f) 1) (mulS (qz (qi (-1) 1)) (tr mulS qz (-1) 1 (odf f) 1)))) (heap_setCell_same x.1 w2.heap.size 1 _ _ (cv (addC (tr mulS qz (-1) 1 (evn f) 1) (mulS (qz (qi (-1) 1)) (tr mulS qz (-1) 1 (odf f) 1)))) (x.heap H2.out))
            rw [cvsA_set _ _ _ _ (by omega), cvsA_set _ _ _ _ (by omega)] at q
            rw [← bMix_succ _ 2 1 (by omega), show tr mulS qz (-1) 2 f 1 = (addC (tr mulS qz (-1) 1 (evn f) 1) (mulS (qz (qi (-1) 1)) (tr mulS qz (-1) 1 (odf f) 1))) from tr_lo _ _ _ _ _ _ (by decide), show tr mulS qz (-1) 2 f (1 + 2) = (subC (tr mulS qz (-1) 1 (evn f) 1) (mulS (qz (qi (-1) 1)) (tr mulS qz (-1) 1 (odf f) 1))) from tr_hi _ _ _ _ _ _ (by decide)]
            exact q
        · go_wp2_with fail
          go_ret
          exact ⟨⟨_, rfl, (Row.of_heap HN.out.size h2).ext (fun i hi => bMix_all _ 2 i hi)⟩, HN.out.trans (hb.mono HN.out.size)⟩


theorem line_c (d : Nat) (hd : d ≤ 2) : TrC 119 OkS mulS qz d := by
  obtain rfl | rfl | rfl : d = 0 ∨ d = 1 ∨ d = 2 := by omega
  · exact line1
  · exact line2 line1
  · exact line4 (line2 line1)
end Go.Proofs.YtdpdjcehobjohaaGreatDoor
