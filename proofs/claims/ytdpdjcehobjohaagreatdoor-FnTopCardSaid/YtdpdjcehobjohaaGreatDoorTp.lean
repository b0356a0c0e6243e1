/- laws.FnTop returns true on a code of at most 4096 bytes. -/
import Derived.Test.YtdpdjcehobjohaaGreatDoorPc
namespace Go.Proofs.YtdpdjcehobjohaaGreatDoor
open Go Go.RowKit Go.BigFrame Fl Ieee

set_option maxRecDepth 100000 in
set_option maxHeartbeats 8000000 in
theorem top_small (sv : Value) (len : Nat) (hl : len ≤ 4096) (w : World) (hs : Src w sv len) (he : Env w) :
    Calls Tryz.prog 3 #[sv] w fun e w' => e = .returned (.bool true) ∧ Below w.heap.size w w' := by
  have hd : decide ((4096 : Int) < len) = false := by simp; omega
  have HB := big_c sv len w hs
  rw [hd] at HB
  have H := Lib.hid HB
  have HS := Lib.hid hs
  have HE := Lib.hid he
  clear HB hs hd he
  go_enter Tryz.func3, Tryz.ntmps3
  go_wp2_with (first
    | (go_at_call 4; ((with_reducible refine (H.out).mono ?_)); rintro e w1 ⟨rfl, rfl⟩)
    | (go_at_call 5
       ((with_reducible refine (roll_c sv len (by omega) _ HS.out).mono ?_))
       rintro e w1 ⟨rfl, hd1, hb1⟩
       have S1 := Lib.hid (HS.out.below hb1)
       have B1 := Lib.hid hb1
       have D1 := Lib.hid hd1
       clear hb1 hd1)
    | (go_at_call 6
       ((with_reducible refine (side9_c w.heap.size sv len (by omega) _ S1.out D1.out).mono ?_))
       rintro e w2 ⟨⟨n, rfl, hn⟩, hd2, hg2⟩
       have S2 := Lib.hid (S1.out.grown D1.out hg2)
       have D2 := Lib.hid hd2
       have B2 : Hid (Below w.heap.size w w2) := Lib.hid (B1.out.trans (grown_below hg2 (by intro k hk; injection hk with hk; omega) B1.out.size))
       obtain ⟨d, hd, hnd⟩ : ∃ d : Nat, d ≤ 2 ∧ n = sd d := by
         rcases hn with rfl | rfl | rfl
         · exact ⟨0, by omega, rfl⟩
         · exact ⟨1, by omega, rfl⟩
         · exact ⟨2, by omega, rfl⟩
       have WH : Hid (∀ w', Src w' sv len → Dice w' w.heap.size sv len → Calls Tryz.prog 7 #[.pointer (some ⟨w.heap.size, 0, none⟩), .int .i64 n] w' fun e w'' =>
           (∃ A B : Nat → Int, e = .returned (.agg (cellsV n (part (zfC A B) (nn d)))) ∧ Small (nn d) A B) ∧ Dice w'' w.heap.size sv len ∧ w'.grownBy w'' (some w.heap.size)) := Lib.hid (by rw [hnd]; exact fun w' h1 h2 => whole_c d hd w.heap.size sv len (by omega) w' h1 h2)
       have HN := Lib.hid hnd
       have ND : Hid (1 ≤ n ∧ n ≤ 4 ∧ n * n = ((nn d : Nat) : Int) ∧ nn d ≤ 16 ∧ 1 ≤ nn d) := Lib.hid ⟨by omega, by omega, by rw [hnd]; exact nn_eq d, nn_le d hd⟩
       clear hd2 hg2 hnd)
    | (go_at_call 7
       ((with_reducible refine (WH.out _ S2.out D2.out).mono ?_))
       rintro e w3 ⟨⟨A, B, rfl, hsm⟩, hd3, hg3⟩
       obtain ⟨T, y0, p8, p9, p10, ceq0⟩ := packX d hd A B hsm
       obtain ⟨y1, y2, y3, y6, y7, k11, k12, k13, k11b, k16, q12, q3, q7⟩ := packW d hd A B hsm
       have pt := packT d hd A B hsm
       obtain ⟨g1, g2, l17, l18, lq⟩ := packS d hd A (fun i hi => (hsm i hi).1)
       have B3 : Hid (Below w.heap.size w w3) := Lib.hid (B2.out.trans (grown_below hg3 (by intro k hk; injection hk with hk; omega) B2.out.size))
       have D3 := Lib.hid hd3
       have S3 := Lib.hid (S2.out.grown D2.out hg3)
       have LT3 : Hid (w.heap.size < w3.heap.size) := Lib.hid (by obtain ⟨_, _, _, hD⟩ := hd3; exact lt_of_block hD)
       have ND2 := ND.out
       rw [← HN.out] at p8 p9 p10 k11 k12 k13 k11b k16 pt
       obtain ⟨m, hm⟩ : ∃ m, m = nn d := ⟨_, rfl⟩
       rw [← hm] at p8 p9 p10 k11 k12 k13 k11b k16 pt l17 l18 lq q12 q3 q7 ceq0 ND2 hsm ⊢
       have P8 := Lib.hid p8
       have P9 := Lib.hid p9
       have P10 := Lib.hid p10
       have K11 := Lib.hid k11
       have K12 := Lib.hid k12
       have K13 := Lib.hid k13
       have K11b := Lib.hid k11b
       have K16 := Lib.hid k16
       have PT := Lib.hid pt
       have L17 := Lib.hid l17
       have L18 := Lib.hid l18
       have LQ := Lib.hid lq
       have Q7 := Lib.hid q7
       have Q3 := Lib.hid q3
       have Q12 := Lib.hid q12
       have Q0 := Lib.hid ceq0
       have HM := Lib.hid hm
       have NM := Lib.hid ND2
       have sn3 := st_new w3 n (part (zfC A B) m)
       have X5 : Hid (Wv (w3.alloc (Obj.cells (cellsV n (part (zfC A B) m)) 31 (0, 0))) w3.heap.size n (part (zfC A B) m)) := Lib.hid (al_new _ rfl)
       have B5 : Hid (Below w.heap.size w (w3.alloc (Obj.cells (cellsV n (part (zfC A B) m)) 31 (0, 0)))) := Lib.hid (bnext B3.out (bal1 _ _))
       have D5 : Hid (Dice (w3.alloc (Obj.cells (cellsV n (part (zfC A B) m)) 31 (0, 0))) w.heap.size sv len) := Lib.hid (D3.out.below (bal1 _ _))
       have S5 : Hid (Src (w3.alloc (Obj.cells (cellsV n (part (zfC A B) m)) 31 (0, 0))) sv len) := Lib.hid (S3.out.below (bal1 _ _))
       clear hd3 hg3 p8 p9 p10 k11 k12 k13 k11b k16 pt l17 l18 lq q12 q3 q7 ceq0 ND2 hm WH)
    | (refine ld31 rfl _ rfl w3.heap.size rfl X5.out ?_)
    | (go_at_call 8
       ((with_reducible refine (P8.out _ (HE.out.below B5.out)).mono ?_))
       rintro e w4 ⟨rfl, hb⟩
       have X6 := Lib.hid (below_heap' hb X5.out)
       have B6 := Lib.hid (bnext B5.out hb)
       have D6 := Lib.hid (D5.out.below hb)
       have S6 := Lib.hid (S5.out.below hb)
       clear hb sn3)
    | (refine ld31 rfl _ rfl w3.heap.size rfl X6.out ?_)
    | (go_at_call 9
       ((with_reducible refine (P9.out _).mono ?_))
       rintro e w5 ⟨rfl, hb⟩
       have X7 := Lib.hid (below_heap' hb X6.out)
       have B7 := Lib.hid (bnext B6.out hb)
       have D7 := Lib.hid (D6.out.below hb)
       have S7 := Lib.hid (S6.out.below hb)
       clear hb)
    | (go_at_call 10
       ((with_reducible refine (P10.out _ (HE.out.below B7.out)).mono ?_))
       rintro e w6 ⟨rfl, hb⟩
       have sn6 := st_new w6 n (part y0 m)
       have e0 : ∀ W, (Op.equalIn 10000 31 (.agg (cellsV n (part y0 m))) (.agg (cellsV n (part (zfC A B) m)))).run Tryz.prog W = .ok true W := fun W => eqWave n _ _ Q0.out W
       have X8 : Hid (Wv (w6.alloc (Obj.cells (cellsV n (part y0 m)) 31 (0, 0))) w3.heap.size n (part (zfC A B) m)) := Lib.hid (al_old _ (below_heap' hb X7.out))
       have Y0 : Hid (Wv (w6.alloc (Obj.cells (cellsV n (part y0 m)) 31 (0, 0))) w6.heap.size n (part y0 m)) := Lib.hid (al_new _ rfl)
       have B8 : Hid (Below w.heap.size w (w6.alloc (Obj.cells (cellsV n (part y0 m)) 31 (0, 0)))) := Lib.hid (bnext (bnext B7.out hb) (bal1 _ _))
       have D8 : Hid (Dice (w6.alloc (Obj.cells (cellsV n (part y0 m)) 31 (0, 0))) w.heap.size sv len) := Lib.hid ((D7.out.below hb).below (bal1 _ _))
       have S8 : Hid (Src (w6.alloc (Obj.cells (cellsV n (part y0 m)) 31 (0, 0))) sv len) := Lib.hid ((S7.out.below hb).below (bal1 _ _))
       clear hb)
    | (refine ld31g rfl _ rfl w6.heap.size rfl Y0.out ?_)
    | (refine ld31g rfl _ rfl w3.heap.size rfl X8.out ?_)
    | (go_at_call 11
       ((with_reducible refine (K11.out _).mono ?_))
       rintro e w7 ⟨rfl, hb⟩
       have sn9 := st_new w7 n (part y1 m)
       have X9 : Hid (Wv (w7.alloc (Obj.cells (cellsV n (part y1 m)) 31 (0, 0))) w3.heap.size n (part (zfC A B) m)) := Lib.hid (al_old _ (below_heap' hb X8.out))
       have B9 : Hid (Below w.heap.size w (w7.alloc (Obj.cells (cellsV n (part y1 m)) 31 (0, 0)))) := Lib.hid (bnext (bnext B8.out hb) (bal1 _ _))
       have D9 : Hid (Dice (w7.alloc (Obj.cells (cellsV n (part y1 m)) 31 (0, 0))) w.heap.size sv len) := Lib.hid ((D8.out.below hb).below (bal1 _ _))
       have S9 : Hid (Src (w7.alloc (Obj.cells (cellsV n (part y1 m)) 31 (0, 0))) sv len) := Lib.hid ((S8.out.below hb).below (bal1 _ _))
       have LT9 : Hid (w.heap.size < w7.heap.size) := Lib.hid (by obtain ⟨_, _, _, hD⟩ := D8.out.below hb; exact lt_of_block hD)
       have Y9 : Hid (Wv (w7.alloc (Obj.cells (cellsV n (part y1 m)) 31 (0, 0))) w7.heap.size n (part y1 m)) := Lib.hid (al_new _ rfl)
       clear hb sn6 e0)
    | (refine ld31g rfl _ rfl w3.heap.size rfl X9.out ?_)
    | (go_at_call 12
       ((with_reducible refine (K12.out _).mono ?_))
       rintro e w8 ⟨rfl, hb⟩
       have sn10 := st_new w8 n (part y2 m)
       have X10 : Hid (Wv (w8.alloc (Obj.cells (cellsV n (part y2 m)) 31 (0, 0))) w3.heap.size n (part (zfC A B) m)) := Lib.hid (al_old _ (below_heap' hb X9.out))
       have Y10 : Hid (Wv (w8.alloc (Obj.cells (cellsV n (part y2 m)) 31 (0, 0))) w7.heap.size n (part y1 m)) := Lib.hid (al_old _ (below_heap' hb Y9.out))
       have B10 : Hid (Below w.heap.size w (w8.alloc (Obj.cells (cellsV n (part y2 m)) 31 (0, 0)))) := Lib.hid (bnext (bnext B9.out hb) (bal1 _ _))
       have D10 : Hid (Dice (w8.alloc (Obj.cells (cellsV n (part y2 m)) 31 (0, 0))) w.heap.size sv len) := Lib.hid ((D9.out.below hb).below (bal1 _ _))
       have S10 : Hid (Src (w8.alloc (Obj.cells (cellsV n (part y2 m)) 31 (0, 0))) sv len) := Lib.hid ((S9.out.below hb).below (bal1 _ _))
       have LT10 : Hid (w.heap.size < w8.heap.size) := Lib.hid (by obtain ⟨_, _, _, hD⟩ := D9.out.below hb; exact lt_of_block hD)
       have Z10 : Hid (Wv (w8.alloc (Obj.cells (cellsV n (part y2 m)) 31 (0, 0))) w8.heap.size n (part y2 m)) := Lib.hid (al_new _ rfl)
       have e12 : ∀ W, (Op.equalIn 10000 31 (.agg (cellsV n (part y1 m))) (.agg (cellsV n (part y2 m)))).run Tryz.prog W = .ok true W := fun W => eqWave n _ _ Q12.out W
       clear hb sn9)
    | (refine ld31g rfl _ rfl w7.heap.size rfl Y10.out ?_)
    | (refine ld31g rfl _ rfl w8.heap.size rfl Z10.out ?_)
    | (go_at_call 13
       ((with_reducible refine (K13.out _).mono ?_))
       rintro e w9 ⟨rfl, hb⟩
       have sn11 := st_new w9 n (part y3 m)
       have X11 : Hid (Wv (w9.alloc (Obj.cells (cellsV n (part y3 m)) 31 (0, 0))) w3.heap.size n (part (zfC A B) m)) := Lib.hid (al_old _ (below_heap' hb X10.out))
       have Y11 : Hid (Wv (w9.alloc (Obj.cells (cellsV n (part y3 m)) 31 (0, 0))) w7.heap.size n (part y1 m)) := Lib.hid (al_old _ (below_heap' hb Y10.out))
       have B11 : Hid (Below w.heap.size w (w9.alloc (Obj.cells (cellsV n (part y3 m)) 31 (0, 0)))) := Lib.hid (bnext (bnext B10.out hb) (bal1 _ _))
       have D11 : Hid (Dice (w9.alloc (Obj.cells (cellsV n (part y3 m)) 31 (0, 0))) w.heap.size sv len) := Lib.hid ((D10.out.below hb).below (bal1 _ _))
       have S11 : Hid (Src (w9.alloc (Obj.cells (cellsV n (part y3 m)) 31 (0, 0))) sv len) := Lib.hid ((S10.out.below hb).below (bal1 _ _))
       have LT11 : Hid (w.heap.size < w9.heap.size) := Lib.hid (by obtain ⟨_, _, _, hD⟩ := D10.out.below hb; exact lt_of_block hD)
       have Z11 : Hid (Wv (w9.alloc (Obj.cells (cellsV n (part y3 m)) 31 (0, 0))) w9.heap.size n (part y3 m)) := Lib.hid (al_new _ rfl)
       have e3 : ∀ W, (Op.equalIn 10000 31 (.agg (cellsV n (part y3 m))) (.agg (cellsV n (part (zfC A B) m)))).run Tryz.prog W = .ok true W := fun W => eqWave n _ _ Q3.out W
       clear hb sn10 e12)
    | (refine ld31g rfl _ rfl w9.heap.size rfl Z11.out ?_)
    | (refine ld31g rfl _ rfl w3.heap.size rfl X11.out ?_)
    | (go_at_call 14
       ((with_reducible refine (below_c 9 (.inr rfl) w.heap.size sv len (by omega) _ S11.out D11.out).mono ?_))
       rintro e w10 ⟨⟨r, rfl, hr0, hr9⟩, hd, hg⟩
       have X12 : Hid (Wv w10 w3.heap.size n (part (zfC A B) m)) := Lib.hid ((hg.block _ (lt_of_block X11.out) (fun e => by injection e with e; have := LT3.out; omega)).trans X11.out)
       have Y12 : Hid (Wv w10 w7.heap.size n (part y1 m)) := Lib.hid ((hg.block _ (lt_of_block Y11.out) (fun e => by injection e with e; have := LT9.out; omega)).trans Y11.out)
       have B12 : Hid (Below w.heap.size w w10) := Lib.hid (B11.out.trans (grown_below hg (by intro k hk; injection hk with hk; omega) B11.out.size))
       have S12 := Lib.hid (S11.out.grown D11.out hg)
       have D12 := Lib.hid hd
       obtain ⟨y4, y5, k4, k5, q5⟩ := PT.out (r - 4) (by omega)
       have K4 := Lib.hid k4
       have K5 := Lib.hid k5
       have Q5 := Lib.hid q5
       have RR : Hid (0 ≤ r ∧ r < 9) := Lib.hid ⟨hr0, hr9⟩
       have rw1 : IntKind.i64.wrap (r - 4) = r - 4 := wrap_small _ (by omega)
       have rw2 : IntKind.i64.wrap (16 * (r - 4)) = 16 * (r - 4) := wrap_small _ (by omega)
       have rw3 : IntKind.i64.wrap (-(16 * (r - 4))) = -(16 * (r - 4)) := wrap_small _ (by omega)
       clear sn11 e3 hd hg hr0 hr9 k4 k5 q5)
    | (refine ld31g rfl _ rfl w3.heap.size rfl X12.out ?_)
    | (go_at_call 15
       ((with_reducible refine (K4.out _).mono ?_))
       rintro e w11 ⟨rfl, hb⟩
       have sn13 := st_new w11 n (part y4 m)
       have X13 : Hid (Wv (w11.alloc (Obj.cells (cellsV n (part y4 m)) 31 (0, 0))) w3.heap.size n (part (zfC A B) m)) := Lib.hid (al_old _ (below_heap' hb X12.out))
       have Y13 : Hid (Wv (w11.alloc (Obj.cells (cellsV n (part y4 m)) 31 (0, 0))) w7.heap.size n (part y1 m)) := Lib.hid (al_old _ (below_heap' hb Y12.out))
       have B13 : Hid (Below w.heap.size w (w11.alloc (Obj.cells (cellsV n (part y4 m)) 31 (0, 0)))) := Lib.hid (bnext (bnext B12.out hb) (bal1 _ _))
       have D13 : Hid (Dice (w11.alloc (Obj.cells (cellsV n (part y4 m)) 31 (0, 0))) w.heap.size sv len) := Lib.hid ((D12.out.below hb).below (bal1 _ _))
       have S13 : Hid (Src (w11.alloc (Obj.cells (cellsV n (part y4 m)) 31 (0, 0))) sv len) := Lib.hid ((S12.out.below hb).below (bal1 _ _))
       have LT13 : Hid (w.heap.size < w11.heap.size) := Lib.hid (by obtain ⟨_, _, _, hD⟩ := D12.out.below hb; exact lt_of_block hD)
       have Z13 : Hid (Wv (w11.alloc (Obj.cells (cellsV n (part y4 m)) 31 (0, 0))) w11.heap.size n (part y4 m)) := Lib.hid (al_new _ rfl)
       clear hb )
    | (refine ld31g rfl _ rfl w11.heap.size rfl Z13.out ?_)
    | (go_at_call 15
       ((with_reducible refine (K5.out _).mono ?_))
       rintro e w12 ⟨rfl, hb⟩
       have sn14 := st_new w12 n (part y5 m)
       have X14 : Hid (Wv (w12.alloc (Obj.cells (cellsV n (part y5 m)) 31 (0, 0))) w3.heap.size n (part (zfC A B) m)) := Lib.hid (al_old _ (below_heap' hb X13.out))
       have Y14 : Hid (Wv (w12.alloc (Obj.cells (cellsV n (part y5 m)) 31 (0, 0))) w7.heap.size n (part y1 m)) := Lib.hid (al_old _ (below_heap' hb Y13.out))
       have B14 : Hid (Below w.heap.size w (w12.alloc (Obj.cells (cellsV n (part y5 m)) 31 (0, 0)))) := Lib.hid (bnext (bnext B13.out hb) (bal1 _ _))
       have D14 : Hid (Dice (w12.alloc (Obj.cells (cellsV n (part y5 m)) 31 (0, 0))) w.heap.size sv len) := Lib.hid ((D13.out.below hb).below (bal1 _ _))
       have S14 : Hid (Src (w12.alloc (Obj.cells (cellsV n (part y5 m)) 31 (0, 0))) sv len) := Lib.hid ((S13.out.below hb).below (bal1 _ _))
       have LT14 : Hid (w.heap.size < w12.heap.size) := Lib.hid (by obtain ⟨_, _, _, hD⟩ := D13.out.below hb; exact lt_of_block hD)
       have Z14 : Hid (Wv (w12.alloc (Obj.cells (cellsV n (part y5 m)) 31 (0, 0))) w12.heap.size n (part y5 m)) := Lib.hid (al_new _ rfl)
       have e5 : ∀ W, (Op.equalIn 10000 31 (.agg (cellsV n (part y5 m))) (.agg (cellsV n (part (zfC A B) m)))).run Tryz.prog W = .ok true W := fun W => eqWave n _ _ Q5.out W
       clear hb sn13)
    | (refine ld31g rfl _ rfl w12.heap.size rfl Z14.out ?_)
    | (refine ld31g rfl _ rfl w3.heap.size rfl X14.out ?_)
    | (refine ld31g rfl _ rfl w7.heap.size rfl Y14.out ?_)
    | (go_at_call 11
       ((with_reducible refine (K11b.out _).mono ?_))
       rintro e w13 ⟨rfl, hb⟩
       have sn15 := st_new w13 n (part y6 m)
       have X15 : Hid (Wv (w13.alloc (Obj.cells (cellsV n (part y6 m)) 31 (0, 0))) w3.heap.size n (part (zfC A B) m)) := Lib.hid (al_old _ (below_heap' hb X14.out))
       have Y15 : Hid (Wv (w13.alloc (Obj.cells (cellsV n (part y6 m)) 31 (0, 0))) w7.heap.size n (part y1 m)) := Lib.hid (al_old _ (below_heap' hb Y14.out))
       have B15 : Hid (Below w.heap.size w (w13.alloc (Obj.cells (cellsV n (part y6 m)) 31 (0, 0)))) := Lib.hid (bnext (bnext B14.out hb) (bal1 _ _))
       have D15 : Hid (Dice (w13.alloc (Obj.cells (cellsV n (part y6 m)) 31 (0, 0))) w.heap.size sv len) := Lib.hid ((D14.out.below hb).below (bal1 _ _))
       have S15 : Hid (Src (w13.alloc (Obj.cells (cellsV n (part y6 m)) 31 (0, 0))) sv len) := Lib.hid ((S14.out.below hb).below (bal1 _ _))
       have LT15 : Hid (w.heap.size < w13.heap.size) := Lib.hid (by obtain ⟨_, _, _, hD⟩ := D14.out.below hb; exact lt_of_block hD)
       have Z15 : Hid (Wv (w13.alloc (Obj.cells (cellsV n (part y6 m)) 31 (0, 0))) w13.heap.size n (part y6 m)) := Lib.hid (al_new _ rfl)
       clear hb sn14 e5)
    | (refine ld31g rfl _ rfl w3.heap.size rfl X15.out ?_)
    | (go_at_call 16
       ((with_reducible refine (K16.out _).mono ?_))
       rintro e w14 ⟨rfl, hb⟩
       have sn16 := st_new w14 n (part y7 m)
       have X16 : Hid (Wv (w14.alloc (Obj.cells (cellsV n (part y7 m)) 31 (0, 0))) w3.heap.size n (part (zfC A B) m)) := Lib.hid (al_old _ (below_heap' hb X15.out))
       have Y16 : Hid (Wv (w14.alloc (Obj.cells (cellsV n (part y7 m)) 31 (0, 0))) w7.heap.size n (part y1 m)) := Lib.hid (al_old _ (below_heap' hb Y15.out))
       have Z16 : Hid (Wv (w14.alloc (Obj.cells (cellsV n (part y7 m)) 31 (0, 0))) w13.heap.size n (part y6 m)) := Lib.hid (al_old _ (below_heap' hb Z15.out))
       have B16 : Hid (Below w.heap.size w (w14.alloc (Obj.cells (cellsV n (part y7 m)) 31 (0, 0)))) := Lib.hid (bnext (bnext B15.out hb) (bal1 _ _))
       have D16 : Hid (Dice (w14.alloc (Obj.cells (cellsV n (part y7 m)) 31 (0, 0))) w.heap.size sv len) := Lib.hid ((D15.out.below hb).below (bal1 _ _))
       have S16 : Hid (Src (w14.alloc (Obj.cells (cellsV n (part y7 m)) 31 (0, 0))) sv len) := Lib.hid ((S15.out.below hb).below (bal1 _ _))
       have LT16 : Hid (w.heap.size < w14.heap.size) := Lib.hid (by obtain ⟨_, _, _, hD⟩ := D15.out.below hb; exact lt_of_block hD)
       have U16 : Hid (Wv (w14.alloc (Obj.cells (cellsV n (part y7 m)) 31 (0, 0))) w14.heap.size n (part y7 m)) := Lib.hid (al_new _ rfl)
       clear hb sn15
       have cv := conv_all d hd
       rw [← HN.out] at cv))
  have fo : floatOfInt FloatKind.f32 (wrap64 (n * n)) = allB d := by
    rw [HN.out]
    obtain rfl | rfl | rfl : d = 0 ∨ d = 1 ∨ d = 2 := by omega
    all_goals kernel_rfl
  rw [fo]
  clear cv fo rw1 rw2 rw3
  generalize wrap64 (n * n) = q159
  go_loopw [28] (fun c wr => ∃ j : Nat, j ≤ m ∧ c = .int .i64 j ∧ wr = (w14.alloc (Obj.cells (cellsV n (part y7 m)) 31 (0, 0)))) (fun c _ => (m - intOf c).toNat)
  case atStart => exact ⟨0, by omega, rfl, rfl⟩
  case round =>
    obtain ⟨j, hj, rfl, rfl⟩ := hrel
    have nm : n * n = (m : Int) := NM.out.2.2.1
    have m16 : m ≤ 16 := NM.out.2.2.2.1
    by_cases hlt : j < m
    · have c7 := cell_of_heap U16.out (cellsV_at n (part y7 m) j (by omega))
      have c6 := cell_of_heap Z16.out (cellsV_at n (part y6 m) j (by omega))
      obtain ⟨⟨f1, f2⟩, o1, o2⟩ := Q7.out j hlt
      have o1' : (FloatKind.f32.format.order (part y6 m j).fst (m32 (part y7 m j).fst (allB d)) == some Ordering.eq) = true := by rw [show FloatKind.f32.format = Ieee.single from rfl, o1]; rfl
      have o2' : (FloatKind.f32.format.order (part y6 m j).snd (m32 (part y7 m j).snd (allB d)) == some Ordering.eq) = true := by rw [show FloatKind.f32.format = Ieee.single from rfl, o2]; rfl
      have k1 := fb f1
      have k2 := fb f2
      clear o1 o2 f1 f2
      go_wp2_with fail
      exact ⟨⟨j + 1, by omega, by go_num, by simp⟩, by simp [intOf]; omega⟩
    · go_wp2_with fail
      obtain ⟨WN, hWN⟩ : ∃ WN, WN = (w14.alloc (Obj.cells (cellsV n (part y7 m)) 31 (0, 0))) := ⟨_, rfl⟩
      rw [← hWN] at X16 B16 D16 S16 ⊢
      clear hlt U16 Z16
      obtain ⟨i0, hi, hz0, hz1, hz2⟩ := info_parts info40
      go_loopw [31, 30] (fun c u wr => ∃ j : Nat, j ≤ m ∧ c = .int .i64 j ∧ Below WN.heap.size WN wr ∧ wr.ownsRow WN.heap.size 40 1 u j (fvs j fun i => fbB (A i))) (fun c _ _ => (m - intOf c).toNat)
      case atStart =>
        have hz : w14.heap.size + 1 = WN.heap.size := by rw [hWN]; simp
        rw [hz]
        exact ⟨0, by omega, rfl, bal1 _ _, World.ownsRow_made WN #[] 0 (Nat.le_refl _) (by decide) rfl⟩
      case round =>
        obtain ⟨j, hj, rfl, hb, ho⟩ := hrel
        by_cases hlt : j < m
        · have hc0 := cell_of_heap X16.out (cellsV_at n (part (zfC A B) m) j (by omega))
          have cx := (hb.cell (block_lt_of_cell hc0)).trans hc0
          have pe : part (zfC A B) m j = (fbB (A j), fbB (B j)) := by simp [part, zfC, hlt]
          rw [pe] at cx
          have HB := Lib.hid hb
          have HO := Lib.hid ho
          clear hb ho hc0 pe
          go_wp2_with (at_builtin; refine wpList_app1 _ rfl (.tmp 194) (.tmp 200) 41 rfl WN.heap.size 40 i0 (.float .f32 0) 4 Tryz.underlying41 hi hz0 hz1 hz2 rfl _ _ _ rfl (HO.out.alloc _) ⟨_, 0, none⟩ 1 (fv (fbB (A j))) rfl (by simp [fv]) rfl (by omega) (by omega) (by have := HB.out.size; simp; omega) ?_; intro v' w2 h1 h2 _)
          refine ⟨⟨j + 1, by omega, by go_num, (bnext HB.out (bal1 _ _)).trans (grown_below h2 (fun k hk => (HO.out.lt k hk).1) (by have := HB.out.size; simp; omega)), ?_⟩, by simp [intOf]; omega⟩
          rw [← fvs_succ]; exact h1
        · rw [show j = m by omega] at ho
          have RW : Hid (RowF wr 0 u30 m (fun i => fbB (A i))) := Lib.hid ((RowF.of_own ho NM.out.2.2.2.2).weak (Nat.zero_le _))
          have HB := Lib.hid hb
          clear hb ho
          go_wp2_with (first
            | (go_at_call 17
               ((with_reducible refine (L17.out _ _ RW.out).mono ?_))
               rintro e w15 ⟨⟨v1, rfl, ho1⟩, hb1⟩
               have R1 : Hid (RowF w15 0 v1 m g1) := Lib.hid ((RowF.of_own ho1 NM.out.2.2.2.2).weak (Nat.zero_le _))
               have RW1 := Lib.hid (RW.out.below hb1 (Nat.le_refl _))
               have HB1 := Lib.hid (bnext HB.out hb1)
               clear hb1 ho1)
            | (go_at_call 18
               ((with_reducible refine (L18.out _ _ R1.out).mono ?_))
               rintro e w16 ⟨⟨v2, rfl, ho2⟩, hb2⟩
               have R2 : Hid (RowF w16 0 v2 m g2) := Lib.hid ((RowF.of_own ho2 NM.out.2.2.2.2).weak (Nat.zero_le _))
               have RW2 := Lib.hid (RW1.out.below hb2 (Nat.le_refl _))
               have HB2 := Lib.hid (bnext HB1.out hb2)
               clear hb2 ho2)
            | (go_at_call 19
               ((with_reducible refine (lists9_c _ _ m (by have := NM.out; omega) _ _ _ R2.out RW2.out LQ.out).mono ?_))
               rintro e w17 ⟨rfl, hb3⟩
               have HB3 := Lib.hid (bnext HB2.out hb3)
               clear hb3))
          go_ret
          exact ⟨rfl, bnext B16.out HB3.out⟩
end Go.Proofs.YtdpdjcehobjohaaGreatDoor
