/- laws.FnTop: facts of one wave's texts, of the first draws, and the way on which the code is too long. -/
import Derived.Test.YtdpdjcehobjohaaGreatDoorPb
namespace Go.Proofs.YtdpdjcehobjohaaGreatDoor
open Go Go.RowKit Go.BigFrame Fl Ieee

theorem packX (d : Nat) (hd : d ≤ 2) (A B : Nat → Int) (hs : Small (nn d) A B) :
    ∃ (T : ByteArray) (y0 : Nat → CB), (∀ w, Env w → Calls Tryz.prog 8 #[.agg (cellsV (sd d) (part (zfC A B) (nn d)))] w fun e w' => e = .returned (.tuple #[.string T, .int .i64 0]) ∧ Below w.heap.size w w') ∧
      (∀ w, Calls Tryz.prog 9 #[.agg (cellsV (sd d) (part (zfC A B) (nn d)))] w fun e w' => e = .returned (.tuple #[.string T, .int .i64 0]) ∧ Below w.heap.size w w') ∧
      (∀ w, Env w → Calls Tryz.prog 10 #[.string T] w fun e w' => e = .returned (.tuple #[.agg (cellsV (sd d) (part y0 (nn d))), .int .i64 0]) ∧ Below w.heap.size w w') ∧ CEq (part y0 (nn d)) (part (zfC A B) (nn d)) := by
  have hz := zf_rep _ A B hs
  have hf := fine_of d 0 (by omega) _ _ hz
  have hzz : ∀ i, i < nn d → part (zfC A B) (nn d) i = fbC (A i) (B i) := fun i hi => by unfold part; rw [if_pos hi]
  have hc : CEq (part (fun i => plC (zfC A B i)) (nn d)) (part (zfC A B) (nn d)) := ceq_of _ 0 _ _ _ (plF_rep (by omega) hz) hz
  obtain rfl | rfl | rfl : d = 0 ∨ d = 1 ∨ d = 2 := by omega
  · refine ⟨waveT 1 1 A B, fun i => plC (zfC A B i), fun w he => waveText1_c A B hs _ hzz hf w he.tab, fun w => sWaveText1_c A B hs _ hzz hf w, fun w he => ?_, hc⟩
    have := parseWave_c 1 (part (zfC A B) 1) (waveT 1 1 A B) w fun w1 hb => signedParse1_c A B hs w1 (he.below hb)
    rw [plC_part] at this; exact this
  · refine ⟨waveT 2 4 A B, fun i => plC (zfC A B i), fun w he => waveText2_c A B hs _ hzz hf w he.tab, fun w => sWaveText2_c A B hs _ hzz hf w, fun w he => ?_, hc⟩
    have := parseWave_c 2 (part (zfC A B) 4) (waveT 2 4 A B) w fun w1 hb => signedParse2_c A B hs w1 (he.below hb)
    rw [plC_part] at this; exact this
  · refine ⟨waveT 4 16 A B, fun i => plC (zfC A B i), fun w he => waveText4_c A B hs _ hzz hf w he.tab, fun w => sWaveText4_c A B hs _ hzz hf w, fun w he => ?_, hc⟩
    have := parseWave_c 4 (part (zfC A B) 16) (waveT 4 16 A B) w fun w1 hb => signedParse4_c A B hs w1 (he.below hb)
    rw [plC_part] at this; exact this
theorem whole_c (d : Nat) (hd : d ≤ 2) (D : Nat) (sv : Value) (len : Nat) (hl : len ≤ 1000000) (w : World) (hs : Src w sv len) (hdd : Dice w D sv len) :
    Calls Tryz.prog 7 #[.pointer (some ⟨D, 0, none⟩), .int .i64 (sd d)] w fun e w' =>
      (∃ A B : Nat → Int, e = .returned (.agg (cellsV (sd d) (part (zfC A B) (nn d)))) ∧ Small (nn d) A B) ∧ Dice w' D sv len ∧ w.grownBy w' (some D) := by
  obtain rfl | rfl | rfl : d = 0 ∨ d = 1 ∨ d = 2 := by omega
  · exact whole1_c D sv len hl w hs hdd
  · exact whole2_c D sv len hl w hs hdd
  · exact whole4_c D sv len hl w hs hdd
theorem big_c (sv : Value) (len : Nat) (w : World) (hs : Src w sv len) :
    Calls Tryz.prog 4 #[sv] w fun e w' => e = .returned (.bool (decide ((4096 : Int) < len))) ∧ w = w' := by
  obtain ⟨a, cap, rfl, -⟩ := hs
  go_enter Tryz.func4, Tryz.ntmps4
  go_wp2_with fail
  go_ret; exact ⟨rfl, rfl⟩
/-- load of a whole wave, where a guard stands ahead of it -/
theorem wp_ld31 {o : Oper} {a : Act} {w : World} {K : Act → World → Prop} {Q : Exit → Act → World → Prop} (x : Operand) (ho : o.op = .load 31 x) (b : Nat) (hx : a.eval x = .pointer (some ⟨b, 0, none⟩)) {n : Int} {z : Nat → CB} (hg : Wv w b n z)
    (h : K (a.put o.dst (.agg (cellsV n z))) w) : o.wp Tryz.prog a w K Q :=
  wp_load_row 31 x ho b hx 31 (cellsV n z) (0, 0) _ hg Tryz.underlying31 rfl (size31c _ _) h
theorem wrap_small (x : Int) (h : -100 ≤ x ∧ x ≤ 100) : IntKind.i64.wrap x = x := by
  show (if (true && decide (x % (2 ^ 64 : Int) ≥ (2 ^ 63 : Int))) = true then x % (2 ^ 64 : Int) - 2 ^ 64 else x % (2 ^ 64 : Int)) = x
  simp only [Bool.true_and, decide_eq_true_eq]
  split <;> omega
/-- load of a whole wave at the head of a list, guard or no guard, where the guard says yes -/
theorem ld31g {ops : Array Oper} {rest : List Oper} {op : Oper} {a : Act} {w : World} {Q : Exit → Act → World → Prop} (hw : Region.wanted op (yielded ops a.tmps) = true) (x : Operand) (ho : op.op = .load 31 x)
    (b : Nat) (hx : a.eval x = .pointer (some ⟨b, 0, none⟩)) {n : Int} {z : Nat → CB} (hg : Wv w b n z)
    (h : wpList Tryz.prog ops Q rest (a.put op.dst (.agg (cellsV n z))) w) : wpList Tryz.prog ops Q (op :: rest) a w :=
  BigFrame.wpList_want hw fun _ hK => wp_ld31 x ho b hx hg (hK _ _ h)
theorem st_new (w : World) (n : Int) (z : Nat → CB) : (storeCells ⟨w.heap.size, 0, none⟩ (cellsV n z).toList 0).run Tryz.prog (w.alloc (.cells (cellsV 0 zW) 31)) = .ok () (w.alloc (.cells (cellsV n z) 31)) :=
  run_storeCells_new (P := Tryz.prog) w 31 (cellsV 0 zW) (cellsV n z) (size31c _ _) (cellsV_sizes _ _ _ _) (cellsV_one _ _)
set_option maxRecDepth 100000 in
theorem top_big (sv : Value) (len : Nat) (hl : 4096 < len) (w : World) (hs : Src w sv len) :
    Calls Tryz.prog 3 #[sv] w fun e w' => e = .returned (.bool true) ∧ Below w.heap.size w w' := by
  have hd : decide ((4096 : Int) < len) = true := by simp; omega
  have HB := big_c sv len w hs
  rw [hd] at HB
  have H := Lib.hid HB
  clear HB hs hd
  go_enter Tryz.func3, Tryz.ntmps3
  go_wp2_with (go_at_call 4; ((with_reducible refine (H.out).mono ?_)); rintro e w1 ⟨rfl, rfl⟩)
  go_ret; exact ⟨rfl, Below.refl _ _⟩
end Go.Proofs.YtdpdjcehobjohaaGreatDoor
