/- laws.dice: numbers that are drawn. -/
import Derived.Test.YtdpdjcehobjohaaGreatDoorPx
namespace Go.Proofs.YtdpdjcehobjohaaGreatDoor
open Go Go.RowKit Go.BigFrame Fl

/-- The bytes that a dice reads. -/
def Src (w : World) (sv : Value) (len : Nat) : Prop :=
  ∃ a cap, sv = .slice a len cap ∧ (0 < len → ∃ b o, a = some ⟨b, o, none⟩ ∧ ∀ k : Nat, k < len → ∃ c : Nat, c < 256 ∧ w.cell? ⟨b, o + k, none⟩ = some (.int .u8 c))
/-- A dice in block D. -/
def Dice (w : World) (D : Nat) (sv : Value) (len : Nat) : Prop :=
  ∃ (i : Nat) (h : Int), i ≤ len ∧ w.heap[D]? = some (.cells #[sv, .int .i64 i, .int .u64 h] 46 (0, 0))
theorem Src.below {w w' : World} {sv : Value} {len : Nat} (h : Src w sv len) (hb : Below w.heap.size w w') : Src w' sv len := by
  obtain ⟨a, cap, rfl, hc⟩ := h
  refine ⟨a, cap, rfl, fun hl => ?_⟩
  obtain ⟨b, o, e, hq⟩ := hc hl
  refine ⟨b, o, e, fun k hk => ?_⟩
  obtain ⟨c, h1, h2⟩ := hq k hk
  exact ⟨c, h1, (hb.cell (p := ⟨b, o + k, none⟩) (block_lt_of_cell h2)).trans h2⟩

theorem and_mask (v : Int) : 0 ≤ bits .and .u64 v 16777215 ∧ bits .and .u64 v 16777215 ≤ 16777215 := by
  have e : (BitVec.ofInt 64 v &&& BitVec.ofInt 64 16777215).toNat ≤ 16777215 := by
    rw [BitVec.toNat_and]; exact Nat.and_le_right
  have h : bits .and .u64 v 16777215 = (((BitVec.ofInt 64 v &&& BitVec.ofInt 64 16777215).toNat : Nat) : Int) % (2 ^ 64 : Int) := rfl
  rw [h]
  omega

set_option maxRecDepth 100000 in
set_option maxHeartbeats 2000000 in
theorem below_c (n : Int) (hn : n = 3 ∨ n = 9) (D : Nat) (sv : Value) (len : Nat) (hl : len ≤ 1000000) (w : World) (hs : Src w sv len) (hd : Dice w D sv len) :
    Calls Tryz.prog 14 #[.pointer (some ⟨D, 0, none⟩), .int .i64 n] w fun e w' => (∃ r : Int, e = .returned (.int .i64 r) ∧ 0 ≤ r ∧ r < n) ∧ Dice w' D sv len ∧ w.grownBy w' (some D) := by
  obtain ⟨a, cap, rfl, hc⟩ := hs
  obtain ⟨i, h, hi, hD⟩ := hd
  obtain ⟨h2, e2⟩ : ∃ h2, IntKind.u64.wrap (IntKind.u64.wrap (h * 6364136223846793005) + 1442695040888963407) = h2 := ⟨_, rfl⟩
  have hm := and_mask (h2 / 8589934592)
  obtain ⟨x, ex⟩ : ∃ x, bits .and .u64 (h2 / 8589934592) 16777215 = x := ⟨_, rfl⟩
  rw [ex] at hm
  obtain ⟨hm1, hm2⟩ := hm
  have c2 := cell_of_heap hD (j := 2) rfl
  have f2 := frozen_of_row w D 2 _ _ hD
  have K1 := heap_setCell_same w D 2 _ _ (.int .u64 h2) hD
  simp only [List.setIfInBounds_toArray, List.set_cons_succ, List.set_cons_zero] at K1
  have HK1 := Lib.hid K1
  have d0 := cell_of_heap K1 (j := 0) rfl
  have d1 := cell_of_heap K1 (j := 1) rfl
  have d2 := cell_of_heap K1 (j := 2) rfl
  clear K1
  have n1 : 1 ≤ n := by omega
  have hG := Lib.hid (grown_set (grown_refl w (some D)) 2 (.int .u64 h2))
  by_cases hlt : i < len
  · obtain ⟨b, o, rfl, hq⟩ := hc (by omega)
    obtain ⟨c, hc256, hcell⟩ := hq i hlt
    have hne : b ≠ D := by
      rintro rfl
      rw [cell_of_row w b (o + i) _ _ _ hD] at hcell
      have : (#[Value.slice (some ⟨b, o, none⟩) len cap, Value.int .i64 i, Value.int .u64 h] : Array Value)[o + i]? = some (.int .u8 c) := hcell
      rcases h3 : o + i with _ | _ | _ | k <;> rw [h3] at this <;> simp at this
    have hcell2 := (((grown_set (grown_refl w (some D)) 2 (.int .u64 h2)).cell hcell (by simpa using hne)))
    have b1 := Int.emod_nonneg (x + c) (show n ≠ 0 by omega)
    have b2 := Int.emod_lt_of_pos (x + c) (show 0 < n by omega)
    have hR : Hid (0 ≤ (x + c) % n ∧ (x + c) % n < n) := Lib.hid ⟨b1, b2⟩
    clear hc hq hcell b1 b2 hD
    go_enter Tryz.func14, Tryz.ntmps14
    go_wp2_with fail
    have g0 : ∀ y : Under (w.setCell ⟨D, 2, none⟩ (.int .u64 h2)), y.1.cell? ⟨D, 0, none⟩ = some (.slice (some ⟨b, o, none⟩) len cap) := fun y => y.cell d0
    have g1 : ∀ y : Under (w.setCell ⟨D, 2, none⟩ (.int .u64 h2)), y.1.cell? ⟨D, 1, none⟩ = some (.int .i64 i) := fun y => y.cell d1
    refine wp_region_quietC (UC (w.setCell ⟨D, 2, none⟩ (.int .u64 h2))) (by kernel_rfl) (by kernel_rfl) (UC.drew _) ?_
    repeat (go_big_quiet_step (fail))
    refine wpQuiet_nil ?_
    rintro _ ⟨y, rfl⟩
    have k0 : ∀ z : Under y.1, z.1.cell? ⟨D, 0, none⟩ = some (.slice (some ⟨b, o, none⟩) len cap) := fun z => z.cell (y.cell d0)
    have k1 : ∀ z : Under y.1, z.1.cell? ⟨D, 1, none⟩ = some (.int .i64 i) := fun z => z.cell (y.cell d1)
    have k2 : ∀ z : Under y.1, z.1.cell? ⟨b, o + i, none⟩ = some (.int .u8 c) := fun z => z.cell (y.cell hcell2)
    clear g0 g1 d0 d1 d2 c2 f2
    go_wp2_with fail
    refine wp_region_quietC (UC y.1) (by kernel_rfl) (by kernel_rfl) (UC.drew _) ?_
    repeat (go_big_quiet_step (fail))
    refine wpQuiet_nil ?_
    rintro _ ⟨z, rfl⟩
    clear k0 k1 k2
    have hz := z.heap (y.heap HK1.out)
    have m1 := cell_of_heap hz (j := 1) rfl
    have m2 := frozen_of_row z.1 D 1 _ _ hz
    have hz2 := Lib.hid (heap_setCell_same z.1 D 1 _ _ (.int .i64 (i + 1 : Nat)) hz)
    have hz3 := Lib.hid (grown_set (grown_under (grown_under hG.out y) z) 1 (.int .i64 (i + 1 : Nat)))
    clear hz
    go_wp2_with fail
    go_ret
    exact ⟨⟨_, rfl, hR.out.1, hR.out.2⟩, ⟨i + 1, h2, by omega, hz2.out⟩, hz3.out⟩
  · have b1 := Int.emod_nonneg x (show n ≠ 0 by omega)
    have b2 := Int.emod_lt_of_pos x (show 0 < n by omega)
    have hR : Hid (0 ≤ x % n ∧ x % n < n) := Lib.hid ⟨b1, b2⟩
    clear hc b1 b2 hD
    go_enter Tryz.func14, Tryz.ntmps14
    go_wp2_with fail
    have g0 : ∀ y : Under (w.setCell ⟨D, 2, none⟩ (.int .u64 h2)), y.1.cell? ⟨D, 0, none⟩ = some (.slice a len cap) := fun y => y.cell d0
    have g1 : ∀ y : Under (w.setCell ⟨D, 2, none⟩ (.int .u64 h2)), y.1.cell? ⟨D, 1, none⟩ = some (.int .i64 i) := fun y => y.cell d1
    refine wp_region_quietC (UC (w.setCell ⟨D, 2, none⟩ (.int .u64 h2))) (by kernel_rfl) (by kernel_rfl) (UC.drew _) ?_
    repeat (go_big_quiet_step (fail))
    refine wpQuiet_nil ?_
    rintro _ ⟨y, rfl⟩
    clear g0 g1 d0 d1 d2 c2 f2
    go_wp2_with fail
    go_ret
    exact ⟨⟨_, rfl, hR.out.1, hR.out.2⟩, ⟨i, h2, by omega, y.heap HK1.out⟩, grown_under hG.out y⟩
set_option maxRecDepth 100000 in
set_option maxHeartbeats 1000000 in
theorem side9_c (D : Nat) (sv : Value) (len : Nat) (hl : len ≤ 1000000) (w : World) (hs : Src w sv len) (hd : Dice w D sv len) :
    Calls Tryz.prog 6 #[.pointer (some ⟨D, 0, none⟩)] w fun e w' => (∃ n : Int, e = .returned (.int .i64 n) ∧ (n = 1 ∨ n = 2 ∨ n = 4)) ∧ Dice w' D sv len ∧ w.grownBy w' (some D) := by
  go_enter Tryz.func6, Tryz.ntmps6
  go_wp2_with (go_at_call 14; ((with_reducible refine (below_c 3 (by omega) D sv len hl _ hs hd).mono ?_)); rintro e w1 ⟨⟨r, rfl, hr1, hr2⟩, hd1, hg1⟩; obtain rfl | rfl | rfl : r = 0 ∨ r = 1 ∨ r = 2 := by omega)
  all_goals
    go_wp2_with fail
    go_ret; exact ⟨⟨_, rfl, by omega⟩, hd1, hg1⟩
set_option maxRecDepth 100000 in
set_option maxHeartbeats 2000000 in
theorem roll_c (sv : Value) (len : Nat) (hl : len ≤ 1000000) (w : World) (hs : Src w sv len) :
    Calls Tryz.prog 5 #[sv, .int .u64 9701] w fun e w' => e = .returned (.pointer (some ⟨w.heap.size, 0, none⟩)) ∧ Dice w' w.heap.size sv len ∧ Below w.heap.size w w' := by
  obtain ⟨a, cap, rfl, hc⟩ := hs
  have HC := Lib.hid hc
  clear hc
  go_enter Tryz.func5, Tryz.ntmps5
  go_wp2_with fail
  go_loopw [6] (fun c wr => ∃ j : Nat, j ≤ len ∧ c = .int .i64 j ∧ Below w.heap.size w wr ∧ ∃ h : Int, wr.heap[w.heap.size]? = some (.cells #[.slice a len cap, .int .i64 0, .int .u64 h] 46 (0, 0))) (fun c _ => (len - intOf c).toNat)
  case atStart => exact ⟨0, by omega, rfl, bal1 _ _, _, heap_alloc_last w _⟩
  case round =>
    obtain ⟨j, hj, rfl, hb, h, hD⟩ := hrel
    by_cases hlt : j < len
    · obtain ⟨b, o, rfl, hq⟩ := HC.out (by omega)
      obtain ⟨c, hc256, hcell⟩ := hq j hlt
      have k2 : ∀ z : Under wr, z.1.cell? ⟨b, o + j, none⟩ = some (.int .u8 c) := fun z => z.cell ((hb.cell (p := ⟨b, o + j, none⟩) (block_lt_of_cell hcell)).trans hcell)
      have k1 : ∀ z : Under wr, z.1.cell? ⟨w.heap.size, 2, none⟩ = some (.int .u64 h) := fun z => z.cell (cell_of_heap hD (j := 2) rfl)
      obtain ⟨h2, e2⟩ : ∃ h2, IntKind.u64.wrap (IntKind.u64.wrap (IntKind.u64.wrap (h * 1099511628211) + c) + 5) = h2 := ⟨_, rfl⟩
      have HB := Lib.hid hb
      have HD := Lib.hid hD
      clear hq hcell hb hD
      go_wp2_with fail
      refine wp_region_quiet_tail (UC wr) 15 (by kernel_rfl) (by kernel_rfl) (UC.drew wr) ?_
      simp only [List.take_succ_cons, List.take_zero, List.drop_succ_cons, List.drop_zero]
      repeat (go_big_quiet_step (fail))
      refine wpQuiet_nil ?_
      rintro _ ⟨x, rfl⟩
      clear k1 k2
      have hx := x.heap HD.out
      have m1 := cell_of_heap hx (j := 2) rfl
      have m2 := frozen_of_row x.1 w.heap.size 2 _ _ hx
      have hx2 := Lib.hid (heap_setCell_same x.1 w.heap.size 2 _ _ (.int .u64 h2) hx)
      clear hx
      go_wp2_with fail
      exact ⟨⟨j + 1, by omega, by go_num, (under_below HB.out x).setCell (Nat.le_refl _) _, h2, hx2.out⟩, by simp [intOf]; omega⟩
    · go_wp2_with fail
      go_ret; exact ⟨rfl, ⟨0, h, by omega, hD⟩, hb⟩
end Go.Proofs.YtdpdjcehobjohaaGreatDoor
