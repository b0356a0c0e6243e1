/- The texts of places read back, and impl.readComplex. -/
import Derived.Test.YtdpdjcehobjohaaGreatDoorPu
import Derived.Test.YtdpdjcehobjohaaGreatDoorSp
namespace Go.Proofs.YtdpdjcehobjohaaGreatDoor
open Go Go.RowKit Go.BigFrame Fl

@[go_sem] theorem run_frombits32 (x : Int) (w : World) : (callFunc 116 #[.int .u32 x]).run Tryz.prog w = .ok (.value (.float .f32 x.toNat)) w := by
  rw [run_callFunc_extern (e := Extern.MathFloatBits.float32frombits) Tryz.func116 (by kernel_rfl) (by kernel_rfl) (by kernel_rfl) (by kernel_rfl)]
  rfl


set_option maxRecDepth 100000 in
set_option maxHeartbeats 2000000 in
theorem parseInt_p0 (w : World) : Calls Tryz.prog 140 #[.string ⟨#[48]⟩, .int .i64 16, .int .i64 64] w fun e w' => e = .returned (.tuple #[.int .i64 0, .nilIface]) ∧ Below w.heap.size w w' := by
  have ex := True.intro
  go_enter Tryz.func140, Tryz.ntmps140
  go_wp2_with (go_at_call 161; ((with_reducible refine (parseUint_0 _).mono ?_)); rintro e w1 ⟨rfl, hb1⟩)
  go_ret2; exact ⟨rfl, hb1⟩
set_option maxRecDepth 100000 in
theorem parsePub_p0 (w : World) : Calls Tryz.prog 115 #[.string ⟨#[48]⟩, .int .i64 16, .int .i64 64] w fun e w' => e = .returned (.tuple #[.int .i64 0, .nilIface]) ∧ Below w.heap.size w w' := by
  go_enter Tryz.func115, Tryz.ntmps115
  go_wp2_with (go_at_call 140; ((with_reducible refine (parseInt_p0 _).mono ?_)); rintro e w1 ⟨rfl, hb1⟩)
  go_ret2; exact ⟨rfl, hb1⟩
set_option maxRecDepth 100000 in
set_option maxHeartbeats 2000000 in
theorem readPlace_p0 (w : World) (ht : Tab w) : Calls Tryz.prog 84 #[.string ⟨#[48]⟩] w fun e w' => e = .returned (.tuple #[fv 0, .bool true]) ∧ Below w.heap.size w w' := by
  have k : neg32 0 = 2147483648 := by decide
  have mx : max (0 : Int) (-0) = 0 := by decide
  have HT := Lib.hid ht
  clear ht
  go_enter Tryz.func84, Tryz.ntmps84
  go_wp2_with (first
    | (go_at_call 115; ((with_reducible refine (parsePub_p0 _).mono ?_)); rintro e w1 ⟨rfl, hb1⟩; have HB1 := Lib.hid hb1; clear hb1)
    | (go_at_call 100; ((with_reducible refine (within_t _ _ _ _ (by omega)).mono ?_)); rintro e w2 ⟨rfl, rfl⟩)
    | (go_at_call 73; ((with_reducible refine (placeText_p0 _ (HT.out.below HB1.out)).mono ?_)); rintro e w2 ⟨rfl, hb2⟩))
  go_ret2; exact ⟨rfl, bnext HB1.out hb2⟩


set_option maxRecDepth 100000 in
set_option maxHeartbeats 2000000 in
theorem parseInt_p1 (w : World) : Calls Tryz.prog 140 #[.string ⟨#[51,102,56,48,48,48,48,48]⟩, .int .i64 16, .int .i64 64] w fun e w' => e = .returned (.tuple #[.int .i64 1065353216, .nilIface]) ∧ Below w.heap.size w w' := by
  have ex := True.intro
  go_enter Tryz.func140, Tryz.ntmps140
  go_wp2_with (go_at_call 161; ((with_reducible refine (parseUint_1 _).mono ?_)); rintro e w1 ⟨rfl, hb1⟩)
  go_ret2; exact ⟨rfl, hb1⟩
set_option maxRecDepth 100000 in
theorem parsePub_p1 (w : World) : Calls Tryz.prog 115 #[.string ⟨#[51,102,56,48,48,48,48,48]⟩, .int .i64 16, .int .i64 64] w fun e w' => e = .returned (.tuple #[.int .i64 1065353216, .nilIface]) ∧ Below w.heap.size w w' := by
  go_enter Tryz.func115, Tryz.ntmps115
  go_wp2_with (go_at_call 140; ((with_reducible refine (parseInt_p1 _).mono ?_)); rintro e w1 ⟨rfl, hb1⟩)
  go_ret2; exact ⟨rfl, hb1⟩
set_option maxRecDepth 100000 in
set_option maxHeartbeats 2000000 in
theorem readPlace_p1 (w : World) (ht : Tab w) : Calls Tryz.prog 84 #[.string ⟨#[51,102,56,48,48,48,48,48]⟩] w fun e w' => e = .returned (.tuple #[fv 1065353216, .bool true]) ∧ Below w.heap.size w w' := by
  have k : neg32 1065353216 = 3212836864 := by decide
  have mx : max (1065353216 : Int) (-1065353216) = 1065353216 := by decide
  have HT := Lib.hid ht
  clear ht
  go_enter Tryz.func84, Tryz.ntmps84
  go_wp2_with (first
    | (go_at_call 115; ((with_reducible refine (parsePub_p1 _).mono ?_)); rintro e w1 ⟨rfl, hb1⟩; have HB1 := Lib.hid hb1; clear hb1)
    | (go_at_call 100; ((with_reducible refine (within_t _ _ _ _ (by omega)).mono ?_)); rintro e w2 ⟨rfl, rfl⟩)
    | (go_at_call 73; ((with_reducible refine (placeText_p1 _ (HT.out.below HB1.out)).mono ?_)); rintro e w2 ⟨rfl, hb2⟩))
  go_ret2; exact ⟨rfl, bnext HB1.out hb2⟩


set_option maxRecDepth 100000 in
set_option maxHeartbeats 2000000 in
theorem parseInt_p2 (w : World) : Calls Tryz.prog 140 #[.string ⟨#[52,48,48,48,48,48,48,48]⟩, .int .i64 16, .int .i64 64] w fun e w' => e = .returned (.tuple #[.int .i64 1073741824, .nilIface]) ∧ Below w.heap.size w w' := by
  have ex := True.intro
  go_enter Tryz.func140, Tryz.ntmps140
  go_wp2_with (go_at_call 161; ((with_reducible refine (parseUint_2 _).mono ?_)); rintro e w1 ⟨rfl, hb1⟩)
  go_ret2; exact ⟨rfl, hb1⟩
set_option maxRecDepth 100000 in
theorem parsePub_p2 (w : World) : Calls Tryz.prog 115 #[.string ⟨#[52,48,48,48,48,48,48,48]⟩, .int .i64 16, .int .i64 64] w fun e w' => e = .returned (.tuple #[.int .i64 1073741824, .nilIface]) ∧ Below w.heap.size w w' := by
  go_enter Tryz.func115, Tryz.ntmps115
  go_wp2_with (go_at_call 140; ((with_reducible refine (parseInt_p2 _).mono ?_)); rintro e w1 ⟨rfl, hb1⟩)
  go_ret2; exact ⟨rfl, hb1⟩
set_option maxRecDepth 100000 in
set_option maxHeartbeats 2000000 in
theorem readPlace_p2 (w : World) (ht : Tab w) : Calls Tryz.prog 84 #[.string ⟨#[52,48,48,48,48,48,48,48]⟩] w fun e w' => e = .returned (.tuple #[fv 1073741824, .bool true]) ∧ Below w.heap.size w w' := by
  have k : neg32 1073741824 = 3221225472 := by decide
  have mx : max (1073741824 : Int) (-1073741824) = 1073741824 := by decide
  have HT := Lib.hid ht
  clear ht
  go_enter Tryz.func84, Tryz.ntmps84
  go_wp2_with (first
    | (go_at_call 115; ((with_reducible refine (parsePub_p2 _).mono ?_)); rintro e w1 ⟨rfl, hb1⟩; have HB1 := Lib.hid hb1; clear hb1)
    | (go_at_call 100; ((with_reducible refine (within_t _ _ _ _ (by omega)).mono ?_)); rintro e w2 ⟨rfl, rfl⟩)
    | (go_at_call 73; ((with_reducible refine (placeText_p2 _ (HT.out.below HB1.out)).mono ?_)); rintro e w2 ⟨rfl, hb2⟩))
  go_ret2; exact ⟨rfl, bnext HB1.out hb2⟩


set_option maxRecDepth 100000 in
set_option maxHeartbeats 2000000 in
theorem parseInt_p3 (w : World) : Calls Tryz.prog 140 #[.string ⟨#[52,48,52,48,48,48,48,48]⟩, .int .i64 16, .int .i64 64] w fun e w' => e = .returned (.tuple #[.int .i64 1077936128, .nilIface]) ∧ Below w.heap.size w w' := by
  have ex := True.intro
  go_enter Tryz.func140, Tryz.ntmps140
  go_wp2_with (go_at_call 161; ((with_reducible refine (parseUint_3 _).mono ?_)); rintro e w1 ⟨rfl, hb1⟩)
  go_ret2; exact ⟨rfl, hb1⟩
set_option maxRecDepth 100000 in
theorem parsePub_p3 (w : World) : Calls Tryz.prog 115 #[.string ⟨#[52,48,52,48,48,48,48,48]⟩, .int .i64 16, .int .i64 64] w fun e w' => e = .returned (.tuple #[.int .i64 1077936128, .nilIface]) ∧ Below w.heap.size w w' := by
  go_enter Tryz.func115, Tryz.ntmps115
  go_wp2_with (go_at_call 140; ((with_reducible refine (parseInt_p3 _).mono ?_)); rintro e w1 ⟨rfl, hb1⟩)
  go_ret2; exact ⟨rfl, hb1⟩
set_option maxRecDepth 100000 in
set_option maxHeartbeats 2000000 in
theorem readPlace_p3 (w : World) (ht : Tab w) : Calls Tryz.prog 84 #[.string ⟨#[52,48,52,48,48,48,48,48]⟩] w fun e w' => e = .returned (.tuple #[fv 1077936128, .bool true]) ∧ Below w.heap.size w w' := by
  have k : neg32 1077936128 = 3225419776 := by decide
  have mx : max (1077936128 : Int) (-1077936128) = 1077936128 := by decide
  have HT := Lib.hid ht
  clear ht
  go_enter Tryz.func84, Tryz.ntmps84
  go_wp2_with (first
    | (go_at_call 115; ((with_reducible refine (parsePub_p3 _).mono ?_)); rintro e w1 ⟨rfl, hb1⟩; have HB1 := Lib.hid hb1; clear hb1)
    | (go_at_call 100; ((with_reducible refine (within_t _ _ _ _ (by omega)).mono ?_)); rintro e w2 ⟨rfl, rfl⟩)
    | (go_at_call 73; ((with_reducible refine (placeText_p3 _ (HT.out.below HB1.out)).mono ?_)); rintro e w2 ⟨rfl, hb2⟩))
  go_ret2; exact ⟨rfl, bnext HB1.out hb2⟩


set_option maxRecDepth 100000 in
set_option maxHeartbeats 2000000 in
theorem parseInt_p4 (w : World) : Calls Tryz.prog 140 #[.string ⟨#[52,48,56,48,48,48,48,48]⟩, .int .i64 16, .int .i64 64] w fun e w' => e = .returned (.tuple #[.int .i64 1082130432, .nilIface]) ∧ Below w.heap.size w w' := by
  have ex := True.intro
  go_enter Tryz.func140, Tryz.ntmps140
  go_wp2_with (go_at_call 161; ((with_reducible refine (parseUint_4 _).mono ?_)); rintro e w1 ⟨rfl, hb1⟩)
  go_ret2; exact ⟨rfl, hb1⟩
set_option maxRecDepth 100000 in
theorem parsePub_p4 (w : World) : Calls Tryz.prog 115 #[.string ⟨#[52,48,56,48,48,48,48,48]⟩, .int .i64 16, .int .i64 64] w fun e w' => e = .returned (.tuple #[.int .i64 1082130432, .nilIface]) ∧ Below w.heap.size w w' := by
  go_enter Tryz.func115, Tryz.ntmps115
  go_wp2_with (go_at_call 140; ((with_reducible refine (parseInt_p4 _).mono ?_)); rintro e w1 ⟨rfl, hb1⟩)
  go_ret2; exact ⟨rfl, hb1⟩
set_option maxRecDepth 100000 in
set_option maxHeartbeats 2000000 in
theorem readPlace_p4 (w : World) (ht : Tab w) : Calls Tryz.prog 84 #[.string ⟨#[52,48,56,48,48,48,48,48]⟩] w fun e w' => e = .returned (.tuple #[fv 1082130432, .bool true]) ∧ Below w.heap.size w w' := by
  have k : neg32 1082130432 = 3229614080 := by decide
  have mx : max (1082130432 : Int) (-1082130432) = 1082130432 := by decide
  have HT := Lib.hid ht
  clear ht
  go_enter Tryz.func84, Tryz.ntmps84
  go_wp2_with (first
    | (go_at_call 115; ((with_reducible refine (parsePub_p4 _).mono ?_)); rintro e w1 ⟨rfl, hb1⟩; have HB1 := Lib.hid hb1; clear hb1)
    | (go_at_call 100; ((with_reducible refine (within_t _ _ _ _ (by omega)).mono ?_)); rintro e w2 ⟨rfl, rfl⟩)
    | (go_at_call 73; ((with_reducible refine (placeText_p4 _ (HT.out.below HB1.out)).mono ?_)); rintro e w2 ⟨rfl, hb2⟩))
  go_ret2; exact ⟨rfl, bnext HB1.out hb2⟩


set_option maxRecDepth 100000 in
set_option maxHeartbeats 2000000 in
theorem parseInt_n1 (w : World) : Calls Tryz.prog 140 #[.string ⟨#[45,51,102,56,48,48,48,48,48]⟩, .int .i64 16, .int .i64 64] w fun e w' => e = .returned (.tuple #[.int .i64 (-1065353216), .nilIface]) ∧ Below w.heap.size w w' := by
  have ex : (⟨#[45,51,102,56,48,48,48,48,48]⟩ : ByteArray).extract 1 9 = ⟨#[51,102,56,48,48,48,48,48]⟩ := by rfl
  go_enter Tryz.func140, Tryz.ntmps140
  go_wp2_with (go_at_call 161; ((with_reducible refine (parseUint_1 _).mono ?_)); rintro e w1 ⟨rfl, hb1⟩)
  go_ret2; exact ⟨rfl, hb1⟩
set_option maxRecDepth 100000 in
theorem parsePub_n1 (w : World) : Calls Tryz.prog 115 #[.string ⟨#[45,51,102,56,48,48,48,48,48]⟩, .int .i64 16, .int .i64 64] w fun e w' => e = .returned (.tuple #[.int .i64 (-1065353216), .nilIface]) ∧ Below w.heap.size w w' := by
  go_enter Tryz.func115, Tryz.ntmps115
  go_wp2_with (go_at_call 140; ((with_reducible refine (parseInt_n1 _).mono ?_)); rintro e w1 ⟨rfl, hb1⟩)
  go_ret2; exact ⟨rfl, hb1⟩
set_option maxRecDepth 100000 in
set_option maxHeartbeats 2000000 in
theorem readPlace_n1 (w : World) (ht : Tab w) : Calls Tryz.prog 84 #[.string ⟨#[45,51,102,56,48,48,48,48,48]⟩] w fun e w' => e = .returned (.tuple #[fv 3212836864, .bool true]) ∧ Below w.heap.size w w' := by
  have k : neg32 1065353216 = 3212836864 := by decide
  have mx : max ((-1065353216) : Int) 1065353216 = 1065353216 := by decide
  have HT := Lib.hid ht
  clear ht
  go_enter Tryz.func84, Tryz.ntmps84
  go_wp2_with (first
    | (go_at_call 115; ((with_reducible refine (parsePub_n1 _).mono ?_)); rintro e w1 ⟨rfl, hb1⟩; have HB1 := Lib.hid hb1; clear hb1)
    | (go_at_call 100; ((with_reducible refine (within_t _ _ _ _ (by omega)).mono ?_)); rintro e w2 ⟨rfl, rfl⟩)
    | (go_at_call 73; ((with_reducible refine (placeText_n1 _ (HT.out.below HB1.out)).mono ?_)); rintro e w2 ⟨rfl, hb2⟩))
  go_ret2; exact ⟨rfl, bnext HB1.out hb2⟩


set_option maxRecDepth 100000 in
set_option maxHeartbeats 2000000 in
theorem parseInt_n2 (w : World) : Calls Tryz.prog 140 #[.string ⟨#[45,52,48,48,48,48,48,48,48]⟩, .int .i64 16, .int .i64 64] w fun e w' => e = .returned (.tuple #[.int .i64 (-1073741824), .nilIface]) ∧ Below w.heap.size w w' := by
  have ex : (⟨#[45,52,48,48,48,48,48,48,48]⟩ : ByteArray).extract 1 9 = ⟨#[52,48,48,48,48,48,48,48]⟩ := by rfl
  go_enter Tryz.func140, Tryz.ntmps140
  go_wp2_with (go_at_call 161; ((with_reducible refine (parseUint_2 _).mono ?_)); rintro e w1 ⟨rfl, hb1⟩)
  go_ret2; exact ⟨rfl, hb1⟩
set_option maxRecDepth 100000 in
theorem parsePub_n2 (w : World) : Calls Tryz.prog 115 #[.string ⟨#[45,52,48,48,48,48,48,48,48]⟩, .int .i64 16, .int .i64 64] w fun e w' => e = .returned (.tuple #[.int .i64 (-1073741824), .nilIface]) ∧ Below w.heap.size w w' := by
  go_enter Tryz.func115, Tryz.ntmps115
  go_wp2_with (go_at_call 140; ((with_reducible refine (parseInt_n2 _).mono ?_)); rintro e w1 ⟨rfl, hb1⟩)
  go_ret2; exact ⟨rfl, hb1⟩
set_option maxRecDepth 100000 in
set_option maxHeartbeats 2000000 in
theorem readPlace_n2 (w : World) (ht : Tab w) : Calls Tryz.prog 84 #[.string ⟨#[45,52,48,48,48,48,48,48,48]⟩] w fun e w' => e = .returned (.tuple #[fv 3221225472, .bool true]) ∧ Below w.heap.size w w' := by
  have k : neg32 1073741824 = 3221225472 := by decide
  have mx : max ((-1073741824) : Int) 1073741824 = 1073741824 := by decide
  have HT := Lib.hid ht
  clear ht
  go_enter Tryz.func84, Tryz.ntmps84
  go_wp2_with (first
    | (go_at_call 115; ((with_reducible refine (parsePub_n2 _).mono ?_)); rintro e w1 ⟨rfl, hb1⟩; have HB1 := Lib.hid hb1; clear hb1)
    | (go_at_call 100; ((with_reducible refine (within_t _ _ _ _ (by omega)).mono ?_)); rintro e w2 ⟨rfl, rfl⟩)
    | (go_at_call 73; ((with_reducible refine (placeText_n2 _ (HT.out.below HB1.out)).mono ?_)); rintro e w2 ⟨rfl, hb2⟩))
  go_ret2; exact ⟨rfl, bnext HB1.out hb2⟩


set_option maxRecDepth 100000 in
set_option maxHeartbeats 2000000 in
theorem parseInt_n3 (w : World) : Calls Tryz.prog 140 #[.string ⟨#[45,52,48,52,48,48,48,48,48]⟩, .int .i64 16, .int .i64 64] w fun e w' => e = .returned (.tuple #[.int .i64 (-1077936128), .nilIface]) ∧ Below w.heap.size w w' := by
  have ex : (⟨#[45,52,48,52,48,48,48,48,48]⟩ : ByteArray).extract 1 9 = ⟨#[52,48,52,48,48,48,48,48]⟩ := by rfl
  go_enter Tryz.func140, Tryz.ntmps140
  go_wp2_with (go_at_call 161; ((with_reducible refine (parseUint_3 _).mono ?_)); rintro e w1 ⟨rfl, hb1⟩)
  go_ret2; exact ⟨rfl, hb1⟩
set_option maxRecDepth 100000 in
theorem parsePub_n3 (w : World) : Calls Tryz.prog 115 #[.string ⟨#[45,52,48,52,48,48,48,48,48]⟩, .int .i64 16, .int .i64 64] w fun e w' => e = .returned (.tuple #[.int .i64 (-1077936128), .nilIface]) ∧ Below w.heap.size w w' := by
  go_enter Tryz.func115, Tryz.ntmps115
  go_wp2_with (go_at_call 140; ((with_reducible refine (parseInt_n3 _).mono ?_)); rintro e w1 ⟨rfl, hb1⟩)
  go_ret2; exact ⟨rfl, hb1⟩
set_option maxRecDepth 100000 in
set_option maxHeartbeats 2000000 in
theorem readPlace_n3 (w : World) (ht : Tab w) : Calls Tryz.prog 84 #[.string ⟨#[45,52,48,52,48,48,48,48,48]⟩] w fun e w' => e = .returned (.tuple #[fv 3225419776, .bool true]) ∧ Below w.heap.size w w' := by
  have k : neg32 1077936128 = 3225419776 := by decide
  have mx : max ((-1077936128) : Int) 1077936128 = 1077936128 := by decide
  have HT := Lib.hid ht
  clear ht
  go_enter Tryz.func84, Tryz.ntmps84
  go_wp2_with (first
    | (go_at_call 115; ((with_reducible refine (parsePub_n3 _).mono ?_)); rintro e w1 ⟨rfl, hb1⟩; have HB1 := Lib.hid hb1; clear hb1)
    | (go_at_call 100; ((with_reducible refine (within_t _ _ _ _ (by omega)).mono ?_)); rintro e w2 ⟨rfl, rfl⟩)
    | (go_at_call 73; ((with_reducible refine (placeText_n3 _ (HT.out.below HB1.out)).mono ?_)); rintro e w2 ⟨rfl, hb2⟩))
  go_ret2; exact ⟨rfl, bnext HB1.out hb2⟩


set_option maxRecDepth 100000 in
set_option maxHeartbeats 2000000 in
theorem parseInt_n4 (w : World) : Calls Tryz.prog 140 #[.string ⟨#[45,52,48,56,48,48,48,48,48]⟩, .int .i64 16, .int .i64 64] w fun e w' => e = .returned (.tuple #[.int .i64 (-1082130432), .nilIface]) ∧ Below w.heap.size w w' := by
  have ex : (⟨#[45,52,48,56,48,48,48,48,48]⟩ : ByteArray).extract 1 9 = ⟨#[52,48,56,48,48,48,48,48]⟩ := by rfl
  go_enter Tryz.func140, Tryz.ntmps140
  go_wp2_with (go_at_call 161; ((with_reducible refine (parseUint_4 _).mono ?_)); rintro e w1 ⟨rfl, hb1⟩)
  go_ret2; exact ⟨rfl, hb1⟩
set_option maxRecDepth 100000 in
theorem parsePub_n4 (w : World) : Calls Tryz.prog 115 #[.string ⟨#[45,52,48,56,48,48,48,48,48]⟩, .int .i64 16, .int .i64 64] w fun e w' => e = .returned (.tuple #[.int .i64 (-1082130432), .nilIface]) ∧ Below w.heap.size w w' := by
  go_enter Tryz.func115, Tryz.ntmps115
  go_wp2_with (go_at_call 140; ((with_reducible refine (parseInt_n4 _).mono ?_)); rintro e w1 ⟨rfl, hb1⟩)
  go_ret2; exact ⟨rfl, hb1⟩
set_option maxRecDepth 100000 in
set_option maxHeartbeats 2000000 in
theorem readPlace_n4 (w : World) (ht : Tab w) : Calls Tryz.prog 84 #[.string ⟨#[45,52,48,56,48,48,48,48,48]⟩] w fun e w' => e = .returned (.tuple #[fv 3229614080, .bool true]) ∧ Below w.heap.size w w' := by
  have k : neg32 1082130432 = 3229614080 := by decide
  have mx : max ((-1082130432) : Int) 1082130432 = 1082130432 := by decide
  have HT := Lib.hid ht
  clear ht
  go_enter Tryz.func84, Tryz.ntmps84
  go_wp2_with (first
    | (go_at_call 115; ((with_reducible refine (parsePub_n4 _).mono ?_)); rintro e w1 ⟨rfl, hb1⟩; have HB1 := Lib.hid hb1; clear hb1)
    | (go_at_call 100; ((with_reducible refine (within_t _ _ _ _ (by omega)).mono ?_)); rintro e w2 ⟨rfl, rfl⟩)
    | (go_at_call 73; ((with_reducible refine (placeText_n4 _ (HT.out.below HB1.out)).mono ?_)); rintro e w2 ⟨rfl, hb2⟩))
  go_ret2; exact ⟨rfl, bnext HB1.out hb2⟩


theorem readPlace_c (m : Int) (hm : -4 ≤ m ∧ m ≤ 4) (w : World) (ht : Tab w) : Calls Tryz.prog 84 #[.string (hexT m)] w fun e w' => e = .returned (.tuple #[fv (fbB m), .bool true]) ∧ Below w.heap.size w w' := by
  obtain rfl | rfl | rfl | rfl | rfl | rfl | rfl | rfl | rfl : m = 0 ∨ m = 1 ∨ m = 2 ∨ m = 3 ∨ m = 4 ∨ m = -1 ∨ m = -2 ∨ m = -3 ∨ m = -4 := by omega
  · exact readPlace_p0 w ht
  · exact readPlace_p1 w ht
  · exact readPlace_p2 w ht
  · exact readPlace_p3 w ht
  · exact readPlace_p4 w ht
  · exact readPlace_n1 w ht
  · exact readPlace_n2 w ht
  · exact readPlace_n3 w ht
  · exact readPlace_n4 w ht
/-- What is asked of the library's variables. -/
def Env (w : World) : Prop := Tab w ∧ ∃ m : Int, w.cell? ⟨2, 0, none⟩ = some (.int .i64 m)
theorem Env.below {w w' : World} (h : Env w) (hb : Below w.heap.size w w') : Env w' := by
  obtain ⟨h1, m, h2⟩ := h
  exact ⟨h1.below hb, m, (hb.cell (p := ⟨2, 0, none⟩) (block_lt_of_cell h2)).trans h2⟩
theorem Env.tab {w : World} (h : Env w) : Tab w := h.1
theorem below_drewN (w : World) (n : Nat) : Below w.heap.size w (w.drewN n) := ⟨rfl, rfl, rfl, Nat.le_refl _, fun _ _ => rfl⟩

theorem cutWord_c (a b : Int) (w : World) (he : Env w) :
    Calls Tryz.prog 83 #[.string (wordT a b), .string ⟨#[44]⟩] w fun e w' => e = .returned (.tuple #[.string (hexT a), .string (hexT b), .bool true]) ∧ Below w.heap.size w w' := by
  obtain ⟨-, m, hm⟩ := he
  have hs := wordT_size a b
  refine (Tryz.strings_Cut (wordT a b) ⟨#[44]⟩ m w (by omega) hm).mono ?_
  rintro e w' ⟨rfl, n, rfl⟩
  refine ⟨?_, below_drewN w n⟩
  have e1 : Lib.cut (wordT a b).data.toList [44] = ((hexT a).data.toList, (hexT b).data.toList, true) := by
    rw [wordT_data]; exact cut_mid 44 _ _ (hexT_no a 44 (.inr rfl))
  show Ending.returned (.tuple #[.string ⟨(Lib.cut (wordT a b).data.toList [44]).1.toArray⟩, .string ⟨(Lib.cut (wordT a b).data.toList [44]).2.1.toArray⟩, .bool (Lib.cut (wordT a b).data.toList [44]).2.2]) = _
  rw [e1]

set_option maxRecDepth 100000 in
set_option maxHeartbeats 1000000 in
theorem readComplex_c (a b : Int) (ha : -4 ≤ a ∧ a ≤ 4) (hb : -4 ≤ b ∧ b ≤ 4) (w : World) (he : Env w) :
    Calls Tryz.prog 50 #[.string (wordT a b)] w fun e w' => e = .returned (.tuple #[cv (fbC a b), .bool true]) ∧ Below w.heap.size w w' := by
  have HE := Lib.hid he
  clear he
  go_enter Tryz.func50, Tryz.ntmps50
  go_wp2_with (first
    | (go_at_call 83; ((with_reducible refine (cutWord_c a b _ HE.out).mono ?_)); rintro e w1 ⟨rfl, hb1⟩; have HB1 := Lib.hid hb1; clear hb1)
    | (go_at_call 84; ((with_reducible refine (readPlace_c a ha _ (Env.tab (HE.out.below HB1.out))).mono ?_)); rintro e w2 ⟨rfl, hb2⟩; have HB2 := Lib.hid (bnext HB1.out hb2); clear hb2)
    | (go_at_call 84; ((with_reducible refine (readPlace_c b hb _ (Env.tab (HE.out.below HB2.out))).mono ?_)); rintro e w3 ⟨rfl, hb3⟩))
  go_ret2; exact ⟨rfl, bnext HB2.out hb3⟩
theorem isComplexText_c (a b : Int) (ha : -4 ≤ a ∧ a ≤ 4) (hb : -4 ≤ b ∧ b ≤ 4) (w : World) (he : Env w) :
    Calls Tryz.prog 49 #[.string (wordT a b)] w fun e w' => e = .returned (.bool true) ∧ Below w.heap.size w w' := by
  have HE := Lib.hid he
  clear he
  go_enter Tryz.func49, Tryz.ntmps49
  go_wp2_with (go_at_call 50; ((with_reducible refine (readComplex_c a b ha hb _ HE.out).mono ?_)); rintro e w1 ⟨rfl, hb1⟩)
  go_ret; exact ⟨rfl, hb1⟩
theorem parse1_c (a b : Int) (ha : -4 ≤ a ∧ a ≤ 4) (hb : -4 ≤ b ∧ b ≤ 4) (w : World) (he : Env w) :
    Calls Tryz.prog 48 #[.string (wordT a b)] w fun e w' => e = .returned (.bool false) ∧ Below w.heap.size w w' := by
  have HE := Lib.hid he
  clear he
  go_enter Tryz.func48, Tryz.ntmps48
  go_wp2_with (go_at_call 49; ((with_reducible refine (isComplexText_c a b ha hb _ HE.out).mono ?_)); rintro e w1 ⟨rfl, hb1⟩)
  go_ret; exact ⟨rfl, hb1⟩
theorem isFn48 : IsFn 48 := fun _ _ => by kernel_rfl

set_option maxHeartbeats 1000000 in
theorem indexWords_c (S : Nat) (m : Nat) (hm : m ≤ 16) (A B : Nat → Int) (hs : Small m A B) (w : World) (he : Env w) (hS : ∀ i, i < m → w.cell? ⟨S, i, none⟩ = some (.string (wordT (A i) (B i)))) :
    Calls Tryz.prog 82 #[.slice (some ⟨S, 0, none⟩) m m, .func (.func 48) #[] #[]] w fun e w' => e = .returned (.int .i64 (-1)) ∧ Below w.heap.size w w' := by
  have K := isFn48
  have HE := Lib.hid he
  have HC := Lib.hid hS
  have HS : Hid (∀ i, i < m → (-4 ≤ A i ∧ A i ≤ 4) ∧ (-4 ≤ B i ∧ B i ≤ 4)) := Lib.hid hs
  clear he hS hs
  go_enter Tryz.func82, Tryz.ntmps82
  go_wp2_with fail
  go_loopw [8] (fun c wr => ∃ j : Nat, j ≤ m ∧ c = .int .i64 j ∧ Below w.heap.size w wr) (fun c _ => (m - intOf c).toNat)
  case atStart => exact ⟨0, by omega, rfl, Below.refl _ _⟩
  case round =>
    obtain ⟨j, hj, rfl, hb⟩ := hrel
    by_cases hlt : j < m
    · have hc0 : wr.cell? ⟨S, j, none⟩ = some (.string (wordT (A j) (B j))) := (hb.cell (p := ⟨S, j, none⟩) (block_lt_of_cell (HC.out j hlt))).trans (HC.out j hlt)
      have HB := Lib.hid hb
      clear hb
      go_wp2_with (first | ((with_reducible refine (parse1_c _ _ (HS.out j hlt).1 (HS.out j hlt).2 _ (HE.out.below HB.out)).mono ?_); rintro e w1 ⟨rfl, hb1⟩))
      exact ⟨⟨j + 1, by omega, by go_num, bnext HB.out hb1⟩, by simp [intOf]; omega⟩
    · go_wp2_with fail
      go_ret; exact ⟨rfl, hb⟩
theorem containsWords_c (S : Nat) (m : Nat) (hm : m ≤ 16) (A B : Nat → Int) (hs : Small m A B) (w : World) (he : Env w) (hS : ∀ i, i < m → w.cell? ⟨S, i, none⟩ = some (.string (wordT (A i) (B i)))) :
    Calls Tryz.prog 47 #[.slice (some ⟨S, 0, none⟩) m m, .func (.func 48) #[] #[]] w fun e w' => e = .returned (.bool false) ∧ Below w.heap.size w w' := by
  go_enter Tryz.func47, Tryz.ntmps47
  go_wp2_with (go_at_call 82; ((with_reducible refine (indexWords_c S m hm A B hs _ he hS).mono ?_)); rintro e w1 ⟨rfl, hb1⟩)
  go_ret; exact ⟨rfl, hb1⟩
end Go.Proofs.YtdpdjcehobjohaaGreatDoor
