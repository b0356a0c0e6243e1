/- spec.l01Bits and the texts of numbers. -/
import Derived.Test.YtdpdjcehobjohaaGreatDoorSu
namespace Go.Proofs.YtdpdjcehobjohaaGreatDoor
open Go Go.RowKit Go.BigFrame Fl

def gtB (y n : Nat) : Bool := (List.range n).all fun j => FloatKind.f64.format.order y (p2 (-126 + (j : Int) + 1)) == some .gt
theorem gt_of {y n : Nat} (h : gtB y n = true) (j : Nat) (hj : j < n) : FloatKind.f64.format.order y (p2 (-126 + (j : Int) + 1)) = some .gt := by
  unfold gtB at h; rw [List.all_eq_true] at h
  simpa using h j (List.mem_range.2 hj)
theorem fiC {b : Nat} {n : Int} (h : floatToIntVal .f64 b .i64 = some n) : ∀ w, (convert 127 2 (.float .f64 b)).run Tryz.prog w = .ok (.int .i64 n) w :=
  fun w => run_convert_float_int w 127 2 .f64 .i64 b n (by rw [Tryz.underlying127]; rfl) Tryz.underlying2 h


set_option maxHeartbeats 1000000 in
theorem bits_p1 (w : World) : Calls Tryz.prog 78 #[fv 1065353216] w fun e w' => e = .returned (.int .i64 1065353216) ∧ w = w' := by
  have C := fcU (show floatToFloatBits .f32 1065353216 .f64 = some 4607182418800017408 by kernel_rfl)
  have o1 : (FloatKind.f64.format.order 4607182418800017408 0 == some .lt) = false := by kernel_rfl
  have o2 : (FloatKind.f64.format.order 4607182418800017408 (p2 (-126)) == some .lt) = false := by kernel_rfl
  have T : Hid (gtB 4607182418800017408 125 = true) := Lib.hid (by kernel_rfl)
  go_enter Tryz.func78, Tryz.ntmps78
  go_wp2_with (go_at_call 109; ((with_reducible refine (l01Two_c (-126) (by omega) _).mono ?_)); rintro e w1 ⟨rfl, rfl⟩)
  go_loop [4] (fun a => ∃ j : Nat, j ≤ 126 ∧ a = .int .i64 (-126 + (j : Int))) (fun a => (0 - intOf a).toNat)
  case atStart => exact ⟨0, by omega, by simp⟩
  case round =>
    obtain ⟨j, hj, ha⟩ := hrel
    by_cases hlt : j < 125
    · subst ha
      have g0 := gt_of T.out j hlt
      have g1 : (FloatKind.f64.format.order 4607182418800017408 (p2 (-126 + (j : Int) + 1)) == some .gt) = true := by rw [g0]; rfl
      have g2 : (FloatKind.f64.format.order 4607182418800017408 (p2 (-126 + (j : Int) + 1)) == some .eq) = false := by rw [g0]; rfl
      clear g0
      go_wp2_with (go_at_call 109; ((with_reducible refine (l01Two_c _ (by omega) _).mono ?_)); rintro e w1 ⟨rfl, rfl⟩)
      exact ⟨⟨j + 1, by omega, by go_num⟩, by simp [intOf]; omega⟩
    · by_cases heq : j = 125
      · subst heq
        replace ha : _ = Value.int .i64 (-1) := ha
        subst ha
        have g1 : (FloatKind.f64.format.order 4607182418800017408 (p2 0) == some .gt) = false := by kernel_rfl
        have g2 : (FloatKind.f64.format.order 4607182418800017408 (p2 0) == some .eq) = true := by kernel_rfl
        go_wp2_with (go_at_call 109; ((with_reducible refine (l01Two_c 0 (by omega) _).mono ?_)); rintro e w1 ⟨rfl, rfl⟩)
        exact ⟨⟨126, by omega, rfl⟩, by simp [intOf]⟩
      · obtain rfl : j = 126 := by omega
        replace ha : _ = Value.int .i64 0 := ha
        subst ha
        have g1 : (FloatKind.f64.format.order 4607182418800017408 (p2 1) == some .gt) = false := by kernel_rfl
        have g2 : (FloatKind.f64.format.order 4607182418800017408 (p2 1) == some .eq) = false := by kernel_rfl
        have k1 := fb (show floatBits .quo .f64 4607182418800017408 (p2 (-23)) = some 4710765210229538816 by kernel_rfl)
        have k2 := fiC (show floatToIntVal .f64 4710765210229538816 .i64 = some 8388608 by kernel_rfl)
        go_wp2_with (first
          | (go_at_call 109; ((with_reducible refine (l01Two_c 1 (by omega) _).mono ?_)); rintro e w1 ⟨rfl, rfl⟩)
          | (go_at_call 109; ((with_reducible refine (l01Two_c (-23) (by omega) _).mono ?_)); rintro e w2 ⟨rfl, rfl⟩))
        go_ret; exact ⟨rfl, rfl⟩


set_option maxHeartbeats 1000000 in
theorem bits_p2 (w : World) : Calls Tryz.prog 78 #[fv 1073741824] w fun e w' => e = .returned (.int .i64 1073741824) ∧ w = w' := by
  have C := fcU (show floatToFloatBits .f32 1073741824 .f64 = some 4611686018427387904 by kernel_rfl)
  have o1 : (FloatKind.f64.format.order 4611686018427387904 0 == some .lt) = false := by kernel_rfl
  have o2 : (FloatKind.f64.format.order 4611686018427387904 (p2 (-126)) == some .lt) = false := by kernel_rfl
  have T : Hid (gtB 4611686018427387904 126 = true) := Lib.hid (by kernel_rfl)
  go_enter Tryz.func78, Tryz.ntmps78
  go_wp2_with (go_at_call 109; ((with_reducible refine (l01Two_c (-126) (by omega) _).mono ?_)); rintro e w1 ⟨rfl, rfl⟩)
  go_loop [4] (fun a => ∃ j : Nat, j ≤ 127 ∧ a = .int .i64 (-126 + (j : Int))) (fun a => (1 - intOf a).toNat)
  case atStart => exact ⟨0, by omega, by simp⟩
  case round =>
    obtain ⟨j, hj, ha⟩ := hrel
    by_cases hlt : j < 126
    · subst ha
      have g0 := gt_of T.out j hlt
      have g1 : (FloatKind.f64.format.order 4611686018427387904 (p2 (-126 + (j : Int) + 1)) == some .gt) = true := by rw [g0]; rfl
      have g2 : (FloatKind.f64.format.order 4611686018427387904 (p2 (-126 + (j : Int) + 1)) == some .eq) = false := by rw [g0]; rfl
      clear g0
      go_wp2_with (go_at_call 109; ((with_reducible refine (l01Two_c _ (by omega) _).mono ?_)); rintro e w1 ⟨rfl, rfl⟩)
      exact ⟨⟨j + 1, by omega, by go_num⟩, by simp [intOf]; omega⟩
    · by_cases heq : j = 126
      · subst heq
        replace ha : _ = Value.int .i64 (0) := ha
        subst ha
        have g1 : (FloatKind.f64.format.order 4611686018427387904 (p2 1) == some .gt) = false := by kernel_rfl
        have g2 : (FloatKind.f64.format.order 4611686018427387904 (p2 1) == some .eq) = true := by kernel_rfl
        go_wp2_with (go_at_call 109; ((with_reducible refine (l01Two_c 1 (by omega) _).mono ?_)); rintro e w1 ⟨rfl, rfl⟩)
        exact ⟨⟨127, by omega, rfl⟩, by simp [intOf]⟩
      · obtain rfl : j = 127 := by omega
        replace ha : _ = Value.int .i64 1 := ha
        subst ha
        have g1 : (FloatKind.f64.format.order 4611686018427387904 (p2 2) == some .gt) = false := by kernel_rfl
        have g2 : (FloatKind.f64.format.order 4611686018427387904 (p2 2) == some .eq) = false := by kernel_rfl
        have k1 := fb (show floatBits .quo .f64 4611686018427387904 (p2 (-22)) = some 4710765210229538816 by kernel_rfl)
        have k2 := fiC (show floatToIntVal .f64 4710765210229538816 .i64 = some 8388608 by kernel_rfl)
        go_wp2_with (first
          | (go_at_call 109; ((with_reducible refine (l01Two_c 2 (by omega) _).mono ?_)); rintro e w1 ⟨rfl, rfl⟩)
          | (go_at_call 109; ((with_reducible refine (l01Two_c (-22) (by omega) _).mono ?_)); rintro e w2 ⟨rfl, rfl⟩))
        go_ret; exact ⟨rfl, rfl⟩


set_option maxHeartbeats 1000000 in
theorem bits_p3 (w : World) : Calls Tryz.prog 78 #[fv 1077936128] w fun e w' => e = .returned (.int .i64 1077936128) ∧ w = w' := by
  have C := fcU (show floatToFloatBits .f32 1077936128 .f64 = some 4613937818241073152 by kernel_rfl)
  have o1 : (FloatKind.f64.format.order 4613937818241073152 0 == some .lt) = false := by kernel_rfl
  have o2 : (FloatKind.f64.format.order 4613937818241073152 (p2 (-126)) == some .lt) = false := by kernel_rfl
  have T : Hid (gtB 4613937818241073152 127 = true) := Lib.hid (by kernel_rfl)
  go_enter Tryz.func78, Tryz.ntmps78
  go_wp2_with (go_at_call 109; ((with_reducible refine (l01Two_c (-126) (by omega) _).mono ?_)); rintro e w1 ⟨rfl, rfl⟩)
  go_loop [4] (fun a => ∃ j : Nat, j ≤ 127 ∧ a = .int .i64 (-126 + (j : Int))) (fun a => (1 - intOf a).toNat)
  case atStart => exact ⟨0, by omega, by simp⟩
  case round =>
    obtain ⟨j, hj, ha⟩ := hrel
    by_cases hlt : j < 127
    · subst ha
      have g0 := gt_of T.out j hlt
      have g1 : (FloatKind.f64.format.order 4613937818241073152 (p2 (-126 + (j : Int) + 1)) == some .gt) = true := by rw [g0]; rfl
      have g2 : (FloatKind.f64.format.order 4613937818241073152 (p2 (-126 + (j : Int) + 1)) == some .eq) = false := by rw [g0]; rfl
      clear g0
      go_wp2_with (go_at_call 109; ((with_reducible refine (l01Two_c _ (by omega) _).mono ?_)); rintro e w1 ⟨rfl, rfl⟩)
      exact ⟨⟨j + 1, by omega, by go_num⟩, by simp [intOf]; omega⟩
    · obtain rfl : j = 127 := by omega
      replace ha : _ = Value.int .i64 1 := ha
      subst ha
      have g1 : (FloatKind.f64.format.order 4613937818241073152 (p2 2) == some .gt) = false := by kernel_rfl
      have g2 : (FloatKind.f64.format.order 4613937818241073152 (p2 2) == some .eq) = false := by kernel_rfl
      have k1 := fb (show floatBits .quo .f64 4613937818241073152 (p2 (-22)) = some 4713017010043224064 by kernel_rfl)
      have k2 := fiC (show floatToIntVal .f64 4713017010043224064 .i64 = some 12582912 by kernel_rfl)
      go_wp2_with (first
        | (go_at_call 109; ((with_reducible refine (l01Two_c 2 (by omega) _).mono ?_)); rintro e w1 ⟨rfl, rfl⟩)
        | (go_at_call 109; ((with_reducible refine (l01Two_c (-22) (by omega) _).mono ?_)); rintro e w2 ⟨rfl, rfl⟩))
      go_ret; exact ⟨rfl, rfl⟩


set_option maxHeartbeats 1000000 in
theorem bits_p4 (w : World) : Calls Tryz.prog 78 #[fv 1082130432] w fun e w' => e = .returned (.int .i64 1082130432) ∧ w = w' := by
  have C := fcU (show floatToFloatBits .f32 1082130432 .f64 = some 4616189618054758400 by kernel_rfl)
  have o1 : (FloatKind.f64.format.order 4616189618054758400 0 == some .lt) = false := by kernel_rfl
  have o2 : (FloatKind.f64.format.order 4616189618054758400 (p2 (-126)) == some .lt) = false := by kernel_rfl
  have T : Hid (gtB 4616189618054758400 127 = true) := Lib.hid (by kernel_rfl)
  go_enter Tryz.func78, Tryz.ntmps78
  go_wp2_with (go_at_call 109; ((with_reducible refine (l01Two_c (-126) (by omega) _).mono ?_)); rintro e w1 ⟨rfl, rfl⟩)
  go_loop [4] (fun a => ∃ j : Nat, j ≤ 128 ∧ a = .int .i64 (-126 + (j : Int))) (fun a => (2 - intOf a).toNat)
  case atStart => exact ⟨0, by omega, by simp⟩
  case round =>
    obtain ⟨j, hj, ha⟩ := hrel
    by_cases hlt : j < 127
    · subst ha
      have g0 := gt_of T.out j hlt
      have g1 : (FloatKind.f64.format.order 4616189618054758400 (p2 (-126 + (j : Int) + 1)) == some .gt) = true := by rw [g0]; rfl
      have g2 : (FloatKind.f64.format.order 4616189618054758400 (p2 (-126 + (j : Int) + 1)) == some .eq) = false := by rw [g0]; rfl
      clear g0
      go_wp2_with (go_at_call 109; ((with_reducible refine (l01Two_c _ (by omega) _).mono ?_)); rintro e w1 ⟨rfl, rfl⟩)
      exact ⟨⟨j + 1, by omega, by go_num⟩, by simp [intOf]; omega⟩
    · by_cases heq : j = 127
      · subst heq
        replace ha : _ = Value.int .i64 (1) := ha
        subst ha
        have g1 : (FloatKind.f64.format.order 4616189618054758400 (p2 2) == some .gt) = false := by kernel_rfl
        have g2 : (FloatKind.f64.format.order 4616189618054758400 (p2 2) == some .eq) = true := by kernel_rfl
        go_wp2_with (go_at_call 109; ((with_reducible refine (l01Two_c 2 (by omega) _).mono ?_)); rintro e w1 ⟨rfl, rfl⟩)
        exact ⟨⟨128, by omega, rfl⟩, by simp [intOf]⟩
      · obtain rfl : j = 128 := by omega
        replace ha : _ = Value.int .i64 2 := ha
        subst ha
        have g1 : (FloatKind.f64.format.order 4616189618054758400 (p2 3) == some .gt) = false := by kernel_rfl
        have g2 : (FloatKind.f64.format.order 4616189618054758400 (p2 3) == some .eq) = false := by kernel_rfl
        have k1 := fb (show floatBits .quo .f64 4616189618054758400 (p2 (-21)) = some 4710765210229538816 by kernel_rfl)
        have k2 := fiC (show floatToIntVal .f64 4710765210229538816 .i64 = some 8388608 by kernel_rfl)
        go_wp2_with (first
          | (go_at_call 109; ((with_reducible refine (l01Two_c 3 (by omega) _).mono ?_)); rintro e w1 ⟨rfl, rfl⟩)
          | (go_at_call 109; ((with_reducible refine (l01Two_c (-21) (by omega) _).mono ?_)); rintro e w2 ⟨rfl, rfl⟩))
        go_ret; exact ⟨rfl, rfl⟩


theorem bits_n1 (w : World) : Calls Tryz.prog 78 #[fv 3212836864] w fun e w' => e = .returned (.int .i64 (-1065353216)) ∧ w = w' := by
  have C := fcU (show floatToFloatBits .f32 3212836864 .f64 = some 13830554455654793216 by kernel_rfl)
  have o1 : (FloatKind.f64.format.order 13830554455654793216 0 == some .lt) = true := by kernel_rfl
  have k : neg32 3212836864 = 1065353216 := by decide
  go_enter Tryz.func78, Tryz.ntmps78
  go_wp2_with (go_at_call 78; ((with_reducible refine (bits_p1 _).mono ?_)); rintro e w1 ⟨rfl, rfl⟩)
  go_ret; exact ⟨rfl, rfl⟩


theorem bits_n2 (w : World) : Calls Tryz.prog 78 #[fv 3221225472] w fun e w' => e = .returned (.int .i64 (-1073741824)) ∧ w = w' := by
  have C := fcU (show floatToFloatBits .f32 3221225472 .f64 = some 13835058055282163712 by kernel_rfl)
  have o1 : (FloatKind.f64.format.order 13835058055282163712 0 == some .lt) = true := by kernel_rfl
  have k : neg32 3221225472 = 1073741824 := by decide
  go_enter Tryz.func78, Tryz.ntmps78
  go_wp2_with (go_at_call 78; ((with_reducible refine (bits_p2 _).mono ?_)); rintro e w1 ⟨rfl, rfl⟩)
  go_ret; exact ⟨rfl, rfl⟩


theorem bits_n3 (w : World) : Calls Tryz.prog 78 #[fv 3225419776] w fun e w' => e = .returned (.int .i64 (-1077936128)) ∧ w = w' := by
  have C := fcU (show floatToFloatBits .f32 3225419776 .f64 = some 13837309855095848960 by kernel_rfl)
  have o1 : (FloatKind.f64.format.order 13837309855095848960 0 == some .lt) = true := by kernel_rfl
  have k : neg32 3225419776 = 1077936128 := by decide
  go_enter Tryz.func78, Tryz.ntmps78
  go_wp2_with (go_at_call 78; ((with_reducible refine (bits_p3 _).mono ?_)); rintro e w1 ⟨rfl, rfl⟩)
  go_ret; exact ⟨rfl, rfl⟩


theorem bits_n4 (w : World) : Calls Tryz.prog 78 #[fv 3229614080] w fun e w' => e = .returned (.int .i64 (-1082130432)) ∧ w = w' := by
  have C := fcU (show floatToFloatBits .f32 3229614080 .f64 = some 13839561654909534208 by kernel_rfl)
  have o1 : (FloatKind.f64.format.order 13839561654909534208 0 == some .lt) = true := by kernel_rfl
  have k : neg32 3229614080 = 1082130432 := by decide
  go_enter Tryz.func78, Tryz.ntmps78
  go_wp2_with (go_at_call 78; ((with_reducible refine (bits_p4 _).mono ?_)); rintro e w1 ⟨rfl, rfl⟩)
  go_ret; exact ⟨rfl, rfl⟩


theorem bits_p0 (w : World) : Calls Tryz.prog 78 #[fv 0] w fun e w' => e = .returned (.int .i64 0) ∧ w = w' := by
  have C := fcU (show floatToFloatBits .f32 0 .f64 = some 0 by kernel_rfl)
  have o1 : (FloatKind.f64.format.order 0 0 == some .lt) = false := by kernel_rfl
  have o2 : (FloatKind.f64.format.order 0 (p2 (-126)) == some .lt) = true := by kernel_rfl
  have k1 := fb (show floatBits .mul .f64 0 (p2 149) = some 0 by kernel_rfl)
  have k2 := fiC (show floatToIntVal .f64 0 .i64 = some 0 by kernel_rfl)
  go_enter Tryz.func78, Tryz.ntmps78
  go_wp2_with (first
    | (go_at_call 109; ((with_reducible refine (l01Two_c (-126) (by omega) _).mono ?_)); rintro e w1 ⟨rfl, rfl⟩)
    | (go_at_call 109; ((with_reducible refine (l01Two_c 149 (by omega) _).mono ?_)); rintro e w2 ⟨rfl, rfl⟩))
  go_ret; exact ⟨rfl, rfl⟩


theorem show_p0 (w : World) : Calls Tryz.prog 44 #[fv 0] w fun e w' => e = .returned (.string ⟨#[48]⟩) ∧ Below w.heap.size w w' := by
  have HX : Hid (∀ w, Calls Tryz.prog 79 #[.int .i64 0] w fun e w' => e = .returned (.string ⟨#[48]⟩) ∧ Below w.heap.size w w') := Lib.hid fun w => l01Hex_c 0 0 (by omega) (by decide) w
  go_enter Tryz.func44, Tryz.ntmps44
  go_wp2_with (first
    | (go_at_call 78; ((with_reducible refine (bits_p0 _).mono ?_)); rintro e w1 ⟨rfl, rfl⟩)
    | (go_at_call 79; ((with_reducible refine (HX.out _).mono ?_)); rintro e w1 ⟨rfl, hb1⟩))
  go_ret; exact ⟨rfl, hb1⟩


theorem show_p1 (w : World) : Calls Tryz.prog 44 #[fv 1065353216] w fun e w' => e = .returned (.string ⟨#[51,102,56,48,48,48,48,48]⟩) ∧ Below w.heap.size w w' := by
  have HX : Hid (∀ w, Calls Tryz.prog 79 #[.int .i64 1065353216] w fun e w' => e = .returned (.string ⟨#[51,102,56,48,48,48,48,48]⟩) ∧ Below w.heap.size w w') := Lib.hid fun w => l01Hex_c 7 1065353216 (by omega) (by decide) w
  go_enter Tryz.func44, Tryz.ntmps44
  go_wp2_with (first
    | (go_at_call 78; ((with_reducible refine (bits_p1 _).mono ?_)); rintro e w1 ⟨rfl, rfl⟩)
    | (go_at_call 79; ((with_reducible refine (HX.out _).mono ?_)); rintro e w1 ⟨rfl, hb1⟩))
  go_ret; exact ⟨rfl, hb1⟩


theorem show_p2 (w : World) : Calls Tryz.prog 44 #[fv 1073741824] w fun e w' => e = .returned (.string ⟨#[52,48,48,48,48,48,48,48]⟩) ∧ Below w.heap.size w w' := by
  have HX : Hid (∀ w, Calls Tryz.prog 79 #[.int .i64 1073741824] w fun e w' => e = .returned (.string ⟨#[52,48,48,48,48,48,48,48]⟩) ∧ Below w.heap.size w w') := Lib.hid fun w => l01Hex_c 7 1073741824 (by omega) (by decide) w
  go_enter Tryz.func44, Tryz.ntmps44
  go_wp2_with (first
    | (go_at_call 78; ((with_reducible refine (bits_p2 _).mono ?_)); rintro e w1 ⟨rfl, rfl⟩)
    | (go_at_call 79; ((with_reducible refine (HX.out _).mono ?_)); rintro e w1 ⟨rfl, hb1⟩))
  go_ret; exact ⟨rfl, hb1⟩


theorem show_p3 (w : World) : Calls Tryz.prog 44 #[fv 1077936128] w fun e w' => e = .returned (.string ⟨#[52,48,52,48,48,48,48,48]⟩) ∧ Below w.heap.size w w' := by
  have HX : Hid (∀ w, Calls Tryz.prog 79 #[.int .i64 1077936128] w fun e w' => e = .returned (.string ⟨#[52,48,52,48,48,48,48,48]⟩) ∧ Below w.heap.size w w') := Lib.hid fun w => l01Hex_c 7 1077936128 (by omega) (by decide) w
  go_enter Tryz.func44, Tryz.ntmps44
  go_wp2_with (first
    | (go_at_call 78; ((with_reducible refine (bits_p3 _).mono ?_)); rintro e w1 ⟨rfl, rfl⟩)
    | (go_at_call 79; ((with_reducible refine (HX.out _).mono ?_)); rintro e w1 ⟨rfl, hb1⟩))
  go_ret; exact ⟨rfl, hb1⟩


theorem show_p4 (w : World) : Calls Tryz.prog 44 #[fv 1082130432] w fun e w' => e = .returned (.string ⟨#[52,48,56,48,48,48,48,48]⟩) ∧ Below w.heap.size w w' := by
  have HX : Hid (∀ w, Calls Tryz.prog 79 #[.int .i64 1082130432] w fun e w' => e = .returned (.string ⟨#[52,48,56,48,48,48,48,48]⟩) ∧ Below w.heap.size w w') := Lib.hid fun w => l01Hex_c 7 1082130432 (by omega) (by decide) w
  go_enter Tryz.func44, Tryz.ntmps44
  go_wp2_with (first
    | (go_at_call 78; ((with_reducible refine (bits_p4 _).mono ?_)); rintro e w1 ⟨rfl, rfl⟩)
    | (go_at_call 79; ((with_reducible refine (HX.out _).mono ?_)); rintro e w1 ⟨rfl, hb1⟩))
  go_ret; exact ⟨rfl, hb1⟩


theorem show_n1 (w : World) : Calls Tryz.prog 44 #[fv 3212836864] w fun e w' => e = .returned (.string ⟨#[45,51,102,56,48,48,48,48,48]⟩) ∧ Below w.heap.size w w' := by
  have HX : Hid (∀ w, Calls Tryz.prog 79 #[.int .i64 1065353216] w fun e w' => e = .returned (.string ⟨#[51,102,56,48,48,48,48,48]⟩) ∧ Below w.heap.size w w') := Lib.hid fun w => l01Hex_c 7 1065353216 (by omega) (by decide) w
  go_enter Tryz.func44, Tryz.ntmps44
  go_wp2_with (first
    | (go_at_call 78; ((with_reducible refine (bits_n1 _).mono ?_)); rintro e w1 ⟨rfl, rfl⟩)
    | (go_at_call 79; ((with_reducible refine (HX.out _).mono ?_)); rintro e w1 ⟨rfl, hb1⟩))
  go_ret; exact ⟨rfl, hb1⟩


theorem show_n2 (w : World) : Calls Tryz.prog 44 #[fv 3221225472] w fun e w' => e = .returned (.string ⟨#[45,52,48,48,48,48,48,48,48]⟩) ∧ Below w.heap.size w w' := by
  have HX : Hid (∀ w, Calls Tryz.prog 79 #[.int .i64 1073741824] w fun e w' => e = .returned (.string ⟨#[52,48,48,48,48,48,48,48]⟩) ∧ Below w.heap.size w w') := Lib.hid fun w => l01Hex_c 7 1073741824 (by omega) (by decide) w
  go_enter Tryz.func44, Tryz.ntmps44
  go_wp2_with (first
    | (go_at_call 78; ((with_reducible refine (bits_n2 _).mono ?_)); rintro e w1 ⟨rfl, rfl⟩)
    | (go_at_call 79; ((with_reducible refine (HX.out _).mono ?_)); rintro e w1 ⟨rfl, hb1⟩))
  go_ret; exact ⟨rfl, hb1⟩


theorem show_n3 (w : World) : Calls Tryz.prog 44 #[fv 3225419776] w fun e w' => e = .returned (.string ⟨#[45,52,48,52,48,48,48,48,48]⟩) ∧ Below w.heap.size w w' := by
  have HX : Hid (∀ w, Calls Tryz.prog 79 #[.int .i64 1077936128] w fun e w' => e = .returned (.string ⟨#[52,48,52,48,48,48,48,48]⟩) ∧ Below w.heap.size w w') := Lib.hid fun w => l01Hex_c 7 1077936128 (by omega) (by decide) w
  go_enter Tryz.func44, Tryz.ntmps44
  go_wp2_with (first
    | (go_at_call 78; ((with_reducible refine (bits_n3 _).mono ?_)); rintro e w1 ⟨rfl, rfl⟩)
    | (go_at_call 79; ((with_reducible refine (HX.out _).mono ?_)); rintro e w1 ⟨rfl, hb1⟩))
  go_ret; exact ⟨rfl, hb1⟩


theorem show_n4 (w : World) : Calls Tryz.prog 44 #[fv 3229614080] w fun e w' => e = .returned (.string ⟨#[45,52,48,56,48,48,48,48,48]⟩) ∧ Below w.heap.size w w' := by
  have HX : Hid (∀ w, Calls Tryz.prog 79 #[.int .i64 1082130432] w fun e w' => e = .returned (.string ⟨#[52,48,56,48,48,48,48,48]⟩) ∧ Below w.heap.size w w') := Lib.hid fun w => l01Hex_c 7 1082130432 (by omega) (by decide) w
  go_enter Tryz.func44, Tryz.ntmps44
  go_wp2_with (first
    | (go_at_call 78; ((with_reducible refine (bits_n4 _).mono ?_)); rintro e w1 ⟨rfl, rfl⟩)
    | (go_at_call 79; ((with_reducible refine (HX.out _).mono ?_)); rintro e w1 ⟨rfl, hb1⟩))
  go_ret; exact ⟨rfl, hb1⟩


theorem l01Show_c (m : Int) (hm : -4 ≤ m ∧ m ≤ 4) (w : World) : Calls Tryz.prog 44 #[fv (fbB m)] w fun e w' => e = .returned (.string (hexT m)) ∧ Below w.heap.size w w' := by
  obtain rfl | rfl | rfl | rfl | rfl | rfl | rfl | rfl | rfl : m = 0 ∨ m = 1 ∨ m = 2 ∨ m = 3 ∨ m = 4 ∨ m = -1 ∨ m = -2 ∨ m = -3 ∨ m = -4 := by omega
  · exact show_p0 w
  · exact show_p1 w
  · exact show_p2 w
  · exact show_p3 w
  · exact show_p4 w
  · exact show_n1 w
  · exact show_n2 w
  · exact show_n3 w
  · exact show_n4 w
end Go.Proofs.YtdpdjcehobjohaaGreatDoor
