/- The texts of the places of whole numbers from -4 to 4; decimal texts of sides. -/
import Derived.Test.YtdpdjcehobjohaaGreatDoorFi
namespace Go.Proofs.YtdpdjcehobjohaaGreatDoor
open Go Go.RowKit Go.BigFrame Fl

@[go_sem] theorem run_bits32 (x : Nat) (w : World) : (callFunc 133 #[.float .f32 x]).run Tryz.prog w = .ok (.value (.int .u32 x)) w := by
  rw [run_callFunc_extern (e := Extern.MathFloatBits.float32bits) Tryz.func133 (by kernel_rfl) (by kernel_rfl) (by kernel_rfl) (by kernel_rfl)]
  rfl
/-- The bits of a whole number from -4 to 4. -/
def fbB (m : Int) : Nat :=
  if m = 0 then 0 else if m = 1 then 1065353216 else if m = 2 then 1073741824 else if m = 3 then 1077936128 else if m = 4 then 1082130432
  else if m = -1 then 3212836864 else if m = -2 then 3221225472 else if m = -3 then 3225419776 else 3229614080
/-- The text of its place. -/
def hexT (m : Int) : ByteArray :=
  if m = 0 then ⟨#[48]⟩ else if m = 1 then ⟨#[51,102,56,48,48,48,48,48]⟩ else if m = 2 then ⟨#[52,48,48,48,48,48,48,48]⟩ else if m = 3 then ⟨#[52,48,52,48,48,48,48,48]⟩ else if m = 4 then ⟨#[52,48,56,48,48,48,48,48]⟩ else if m = -1 then ⟨#[45,51,102,56,48,48,48,48,48]⟩ else if m = -2 then ⟨#[45,52,48,48,48,48,48,48,48]⟩ else if m = -3 then ⟨#[45,52,48,52,48,48,48,48,48]⟩ else ⟨#[45,52,48,56,48,48,48,48,48]⟩

set_option maxHeartbeats 1000000 in
theorem fmt_p0 (w : World) (ht : Tab w) : Calls Tryz.prog 72 #[.int .i64 0, .int .i64 16] w fun e w' => e = .returned (.string ⟨#[48]⟩) ∧ Below w.heap.size w w' := by
  have ng := True.intro
  go_enter Tryz.func72, Tryz.ntmps72
  go_wp2_with (go_at_call 105; ((with_reducible refine (fbits_p0 _ ht).mono ?_)); rintro e w1 ⟨rfl, hb1⟩)
  go_ret; exact ⟨rfl, hb1⟩
theorem fmtInt_p0 (w : World) (ht : Tab w) : Calls Tryz.prog 38 #[.int .i64 0, .int .i64 16] w fun e w' => e = .returned (.string ⟨#[48]⟩) ∧ Below w.heap.size w w' := by
  go_enter Tryz.func38, Tryz.ntmps38
  go_wp2_with (go_at_call 72; ((with_reducible refine (fmt_p0 _ ht).mono ?_)); rintro e w1 ⟨rfl, hb1⟩)
  go_ret; exact ⟨rfl, hb1⟩
set_option maxHeartbeats 1000000 in
theorem placeOf_p0 (w : World) : Calls Tryz.prog 106 #[fv 0] w fun e w' => e = .returned (.int .i64 0) ∧ w = w' := by
  have o : (FloatKind.f32.format.order 0 0 == some .lt) = false := by kernel_rfl
  have k : neg32 0 = 2147483648 := by decide
  have b : bits .andNot .u32 0 2147483648 = 0 := by decide
  go_enter Tryz.func106, Tryz.ntmps106
  go_wp2_with fail
  go_ret; exact ⟨rfl, rfl⟩
theorem placeText_p0 (w : World) (ht : Tab w) : Calls Tryz.prog 73 #[fv 0] w fun e w' => e = .returned (.string ⟨#[48]⟩) ∧ Below w.heap.size w w' := by
  go_enter Tryz.func73, Tryz.ntmps73
  go_wp2_with (first
    | (go_at_call 106; ((with_reducible refine (placeOf_p0 _).mono ?_)); rintro e w1 ⟨rfl, rfl⟩)
    | (go_at_call 38; ((with_reducible refine (fmtInt_p0 _ ht).mono ?_)); rintro e w1 ⟨rfl, hb1⟩))
  go_ret; exact ⟨rfl, hb1⟩


set_option maxHeartbeats 1000000 in
theorem fmt_p1 (w : World) (ht : Tab w) : Calls Tryz.prog 72 #[.int .i64 1065353216, .int .i64 16] w fun e w' => e = .returned (.string ⟨#[51,102,56,48,48,48,48,48]⟩) ∧ Below w.heap.size w w' := by
  have ng := True.intro
  go_enter Tryz.func72, Tryz.ntmps72
  go_wp2_with (go_at_call 105; ((with_reducible refine (fbits_p1 _ ht).mono ?_)); rintro e w1 ⟨rfl, hb1⟩)
  go_ret; exact ⟨rfl, hb1⟩
theorem fmtInt_p1 (w : World) (ht : Tab w) : Calls Tryz.prog 38 #[.int .i64 1065353216, .int .i64 16] w fun e w' => e = .returned (.string ⟨#[51,102,56,48,48,48,48,48]⟩) ∧ Below w.heap.size w w' := by
  go_enter Tryz.func38, Tryz.ntmps38
  go_wp2_with (go_at_call 72; ((with_reducible refine (fmt_p1 _ ht).mono ?_)); rintro e w1 ⟨rfl, hb1⟩)
  go_ret; exact ⟨rfl, hb1⟩
set_option maxHeartbeats 1000000 in
theorem placeOf_p1 (w : World) : Calls Tryz.prog 106 #[fv 1065353216] w fun e w' => e = .returned (.int .i64 1065353216) ∧ w = w' := by
  have o : (FloatKind.f32.format.order 1065353216 0 == some .lt) = false := by kernel_rfl
  have k : neg32 1065353216 = 3212836864 := by decide
  have b : bits .andNot .u32 1065353216 2147483648 = 1065353216 := by decide
  go_enter Tryz.func106, Tryz.ntmps106
  go_wp2_with fail
  go_ret; exact ⟨rfl, rfl⟩
theorem placeText_p1 (w : World) (ht : Tab w) : Calls Tryz.prog 73 #[fv 1065353216] w fun e w' => e = .returned (.string ⟨#[51,102,56,48,48,48,48,48]⟩) ∧ Below w.heap.size w w' := by
  go_enter Tryz.func73, Tryz.ntmps73
  go_wp2_with (first
    | (go_at_call 106; ((with_reducible refine (placeOf_p1 _).mono ?_)); rintro e w1 ⟨rfl, rfl⟩)
    | (go_at_call 38; ((with_reducible refine (fmtInt_p1 _ ht).mono ?_)); rintro e w1 ⟨rfl, hb1⟩))
  go_ret; exact ⟨rfl, hb1⟩


set_option maxHeartbeats 1000000 in
theorem fmt_p2 (w : World) (ht : Tab w) : Calls Tryz.prog 72 #[.int .i64 1073741824, .int .i64 16] w fun e w' => e = .returned (.string ⟨#[52,48,48,48,48,48,48,48]⟩) ∧ Below w.heap.size w w' := by
  have ng := True.intro
  go_enter Tryz.func72, Tryz.ntmps72
  go_wp2_with (go_at_call 105; ((with_reducible refine (fbits_p2 _ ht).mono ?_)); rintro e w1 ⟨rfl, hb1⟩)
  go_ret; exact ⟨rfl, hb1⟩
theorem fmtInt_p2 (w : World) (ht : Tab w) : Calls Tryz.prog 38 #[.int .i64 1073741824, .int .i64 16] w fun e w' => e = .returned (.string ⟨#[52,48,48,48,48,48,48,48]⟩) ∧ Below w.heap.size w w' := by
  go_enter Tryz.func38, Tryz.ntmps38
  go_wp2_with (go_at_call 72; ((with_reducible refine (fmt_p2 _ ht).mono ?_)); rintro e w1 ⟨rfl, hb1⟩)
  go_ret; exact ⟨rfl, hb1⟩
set_option maxHeartbeats 1000000 in
theorem placeOf_p2 (w : World) : Calls Tryz.prog 106 #[fv 1073741824] w fun e w' => e = .returned (.int .i64 1073741824) ∧ w = w' := by
  have o : (FloatKind.f32.format.order 1073741824 0 == some .lt) = false := by kernel_rfl
  have k : neg32 1073741824 = 3221225472 := by decide
  have b : bits .andNot .u32 1073741824 2147483648 = 1073741824 := by decide
  go_enter Tryz.func106, Tryz.ntmps106
  go_wp2_with fail
  go_ret; exact ⟨rfl, rfl⟩
theorem placeText_p2 (w : World) (ht : Tab w) : Calls Tryz.prog 73 #[fv 1073741824] w fun e w' => e = .returned (.string ⟨#[52,48,48,48,48,48,48,48]⟩) ∧ Below w.heap.size w w' := by
  go_enter Tryz.func73, Tryz.ntmps73
  go_wp2_with (first
    | (go_at_call 106; ((with_reducible refine (placeOf_p2 _).mono ?_)); rintro e w1 ⟨rfl, rfl⟩)
    | (go_at_call 38; ((with_reducible refine (fmtInt_p2 _ ht).mono ?_)); rintro e w1 ⟨rfl, hb1⟩))
  go_ret; exact ⟨rfl, hb1⟩


set_option maxHeartbeats 1000000 in
theorem fmt_p3 (w : World) (ht : Tab w) : Calls Tryz.prog 72 #[.int .i64 1077936128, .int .i64 16] w fun e w' => e = .returned (.string ⟨#[52,48,52,48,48,48,48,48]⟩) ∧ Below w.heap.size w w' := by
  have ng := True.intro
  go_enter Tryz.func72, Tryz.ntmps72
  go_wp2_with (go_at_call 105; ((with_reducible refine (fbits_p3 _ ht).mono ?_)); rintro e w1 ⟨rfl, hb1⟩)
  go_ret; exact ⟨rfl, hb1⟩
theorem fmtInt_p3 (w : World) (ht : Tab w) : Calls Tryz.prog 38 #[.int .i64 1077936128, .int .i64 16] w fun e w' => e = .returned (.string ⟨#[52,48,52,48,48,48,48,48]⟩) ∧ Below w.heap.size w w' := by
  go_enter Tryz.func38, Tryz.ntmps38
  go_wp2_with (go_at_call 72; ((with_reducible refine (fmt_p3 _ ht).mono ?_)); rintro e w1 ⟨rfl, hb1⟩)
  go_ret; exact ⟨rfl, hb1⟩
set_option maxHeartbeats 1000000 in
theorem placeOf_p3 (w : World) : Calls Tryz.prog 106 #[fv 1077936128] w fun e w' => e = .returned (.int .i64 1077936128) ∧ w = w' := by
  have o : (FloatKind.f32.format.order 1077936128 0 == some .lt) = false := by kernel_rfl
  have k : neg32 1077936128 = 3225419776 := by decide
  have b : bits .andNot .u32 1077936128 2147483648 = 1077936128 := by decide
  go_enter Tryz.func106, Tryz.ntmps106
  go_wp2_with fail
  go_ret; exact ⟨rfl, rfl⟩
theorem placeText_p3 (w : World) (ht : Tab w) : Calls Tryz.prog 73 #[fv 1077936128] w fun e w' => e = .returned (.string ⟨#[52,48,52,48,48,48,48,48]⟩) ∧ Below w.heap.size w w' := by
  go_enter Tryz.func73, Tryz.ntmps73
  go_wp2_with (first
    | (go_at_call 106; ((with_reducible refine (placeOf_p3 _).mono ?_)); rintro e w1 ⟨rfl, rfl⟩)
    | (go_at_call 38; ((with_reducible refine (fmtInt_p3 _ ht).mono ?_)); rintro e w1 ⟨rfl, hb1⟩))
  go_ret; exact ⟨rfl, hb1⟩


set_option maxHeartbeats 1000000 in
theorem fmt_p4 (w : World) (ht : Tab w) : Calls Tryz.prog 72 #[.int .i64 1082130432, .int .i64 16] w fun e w' => e = .returned (.string ⟨#[52,48,56,48,48,48,48,48]⟩) ∧ Below w.heap.size w w' := by
  have ng := True.intro
  go_enter Tryz.func72, Tryz.ntmps72
  go_wp2_with (go_at_call 105; ((with_reducible refine (fbits_p4 _ ht).mono ?_)); rintro e w1 ⟨rfl, hb1⟩)
  go_ret; exact ⟨rfl, hb1⟩
theorem fmtInt_p4 (w : World) (ht : Tab w) : Calls Tryz.prog 38 #[.int .i64 1082130432, .int .i64 16] w fun e w' => e = .returned (.string ⟨#[52,48,56,48,48,48,48,48]⟩) ∧ Below w.heap.size w w' := by
  go_enter Tryz.func38, Tryz.ntmps38
  go_wp2_with (go_at_call 72; ((with_reducible refine (fmt_p4 _ ht).mono ?_)); rintro e w1 ⟨rfl, hb1⟩)
  go_ret; exact ⟨rfl, hb1⟩
set_option maxHeartbeats 1000000 in
theorem placeOf_p4 (w : World) : Calls Tryz.prog 106 #[fv 1082130432] w fun e w' => e = .returned (.int .i64 1082130432) ∧ w = w' := by
  have o : (FloatKind.f32.format.order 1082130432 0 == some .lt) = false := by kernel_rfl
  have k : neg32 1082130432 = 3229614080 := by decide
  have b : bits .andNot .u32 1082130432 2147483648 = 1082130432 := by decide
  go_enter Tryz.func106, Tryz.ntmps106
  go_wp2_with fail
  go_ret; exact ⟨rfl, rfl⟩
theorem placeText_p4 (w : World) (ht : Tab w) : Calls Tryz.prog 73 #[fv 1082130432] w fun e w' => e = .returned (.string ⟨#[52,48,56,48,48,48,48,48]⟩) ∧ Below w.heap.size w w' := by
  go_enter Tryz.func73, Tryz.ntmps73
  go_wp2_with (first
    | (go_at_call 106; ((with_reducible refine (placeOf_p4 _).mono ?_)); rintro e w1 ⟨rfl, rfl⟩)
    | (go_at_call 38; ((with_reducible refine (fmtInt_p4 _ ht).mono ?_)); rintro e w1 ⟨rfl, hb1⟩))
  go_ret; exact ⟨rfl, hb1⟩


set_option maxHeartbeats 1000000 in
theorem fmt_n1 (w : World) (ht : Tab w) : Calls Tryz.prog 72 #[.int .i64 (-1065353216), .int .i64 16] w fun e w' => e = .returned (.string ⟨#[45,51,102,56,48,48,48,48,48]⟩) ∧ Below w.heap.size w w' := by
  have ng : IntKind.u64.wrap (-1065353216) = 18446744072644198400 := by decide
  go_enter Tryz.func72, Tryz.ntmps72
  go_wp2_with (go_at_call 105; ((with_reducible refine (fbits_n1 _ ht).mono ?_)); rintro e w1 ⟨rfl, hb1⟩)
  go_ret; exact ⟨rfl, hb1⟩
theorem fmtInt_n1 (w : World) (ht : Tab w) : Calls Tryz.prog 38 #[.int .i64 (-1065353216), .int .i64 16] w fun e w' => e = .returned (.string ⟨#[45,51,102,56,48,48,48,48,48]⟩) ∧ Below w.heap.size w w' := by
  go_enter Tryz.func38, Tryz.ntmps38
  go_wp2_with (go_at_call 72; ((with_reducible refine (fmt_n1 _ ht).mono ?_)); rintro e w1 ⟨rfl, hb1⟩)
  go_ret; exact ⟨rfl, hb1⟩
set_option maxHeartbeats 1000000 in
theorem placeOf_n1 (w : World) : Calls Tryz.prog 106 #[fv 3212836864] w fun e w' => e = .returned (.int .i64 (-1065353216)) ∧ w = w' := by
  have o : (FloatKind.f32.format.order 3212836864 0 == some .lt) = true := by kernel_rfl
  have k : neg32 3212836864 = 1065353216 := by decide
  have b : bits .andNot .u32 3212836864 2147483648 = 1065353216 := by decide
  go_enter Tryz.func106, Tryz.ntmps106
  go_wp2_with fail
  go_ret; exact ⟨rfl, rfl⟩
theorem placeText_n1 (w : World) (ht : Tab w) : Calls Tryz.prog 73 #[fv 3212836864] w fun e w' => e = .returned (.string ⟨#[45,51,102,56,48,48,48,48,48]⟩) ∧ Below w.heap.size w w' := by
  go_enter Tryz.func73, Tryz.ntmps73
  go_wp2_with (first
    | (go_at_call 106; ((with_reducible refine (placeOf_n1 _).mono ?_)); rintro e w1 ⟨rfl, rfl⟩)
    | (go_at_call 38; ((with_reducible refine (fmtInt_n1 _ ht).mono ?_)); rintro e w1 ⟨rfl, hb1⟩))
  go_ret; exact ⟨rfl, hb1⟩


set_option maxHeartbeats 1000000 in
theorem fmt_n2 (w : World) (ht : Tab w) : Calls Tryz.prog 72 #[.int .i64 (-1073741824), .int .i64 16] w fun e w' => e = .returned (.string ⟨#[45,52,48,48,48,48,48,48,48]⟩) ∧ Below w.heap.size w w' := by
  have ng : IntKind.u64.wrap (-1073741824) = 18446744072635809792 := by decide
  go_enter Tryz.func72, Tryz.ntmps72
  go_wp2_with (go_at_call 105; ((with_reducible refine (fbits_n2 _ ht).mono ?_)); rintro e w1 ⟨rfl, hb1⟩)
  go_ret; exact ⟨rfl, hb1⟩
theorem fmtInt_n2 (w : World) (ht : Tab w) : Calls Tryz.prog 38 #[.int .i64 (-1073741824), .int .i64 16] w fun e w' => e = .returned (.string ⟨#[45,52,48,48,48,48,48,48,48]⟩) ∧ Below w.heap.size w w' := by
  go_enter Tryz.func38, Tryz.ntmps38
  go_wp2_with (go_at_call 72; ((with_reducible refine (fmt_n2 _ ht).mono ?_)); rintro e w1 ⟨rfl, hb1⟩)
  go_ret; exact ⟨rfl, hb1⟩
set_option maxHeartbeats 1000000 in
theorem placeOf_n2 (w : World) : Calls Tryz.prog 106 #[fv 3221225472] w fun e w' => e = .returned (.int .i64 (-1073741824)) ∧ w = w' := by
  have o : (FloatKind.f32.format.order 3221225472 0 == some .lt) = true := by kernel_rfl
  have k : neg32 3221225472 = 1073741824 := by decide
  have b : bits .andNot .u32 3221225472 2147483648 = 1073741824 := by decide
  go_enter Tryz.func106, Tryz.ntmps106
  go_wp2_with fail
  go_ret; exact ⟨rfl, rfl⟩
theorem placeText_n2 (w : World) (ht : Tab w) : Calls Tryz.prog 73 #[fv 3221225472] w fun e w' => e = .returned (.string ⟨#[45,52,48,48,48,48,48,48,48]⟩) ∧ Below w.heap.size w w' := by
  go_enter Tryz.func73, Tryz.ntmps73
  go_wp2_with (first
    | (go_at_call 106; ((with_reducible refine (placeOf_n2 _).mono ?_)); rintro e w1 ⟨rfl, rfl⟩)
    | (go_at_call 38; ((with_reducible refine (fmtInt_n2 _ ht).mono ?_)); rintro e w1 ⟨rfl, hb1⟩))
  go_ret; exact ⟨rfl, hb1⟩


set_option maxHeartbeats 1000000 in
theorem fmt_n3 (w : World) (ht : Tab w) : Calls Tryz.prog 72 #[.int .i64 (-1077936128), .int .i64 16] w fun e w' => e = .returned (.string ⟨#[45,52,48,52,48,48,48,48,48]⟩) ∧ Below w.heap.size w w' := by
  have ng : IntKind.u64.wrap (-1077936128) = 18446744072631615488 := by decide
  go_enter Tryz.func72, Tryz.ntmps72
  go_wp2_with (go_at_call 105; ((with_reducible refine (fbits_n3 _ ht).mono ?_)); rintro e w1 ⟨rfl, hb1⟩)
  go_ret; exact ⟨rfl, hb1⟩
theorem fmtInt_n3 (w : World) (ht : Tab w) : Calls Tryz.prog 38 #[.int .i64 (-1077936128), .int .i64 16] w fun e w' => e = .returned (.string ⟨#[45,52,48,52,48,48,48,48,48]⟩) ∧ Below w.heap.size w w' := by
  go_enter Tryz.func38, Tryz.ntmps38
  go_wp2_with (go_at_call 72; ((with_reducible refine (fmt_n3 _ ht).mono ?_)); rintro e w1 ⟨rfl, hb1⟩)
  go_ret; exact ⟨rfl, hb1⟩
set_option maxHeartbeats 1000000 in
theorem placeOf_n3 (w : World) : Calls Tryz.prog 106 #[fv 3225419776] w fun e w' => e = .returned (.int .i64 (-1077936128)) ∧ w = w' := by
  have o : (FloatKind.f32.format.order 3225419776 0 == some .lt) = true := by kernel_rfl
  have k : neg32 3225419776 = 1077936128 := by decide
  have b : bits .andNot .u32 3225419776 2147483648 = 1077936128 := by decide
  go_enter Tryz.func106, Tryz.ntmps106
  go_wp2_with fail
  go_ret; exact ⟨rfl, rfl⟩
theorem placeText_n3 (w : World) (ht : Tab w) : Calls Tryz.prog 73 #[fv 3225419776] w fun e w' => e = .returned (.string ⟨#[45,52,48,52,48,48,48,48,48]⟩) ∧ Below w.heap.size w w' := by
  go_enter Tryz.func73, Tryz.ntmps73
  go_wp2_with (first
    | (go_at_call 106; ((with_reducible refine (placeOf_n3 _).mono ?_)); rintro e w1 ⟨rfl, rfl⟩)
    | (go_at_call 38; ((with_reducible refine (fmtInt_n3 _ ht).mono ?_)); rintro e w1 ⟨rfl, hb1⟩))
  go_ret; exact ⟨rfl, hb1⟩


set_option maxHeartbeats 1000000 in
theorem fmt_n4 (w : World) (ht : Tab w) : Calls Tryz.prog 72 #[.int .i64 (-1082130432), .int .i64 16] w fun e w' => e = .returned (.string ⟨#[45,52,48,56,48,48,48,48,48]⟩) ∧ Below w.heap.size w w' := by
  have ng : IntKind.u64.wrap (-1082130432) = 18446744072627421184 := by decide
  go_enter Tryz.func72, Tryz.ntmps72
  go_wp2_with (go_at_call 105; ((with_reducible refine (fbits_n4 _ ht).mono ?_)); rintro e w1 ⟨rfl, hb1⟩)
  go_ret; exact ⟨rfl, hb1⟩
theorem fmtInt_n4 (w : World) (ht : Tab w) : Calls Tryz.prog 38 #[.int .i64 (-1082130432), .int .i64 16] w fun e w' => e = .returned (.string ⟨#[45,52,48,56,48,48,48,48,48]⟩) ∧ Below w.heap.size w w' := by
  go_enter Tryz.func38, Tryz.ntmps38
  go_wp2_with (go_at_call 72; ((with_reducible refine (fmt_n4 _ ht).mono ?_)); rintro e w1 ⟨rfl, hb1⟩)
  go_ret; exact ⟨rfl, hb1⟩
set_option maxHeartbeats 1000000 in
theorem placeOf_n4 (w : World) : Calls Tryz.prog 106 #[fv 3229614080] w fun e w' => e = .returned (.int .i64 (-1082130432)) ∧ w = w' := by
  have o : (FloatKind.f32.format.order 3229614080 0 == some .lt) = true := by kernel_rfl
  have k : neg32 3229614080 = 1082130432 := by decide
  have b : bits .andNot .u32 3229614080 2147483648 = 1082130432 := by decide
  go_enter Tryz.func106, Tryz.ntmps106
  go_wp2_with fail
  go_ret; exact ⟨rfl, rfl⟩
theorem placeText_n4 (w : World) (ht : Tab w) : Calls Tryz.prog 73 #[fv 3229614080] w fun e w' => e = .returned (.string ⟨#[45,52,48,56,48,48,48,48,48]⟩) ∧ Below w.heap.size w w' := by
  go_enter Tryz.func73, Tryz.ntmps73
  go_wp2_with (first
    | (go_at_call 106; ((with_reducible refine (placeOf_n4 _).mono ?_)); rintro e w1 ⟨rfl, rfl⟩)
    | (go_at_call 38; ((with_reducible refine (fmtInt_n4 _ ht).mono ?_)); rintro e w1 ⟨rfl, hb1⟩))
  go_ret; exact ⟨rfl, hb1⟩


theorem placeText_c (m : Int) (hm : -4 ≤ m ∧ m ≤ 4) (w : World) (ht : Tab w) : Calls Tryz.prog 73 #[fv (fbB m)] w fun e w' => e = .returned (.string (hexT m)) ∧ Below w.heap.size w w' := by
  obtain rfl | rfl | rfl | rfl | rfl | rfl | rfl | rfl | rfl : m = 0 ∨ m = 1 ∨ m = 2 ∨ m = 3 ∨ m = 4 ∨ m = -1 ∨ m = -2 ∨ m = -3 ∨ m = -4 := by omega
  · exact placeText_p0 w ht
  · exact placeText_p1 w ht
  · exact placeText_p2 w ht
  · exact placeText_p3 w ht
  · exact placeText_p4 w ht
  · exact placeText_n1 w ht
  · exact placeText_n2 w ht
  · exact placeText_n3 w ht
  · exact placeText_n4 w ht

theorem small_c (n : Int) (hn : n = 1 ∨ n = 2 ∨ n = 4) (w : World) : Calls Tryz.prog 102 #[.int .i64 n] w fun e w' => e = .returned (.string ⟨#[48 + UInt8.ofNat n.toNat]⟩) ∧ w = w' := by
  rcases hn with rfl | rfl | rfl
  all_goals
    go_enter Tryz.func102, Tryz.ntmps102
    go_wp2_with fail
    go_ret; exact ⟨rfl, rfl⟩
end Go.Proofs.YtdpdjcehobjohaaGreatDoor
