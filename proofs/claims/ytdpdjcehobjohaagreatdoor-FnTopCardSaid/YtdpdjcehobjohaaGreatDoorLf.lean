/- The small functions of the program and the reference on numbers and complex numbers: what each returns, leaving the world alone, where the floats are finite and the operations exact. -/
import Derived.Test.YtdpdjcehobjohaaGreatDoorBase
namespace Go.Proofs.YtdpdjcehobjohaaGreatDoor
open Go Go.RowKit Go.BigFrame Fl

theorem fb {op : BinOp} {k : FloatKind} {x y r : Nat} (h : floatBits op k x y = some r) : ∀ t w, (binOp op t (.float k x) (.float k y)).run Tryz.prog w = .ok (.float k r) w :=
  fun t w => run_float_arith w op t k x y r h
theorem fcU {x r : Nat} (h : floatToFloatBits .f32 x .f64 = some r) : ∀ w, (convert 40 127 (.float .f32 x)).run Tryz.prog w = .ok (.float .f64 r) w :=
  fun w => run_convert_float_float w 40 127 .f32 .f64 x r (by rw [Tryz.underlying40]; rfl) Tryz.underlying127 h
theorem fcD {x r : Nat} (h : floatToFloatBits .f64 x .f32 = some r) : ∀ w, (convert 127 40 (.float .f64 x)).run Tryz.prog w = .ok (.float .f32 r) w :=
  fun w => run_convert_float_float w 127 40 .f64 .f32 x r (by rw [Tryz.underlying127]; rfl) Tryz.underlying40 h
theorem eq_beq {o : Option Ordering} (h : o = some .eq) : (o == some .eq) = true := by rw [h]; rfl

theorem within_t (n lo hi : Int) (w : World) (h : lo ≤ n ∧ n ≤ hi) :
    Calls Tryz.prog 100 #[.int .i64 n, .int .i64 lo, .int .i64 hi] w fun e w' => e = .returned (.bool true) ∧ w = w' := by
  obtain ⟨h1, h2⟩ := h
  go_enter Tryz.func100, Tryz.ntmps100
  go_wp2
  go_ret; exact ⟨rfl, rfl⟩

theorem isSide_t (n : Int) (w : World) (h : n = 1 ∨ n = 2 ∨ n = 4) :
    Calls Tryz.prog 36 #[.int .i64 n] w fun e w' => e = .returned (.bool true) ∧ w = w' := by
  rcases h with rfl | rfl | rfl
  all_goals
    go_enter Tryz.func36, Tryz.ntmps36
    go_wp2
    go_ret; exact ⟨rfl, rfl⟩
theorem l01Side_t (n : Int) (w : World) (h : n = 1 ∨ n = 2 ∨ n = 4) :
    Calls Tryz.prog 41 #[.int .i64 n] w fun e w' => e = .returned (.bool true) ∧ w = w' := by
  rcases h with rfl | rfl | rfl
  all_goals
    go_enter Tryz.func41, Tryz.ntmps41
    go_wp2
    go_ret; exact ⟨rfl, rfl⟩
theorem isLength_t (n : Int) (w : World) (h : n = 1 ∨ n = 4 ∨ n = 16) :
    Calls Tryz.prog 67 #[.int .i64 n] w fun e w' => e = .returned (.bool true) ∧ w = w' := by
  rcases h with rfl | rfl | rfl
  all_goals
    go_enter Tryz.func67, Tryz.ntmps67
    go_wp2_with (go_at_call 100; refine (within_t _ _ _ _ (by omega)).mono ?_; rintro e w' ⟨rfl, rfl⟩)
    go_ret; exact ⟨rfl, rfl⟩
theorem isDistance_t (n : Int) (w : World) (h : -64 ≤ n ∧ n ≤ 64) :
    Calls Tryz.prog 122 #[.int .i64 n] w fun e w' => e = .returned (.bool true) ∧ w = w' := by
  obtain ⟨h1, h2⟩ := h
  go_enter Tryz.func122, Tryz.ntmps122
  go_wp2_with (go_at_call 100; refine (within_t _ _ _ _ (by omega)).mono ?_; rintro e w' ⟨rfl, rfl⟩)
  go_ret; exact ⟨rfl, rfl⟩

theorem isNumber_t (x : Nat) (w : World) (h : FinOk x) :
    Calls Tryz.prog 71 #[.float .f32 x] w fun e w' => e = .returned (.bool true) ∧ w = w' := by
  have h1 := fb h.d
  have h2 := eq_beq (o := FloatKind.f32.format.order (s32 x x) 0) h.z
  go_enter Tryz.func71, Tryz.ntmps71
  go_wp2
  go_ret; exact ⟨rfl, rfl⟩
theorem l01Fine_t (x : Nat) (w : World) (h : FinOk x) :
    Calls Tryz.prog 77 #[.float .f32 x] w fun e w' => e = .returned (.bool true) ∧ w = w' := by
  have h1 := fb h.d
  have h2 := eq_beq (o := FloatKind.f32.format.order (s32 x x) 0) h.z
  go_enter Tryz.func77, Tryz.ntmps77
  go_wp2
  go_ret; exact ⟨rfl, rfl⟩
theorem isComplex_t (x y : Nat) (w : World) (h : FinOk x) (k : FinOk y) :
    Calls Tryz.prog 37 #[.complex .f32 x y] w fun e w' => e = .returned (.bool true) ∧ w = w' := by
  go_enter Tryz.func37, Tryz.ntmps37
  go_wp2_with (first | (go_at_call 71; ((with_reducible refine (isNumber_t _ _ h).mono ?_)); rintro e w' ⟨rfl, rfl⟩) | (go_at_call 71; ((with_reducible refine (isNumber_t _ _ k).mono ?_)); rintro e w' ⟨rfl, rfl⟩))
  go_ret; exact ⟨rfl, rfl⟩
theorem l01Whole_t (x y : Nat) (w : World) (h : FinOk x) (k : FinOk y) :
    Calls Tryz.prog 42 #[.complex .f32 x y] w fun e w' => e = .returned (.bool true) ∧ w = w' := by
  go_enter Tryz.func42, Tryz.ntmps42
  go_wp2_with (first | (go_at_call 77; ((with_reducible refine (l01Fine_t _ _ h).mono ?_)); rintro e w' ⟨rfl, rfl⟩) | (go_at_call 77; ((with_reducible refine (l01Fine_t _ _ k).mono ?_)); rintro e w' ⟨rfl, rfl⟩))
  go_ret; exact ⟨rfl, rfl⟩

theorem pz_of (x : Nat) (h : (FloatKind.f32.format.order x 0 == some .eq) = true) : pz x = 0 := by
  unfold pz; rw [if_pos (show Ieee.single.order x 0 = some .eq from eq_of_beq h)]
theorem pz_of' (x : Nat) (h : (FloatKind.f32.format.order x 0 == some .eq) = false) : pz x = x := by
  unfold pz; rw [if_neg (show ¬ Ieee.single.order x 0 = some .eq from ne_of_beq_false h)]
theorem plainNumber_c (x : Nat) (w : World) :
    Calls Tryz.prog 51 #[.float .f32 x] w fun e w' => e = .returned (.float .f32 (pz x)) ∧ w = w' := by
  cases h : (FloatKind.f32.format.order x 0 == some .eq)
  · go_enter Tryz.func51, Tryz.ntmps51
    go_wp2
    go_ret; exact ⟨by rw [pz_of' x h]; rfl, rfl⟩
  · go_enter Tryz.func51, Tryz.ntmps51
    go_wp2
    go_ret; exact ⟨by rw [pz_of x h]; rfl, rfl⟩
theorem l01PlusNumber_c (x : Nat) (w : World) :
    Calls Tryz.prog 93 #[.float .f32 x] w fun e w' => e = .returned (.float .f32 (pz x)) ∧ w = w' := by
  cases h : (FloatKind.f32.format.order x 0 == some .eq)
  · go_enter Tryz.func93, Tryz.ntmps93
    go_wp2
    go_ret; exact ⟨by rw [pz_of' x h]; rfl, rfl⟩
  · go_enter Tryz.func93, Tryz.ntmps93
    go_wp2
    go_ret; exact ⟨by rw [pz_of x h]; rfl, rfl⟩
theorem plainComplex_c (z : CB) (w : World) :
    Calls Tryz.prog 52 #[cv z] w fun e w' => e = .returned (cv (plC z)) ∧ w = w' := by
  go_enter Tryz.func52, Tryz.ntmps52
  go_wp2_with (go_at_call 51; refine (plainNumber_c _ _).mono ?_; rintro e w' ⟨rfl, rfl⟩)
  go_ret; exact ⟨rfl, rfl⟩
theorem l01PlusComplex_c (z : CB) (w : World) :
    Calls Tryz.prog 62 #[cv z] w fun e w' => e = .returned (cv (plC z)) ∧ w = w' := by
  go_enter Tryz.func62, Tryz.ntmps62
  go_wp2_with (go_at_call 93; refine (l01PlusNumber_c _ _).mono ?_; rintro e w' ⟨rfl, rfl⟩)
  go_ret; exact ⟨rfl, rfl⟩

theorem product_c (x y : CB) (w : World) (h : MulOk x y) :
    Calls Tryz.prog 143 #[cv x, cv y] w fun e w' => e = .returned (cv (mulC x y)) ∧ w = w' := by
  have c1 := fcU h.c1
  have c2 := fcU h.c2
  have c3 := fcU h.c3
  have c4 := fcU h.c4
  have m1 := fb h.m1
  have m2 := fb h.m2
  have m3 := fb h.m3
  have m4 := fb h.m4
  have ss := fb h.s
  have aa := fb h.a
  have n1 := fcD h.n1
  have n2 := fcD h.n2
  clear h
  go_enter Tryz.func143, Tryz.ntmps143
  go_wp2
  go_ret; exact ⟨rfl, rfl⟩
theorem l01Exact_c (a b c d : Nat) (w : World) (h : ExOk a b c d) :
    Calls Tryz.prog 167 #[.float .f32 a, .float .f32 b, .float .f32 c, .float .f32 d] w fun e w' => e = .returned (.float .f32 (exS a b c d)) ∧ w = w' := by
  have c1 := fcU h.c1
  have c2 := fcU h.c2
  have c3 := fcU h.c3
  have c4 := fcU h.c4
  have m1 := fb h.m1
  have m2 := fb h.m2
  have aa := fb h.s
  have n1 := fcD h.n
  clear h
  go_enter Tryz.func167, Tryz.ntmps167
  go_wp2
  go_ret; exact ⟨rfl, rfl⟩
@[go_sem] theorem unary_neg32 (b : Nat) : Op.unary .neg (.float .f32 b) = pure (.float .f32 (neg32 b)) := rfl
theorem l01Times_c (x y : CB) (w : World) (h : ExOk x.1 y.1 (neg32 x.2) y.2) (k : ExOk x.1 y.2 x.2 y.1) :
    Calls Tryz.prog 147 #[cv x, cv y] w fun e w' => e = .returned (cv (mulS x y)) ∧ w = w' := by
  go_enter Tryz.func147, Tryz.ntmps147
  go_wp2_with (first | (go_at_call 167; ((with_reducible refine (l01Exact_c _ _ _ _ _ h).mono ?_)); rintro e w' ⟨rfl, rfl⟩) | (go_at_call 167; ((with_reducible refine (l01Exact_c _ _ _ _ _ k).mono ?_)); rintro e w' ⟨rfl, rfl⟩))
  go_ret; exact ⟨rfl, rfl⟩
theorem plus_c (x y : CB) (w : World) (h : floatBits .add .f32 x.1 y.1 = some (addC x y).1 ∧ floatBits .add .f32 x.2 y.2 = some (addC x y).2) :
    Calls Tryz.prog 145 #[cv x, cv y] w fun e w' => e = .returned (cv (addC x y)) ∧ w = w' := by
  have h1 := fb h.1
  have h2 := fb h.2
  clear h
  go_enter Tryz.func145, Tryz.ntmps145
  go_wp2
  go_ret; exact ⟨rfl, rfl⟩
theorem minus_c (x y : CB) (w : World) (h : floatBits .sub .f32 x.1 y.1 = some (subC x y).1 ∧ floatBits .sub .f32 x.2 y.2 = some (subC x y).2) :
    Calls Tryz.prog 146 #[cv x, cv y] w fun e w' => e = .returned (cv (subC x y)) ∧ w = w' := by
  have h1 := fb h.1
  have h2 := fb h.2
  clear h
  go_enter Tryz.func146, Tryz.ntmps146
  go_wp2
  go_ret; exact ⟨rfl, rfl⟩
theorem l01Add_c (x y : CB) (w : World) (h : floatBits .add .f32 x.1 y.1 = some (addC x y).1 ∧ floatBits .add .f32 x.2 y.2 = some (addC x y).2) :
    Calls Tryz.prog 149 #[cv x, cv y] w fun e w' => e = .returned (cv (addC x y)) ∧ w = w' := by
  have h1 := fb h.1
  have h2 := fb h.2
  clear h
  go_enter Tryz.func149, Tryz.ntmps149
  go_wp2
  go_ret; exact ⟨rfl, rfl⟩
theorem l01Less_c (x y : CB) (w : World) (h : floatBits .sub .f32 x.1 y.1 = some (subC x y).1 ∧ floatBits .sub .f32 x.2 y.2 = some (subC x y).2) :
    Calls Tryz.prog 150 #[cv x, cv y] w fun e w' => e = .returned (cv (subC x y)) ∧ w = w' := by
  have h1 := fb h.1
  have h2 := fb h.2
  clear h
  go_enter Tryz.func150, Tryz.ntmps150
  go_wp2
  go_ret; exact ⟨rfl, rfl⟩

theorem modulo_c (k n : Int) (w : World) (hn : 1 ≤ n ∧ n ≤ 64) (hk : -1000000 ≤ k ∧ k ≤ 1000000) :
    Calls Tryz.prog 125 #[.int .i64 k, .int .i64 n] w fun e w' => e = .returned (.int .i64 (k % n)) ∧ w = w' := by
  obtain ⟨n1, n2⟩ := hn
  obtain ⟨k1, k2⟩ := hk
  have b1 := Int.lt_tmod_of_pos k (show 0 < n by omega)
  have b2 := Int.tmod_lt_of_pos k (show 0 < n by omega)
  have e : (k.tmod n + n) % n = k % n := by
    have h := Int.tmod_add_mul_tdiv k n
    rw [Int.add_emod_right]
    exact ((congrArg (· % n) h).symm.trans (Int.add_mul_emod_self_left _ _ _)).symm
  have b3 : 0 ≤ k.tmod n + n := by omega
  have E := Lib.hid e
  clear e
  go_enter Tryz.func125, Tryz.ntmps125
  go_wp2
  go_ret; exact ⟨by rw [← E.out]; rfl, rfl⟩
theorem folded_c (n k : Int) (w : World) (hn : n = 1 ∨ n = 2 ∨ n = 4) (hk : 0 ≤ k ∧ k < n) :
    Calls Tryz.prog 171 #[.int .i64 n, .int .i64 k] w fun e w' => e = .returned (.int .i64 (if n = 1 ∨ k < n / 2 then k else k - n)) ∧ w = w' := by
  have hkk : k = 0 ∨ k = 1 ∨ k = 2 ∨ k = 3 := by omega
  rcases hn with rfl | rfl | rfl <;> rcases hkk with rfl | rfl | rfl | rfl
  all_goals first | omega | (go_enter Tryz.func171, Tryz.ntmps171; go_wp2; go_ret; exact ⟨rfl, rfl⟩)
end Go.Proofs.YtdpdjcehobjohaaGreatDoor
