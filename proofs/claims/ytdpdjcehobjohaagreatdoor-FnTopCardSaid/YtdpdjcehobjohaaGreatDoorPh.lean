/- impl.PhaseOf and spec.l01Phase at multiples of a quarter of a turn (and impl.halved, whose numbers are constants). -/
import Derived.Test.YtdpdjcehobjohaaGreatDoorCl
namespace Go.Proofs.YtdpdjcehobjohaaGreatDoor
open Go Go.RowKit Go.BigFrame Fl

def hC : Nat → Nat
  | 0 => 0 | 1 => 1060439283 | 2 => 1064076127 | 3 => 1065030847 | _ => 1065272429
def hS : Nat → Nat
  | 0 => 1065353216 | 1 => 1060439283 | 2 => 1053028117 | 3 => 1044891073 | _ => 1036565813

theorem sqrt_ok (x r : Nat) (h : Ieee.double.sqrt x = some r) : ∀ w, (callFunc 184 #[.float .f64 x]).run Tryz.prog w = .ok (.value (.float .f64 r)) w := by
  intro w
  rw [run_callFunc_extern (e := Extern.MathSqrt.sqrt) Tryz.func184 (by kernel_rfl) (by kernel_rfl) (by kernel_rfl) (by kernel_rfl)]
  have : (Extern.MathSqrt.sqrt #[.float .f64 x]).run Tryz.prog w = .ok (.float .f64 r) w := by
    have h' : FloatKind.f64.format.sqrt x = some r := h
    show (match FloatKind.f64.format.sqrt x with | some r => (pure (.float .f64 r) : Sem Value) | none => do pure (.float .f64 (← choose (.nanBits .f64 x x)))).run Tryz.prog w = _
    rw [h']; rfl
  rw [this]; rfl
theorem root_c (x a b y : Nat) (w : World) (h1 : floatToFloatBits .f32 x .f64 = some a) (h2 : Ieee.double.sqrt a = some b) (h3 : floatToFloatBits .f64 b .f32 = some y) :
    Calls Tryz.prog 182 #[.float .f32 x] w fun e w' => e = .returned (.float .f32 y) ∧ w = w' := by
  have c1 := fcU h1
  have c2 := sqrt_ok a b h2
  have c3 := fcD h3
  clear h1 h2 h3
  go_enter Tryz.func182, Tryz.ntmps182
  go_wp2
  go_ret; exact ⟨rfl, rfl⟩

/-- One halving, with all the bits on its way. -/
structure HalfOk (c s u v d r c' t s' : Nat) : Prop where
  h1 : floatBits .add .f32 1065353216 c = some u
  h2 : floatBits .quo .f32 u 1073741824 = some v
  h3 : floatToFloatBits .f32 v .f64 = some d
  h4 : Ieee.double.sqrt d = some r
  h5 : floatToFloatBits .f64 r .f32 = some c'
  h6 : floatBits .mul .f32 1073741824 c' = some t
  h7 : floatBits .quo .f32 s t = some s'
theorem half0 : HalfOk 0 1065353216 1065353216 1056964608 4602678819172646912 4604544271217802189 1060439283 1068827891 1060439283 :=
  ⟨by kernel_rfl, by kernel_rfl, by kernel_rfl, by kernel_rfl, by kernel_rfl, by kernel_rfl, by kernel_rfl⟩
theorem half1 : HalfOk 1060439283 1060439283 1071284858 1062896250 4605863345222844416 4606496786697763114 1064076127 1072464735 1053028117 :=
  ⟨by kernel_rfl, by kernel_rfl, by kernel_rfl, by kernel_rfl, by kernel_rfl, by kernel_rfl, by kernel_rfl⟩
theorem half2 : HalfOk 1064076127 1053028117 1073103280 1064714672 4606839603100385280 4607009348200688146 1065030847 1073419455 1044891073 :=
  ⟨by kernel_rfl, by kernel_rfl, by kernel_rfl, by kernel_rfl, by kernel_rfl, by kernel_rfl, by kernel_rfl⟩
theorem half3 : HalfOk 1065030847 1044891073 1073580640 1065192032 4607095883798937600 4607139046876130777 1065272429 1073661037 1036565813 :=
  ⟨by kernel_rfl, by kernel_rfl, by kernel_rfl, by kernel_rfl, by kernel_rfl, by kernel_rfl, by kernel_rfl⟩

abbrev cz : Value := .complex .f32 0 0
abbrev c1V : Value := .complex .f32 1060439283 1060439283
abbrev c2V : Value := .complex .f32 1064076127 1053028117
abbrev c3V : Value := .complex .f32 1065030847 1044891073
abbrev c4V : Value := .complex .f32 1065272429 1036565813
abbrev h4V : Array Value := #[c1V, c2V, c3V, c4V]
def hA : Nat → Array Value
  | 0 => #[cz, cz, cz, cz] | 1 => #[c1V, cz, cz, cz] | 2 => #[c1V, c2V, cz, cz] | 3 => #[c1V, c2V, c3V, cz] | _ => h4V
set_option maxHeartbeats 1000000 in
theorem halved_c (w : World) : Calls Tryz.prog 179 #[] w fun e w' => e = .returned (.agg h4V) ∧ Below w.heap.size w w' := by
  go_enter Tryz.func179, Tryz.ntmps179
  go_wp2_with fail
  go_loopw [2, 3, 6] (fun c s i wr => ∃ j : Nat, j ≤ 4 ∧ i = .int .i64 j ∧ c = .float .f32 (hC j) ∧ s = .float .f32 (hS j) ∧ wr = (w.alloc (.cells #[cz, cz, cz, cz] 186)).alloc (.cells (hA j) 186)) (fun _ _ i _ => (4 - intOf i).toNat)
  case atStart => exact ⟨0, by omega, rfl, rfl, rfl, rfl⟩
  case round =>
    obtain ⟨j, hj, rfl, rfl, rfl, rfl⟩ := hrel
    obtain rfl | rfl | rfl | rfl | rfl : j = 0 ∨ j = 1 ∨ j = 2 ∨ j = 3 ∨ j = 4 := by omega
    · simp only [hC, hS, hA]
      have e1 := fb half0.h1
      have e2 := fb half0.h2
      have e6 := fb half0.h6
      have e7 := fb half0.h7
      go_wp2_with (go_at_call 182; ((with_reducible refine (root_c _ _ _ _ _ half0.h3 half0.h4 half0.h5).mono ?_)); rintro e w1 ⟨rfl, rfl⟩)
      exact ⟨⟨1, by omega, rfl, rfl, rfl, rfl⟩, by simp [intOf]⟩
    · simp only [hC, hS, hA]
      have e1 := fb half1.h1
      have e2 := fb half1.h2
      have e6 := fb half1.h6
      have e7 := fb half1.h7
      go_wp2_with (go_at_call 182; ((with_reducible refine (root_c _ _ _ _ _ half1.h3 half1.h4 half1.h5).mono ?_)); rintro e w1 ⟨rfl, rfl⟩)
      exact ⟨⟨2, by omega, rfl, rfl, rfl, rfl⟩, by simp [intOf]⟩
    · simp only [hC, hS, hA]
      have e1 := fb half2.h1
      have e2 := fb half2.h2
      have e6 := fb half2.h6
      have e7 := fb half2.h7
      go_wp2_with (go_at_call 182; ((with_reducible refine (root_c _ _ _ _ _ half2.h3 half2.h4 half2.h5).mono ?_)); rintro e w1 ⟨rfl, rfl⟩)
      exact ⟨⟨3, by omega, rfl, rfl, rfl, rfl⟩, by simp [intOf]⟩
    · simp only [hC, hS, hA]
      have e1 := fb half3.h1
      have e2 := fb half3.h2
      have e6 := fb half3.h6
      have e7 := fb half3.h7
      go_wp2_with (go_at_call 182; ((with_reducible refine (root_c _ _ _ _ _ half3.h3 half3.h4 half3.h5).mono ?_)); rintro e w1 ⟨rfl, rfl⟩)
      exact ⟨⟨4, by omega, rfl, rfl, rfl, rfl⟩, by simp [intOf]⟩
    · simp only [hC, hS, hA]
      go_wp2_with fail
      refine bodyPost_ret (v := .agg h4V) (results_cell_row rfl _ _ w.heap.size 186 h4V (0, 0) _ rfl (heap_alloc2_old w _ _) Tryz.underlying186 rfl (by kernel_rfl)) rfl ⟨rfl, bal2 _ _ _⟩

@[go_sem] theorem ta73_71 (a : Addr) (w : World) : (Instr.typeAssert (.iface 73 (.pointer (some a))) 20 71 true).run Tryz.prog w = .ok (.tuple #[.pointer none, .bool false]) w := by kernel_rfl
@[go_sem] theorem ta73_73 (a : Addr) (w : World) : (Instr.typeAssert (.iface 73 (.pointer (some a))) 20 73 true).run Tryz.prog w = .ok (.tuple #[.pointer (some a), .bool true]) w := by kernel_rfl
@[go_sem] theorem ta70_71 (a : Addr) (w : World) : (Instr.typeAssert (.iface 70 (.pointer (some a))) 20 71 true).run Tryz.prog w = .ok (.tuple #[.pointer none, .bool false]) w := by kernel_rfl
@[go_sem] theorem ta70_73 (a : Addr) (w : World) : (Instr.typeAssert (.iface 70 (.pointer (some a))) 20 73 true).run Tryz.prog w = .ok (.tuple #[.pointer none, .bool false]) w := by kernel_rfl
@[go_sem] theorem ta70_70 (a : Addr) (w : World) : (Instr.typeAssert (.iface 70 (.pointer (some a))) 20 70 true).run Tryz.prog w = .ok (.tuple #[.pointer (some a), .bool true]) w := by kernel_rfl
@[go_sem] theorem ta79_71 (a : Addr) (w : World) : (Instr.typeAssert (.iface 79 (.pointer (some a))) 20 71 true).run Tryz.prog w = .ok (.tuple #[.pointer none, .bool false]) w := by kernel_rfl
@[go_sem] theorem ta79_73 (a : Addr) (w : World) : (Instr.typeAssert (.iface 79 (.pointer (some a))) 20 73 true).run Tryz.prog w = .ok (.tuple #[.pointer none, .bool false]) w := by kernel_rfl
@[go_sem] theorem ta79_70 (a : Addr) (w : World) : (Instr.typeAssert (.iface 79 (.pointer (some a))) 20 70 true).run Tryz.prog w = .ok (.tuple #[.pointer none, .bool false]) w := by kernel_rfl
@[go_sem] theorem ta79_75 (a : Addr) (w : World) : (Instr.typeAssert (.iface 79 (.pointer (some a))) 20 75 true).run Tryz.prog w = .ok (.tuple #[.pointer none, .bool false]) w := by kernel_rfl
@[go_sem] theorem ta79_79 (a : Addr) (w : World) : (Instr.typeAssert (.iface 79 (.pointer (some a))) 20 79 true).run Tryz.prog w = .ok (.tuple #[.pointer (some a), .bool true]) w := by kernel_rfl
@[go_sem] theorem ta71_71 (a : Addr) (w : World) : (Instr.typeAssert (.iface 71 (.pointer (some a))) 20 71 true).run Tryz.prog w = .ok (.tuple #[.pointer (some a), .bool true]) w := by kernel_rfl
set_option maxRecDepth 100000 in
set_option maxHeartbeats 1000000 in
theorem plainC_c (z : CB) (w : World) : Calls Tryz.prog 86 #[cv z] w fun e w' => e = .returned (cv (plC z)) ∧ Below w.heap.size w w' := by
  go_enter Tryz.func86, Tryz.ntmps86
  go_wp2_with (go_at_call 52; ((with_reducible refine (plainComplex_c _ _).mono ?_)); rintro e w1 ⟨rfl, rfl⟩)
  go_ret; exact ⟨rfl, bal1 _ _⟩

set_option maxRecDepth 100000 in
set_option maxHeartbeats 1000000 in
theorem plainN_c (x : Nat) (w : World) : Calls Tryz.prog 85 #[.float .f32 x] w fun e w' => e = .returned (.float .f32 (pz x)) ∧ Below w.heap.size w w' := by
  go_enter Tryz.func85, Tryz.ntmps85
  go_wp2_with (go_at_call 51; ((with_reducible refine (plainNumber_c _ _).mono ?_)); rintro e w1 ⟨rfl, rfl⟩)
  go_ret; exact ⟨rfl, bal1 _ _⟩

/-- a quarter's phase, zeros of either sign -/
def qz : Nat → CB
  | 0 => (1065353216, 0) | 1 => (2147483648, 1065353216) | 2 => (3212836864, 2147483648) | _ => (0, 3212836864)
/-- the same, zeros positive -/
def qp : Nat → CB
  | 0 => (1065353216, 0) | 1 => (0, 1065353216) | 2 => (3212836864, 0) | _ => (0, 3212836864)
theorem plC_qz (q : Nat) (h : q < 4) : plC (qz q) = qp q := by
  obtain rfl | rfl | rfl | rfl : q = 0 ∨ q = 1 ∨ q = 2 ∨ q = 3 := by omega
  all_goals kernel_rfl

@[go_sem] theorem ix0 (w : World) : (Instr.index 186 (.agg h4V) (.int .i64 0)).run Tryz.prog w = .ok c1V w := by kernel_rfl
@[go_sem] theorem ix1 (w : World) : (Instr.index 186 (.agg h4V) (.int .i64 1)).run Tryz.prog w = .ok c2V w := by kernel_rfl
@[go_sem] theorem ix2 (w : World) : (Instr.index 186 (.agg h4V) (.int .i64 2)).run Tryz.prog w = .ok c3V w := by kernel_rfl
@[go_sem] theorem ix3 (w : World) : (Instr.index 186 (.agg h4V) (.int .i64 3)).run Tryz.prog w = .ok c4V w := by kernel_rfl
@[go_sem] theorem neg32_0 : neg32 0 = 2147483648 := by decide
@[go_sem] theorem neg32_1 : neg32 1065353216 = 3212836864 := by decide
@[go_sem] theorem neg32_2 : neg32 2147483648 = 0 := by decide
@[go_sem] theorem neg32_3 : neg32 3212836864 = 1065353216 := by decide

set_option maxRecDepth 100000 in
set_option maxHeartbeats 1000000 in
theorem signedPhase_c (k : Int) (q : Nat) (w : World) (hk : -1000000 ≤ k ∧ k ≤ 1000000) (hq : q < 4) (h : k % 64 = 16 * q) :
    Calls Tryz.prog 166 #[.int .i64 k] w fun e w' => e = .returned (cv (qz q)) ∧ Below w.heap.size w w' := by
  have hm := modulo_c k 64 w (by omega) hk
  rw [h] at hm
  have HM := Lib.hid hm
  clear hm h
  obtain rfl | rfl | rfl | rfl : q = 0 ∨ q = 1 ∨ q = 2 ∨ q = 3 := by omega
  · go_enter Tryz.func166, Tryz.ntmps166
    go_wp2_with (first | (go_at_call 125; ((with_reducible refine (HM.out).mono ?_)); rintro e w1 ⟨rfl, rfl⟩) | (go_at_call 179; ((with_reducible refine (halved_c _).mono ?_)); rintro e w1 ⟨rfl, hb1⟩))
    go_loop [3, 9] (fun z c => ∃ j : Nat, j ≤ 4 ∧ c = .int .i64 j ∧ z = cv (1065353216, 0)) (fun _ c => (4 - intOf c).toNat)
    case atStart => exact ⟨0, by omega, rfl, rfl⟩
    case round =>
      obtain ⟨j, hj, rfl, rfl⟩ := hrel
      obtain rfl | rfl | rfl | rfl | rfl : j = 0 ∨ j = 1 ∨ j = 2 ∨ j = 3 ∨ j = 4 := by omega
      · go_wp2_with fail
        exact ⟨⟨1, by omega, rfl, rfl⟩, by simp [intOf]⟩
      · go_wp2_with fail
        exact ⟨⟨2, by omega, rfl, rfl⟩, by simp [intOf]⟩
      · go_wp2_with fail
        exact ⟨⟨3, by omega, rfl, rfl⟩, by simp [intOf]⟩
      · go_wp2_with fail
        exact ⟨⟨4, by omega, rfl, rfl⟩, by simp [intOf]⟩
      · go_wp2_with fail
        clear hj
        go_loop [3, 25] (fun z c => ∃ j : Nat, j ≤ 0 ∧ c = .int .i64 j ∧ z = cv (qz j)) (fun _ c => (4 - intOf c).toNat)
        case atStart => exact ⟨0, by omega, rfl, rfl⟩
        case round =>
          obtain ⟨j, hj, rfl, rfl⟩ := hrel
          obtain rfl | rfl | rfl | rfl : j = 0 ∨ j = 1 ∨ j = 2 ∨ j = 3 := by omega
          all_goals first | omega | skip
          all_goals simp only [qz]
          all_goals go_wp2_with fail
          all_goals first
            | exact ⟨⟨1, by omega, rfl, rfl⟩, by simp [intOf]⟩
            | exact ⟨⟨2, by omega, rfl, rfl⟩, by simp [intOf]⟩
            | exact ⟨⟨3, by omega, rfl, rfl⟩, by simp [intOf]⟩
            | (go_ret; exact ⟨rfl, hb1⟩)
  · go_enter Tryz.func166, Tryz.ntmps166
    go_wp2_with (first | (go_at_call 125; ((with_reducible refine (HM.out).mono ?_)); rintro e w1 ⟨rfl, rfl⟩) | (go_at_call 179; ((with_reducible refine (halved_c _).mono ?_)); rintro e w1 ⟨rfl, hb1⟩))
    go_loop [3, 9] (fun z c => ∃ j : Nat, j ≤ 4 ∧ c = .int .i64 j ∧ z = cv (1065353216, 0)) (fun _ c => (4 - intOf c).toNat)
    case atStart => exact ⟨0, by omega, rfl, rfl⟩
    case round =>
      obtain ⟨j, hj, rfl, rfl⟩ := hrel
      obtain rfl | rfl | rfl | rfl | rfl : j = 0 ∨ j = 1 ∨ j = 2 ∨ j = 3 ∨ j = 4 := by omega
      · go_wp2_with fail
        exact ⟨⟨1, by omega, rfl, rfl⟩, by simp [intOf]⟩
      · go_wp2_with fail
        exact ⟨⟨2, by omega, rfl, rfl⟩, by simp [intOf]⟩
      · go_wp2_with fail
        exact ⟨⟨3, by omega, rfl, rfl⟩, by simp [intOf]⟩
      · go_wp2_with fail
        exact ⟨⟨4, by omega, rfl, rfl⟩, by simp [intOf]⟩
      · go_wp2_with fail
        clear hj
        go_loop [3, 25] (fun z c => ∃ j : Nat, j ≤ 1 ∧ c = .int .i64 j ∧ z = cv (qz j)) (fun _ c => (4 - intOf c).toNat)
        case atStart => exact ⟨0, by omega, rfl, rfl⟩
        case round =>
          obtain ⟨j, hj, rfl, rfl⟩ := hrel
          obtain rfl | rfl | rfl | rfl : j = 0 ∨ j = 1 ∨ j = 2 ∨ j = 3 := by omega
          all_goals first | omega | skip
          all_goals simp only [qz]
          all_goals go_wp2_with fail
          all_goals first
            | exact ⟨⟨1, by omega, rfl, rfl⟩, by simp [intOf]⟩
            | exact ⟨⟨2, by omega, rfl, rfl⟩, by simp [intOf]⟩
            | exact ⟨⟨3, by omega, rfl, rfl⟩, by simp [intOf]⟩
            | (go_ret; exact ⟨rfl, hb1⟩)
  · go_enter Tryz.func166, Tryz.ntmps166
    go_wp2_with (first | (go_at_call 125; ((with_reducible refine (HM.out).mono ?_)); rintro e w1 ⟨rfl, rfl⟩) | (go_at_call 179; ((with_reducible refine (halved_c _).mono ?_)); rintro e w1 ⟨rfl, hb1⟩))
    go_loop [3, 9] (fun z c => ∃ j : Nat, j ≤ 4 ∧ c = .int .i64 j ∧ z = cv (1065353216, 0)) (fun _ c => (4 - intOf c).toNat)
    case atStart => exact ⟨0, by omega, rfl, rfl⟩
    case round =>
      obtain ⟨j, hj, rfl, rfl⟩ := hrel
      obtain rfl | rfl | rfl | rfl | rfl : j = 0 ∨ j = 1 ∨ j = 2 ∨ j = 3 ∨ j = 4 := by omega
      · go_wp2_with fail
        exact ⟨⟨1, by omega, rfl, rfl⟩, by simp [intOf]⟩
      · go_wp2_with fail
        exact ⟨⟨2, by omega, rfl, rfl⟩, by simp [intOf]⟩
      · go_wp2_with fail
        exact ⟨⟨3, by omega, rfl, rfl⟩, by simp [intOf]⟩
      · go_wp2_with fail
        exact ⟨⟨4, by omega, rfl, rfl⟩, by simp [intOf]⟩
      · go_wp2_with fail
        clear hj
        go_loop [3, 25] (fun z c => ∃ j : Nat, j ≤ 2 ∧ c = .int .i64 j ∧ z = cv (qz j)) (fun _ c => (4 - intOf c).toNat)
        case atStart => exact ⟨0, by omega, rfl, rfl⟩
        case round =>
          obtain ⟨j, hj, rfl, rfl⟩ := hrel
          obtain rfl | rfl | rfl | rfl : j = 0 ∨ j = 1 ∨ j = 2 ∨ j = 3 := by omega
          all_goals first | omega | skip
          all_goals simp only [qz]
          all_goals go_wp2_with fail
          all_goals first
            | exact ⟨⟨1, by omega, rfl, rfl⟩, by simp [intOf]⟩
            | exact ⟨⟨2, by omega, rfl, rfl⟩, by simp [intOf]⟩
            | exact ⟨⟨3, by omega, rfl, rfl⟩, by simp [intOf]⟩
            | (go_ret; exact ⟨rfl, hb1⟩)
  · go_enter Tryz.func166, Tryz.ntmps166
    go_wp2_with (first | (go_at_call 125; ((with_reducible refine (HM.out).mono ?_)); rintro e w1 ⟨rfl, rfl⟩) | (go_at_call 179; ((with_reducible refine (halved_c _).mono ?_)); rintro e w1 ⟨rfl, hb1⟩))
    go_loop [3, 9] (fun z c => ∃ j : Nat, j ≤ 4 ∧ c = .int .i64 j ∧ z = cv (1065353216, 0)) (fun _ c => (4 - intOf c).toNat)
    case atStart => exact ⟨0, by omega, rfl, rfl⟩
    case round =>
      obtain ⟨j, hj, rfl, rfl⟩ := hrel
      obtain rfl | rfl | rfl | rfl | rfl : j = 0 ∨ j = 1 ∨ j = 2 ∨ j = 3 ∨ j = 4 := by omega
      · go_wp2_with fail
        exact ⟨⟨1, by omega, rfl, rfl⟩, by simp [intOf]⟩
      · go_wp2_with fail
        exact ⟨⟨2, by omega, rfl, rfl⟩, by simp [intOf]⟩
      · go_wp2_with fail
        exact ⟨⟨3, by omega, rfl, rfl⟩, by simp [intOf]⟩
      · go_wp2_with fail
        exact ⟨⟨4, by omega, rfl, rfl⟩, by simp [intOf]⟩
      · go_wp2_with fail
        clear hj
        go_loop [3, 25] (fun z c => ∃ j : Nat, j ≤ 3 ∧ c = .int .i64 j ∧ z = cv (qz j)) (fun _ c => (4 - intOf c).toNat)
        case atStart => exact ⟨0, by omega, rfl, rfl⟩
        case round =>
          obtain ⟨j, hj, rfl, rfl⟩ := hrel
          obtain rfl | rfl | rfl | rfl : j = 0 ∨ j = 1 ∨ j = 2 ∨ j = 3 := by omega
          all_goals first | omega | skip
          all_goals simp only [qz]
          all_goals go_wp2_with fail
          all_goals first
            | exact ⟨⟨1, by omega, rfl, rfl⟩, by simp [intOf]⟩
            | exact ⟨⟨2, by omega, rfl, rfl⟩, by simp [intOf]⟩
            | exact ⟨⟨3, by omega, rfl, rfl⟩, by simp [intOf]⟩
            | (go_ret; exact ⟨rfl, hb1⟩)

theorem phaseOf_c (k : Int) (q : Nat) (w : World) (hk : -1000000 ≤ k ∧ k ≤ 1000000) (hq : q < 4) (h : k % 64 = 16 * q) :
    Calls Tryz.prog 144 #[.int .i64 k] w fun e w' => e = .returned (cv (qp q)) ∧ Below w.heap.size w w' := by
  have E := Lib.hid (plC_qz q hq)
  have H := Lib.hid h
  clear h
  go_enter Tryz.func144, Tryz.ntmps144
  go_wp2_with (first | (go_at_call 166; ((with_reducible refine (signedPhase_c k q _ hk hq H.out).mono ?_)); rintro e w1 ⟨rfl, hb1⟩) | (go_at_call 86; ((with_reducible refine (plainC_c _ _).mono ?_)); rintro e w2 ⟨rfl, hb2⟩))
  go_ret; exact ⟨by rw [← E.out]; rfl, bnext hb1 hb2⟩
end Go.Proofs.YtdpdjcehobjohaaGreatDoor
