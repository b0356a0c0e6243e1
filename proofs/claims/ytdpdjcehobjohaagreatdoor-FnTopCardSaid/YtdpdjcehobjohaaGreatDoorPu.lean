/- internal/strconv.ParseUint on the hexadecimal texts of five numbers. -/
import Derived.Test.YtdpdjcehobjohaaGreatDoorSx
namespace Go.Proofs.YtdpdjcehobjohaaGreatDoor
open Go Go.RowKit Go.BigFrame Fl

set_option maxRecDepth 100000 in
set_option maxHeartbeats 4000000 in
theorem parseUint_0 (w : World) : Calls Tryz.prog 161 #[.string ⟨#[48]⟩, .int .i64 16, .int .i64 64] w fun e w' => e = .returned (.tuple #[.int .u64 0, .nilIface]) ∧ Below w.heap.size w w' := by
  have r1 : IntKind.u64.wrap (IntKind.u64.wrap 18446744073709551616 - 1) = 18446744073709551615 := by decide
  have bs := run_bytes_of_string (P := Tryz.prog) w 9 22 5 ⟨#[48]⟩ Tryz.underlying9 Tryz.underlying22 Tryz.underlying5
  rw [show (⟨#[48]⟩ : ByteArray).size = 1 from rfl] at bs
  have HB : Hid (Below w.heap.size w (w.drew.alloc (.cells (bytesRow ⟨#[48]⟩ (grownCap w 1 0 5)) 5 ((bytesRow ⟨#[48]⟩ (grownCap w 1 0 5)).size, (bytesRow ⟨#[48]⟩ (grownCap w 1 0 5)).size + 1)))) := Lib.hid (((Below.refl _ w).drew).alloc (Nat.le_refl _) _)
  have q0 : (w.drew.alloc (.cells (bytesRow ⟨#[48]⟩ (grownCap w 1 0 5)) 5 ((bytesRow ⟨#[48]⟩ (grownCap w 1 0 5)).size, (bytesRow ⟨#[48]⟩ (grownCap w 1 0 5)).size + 1))).cell? ⟨w.heap.size, 0, none⟩ = some (.int .u8 48) := cell_of_heap (heap_alloc_last w.drew _) (bytesRow_at ⟨#[48]⟩ _ 0 (by decide))
  generalize (w.drew.alloc (.cells (bytesRow ⟨#[48]⟩ (grownCap w 1 0 5)) 5 ((bytesRow ⟨#[48]⟩ (grownCap w 1 0 5)).size, (bytesRow ⟨#[48]⟩ (grownCap w 1 0 5)).size + 1))) = W0 at bs HB q0
  have Q0 := Lib.hid q0
  clear q0
  go_enter Tryz.func161, Tryz.ntmps161
  go_wp2_with fail
  clear bs r1
  go_loopw [101, 12, 13] (fun c un t wr => ∃ k : Nat, k ≤ 1 ∧ un = .bool false ∧ c = .int .i64 k ∧ t = .int .u64 (0 / 16 ^ (1 - k) : Nat) ∧ W0 = wr) (fun c _ _ _ => (1 - intOf c).toNat)
  case atStart => exact ⟨0, by omega, rfl, rfl, rfl, rfl⟩
  case round =>
    obtain ⟨k, hk, rfl, hc, hu, rfl⟩ := hrel
    obtain rfl | rfl : k = 0 ∨ k = 1 := by omega
    · replace hc : _ = Value.int .i64 0 := hc
      replace hu : _ = Value.int .u64 0 := hu
      subst hc; subst hu
      have c0 := Q0.out
      have lw := True.intro
      go_wp2_with go_in
      exact ⟨⟨1, by omega, rfl, rfl, rfl, trivial⟩, by simp [intOf]⟩
    · replace hc : _ = Value.int .i64 1 := hc
      replace hu : _ = Value.int .u64 0 := hu
      subst hc; subst hu
      go_wp2_with fail
      go_ret2; exact ⟨rfl, HB.out⟩


set_option maxRecDepth 100000 in
set_option maxHeartbeats 4000000 in
theorem parseUint_1 (w : World) : Calls Tryz.prog 161 #[.string ⟨#[51,102,56,48,48,48,48,48]⟩, .int .i64 16, .int .i64 64] w fun e w' => e = .returned (.tuple #[.int .u64 1065353216, .nilIface]) ∧ Below w.heap.size w w' := by
  have r1 : IntKind.u64.wrap (IntKind.u64.wrap 18446744073709551616 - 1) = 18446744073709551615 := by decide
  have bs := run_bytes_of_string (P := Tryz.prog) w 9 22 5 ⟨#[51,102,56,48,48,48,48,48]⟩ Tryz.underlying9 Tryz.underlying22 Tryz.underlying5
  rw [show (⟨#[51,102,56,48,48,48,48,48]⟩ : ByteArray).size = 8 from rfl] at bs
  have HB : Hid (Below w.heap.size w (w.drew.alloc (.cells (bytesRow ⟨#[51,102,56,48,48,48,48,48]⟩ (grownCap w 8 0 5)) 5 ((bytesRow ⟨#[51,102,56,48,48,48,48,48]⟩ (grownCap w 8 0 5)).size, (bytesRow ⟨#[51,102,56,48,48,48,48,48]⟩ (grownCap w 8 0 5)).size + 1)))) := Lib.hid (((Below.refl _ w).drew).alloc (Nat.le_refl _) _)
  have q0 : (w.drew.alloc (.cells (bytesRow ⟨#[51,102,56,48,48,48,48,48]⟩ (grownCap w 8 0 5)) 5 ((bytesRow ⟨#[51,102,56,48,48,48,48,48]⟩ (grownCap w 8 0 5)).size, (bytesRow ⟨#[51,102,56,48,48,48,48,48]⟩ (grownCap w 8 0 5)).size + 1))).cell? ⟨w.heap.size, 0, none⟩ = some (.int .u8 51) := cell_of_heap (heap_alloc_last w.drew _) (bytesRow_at ⟨#[51,102,56,48,48,48,48,48]⟩ _ 0 (by decide))
  have q1 : (w.drew.alloc (.cells (bytesRow ⟨#[51,102,56,48,48,48,48,48]⟩ (grownCap w 8 0 5)) 5 ((bytesRow ⟨#[51,102,56,48,48,48,48,48]⟩ (grownCap w 8 0 5)).size, (bytesRow ⟨#[51,102,56,48,48,48,48,48]⟩ (grownCap w 8 0 5)).size + 1))).cell? ⟨w.heap.size, 1, none⟩ = some (.int .u8 102) := cell_of_heap (heap_alloc_last w.drew _) (bytesRow_at ⟨#[51,102,56,48,48,48,48,48]⟩ _ 1 (by decide))
  have q2 : (w.drew.alloc (.cells (bytesRow ⟨#[51,102,56,48,48,48,48,48]⟩ (grownCap w 8 0 5)) 5 ((bytesRow ⟨#[51,102,56,48,48,48,48,48]⟩ (grownCap w 8 0 5)).size, (bytesRow ⟨#[51,102,56,48,48,48,48,48]⟩ (grownCap w 8 0 5)).size + 1))).cell? ⟨w.heap.size, 2, none⟩ = some (.int .u8 56) := cell_of_heap (heap_alloc_last w.drew _) (bytesRow_at ⟨#[51,102,56,48,48,48,48,48]⟩ _ 2 (by decide))
  have q3 : (w.drew.alloc (.cells (bytesRow ⟨#[51,102,56,48,48,48,48,48]⟩ (grownCap w 8 0 5)) 5 ((bytesRow ⟨#[51,102,56,48,48,48,48,48]⟩ (grownCap w 8 0 5)).size, (bytesRow ⟨#[51,102,56,48,48,48,48,48]⟩ (grownCap w 8 0 5)).size + 1))).cell? ⟨w.heap.size, 3, none⟩ = some (.int .u8 48) := cell_of_heap (heap_alloc_last w.drew _) (bytesRow_at ⟨#[51,102,56,48,48,48,48,48]⟩ _ 3 (by decide))
  have q4 : (w.drew.alloc (.cells (bytesRow ⟨#[51,102,56,48,48,48,48,48]⟩ (grownCap w 8 0 5)) 5 ((bytesRow ⟨#[51,102,56,48,48,48,48,48]⟩ (grownCap w 8 0 5)).size, (bytesRow ⟨#[51,102,56,48,48,48,48,48]⟩ (grownCap w 8 0 5)).size + 1))).cell? ⟨w.heap.size, 4, none⟩ = some (.int .u8 48) := cell_of_heap (heap_alloc_last w.drew _) (bytesRow_at ⟨#[51,102,56,48,48,48,48,48]⟩ _ 4 (by decide))
  have q5 : (w.drew.alloc (.cells (bytesRow ⟨#[51,102,56,48,48,48,48,48]⟩ (grownCap w 8 0 5)) 5 ((bytesRow ⟨#[51,102,56,48,48,48,48,48]⟩ (grownCap w 8 0 5)).size, (bytesRow ⟨#[51,102,56,48,48,48,48,48]⟩ (grownCap w 8 0 5)).size + 1))).cell? ⟨w.heap.size, 5, none⟩ = some (.int .u8 48) := cell_of_heap (heap_alloc_last w.drew _) (bytesRow_at ⟨#[51,102,56,48,48,48,48,48]⟩ _ 5 (by decide))
  have q6 : (w.drew.alloc (.cells (bytesRow ⟨#[51,102,56,48,48,48,48,48]⟩ (grownCap w 8 0 5)) 5 ((bytesRow ⟨#[51,102,56,48,48,48,48,48]⟩ (grownCap w 8 0 5)).size, (bytesRow ⟨#[51,102,56,48,48,48,48,48]⟩ (grownCap w 8 0 5)).size + 1))).cell? ⟨w.heap.size, 6, none⟩ = some (.int .u8 48) := cell_of_heap (heap_alloc_last w.drew _) (bytesRow_at ⟨#[51,102,56,48,48,48,48,48]⟩ _ 6 (by decide))
  have q7 : (w.drew.alloc (.cells (bytesRow ⟨#[51,102,56,48,48,48,48,48]⟩ (grownCap w 8 0 5)) 5 ((bytesRow ⟨#[51,102,56,48,48,48,48,48]⟩ (grownCap w 8 0 5)).size, (bytesRow ⟨#[51,102,56,48,48,48,48,48]⟩ (grownCap w 8 0 5)).size + 1))).cell? ⟨w.heap.size, 7, none⟩ = some (.int .u8 48) := cell_of_heap (heap_alloc_last w.drew _) (bytesRow_at ⟨#[51,102,56,48,48,48,48,48]⟩ _ 7 (by decide))
  generalize (w.drew.alloc (.cells (bytesRow ⟨#[51,102,56,48,48,48,48,48]⟩ (grownCap w 8 0 5)) 5 ((bytesRow ⟨#[51,102,56,48,48,48,48,48]⟩ (grownCap w 8 0 5)).size, (bytesRow ⟨#[51,102,56,48,48,48,48,48]⟩ (grownCap w 8 0 5)).size + 1))) = W0 at bs HB q0 q1 q2 q3 q4 q5 q6 q7
  have Q0 := Lib.hid q0
  have Q1 := Lib.hid q1
  have Q2 := Lib.hid q2
  have Q3 := Lib.hid q3
  have Q4 := Lib.hid q4
  have Q5 := Lib.hid q5
  have Q6 := Lib.hid q6
  have Q7 := Lib.hid q7
  clear q0 q1 q2 q3 q4 q5 q6 q7
  go_enter Tryz.func161, Tryz.ntmps161
  go_wp2_with fail
  clear bs r1
  go_loopw [101, 12, 13] (fun c un t wr => ∃ k : Nat, k ≤ 8 ∧ un = .bool false ∧ c = .int .i64 k ∧ t = .int .u64 (1065353216 / 16 ^ (8 - k) : Nat) ∧ W0 = wr) (fun c _ _ _ => (8 - intOf c).toNat)
  case atStart => exact ⟨0, by omega, rfl, rfl, rfl, rfl⟩
  case round =>
    obtain ⟨k, hk, rfl, hc, hu, rfl⟩ := hrel
    obtain rfl | rfl | rfl | rfl | rfl | rfl | rfl | rfl | rfl : k = 0 ∨ k = 1 ∨ k = 2 ∨ k = 3 ∨ k = 4 ∨ k = 5 ∨ k = 6 ∨ k = 7 ∨ k = 8 := by omega
    · replace hc : _ = Value.int .i64 0 := hc
      replace hu : _ = Value.int .u64 0 := hu
      subst hc; subst hu
      have c0 := Q0.out
      have lw := True.intro
      go_wp2_with go_in
      exact ⟨⟨1, by omega, rfl, rfl, rfl, trivial⟩, by simp [intOf]⟩
    · replace hc : _ = Value.int .i64 1 := hc
      replace hu : _ = Value.int .u64 3 := hu
      subst hc; subst hu
      have c0 := Q1.out
      have lw : bits .or .u8 102 32 = 102 := by decide
      go_wp2_with go_in
      exact ⟨⟨2, by omega, rfl, rfl, rfl, trivial⟩, by simp [intOf]⟩
    · replace hc : _ = Value.int .i64 2 := hc
      replace hu : _ = Value.int .u64 63 := hu
      subst hc; subst hu
      have c0 := Q2.out
      have lw := True.intro
      go_wp2_with go_in
      exact ⟨⟨3, by omega, rfl, rfl, rfl, trivial⟩, by simp [intOf]⟩
    · replace hc : _ = Value.int .i64 3 := hc
      replace hu : _ = Value.int .u64 1016 := hu
      subst hc; subst hu
      have c0 := Q3.out
      have lw := True.intro
      go_wp2_with go_in
      exact ⟨⟨4, by omega, rfl, rfl, rfl, trivial⟩, by simp [intOf]⟩
    · replace hc : _ = Value.int .i64 4 := hc
      replace hu : _ = Value.int .u64 16256 := hu
      subst hc; subst hu
      have c0 := Q4.out
      have lw := True.intro
      go_wp2_with go_in
      exact ⟨⟨5, by omega, rfl, rfl, rfl, trivial⟩, by simp [intOf]⟩
    · replace hc : _ = Value.int .i64 5 := hc
      replace hu : _ = Value.int .u64 260096 := hu
      subst hc; subst hu
      have c0 := Q5.out
      have lw := True.intro
      go_wp2_with go_in
      exact ⟨⟨6, by omega, rfl, rfl, rfl, trivial⟩, by simp [intOf]⟩
    · replace hc : _ = Value.int .i64 6 := hc
      replace hu : _ = Value.int .u64 4161536 := hu
      subst hc; subst hu
      have c0 := Q6.out
      have lw := True.intro
      go_wp2_with go_in
      exact ⟨⟨7, by omega, rfl, rfl, rfl, trivial⟩, by simp [intOf]⟩
    · replace hc : _ = Value.int .i64 7 := hc
      replace hu : _ = Value.int .u64 66584576 := hu
      subst hc; subst hu
      have c0 := Q7.out
      have lw := True.intro
      go_wp2_with go_in
      exact ⟨⟨8, by omega, rfl, rfl, rfl, trivial⟩, by simp [intOf]⟩
    · replace hc : _ = Value.int .i64 8 := hc
      replace hu : _ = Value.int .u64 1065353216 := hu
      subst hc; subst hu
      go_wp2_with fail
      go_ret2; exact ⟨rfl, HB.out⟩


set_option maxRecDepth 100000 in
set_option maxHeartbeats 4000000 in
theorem parseUint_2 (w : World) : Calls Tryz.prog 161 #[.string ⟨#[52,48,48,48,48,48,48,48]⟩, .int .i64 16, .int .i64 64] w fun e w' => e = .returned (.tuple #[.int .u64 1073741824, .nilIface]) ∧ Below w.heap.size w w' := by
  have r1 : IntKind.u64.wrap (IntKind.u64.wrap 18446744073709551616 - 1) = 18446744073709551615 := by decide
  have bs := run_bytes_of_string (P := Tryz.prog) w 9 22 5 ⟨#[52,48,48,48,48,48,48,48]⟩ Tryz.underlying9 Tryz.underlying22 Tryz.underlying5
  rw [show (⟨#[52,48,48,48,48,48,48,48]⟩ : ByteArray).size = 8 from rfl] at bs
  have HB : Hid (Below w.heap.size w (w.drew.alloc (.cells (bytesRow ⟨#[52,48,48,48,48,48,48,48]⟩ (grownCap w 8 0 5)) 5 ((bytesRow ⟨#[52,48,48,48,48,48,48,48]⟩ (grownCap w 8 0 5)).size, (bytesRow ⟨#[52,48,48,48,48,48,48,48]⟩ (grownCap w 8 0 5)).size + 1)))) := Lib.hid (((Below.refl _ w).drew).alloc (Nat.le_refl _) _)
  have q0 : (w.drew.alloc (.cells (bytesRow ⟨#[52,48,48,48,48,48,48,48]⟩ (grownCap w 8 0 5)) 5 ((bytesRow ⟨#[52,48,48,48,48,48,48,48]⟩ (grownCap w 8 0 5)).size, (bytesRow ⟨#[52,48,48,48,48,48,48,48]⟩ (grownCap w 8 0 5)).size + 1))).cell? ⟨w.heap.size, 0, none⟩ = some (.int .u8 52) := cell_of_heap (heap_alloc_last w.drew _) (bytesRow_at ⟨#[52,48,48,48,48,48,48,48]⟩ _ 0 (by decide))
  have q1 : (w.drew.alloc (.cells (bytesRow ⟨#[52,48,48,48,48,48,48,48]⟩ (grownCap w 8 0 5)) 5 ((bytesRow ⟨#[52,48,48,48,48,48,48,48]⟩ (grownCap w 8 0 5)).size, (bytesRow ⟨#[52,48,48,48,48,48,48,48]⟩ (grownCap w 8 0 5)).size + 1))).cell? ⟨w.heap.size, 1, none⟩ = some (.int .u8 48) := cell_of_heap (heap_alloc_last w.drew _) (bytesRow_at ⟨#[52,48,48,48,48,48,48,48]⟩ _ 1 (by decide))
  have q2 : (w.drew.alloc (.cells (bytesRow ⟨#[52,48,48,48,48,48,48,48]⟩ (grownCap w 8 0 5)) 5 ((bytesRow ⟨#[52,48,48,48,48,48,48,48]⟩ (grownCap w 8 0 5)).size, (bytesRow ⟨#[52,48,48,48,48,48,48,48]⟩ (grownCap w 8 0 5)).size + 1))).cell? ⟨w.heap.size, 2, none⟩ = some (.int .u8 48) := cell_of_heap (heap_alloc_last w.drew _) (bytesRow_at ⟨#[52,48,48,48,48,48,48,48]⟩ _ 2 (by decide))
  have q3 : (w.drew.alloc (.cells (bytesRow ⟨#[52,48,48,48,48,48,48,48]⟩ (grownCap w 8 0 5)) 5 ((bytesRow ⟨#[52,48,48,48,48,48,48,48]⟩ (grownCap w 8 0 5)).size, (bytesRow ⟨#[52,48,48,48,48,48,48,48]⟩ (grownCap w 8 0 5)).size + 1))).cell? ⟨w.heap.size, 3, none⟩ = some (.int .u8 48) := cell_of_heap (heap_alloc_last w.drew _) (bytesRow_at ⟨#[52,48,48,48,48,48,48,48]⟩ _ 3 (by decide))
  have q4 : (w.drew.alloc (.cells (bytesRow ⟨#[52,48,48,48,48,48,48,48]⟩ (grownCap w 8 0 5)) 5 ((bytesRow ⟨#[52,48,48,48,48,48,48,48]⟩ (grownCap w 8 0 5)).size, (bytesRow ⟨#[52,48,48,48,48,48,48,48]⟩ (grownCap w 8 0 5)).size + 1))).cell? ⟨w.heap.size, 4, none⟩ = some (.int .u8 48) := cell_of_heap (heap_alloc_last w.drew _) (bytesRow_at ⟨#[52,48,48,48,48,48,48,48]⟩ _ 4 (by decide))
  have q5 : (w.drew.alloc (.cells (bytesRow ⟨#[52,48,48,48,48,48,48,48]⟩ (grownCap w 8 0 5)) 5 ((bytesRow ⟨#[52,48,48,48,48,48,48,48]⟩ (grownCap w 8 0 5)).size, (bytesRow ⟨#[52,48,48,48,48,48,48,48]⟩ (grownCap w 8 0 5)).size + 1))).cell? ⟨w.heap.size, 5, none⟩ = some (.int .u8 48) := cell_of_heap (heap_alloc_last w.drew _) (bytesRow_at ⟨#[52,48,48,48,48,48,48,48]⟩ _ 5 (by decide))
  have q6 : (w.drew.alloc (.cells (bytesRow ⟨#[52,48,48,48,48,48,48,48]⟩ (grownCap w 8 0 5)) 5 ((bytesRow ⟨#[52,48,48,48,48,48,48,48]⟩ (grownCap w 8 0 5)).size, (bytesRow ⟨#[52,48,48,48,48,48,48,48]⟩ (grownCap w 8 0 5)).size + 1))).cell? ⟨w.heap.size, 6, none⟩ = some (.int .u8 48) := cell_of_heap (heap_alloc_last w.drew _) (bytesRow_at ⟨#[52,48,48,48,48,48,48,48]⟩ _ 6 (by decide))
  have q7 : (w.drew.alloc (.cells (bytesRow ⟨#[52,48,48,48,48,48,48,48]⟩ (grownCap w 8 0 5)) 5 ((bytesRow ⟨#[52,48,48,48,48,48,48,48]⟩ (grownCap w 8 0 5)).size, (bytesRow ⟨#[52,48,48,48,48,48,48,48]⟩ (grownCap w 8 0 5)).size + 1))).cell? ⟨w.heap.size, 7, none⟩ = some (.int .u8 48) := cell_of_heap (heap_alloc_last w.drew _) (bytesRow_at ⟨#[52,48,48,48,48,48,48,48]⟩ _ 7 (by decide))
  generalize (w.drew.alloc (.cells (bytesRow ⟨#[52,48,48,48,48,48,48,48]⟩ (grownCap w 8 0 5)) 5 ((bytesRow ⟨#[52,48,48,48,48,48,48,48]⟩ (grownCap w 8 0 5)).size, (bytesRow ⟨#[52,48,48,48,48,48,48,48]⟩ (grownCap w 8 0 5)).size + 1))) = W0 at bs HB q0 q1 q2 q3 q4 q5 q6 q7
  have Q0 := Lib.hid q0
  have Q1 := Lib.hid q1
  have Q2 := Lib.hid q2
  have Q3 := Lib.hid q3
  have Q4 := Lib.hid q4
  have Q5 := Lib.hid q5
  have Q6 := Lib.hid q6
  have Q7 := Lib.hid q7
  clear q0 q1 q2 q3 q4 q5 q6 q7
  go_enter Tryz.func161, Tryz.ntmps161
  go_wp2_with fail
  clear bs r1
  go_loopw [101, 12, 13] (fun c un t wr => ∃ k : Nat, k ≤ 8 ∧ un = .bool false ∧ c = .int .i64 k ∧ t = .int .u64 (1073741824 / 16 ^ (8 - k) : Nat) ∧ W0 = wr) (fun c _ _ _ => (8 - intOf c).toNat)
  case atStart => exact ⟨0, by omega, rfl, rfl, rfl, rfl⟩
  case round =>
    obtain ⟨k, hk, rfl, hc, hu, rfl⟩ := hrel
    obtain rfl | rfl | rfl | rfl | rfl | rfl | rfl | rfl | rfl : k = 0 ∨ k = 1 ∨ k = 2 ∨ k = 3 ∨ k = 4 ∨ k = 5 ∨ k = 6 ∨ k = 7 ∨ k = 8 := by omega
    · replace hc : _ = Value.int .i64 0 := hc
      replace hu : _ = Value.int .u64 0 := hu
      subst hc; subst hu
      have c0 := Q0.out
      have lw := True.intro
      go_wp2_with go_in
      exact ⟨⟨1, by omega, rfl, rfl, rfl, trivial⟩, by simp [intOf]⟩
    · replace hc : _ = Value.int .i64 1 := hc
      replace hu : _ = Value.int .u64 4 := hu
      subst hc; subst hu
      have c0 := Q1.out
      have lw := True.intro
      go_wp2_with go_in
      exact ⟨⟨2, by omega, rfl, rfl, rfl, trivial⟩, by simp [intOf]⟩
    · replace hc : _ = Value.int .i64 2 := hc
      replace hu : _ = Value.int .u64 64 := hu
      subst hc; subst hu
      have c0 := Q2.out
      have lw := True.intro
      go_wp2_with go_in
      exact ⟨⟨3, by omega, rfl, rfl, rfl, trivial⟩, by simp [intOf]⟩
    · replace hc : _ = Value.int .i64 3 := hc
      replace hu : _ = Value.int .u64 1024 := hu
      subst hc; subst hu
      have c0 := Q3.out
      have lw := True.intro
      go_wp2_with go_in
      exact ⟨⟨4, by omega, rfl, rfl, rfl, trivial⟩, by simp [intOf]⟩
    · replace hc : _ = Value.int .i64 4 := hc
      replace hu : _ = Value.int .u64 16384 := hu
      subst hc; subst hu
      have c0 := Q4.out
      have lw := True.intro
      go_wp2_with go_in
      exact ⟨⟨5, by omega, rfl, rfl, rfl, trivial⟩, by simp [intOf]⟩
    · replace hc : _ = Value.int .i64 5 := hc
      replace hu : _ = Value.int .u64 262144 := hu
      subst hc; subst hu
      have c0 := Q5.out
      have lw := True.intro
      go_wp2_with go_in
      exact ⟨⟨6, by omega, rfl, rfl, rfl, trivial⟩, by simp [intOf]⟩
    · replace hc : _ = Value.int .i64 6 := hc
      replace hu : _ = Value.int .u64 4194304 := hu
      subst hc; subst hu
      have c0 := Q6.out
      have lw := True.intro
      go_wp2_with go_in
      exact ⟨⟨7, by omega, rfl, rfl, rfl, trivial⟩, by simp [intOf]⟩
    · replace hc : _ = Value.int .i64 7 := hc
      replace hu : _ = Value.int .u64 67108864 := hu
      subst hc; subst hu
      have c0 := Q7.out
      have lw := True.intro
      go_wp2_with go_in
      exact ⟨⟨8, by omega, rfl, rfl, rfl, trivial⟩, by simp [intOf]⟩
    · replace hc : _ = Value.int .i64 8 := hc
      replace hu : _ = Value.int .u64 1073741824 := hu
      subst hc; subst hu
      go_wp2_with fail
      go_ret2; exact ⟨rfl, HB.out⟩


set_option maxRecDepth 100000 in
set_option maxHeartbeats 4000000 in
theorem parseUint_3 (w : World) : Calls Tryz.prog 161 #[.string ⟨#[52,48,52,48,48,48,48,48]⟩, .int .i64 16, .int .i64 64] w fun e w' => e = .returned (.tuple #[.int .u64 1077936128, .nilIface]) ∧ Below w.heap.size w w' := by
  have r1 : IntKind.u64.wrap (IntKind.u64.wrap 18446744073709551616 - 1) = 18446744073709551615 := by decide
  have bs := run_bytes_of_string (P := Tryz.prog) w 9 22 5 ⟨#[52,48,52,48,48,48,48,48]⟩ Tryz.underlying9 Tryz.underlying22 Tryz.underlying5
  rw [show (⟨#[52,48,52,48,48,48,48,48]⟩ : ByteArray).size = 8 from rfl] at bs
  have HB : Hid (Below w.heap.size w (w.drew.alloc (.cells (bytesRow ⟨#[52,48,52,48,48,48,48,48]⟩ (grownCap w 8 0 5)) 5 ((bytesRow ⟨#[52,48,52,48,48,48,48,48]⟩ (grownCap w 8 0 5)).size, (bytesRow ⟨#[52,48,52,48,48,48,48,48]⟩ (grownCap w 8 0 5)).size + 1)))) := Lib.hid (((Below.refl _ w).drew).alloc (Nat.le_refl _) _)
  have q0 : (w.drew.alloc (.cells (bytesRow ⟨#[52,48,52,48,48,48,48,48]⟩ (grownCap w 8 0 5)) 5 ((bytesRow ⟨#[52,48,52,48,48,48,48,48]⟩ (grownCap w 8 0 5)).size, (bytesRow ⟨#[52,48,52,48,48,48,48,48]⟩ (grownCap w 8 0 5)).size + 1))).cell? ⟨w.heap.size, 0, none⟩ = some (.int .u8 52) := cell_of_heap (heap_alloc_last w.drew _) (bytesRow_at ⟨#[52,48,52,48,48,48,48,48]⟩ _ 0 (by decide))
  have q1 : (w.drew.alloc (.cells (bytesRow ⟨#[52,48,52,48,48,48,48,48]⟩ (grownCap w 8 0 5)) 5 ((bytesRow ⟨#[52,48,52,48,48,48,48,48]⟩ (grownCap w 8 0 5)).size, (bytesRow ⟨#[52,48,52,48,48,48,48,48]⟩ (grownCap w 8 0 5)).size + 1))).cell? ⟨w.heap.size, 1, none⟩ = some (.int .u8 48) := cell_of_heap (heap_alloc_last w.drew _) (bytesRow_at ⟨#[52,48,52,48,48,48,48,48]⟩ _ 1 (by decide))
  have q2 : (w.drew.alloc (.cells (bytesRow ⟨#[52,48,52,48,48,48,48,48]⟩ (grownCap w 8 0 5)) 5 ((bytesRow ⟨#[52,48,52,48,48,48,48,48]⟩ (grownCap w 8 0 5)).size, (bytesRow ⟨#[52,48,52,48,48,48,48,48]⟩ (grownCap w 8 0 5)).size + 1))).cell? ⟨w.heap.size, 2, none⟩ = some (.int .u8 52) := cell_of_heap (heap_alloc_last w.drew _) (bytesRow_at ⟨#[52,48,52,48,48,48,48,48]⟩ _ 2 (by decide))
  have q3 : (w.drew.alloc (.cells (bytesRow ⟨#[52,48,52,48,48,48,48,48]⟩ (grownCap w 8 0 5)) 5 ((bytesRow ⟨#[52,48,52,48,48,48,48,48]⟩ (grownCap w 8 0 5)).size, (bytesRow ⟨#[52,48,52,48,48,48,48,48]⟩ (grownCap w 8 0 5)).size + 1))).cell? ⟨w.heap.size, 3, none⟩ = some (.int .u8 48) := cell_of_heap (heap_alloc_last w.drew _) (bytesRow_at ⟨#[52,48,52,48,48,48,48,48]⟩ _ 3 (by decide))
  have q4 : (w.drew.alloc (.cells (bytesRow ⟨#[52,48,52,48,48,48,48,48]⟩ (grownCap w 8 0 5)) 5 ((bytesRow ⟨#[52,48,52,48,48,48,48,48]⟩ (grownCap w 8 0 5)).size, (bytesRow ⟨#[52,48,52,48,48,48,48,48]⟩ (grownCap w 8 0 5)).size + 1))).cell? ⟨w.heap.size, 4, none⟩ = some (.int .u8 48) := cell_of_heap (heap_alloc_last w.drew _) (bytesRow_at ⟨#[52,48,52,48,48,48,48,48]⟩ _ 4 (by decide))
  have q5 : (w.drew.alloc (.cells (bytesRow ⟨#[52,48,52,48,48,48,48,48]⟩ (grownCap w 8 0 5)) 5 ((bytesRow ⟨#[52,48,52,48,48,48,48,48]⟩ (grownCap w 8 0 5)).size, (bytesRow ⟨#[52,48,52,48,48,48,48,48]⟩ (grownCap w 8 0 5)).size + 1))).cell? ⟨w.heap.size, 5, none⟩ = some (.int .u8 48) := cell_of_heap (heap_alloc_last w.drew _) (bytesRow_at ⟨#[52,48,52,48,48,48,48,48]⟩ _ 5 (by decide))
  have q6 : (w.drew.alloc (.cells (bytesRow ⟨#[52,48,52,48,48,48,48,48]⟩ (grownCap w 8 0 5)) 5 ((bytesRow ⟨#[52,48,52,48,48,48,48,48]⟩ (grownCap w 8 0 5)).size, (bytesRow ⟨#[52,48,52,48,48,48,48,48]⟩ (grownCap w 8 0 5)).size + 1))).cell? ⟨w.heap.size, 6, none⟩ = some (.int .u8 48) := cell_of_heap (heap_alloc_last w.drew _) (bytesRow_at ⟨#[52,48,52,48,48,48,48,48]⟩ _ 6 (by decide))
  have q7 : (w.drew.alloc (.cells (bytesRow ⟨#[52,48,52,48,48,48,48,48]⟩ (grownCap w 8 0 5)) 5 ((bytesRow ⟨#[52,48,52,48,48,48,48,48]⟩ (grownCap w 8 0 5)).size, (bytesRow ⟨#[52,48,52,48,48,48,48,48]⟩ (grownCap w 8 0 5)).size + 1))).cell? ⟨w.heap.size, 7, none⟩ = some (.int .u8 48) := cell_of_heap (heap_alloc_last w.drew _) (bytesRow_at ⟨#[52,48,52,48,48,48,48,48]⟩ _ 7 (by decide))
  generalize (w.drew.alloc (.cells (bytesRow ⟨#[52,48,52,48,48,48,48,48]⟩ (grownCap w 8 0 5)) 5 ((bytesRow ⟨#[52,48,52,48,48,48,48,48]⟩ (grownCap w 8 0 5)).size, (bytesRow ⟨#[52,48,52,48,48,48,48,48]⟩ (grownCap w 8 0 5)).size + 1))) = W0 at bs HB q0 q1 q2 q3 q4 q5 q6 q7
  have Q0 := Lib.hid q0
  have Q1 := Lib.hid q1
  have Q2 := Lib.hid q2
  have Q3 := Lib.hid q3
  have Q4 := Lib.hid q4
  have Q5 := Lib.hid q5
  have Q6 := Lib.hid q6
  have Q7 := Lib.hid q7
  clear q0 q1 q2 q3 q4 q5 q6 q7
  go_enter Tryz.func161, Tryz.ntmps161
  go_wp2_with fail
  clear bs r1
  go_loopw [101, 12, 13] (fun c un t wr => ∃ k : Nat, k ≤ 8 ∧ un = .bool false ∧ c = .int .i64 k ∧ t = .int .u64 (1077936128 / 16 ^ (8 - k) : Nat) ∧ W0 = wr) (fun c _ _ _ => (8 - intOf c).toNat)
  case atStart => exact ⟨0, by omega, rfl, rfl, rfl, rfl⟩
  case round =>
    obtain ⟨k, hk, rfl, hc, hu, rfl⟩ := hrel
    obtain rfl | rfl | rfl | rfl | rfl | rfl | rfl | rfl | rfl : k = 0 ∨ k = 1 ∨ k = 2 ∨ k = 3 ∨ k = 4 ∨ k = 5 ∨ k = 6 ∨ k = 7 ∨ k = 8 := by omega
    · replace hc : _ = Value.int .i64 0 := hc
      replace hu : _ = Value.int .u64 0 := hu
      subst hc; subst hu
      have c0 := Q0.out
      have lw := True.intro
      go_wp2_with go_in
      exact ⟨⟨1, by omega, rfl, rfl, rfl, trivial⟩, by simp [intOf]⟩
    · replace hc : _ = Value.int .i64 1 := hc
      replace hu : _ = Value.int .u64 4 := hu
      subst hc; subst hu
      have c0 := Q1.out
      have lw := True.intro
      go_wp2_with go_in
      exact ⟨⟨2, by omega, rfl, rfl, rfl, trivial⟩, by simp [intOf]⟩
    · replace hc : _ = Value.int .i64 2 := hc
      replace hu : _ = Value.int .u64 64 := hu
      subst hc; subst hu
      have c0 := Q2.out
      have lw := True.intro
      go_wp2_with go_in
      exact ⟨⟨3, by omega, rfl, rfl, rfl, trivial⟩, by simp [intOf]⟩
    · replace hc : _ = Value.int .i64 3 := hc
      replace hu : _ = Value.int .u64 1028 := hu
      subst hc; subst hu
      have c0 := Q3.out
      have lw := True.intro
      go_wp2_with go_in
      exact ⟨⟨4, by omega, rfl, rfl, rfl, trivial⟩, by simp [intOf]⟩
    · replace hc : _ = Value.int .i64 4 := hc
      replace hu : _ = Value.int .u64 16448 := hu
      subst hc; subst hu
      have c0 := Q4.out
      have lw := True.intro
      go_wp2_with go_in
      exact ⟨⟨5, by omega, rfl, rfl, rfl, trivial⟩, by simp [intOf]⟩
    · replace hc : _ = Value.int .i64 5 := hc
      replace hu : _ = Value.int .u64 263168 := hu
      subst hc; subst hu
      have c0 := Q5.out
      have lw := True.intro
      go_wp2_with go_in
      exact ⟨⟨6, by omega, rfl, rfl, rfl, trivial⟩, by simp [intOf]⟩
    · replace hc : _ = Value.int .i64 6 := hc
      replace hu : _ = Value.int .u64 4210688 := hu
      subst hc; subst hu
      have c0 := Q6.out
      have lw := True.intro
      go_wp2_with go_in
      exact ⟨⟨7, by omega, rfl, rfl, rfl, trivial⟩, by simp [intOf]⟩
    · replace hc : _ = Value.int .i64 7 := hc
      replace hu : _ = Value.int .u64 67371008 := hu
      subst hc; subst hu
      have c0 := Q7.out
      have lw := True.intro
      go_wp2_with go_in
      exact ⟨⟨8, by omega, rfl, rfl, rfl, trivial⟩, by simp [intOf]⟩
    · replace hc : _ = Value.int .i64 8 := hc
      replace hu : _ = Value.int .u64 1077936128 := hu
      subst hc; subst hu
      go_wp2_with fail
      go_ret2; exact ⟨rfl, HB.out⟩


set_option maxRecDepth 100000 in
set_option maxHeartbeats 4000000 in
theorem parseUint_4 (w : World) : Calls Tryz.prog 161 #[.string ⟨#[52,48,56,48,48,48,48,48]⟩, .int .i64 16, .int .i64 64] w fun e w' => e = .returned (.tuple #[.int .u64 1082130432, .nilIface]) ∧ Below w.heap.size w w' := by
  have r1 : IntKind.u64.wrap (IntKind.u64.wrap 18446744073709551616 - 1) = 18446744073709551615 := by decide
  have bs := run_bytes_of_string (P := Tryz.prog) w 9 22 5 ⟨#[52,48,56,48,48,48,48,48]⟩ Tryz.underlying9 Tryz.underlying22 Tryz.underlying5
  rw [show (⟨#[52,48,56,48,48,48,48,48]⟩ : ByteArray).size = 8 from rfl] at bs
  have HB : Hid (Below w.heap.size w (w.drew.alloc (.cells (bytesRow ⟨#[52,48,56,48,48,48,48,48]⟩ (grownCap w 8 0 5)) 5 ((bytesRow ⟨#[52,48,56,48,48,48,48,48]⟩ (grownCap w 8 0 5)).size, (bytesRow ⟨#[52,48,56,48,48,48,48,48]⟩ (grownCap w 8 0 5)).size + 1)))) := Lib.hid (((Below.refl _ w).drew).alloc (Nat.le_refl _) _)
  have q0 : (w.drew.alloc (.cells (bytesRow ⟨#[52,48,56,48,48,48,48,48]⟩ (grownCap w 8 0 5)) 5 ((bytesRow ⟨#[52,48,56,48,48,48,48,48]⟩ (grownCap w 8 0 5)).size, (bytesRow ⟨#[52,48,56,48,48,48,48,48]⟩ (grownCap w 8 0 5)).size + 1))).cell? ⟨w.heap.size, 0, none⟩ = some (.int .u8 52) := cell_of_heap (heap_alloc_last w.drew _) (bytesRow_at ⟨#[52,48,56,48,48,48,48,48]⟩ _ 0 (by decide))
  have q1 : (w.drew.alloc (.cells (bytesRow ⟨#[52,48,56,48,48,48,48,48]⟩ (grownCap w 8 0 5)) 5 ((bytesRow ⟨#[52,48,56,48,48,48,48,48]⟩ (grownCap w 8 0 5)).size, (bytesRow ⟨#[52,48,56,48,48,48,48,48]⟩ (grownCap w 8 0 5)).size + 1))).cell? ⟨w.heap.size, 1, none⟩ = some (.int .u8 48) := cell_of_heap (heap_alloc_last w.drew _) (bytesRow_at ⟨#[52,48,56,48,48,48,48,48]⟩ _ 1 (by decide))
  have q2 : (w.drew.alloc (.cells (bytesRow ⟨#[52,48,56,48,48,48,48,48]⟩ (grownCap w 8 0 5)) 5 ((bytesRow ⟨#[52,48,56,48,48,48,48,48]⟩ (grownCap w 8 0 5)).size, (bytesRow ⟨#[52,48,56,48,48,48,48,48]⟩ (grownCap w 8 0 5)).size + 1))).cell? ⟨w.heap.size, 2, none⟩ = some (.int .u8 56) := cell_of_heap (heap_alloc_last w.drew _) (bytesRow_at ⟨#[52,48,56,48,48,48,48,48]⟩ _ 2 (by decide))
  have q3 : (w.drew.alloc (.cells (bytesRow ⟨#[52,48,56,48,48,48,48,48]⟩ (grownCap w 8 0 5)) 5 ((bytesRow ⟨#[52,48,56,48,48,48,48,48]⟩ (grownCap w 8 0 5)).size, (bytesRow ⟨#[52,48,56,48,48,48,48,48]⟩ (grownCap w 8 0 5)).size + 1))).cell? ⟨w.heap.size, 3, none⟩ = some (.int .u8 48) := cell_of_heap (heap_alloc_last w.drew _) (bytesRow_at ⟨#[52,48,56,48,48,48,48,48]⟩ _ 3 (by decide))
  have q4 : (w.drew.alloc (.cells (bytesRow ⟨#[52,48,56,48,48,48,48,48]⟩ (grownCap w 8 0 5)) 5 ((bytesRow ⟨#[52,48,56,48,48,48,48,48]⟩ (grownCap w 8 0 5)).size, (bytesRow ⟨#[52,48,56,48,48,48,48,48]⟩ (grownCap w 8 0 5)).size + 1))).cell? ⟨w.heap.size, 4, none⟩ = some (.int .u8 48) := cell_of_heap (heap_alloc_last w.drew _) (bytesRow_at ⟨#[52,48,56,48,48,48,48,48]⟩ _ 4 (by decide))
  have q5 : (w.drew.alloc (.cells (bytesRow ⟨#[52,48,56,48,48,48,48,48]⟩ (grownCap w 8 0 5)) 5 ((bytesRow ⟨#[52,48,56,48,48,48,48,48]⟩ (grownCap w 8 0 5)).size, (bytesRow ⟨#[52,48,56,48,48,48,48,48]⟩ (grownCap w 8 0 5)).size + 1))).cell? ⟨w.heap.size, 5, none⟩ = some (.int .u8 48) := cell_of_heap (heap_alloc_last w.drew _) (bytesRow_at ⟨#[52,48,56,48,48,48,48,48]⟩ _ 5 (by decide))
  have q6 : (w.drew.alloc (.cells (bytesRow ⟨#[52,48,56,48,48,48,48,48]⟩ (grownCap w 8 0 5)) 5 ((bytesRow ⟨#[52,48,56,48,48,48,48,48]⟩ (grownCap w 8 0 5)).size, (bytesRow ⟨#[52,48,56,48,48,48,48,48]⟩ (grownCap w 8 0 5)).size + 1))).cell? ⟨w.heap.size, 6, none⟩ = some (.int .u8 48) := cell_of_heap (heap_alloc_last w.drew _) (bytesRow_at ⟨#[52,48,56,48,48,48,48,48]⟩ _ 6 (by decide))
  have q7 : (w.drew.alloc (.cells (bytesRow ⟨#[52,48,56,48,48,48,48,48]⟩ (grownCap w 8 0 5)) 5 ((bytesRow ⟨#[52,48,56,48,48,48,48,48]⟩ (grownCap w 8 0 5)).size, (bytesRow ⟨#[52,48,56,48,48,48,48,48]⟩ (grownCap w 8 0 5)).size + 1))).cell? ⟨w.heap.size, 7, none⟩ = some (.int .u8 48) := cell_of_heap (heap_alloc_last w.drew _) (bytesRow_at ⟨#[52,48,56,48,48,48,48,48]⟩ _ 7 (by decide))
  generalize (w.drew.alloc (.cells (bytesRow ⟨#[52,48,56,48,48,48,48,48]⟩ (grownCap w 8 0 5)) 5 ((bytesRow ⟨#[52,48,56,48,48,48,48,48]⟩ (grownCap w 8 0 5)).size, (bytesRow ⟨#[52,48,56,48,48,48,48,48]⟩ (grownCap w 8 0 5)).size + 1))) = W0 at bs HB q0 q1 q2 q3 q4 q5 q6 q7
  have Q0 := Lib.hid q0
  have Q1 := Lib.hid q1
  have Q2 := Lib.hid q2
  have Q3 := Lib.hid q3
  have Q4 := Lib.hid q4
  have Q5 := Lib.hid q5
  have Q6 := Lib.hid q6
  have Q7 := Lib.hid q7
  clear q0 q1 q2 q3 q4 q5 q6 q7
  go_enter Tryz.func161, Tryz.ntmps161
  go_wp2_with fail
  clear bs r1
  go_loopw [101, 12, 13] (fun c un t wr => ∃ k : Nat, k ≤ 8 ∧ un = .bool false ∧ c = .int .i64 k ∧ t = .int .u64 (1082130432 / 16 ^ (8 - k) : Nat) ∧ W0 = wr) (fun c _ _ _ => (8 - intOf c).toNat)
  case atStart => exact ⟨0, by omega, rfl, rfl, rfl, rfl⟩
  case round =>
    obtain ⟨k, hk, rfl, hc, hu, rfl⟩ := hrel
    obtain rfl | rfl | rfl | rfl | rfl | rfl | rfl | rfl | rfl : k = 0 ∨ k = 1 ∨ k = 2 ∨ k = 3 ∨ k = 4 ∨ k = 5 ∨ k = 6 ∨ k = 7 ∨ k = 8 := by omega
    · replace hc : _ = Value.int .i64 0 := hc
      replace hu : _ = Value.int .u64 0 := hu
      subst hc; subst hu
      have c0 := Q0.out
      have lw := True.intro
      go_wp2_with go_in
      exact ⟨⟨1, by omega, rfl, rfl, rfl, trivial⟩, by simp [intOf]⟩
    · replace hc : _ = Value.int .i64 1 := hc
      replace hu : _ = Value.int .u64 4 := hu
      subst hc; subst hu
      have c0 := Q1.out
      have lw := True.intro
      go_wp2_with go_in
      exact ⟨⟨2, by omega, rfl, rfl, rfl, trivial⟩, by simp [intOf]⟩
    · replace hc : _ = Value.int .i64 2 := hc
      replace hu : _ = Value.int .u64 64 := hu
      subst hc; subst hu
      have c0 := Q2.out
      have lw := True.intro
      go_wp2_with go_in
      exact ⟨⟨3, by omega, rfl, rfl, rfl, trivial⟩, by simp [intOf]⟩
    · replace hc : _ = Value.int .i64 3 := hc
      replace hu : _ = Value.int .u64 1032 := hu
      subst hc; subst hu
      have c0 := Q3.out
      have lw := True.intro
      go_wp2_with go_in
      exact ⟨⟨4, by omega, rfl, rfl, rfl, trivial⟩, by simp [intOf]⟩
    · replace hc : _ = Value.int .i64 4 := hc
      replace hu : _ = Value.int .u64 16512 := hu
      subst hc; subst hu
      have c0 := Q4.out
      have lw := True.intro
      go_wp2_with go_in
      exact ⟨⟨5, by omega, rfl, rfl, rfl, trivial⟩, by simp [intOf]⟩
    · replace hc : _ = Value.int .i64 5 := hc
      replace hu : _ = Value.int .u64 264192 := hu
      subst hc; subst hu
      have c0 := Q5.out
      have lw := True.intro
      go_wp2_with go_in
      exact ⟨⟨6, by omega, rfl, rfl, rfl, trivial⟩, by simp [intOf]⟩
    · replace hc : _ = Value.int .i64 6 := hc
      replace hu : _ = Value.int .u64 4227072 := hu
      subst hc; subst hu
      have c0 := Q6.out
      have lw := True.intro
      go_wp2_with go_in
      exact ⟨⟨7, by omega, rfl, rfl, rfl, trivial⟩, by simp [intOf]⟩
    · replace hc : _ = Value.int .i64 7 := hc
      replace hu : _ = Value.int .u64 67633152 := hu
      subst hc; subst hu
      have c0 := Q7.out
      have lw := True.intro
      go_wp2_with go_in
      exact ⟨⟨8, by omega, rfl, rfl, rfl, trivial⟩, by simp [intOf]⟩
    · replace hc : _ = Value.int .i64 8 := hc
      replace hu : _ = Value.int .u64 1082130432 := hu
      subst hc; subst hu
      go_wp2_with fail
      go_ret2; exact ⟨rfl, HB.out⟩

end Go.Proofs.YtdpdjcehobjohaaGreatDoor
