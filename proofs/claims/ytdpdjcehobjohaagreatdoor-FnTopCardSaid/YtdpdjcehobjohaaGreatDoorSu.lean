/- spec.l01Two, spec.l01Bits and the texts of numbers. -/
import Derived.Test.YtdpdjcehobjohaaGreatDoorSt
namespace Go.Proofs.YtdpdjcehobjohaaGreatDoor
open Go Go.RowKit Go.BigFrame Fl

/-- the bits of 2 ^ k -/
def p2 (k : Int) : Nat := (k + 1023).toNat * 4503599627370496
def upB : Bool := (List.range 160).all fun j => floatBits .mul .f64 (p2 j) 4611686018427387904 == some (p2 (j + 1))
def dnB : Bool := (List.range 160).all fun j => floatBits .quo .f64 (p2 (-j)) 4611686018427387904 == some (p2 (-j - 1))
theorem upB_true : upB = true := by kernel_rfl
theorem dnB_true : dnB = true := by kernel_rfl
theorem up_two (j : Nat) (h : j < 160) : floatBits .mul .f64 (p2 j) 4611686018427387904 = some (p2 (j + 1)) := by
  have := upB_true; unfold upB at this; rw [List.all_eq_true] at this
  simpa using this j (List.mem_range.2 h)
theorem dn_two (j : Nat) (h : j < 160) : floatBits .quo .f64 (p2 (-j)) 4611686018427387904 = some (p2 (-j - 1)) := by
  have := dnB_true; unfold dnB at this; rw [List.all_eq_true] at this
  simpa using this j (List.mem_range.2 h)

set_option maxHeartbeats 1000000 in
theorem l01Two_c (k : Int) (hk : -159 ≤ k ∧ k ≤ 159) (w : World) : Calls Tryz.prog 109 #[.int .i64 k] w fun e w' => e = .returned (.float .f64 (p2 k)) ∧ w = w' := by
  by_cases h0 : 0 ≤ k
  · obtain ⟨K, rfl⟩ : ∃ K : Nat, k = K := ⟨k.toNat, by omega⟩
    go_enter Tryz.func109, Tryz.ntmps109
    go_wp2_with fail
    go_loop [0, 3] (fun a b => ∃ j : Nat, j ≤ K ∧ a = .int .i64 ((K : Int) - j) ∧ b = .float .f64 (p2 j)) (fun a _ => (intOf a).toNat)
    case atStart => exact ⟨0, by omega, by simp, rfl⟩
    case round =>
      obtain ⟨j, hj, rfl, rfl⟩ := hrel
      by_cases hlt : j < K
      · have F := fb (up_two j (by omega))
        go_wp2_with fail
        exact ⟨⟨j + 1, by omega, by go_num, rfl⟩, by simp [intOf]; omega⟩
      · have hjk : j = K := by omega
        subst hjk
        go_wp2_with fail
        go_loop [0, 3] (fun a b => a = .int .i64 0 ∧ b = .float .f64 (p2 j)) (fun a _ => 0)
        case atStart => exact ⟨by go_num, rfl⟩
        case round =>
          obtain ⟨rfl, rfl⟩ := hrel
          go_wp2_with fail
          go_ret; exact ⟨rfl, rfl⟩
  · obtain ⟨K, rfl⟩ : ∃ K : Nat, k = -(K : Int) := ⟨(-k).toNat, by omega⟩
    have hK : 0 < K := by omega
    go_enter Tryz.func109, Tryz.ntmps109
    go_wp2_with fail
    go_loop [0, 3] (fun a b => a = .int .i64 (-(K : Int)) ∧ b = .float .f64 (p2 0)) (fun a _ => 0)
    case atStart => exact ⟨rfl, rfl⟩
    case round =>
      obtain ⟨rfl, rfl⟩ := hrel
      go_wp2_with fail
      go_loop [0, 3] (fun a b => ∃ j : Nat, j ≤ K ∧ a = .int .i64 ((j : Int) - K) ∧ b = .float .f64 (p2 (-j))) (fun a _ => (-(intOf a)).toNat)
      case atStart => exact ⟨0, by omega, by simp, rfl⟩
      case round =>
        obtain ⟨j, hj, rfl, rfl⟩ := hrel
        by_cases hlt : j < K
        · have F := fb (dn_two j (by omega))
          go_wp2_with fail
          exact ⟨⟨j + 1, by omega, by go_num, by rw [show (-((j + 1 : Nat) : Int)) = -j - 1 by omega]⟩, by simp [intOf]; omega⟩
        · have hjk : j = K := by omega
          subst hjk
          go_wp2_with fail
          go_ret; exact ⟨rfl, rfl⟩
end Go.Proofs.YtdpdjcehobjohaaGreatDoor
