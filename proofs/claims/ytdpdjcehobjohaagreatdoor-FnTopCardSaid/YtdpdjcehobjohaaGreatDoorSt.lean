/- The texts of waves of small whole numbers, as spec.WaveText writes them. -/
import Derived.Test.YtdpdjcehobjohaaGreatDoorCt
import Derived.Deep.RegionWith
namespace Go.Proofs.YtdpdjcehobjohaaGreatDoor
open Go Go.RowKit Go.BigFrame Fl

theorem conv_cell (W : World) (g : Nat) (b : Nat) (hb : b < 256) (h : W.cell? ⟨g, 0, none⟩ = some (.int .u8 (b : Nat))) :
    (convert 22 9 (.slice (some ⟨g, 0, none⟩) 1 1)).run Tryz.prog W = .ok (.string ⟨#[UInt8.ofNat b]⟩) W :=
  run_convert_bytes_back W 22 9 5 ⟨g, 0, none⟩ 1 [UInt8.ofNat b] Tryz.underlying22 Tryz.underlying5 Tryz.underlying9 (fun j hj => by
    have : j = 0 := by simpa using hj
    subst this
    have e : (UInt8.ofNat b).toNat = b := by simp [Nat.mod_eq_of_lt hb]
    simpa [Addr.add, e] using h)
set_option maxRecDepth 100000 in
theorem l01Dec_c (n : Int) (hn : n = 1 ∨ n = 2 ∨ n = 4) (w : World) : Calls Tryz.prog 43 #[.int .i64 n] w fun e w' => e = .returned (.string (decT n)) ∧ Below w.heap.size w w' := by
  rcases hn with rfl | rfl | rfl
  · have k := conv_cell (w.alloc (.cells #[.int .u8 49] 5 (0, 0))) w.heap.size 49 (by omega) (cell_of_heap (heap_alloc_last w _) rfl)
    go_enter Tryz.func43, Tryz.ntmps43
    go_wp2_with fail
    go_ret; exact ⟨rfl, bal1 _ _⟩
  · have k := conv_cell (w.alloc (.cells #[.int .u8 50] 5 (0, 0))) w.heap.size 50 (by omega) (cell_of_heap (heap_alloc_last w _) rfl)
    go_enter Tryz.func43, Tryz.ntmps43
    go_wp2_with fail
    go_ret; exact ⟨rfl, bal1 _ _⟩
  · have k := conv_cell (w.alloc (.cells #[.int .u8 52] 5 (0, 0))) w.heap.size 52 (by omega) (cell_of_heap (heap_alloc_last w _) rfl)
    go_enter Tryz.func43, Tryz.ntmps43
    go_wp2_with fail
    go_ret; exact ⟨rfl, bal1 _ _⟩

@[go_sem] theorem dgr (r : Nat) (h : r < (⟨#[48, 49, 50, 51, 52, 53, 54, 55, 56, 57, 97, 98, 99, 100, 101, 102]⟩ : ByteArray).size) :
    (((⟨#[48, 49, 50, 51, 52, 53, 54, 55, 56, 57, 97, 98, 99, 100, 101, 102]⟩ : ByteArray)[r]'h).toNat : Int) = (hx r : Nat) := by
  have h' : r < 16 := h
  have : r = 0 ∨ r = 1 ∨ r = 2 ∨ r = 3 ∨ r = 4 ∨ r = 5 ∨ r = 6 ∨ r = 7 ∨ r = 8 ∨ r = 9 ∨ r = 10 ∨ r = 11 ∨ r = 12 ∨ r = 13 ∨ r = 14 ∨ r = 15 := by omega
  rcases this with rfl | rfl | rfl | rfl | rfl | rfl | rfl | rfl | rfl | rfl | rfl | rfl | rfl | rfl | rfl | rfl <;> rfl
theorem hx_lt (r : Nat) (h : r < 16) : hx r < 256 := by unfold hx; split <;> omega
def hexS : Nat → Nat → ByteArray
  | 0, n => ⟨#[UInt8.ofNat (hx (n % 16))]⟩
  | k + 1, n => if n < 16 then ⟨#[UInt8.ofNat (hx (n % 16))]⟩ else hexS k (n / 16) ++ ⟨#[UInt8.ofNat (hx (n % 16))]⟩
theorem hexS_size (k n : Nat) : (hexS k n).size ≤ k + 1 := by
  induction k generalizing n with
  | zero => simp [hexS, ByteArray.size]
  | succ k ih =>
    unfold hexS; split
    · simp [ByteArray.size]
    · have := ih (n / 16); simp only [ByteArray.size_append]; show _ + 1 ≤ _; omega
theorem hexS_small (k n : Nat) (h : n < 16) : hexS k n = ⟨#[UInt8.ofNat (hx (n % 16))]⟩ := by
  cases k with
  | zero => rfl
  | succ k => unfold hexS; rw [if_pos h]

set_option maxRecDepth 100000 in
set_option maxHeartbeats 2000000 in
theorem l01Hex_c : ∀ (k n : Nat), k < 12 → n < 16 ^ (k + 1) → ∀ w : World, Calls Tryz.prog 79 #[.int .i64 n] w fun e w' => e = .returned (.string (hexS k n)) ∧ Below w.heap.size w w' := by
  intro k
  induction k with
  | zero =>
    intro n hk hn w
    have e1 : (n : Int).tmod 16 = (n % 16 : Nat) := by rw [Int.ofNat_tmod]; rfl
    have hlt : n < 16 := hn
    have cv := conv_cell (w.alloc (.cells #[.int .u8 (hx (n % 16) : Nat)] 5 (0, 0))) w.heap.size (hx (n % 16)) (hx_lt _ (by omega)) (cell_of_heap (heap_alloc_last w _) rfl)
    have hb : n % 16 < 16 := by omega
    go_enter Tryz.func79, Tryz.ntmps79
    go_wp2_with fail
    go_ret; exact ⟨rfl, bal1 _ _⟩
  | succ k ih =>
    intro n hk hn w
    have e1 : (n : Int).tmod 16 = (n % 16 : Nat) := by rw [Int.ofNat_tmod]; rfl
    have e2 : (n : Int).tdiv 16 = (n / 16 : Nat) := by rw [Int.ofNat_tdiv]; rfl
    have hb : n % 16 < 16 := by omega
    have cv := conv_cell (w.alloc (.cells #[.int .u8 (hx (n % 16) : Nat)] 5 (0, 0))) w.heap.size (hx (n % 16)) (hx_lt _ (by omega)) (cell_of_heap (heap_alloc_last w _) rfl)
    by_cases hlt : n < 16
    · go_enter Tryz.func79, Tryz.ntmps79
      go_wp2_with fail
      go_ret; exact ⟨by rw [hexS_small _ _ hlt]; rfl, bal1 _ _⟩
    · have hge : (16 : Int) ≤ n := by omega
      have hbig : n < 16 ^ 13 := Nat.lt_of_lt_of_le hn (Nat.pow_le_pow_right (by omega) (by omega))
      have e3 : IntKind.i64.wrap ((n : Int) / 16) = (n : Int) / 16 := by
        have h0 : ((n : Int) / 16) % (2 ^ 64 : Int) = (n : Int) / 16 := Int.emod_eq_of_lt (by omega) (by omega)
        show (if (true && decide (((n : Int) / 16) % (2 ^ 64 : Int) ≥ (2 ^ 63 : Int))) = true then ((n : Int) / 16) % (2 ^ 64 : Int) - 2 ^ 64 else ((n : Int) / 16) % (2 ^ 64 : Int)) = _
        rw [h0, if_neg (by simp only [Bool.true_and, decide_eq_true_eq]; omega)]
      have IH : Hid (∀ W, Calls Tryz.prog 79 #[.int .i64 ((n : Int) / 16)] W fun e w' => e = .returned (.string (hexS k (n / 16))) ∧ Below W.heap.size W w') := Lib.hid fun W =>
        ih (n / 16) (by omega) (by rw [Nat.pow_succ] at hn; exact Nat.div_lt_of_lt_mul (by omega)) W
      have hsz := hexS_size k (n / 16)
      have B := hx_lt (n % 16) hb
      have cvd := conv_cell (w.alloc (.cells #[.int .u8 (hx (n % 16) : Nat)] 5 (0, 0))).drew w.heap.size (hx (n % 16)) B (cell_of_heap (show (w.alloc (.cells #[.int .u8 (hx (n % 16) : Nat)] 5 (0, 0))).drew.heap[w.heap.size]? = _ from heap_alloc_last w _) rfl)
      clear ih e2
      go_enter Tryz.func79, Tryz.ntmps79
      go_wp2_with fail
      go_region_with (go_at_call 79; ((with_reducible refine (IH.out _).mono ?_)); rintro e w1 ⟨rfl, hb1⟩; first | have q1 := conv_cell w1 w.heap.size _ B (cell_of_heap (below_heap' hb1 (show (w.alloc (.cells #[.int .u8 (hx (n % 16) : Nat)] 5 (0, 0))).drew.heap[w.heap.size]? = _ from heap_alloc_last w _)) rfl) | have q1 := conv_cell (w1.alloc (.cells #[.int .u8 (hx (n % 16) : Nat)] 5 (0, 0))) w1.heap.size _ B (cell_of_heap (heap_alloc_last w1 _) rfl))
      all_goals
        go_wp2_with fail
        go_ret
        refine ⟨by rw [hexS, if_neg hlt]; rfl, ?_⟩
        first
          | exact (bnext ((Below.refl _ w).drew) hb1)
          | exact (bnext ((Below.refl _ w).drew) hb1).alloc (by have := hb1.size; exact this) _
          | exact bnext ((bal1 w _).drew) hb1
end Go.Proofs.YtdpdjcehobjohaaGreatDoor
