/- The texts of whole numbers in base 16 and in base 10. -/
import Derived.Test.YtdpdjcehobjohaaGreatDoorBs
namespace Go.Proofs.YtdpdjcehobjohaaGreatDoor
open Go Go.RowKit Go.BigFrame Fl

/-- What the library's table holds at the one place that is read. -/
def Tab (w : World) : Prop := w.cell? ⟨4, 15, none⟩ = some (.int .u8 4)
theorem Tab.below {w w' : World} (h : Tab w) (hb : Below w.heap.size w w') : Tab w' := (hb.cell (p := ⟨4, 15, none⟩) (block_lt_of_cell h)).trans h

theorem tz64b_c (w : World) (ht : Tab w) : Calls Tryz.prog 155 #[.int .u64 16] w fun e w' => e = .returned (.int .i64 4) ∧ w = w' := by
  have b1 : IntKind.u64.wrap (-16) = 18446744073709551600 := by decide
  have b2 : bits .and .u64 16 18446744073709551600 = 16 := by decide
  have b3 : IntKind.u64.wrap (16 * 285870213051353865) = 4573923408821661840 := by decide
  have c1 : w.cell? ⟨4, 15, none⟩ = some (.int .u8 4) := ht
  go_enter Tryz.func155, Tryz.ntmps155
  go_wp2_with fail
  go_ret; exact ⟨rfl, rfl⟩
theorem tz64_c (w : World) (ht : Tab w) : Calls Tryz.prog 132 #[.int .u64 16] w fun e w' => e = .returned (.int .i64 4) ∧ w = w' := by
  go_enter Tryz.func132, Tryz.ntmps132
  go_wp2_with (go_at_call 155; ((with_reducible refine (tz64b_c _ ht).mono ?_)); rintro e w' ⟨rfl, rfl⟩)
  go_ret; exact ⟨rfl, rfl⟩
theorem pow2_c (w : World) : Calls Tryz.prog 131 #[.int .i64 16] w fun e w' => e = .returned (.bool true) ∧ w = w' := by
  have b2 : bits .and .i64 16 15 = 0 := by decide
  go_enter Tryz.func131, Tryz.ntmps131
  go_wp2_with fail
  go_ret; exact ⟨rfl, rfl⟩


def hx (d : Nat) : Nat := if d < 10 then 48 + d else 87 + d
/-- 65 bytes -/
@[irreducible] def bufV (g : Nat → Nat) : Array Value := ((List.range 65).map fun p => Value.int .u8 (g p : Nat)).toArray
theorem bufV_eq (g : Nat → Nat) : bufV g = ((List.range 65).map fun p => Value.int .u8 (g p : Nat)).toArray := by unfold bufV; rfl
@[simp, go_sem] theorem bufV_size (g : Nat → Nat) : (bufV g).size = 65 := by rw [bufV_eq]; simp
theorem bufV_at (g : Nat → Nat) (p : Nat) (h : p < 65) : (bufV g)[p]? = some (.int .u8 (g p : Nat)) := by rw [bufV_eq]; simp [h]
theorem bufV_ext {g h : Nat → Nat} (e : ∀ p, p < 65 → g p = h p) : bufV g = bufV h := by
  rw [bufV_eq, bufV_eq]; congr 1; apply List.map_congr_left; intro i hi; rw [e i (List.mem_range.1 hi)]
theorem bufV_set (g : Nat → Nat) (i x : Nat) (h : i < 65) : (bufV g).setIfInBounds i (.int .u8 (x : Nat)) = bufV (updF g i x) := by
  rw [bufV_eq, bufV_eq]
  apply Array.ext_getElem?
  intro j
  rw [Array.getElem?_setIfInBounds]
  simp only [List.size_toArray, List.length_map, List.length_range, List.getElem?_toArray, List.getElem?_map]
  by_cases hj : j < 65
  · by_cases e : i = j
    · subst e; simp [updF, h]
    · have e2 : ¬ j = i := fun q => e q.symm
      simp [e, updF, e2, hj]
  · have e : ¬ i = j := by omega
    simp [e, hj]
/-- the last k digits of n -/
def hexG (n k : Nat) : Nat → Nat := fun p => if 65 - k ≤ p ∧ p < 65 then hx (n / 16 ^ (64 - p) % 16) else 0
theorem hexG_step (n k : Nat) (h : k < 65) : updF (hexG n k) (64 - k) (hx (n / 16 ^ k % 16)) = hexG n (k + 1) := by
  funext p; unfold updF hexG
  by_cases e : p = 64 - k
  · subst e; rw [if_pos rfl, if_pos (by omega), show 64 - (64 - k) = k by omega]
  · rw [if_neg e]; congr 1; apply propext; omega
theorem zero146 : Tryz.zeroCells146 = bufV (hexG 0 0) := by
  rw [bufV_ext (h := fun _ => 0) (fun p _ => by unfold hexG; rw [if_neg (by omega)]), bufV_eq]; rfl
theorem hexG_zero (n : Nat) : hexG n 0 = fun _ => 0 := by funext p; unfold hexG; rw [if_neg (by omega)]
@[go_sem] theorem dg0 (h : 0 < (⟨#[48, 49, 50, 51, 52, 53, 54, 55, 56, 57, 97, 98, 99, 100, 101, 102, 103, 104, 105, 106, 107, 108, 109, 110, 111, 112, 113, 114, 115, 116, 117, 118, 119, 120, 121, 122]⟩ : ByteArray).size) : (((⟨#[48, 49, 50, 51, 52, 53, 54, 55, 56, 57, 97, 98, 99, 100, 101, 102, 103, 104, 105, 106, 107, 108, 109, 110, 111, 112, 113, 114, 115, 116, 117, 118, 119, 120, 121, 122]⟩ : ByteArray)[0]'h).toNat : Int) = 48 := rfl
@[go_sem] theorem dg1 (h : 1 < (⟨#[48, 49, 50, 51, 52, 53, 54, 55, 56, 57, 97, 98, 99, 100, 101, 102, 103, 104, 105, 106, 107, 108, 109, 110, 111, 112, 113, 114, 115, 116, 117, 118, 119, 120, 121, 122]⟩ : ByteArray).size) : (((⟨#[48, 49, 50, 51, 52, 53, 54, 55, 56, 57, 97, 98, 99, 100, 101, 102, 103, 104, 105, 106, 107, 108, 109, 110, 111, 112, 113, 114, 115, 116, 117, 118, 119, 120, 121, 122]⟩ : ByteArray)[1]'h).toNat : Int) = 49 := rfl
@[go_sem] theorem dg2 (h : 2 < (⟨#[48, 49, 50, 51, 52, 53, 54, 55, 56, 57, 97, 98, 99, 100, 101, 102, 103, 104, 105, 106, 107, 108, 109, 110, 111, 112, 113, 114, 115, 116, 117, 118, 119, 120, 121, 122]⟩ : ByteArray).size) : (((⟨#[48, 49, 50, 51, 52, 53, 54, 55, 56, 57, 97, 98, 99, 100, 101, 102, 103, 104, 105, 106, 107, 108, 109, 110, 111, 112, 113, 114, 115, 116, 117, 118, 119, 120, 121, 122]⟩ : ByteArray)[2]'h).toNat : Int) = 50 := rfl
@[go_sem] theorem dg3 (h : 3 < (⟨#[48, 49, 50, 51, 52, 53, 54, 55, 56, 57, 97, 98, 99, 100, 101, 102, 103, 104, 105, 106, 107, 108, 109, 110, 111, 112, 113, 114, 115, 116, 117, 118, 119, 120, 121, 122]⟩ : ByteArray).size) : (((⟨#[48, 49, 50, 51, 52, 53, 54, 55, 56, 57, 97, 98, 99, 100, 101, 102, 103, 104, 105, 106, 107, 108, 109, 110, 111, 112, 113, 114, 115, 116, 117, 118, 119, 120, 121, 122]⟩ : ByteArray)[3]'h).toNat : Int) = 51 := rfl
@[go_sem] theorem dg4 (h : 4 < (⟨#[48, 49, 50, 51, 52, 53, 54, 55, 56, 57, 97, 98, 99, 100, 101, 102, 103, 104, 105, 106, 107, 108, 109, 110, 111, 112, 113, 114, 115, 116, 117, 118, 119, 120, 121, 122]⟩ : ByteArray).size) : (((⟨#[48, 49, 50, 51, 52, 53, 54, 55, 56, 57, 97, 98, 99, 100, 101, 102, 103, 104, 105, 106, 107, 108, 109, 110, 111, 112, 113, 114, 115, 116, 117, 118, 119, 120, 121, 122]⟩ : ByteArray)[4]'h).toNat : Int) = 52 := rfl
@[go_sem] theorem dg5 (h : 5 < (⟨#[48, 49, 50, 51, 52, 53, 54, 55, 56, 57, 97, 98, 99, 100, 101, 102, 103, 104, 105, 106, 107, 108, 109, 110, 111, 112, 113, 114, 115, 116, 117, 118, 119, 120, 121, 122]⟩ : ByteArray).size) : (((⟨#[48, 49, 50, 51, 52, 53, 54, 55, 56, 57, 97, 98, 99, 100, 101, 102, 103, 104, 105, 106, 107, 108, 109, 110, 111, 112, 113, 114, 115, 116, 117, 118, 119, 120, 121, 122]⟩ : ByteArray)[5]'h).toNat : Int) = 53 := rfl
@[go_sem] theorem dg6 (h : 6 < (⟨#[48, 49, 50, 51, 52, 53, 54, 55, 56, 57, 97, 98, 99, 100, 101, 102, 103, 104, 105, 106, 107, 108, 109, 110, 111, 112, 113, 114, 115, 116, 117, 118, 119, 120, 121, 122]⟩ : ByteArray).size) : (((⟨#[48, 49, 50, 51, 52, 53, 54, 55, 56, 57, 97, 98, 99, 100, 101, 102, 103, 104, 105, 106, 107, 108, 109, 110, 111, 112, 113, 114, 115, 116, 117, 118, 119, 120, 121, 122]⟩ : ByteArray)[6]'h).toNat : Int) = 54 := rfl
@[go_sem] theorem dg7 (h : 7 < (⟨#[48, 49, 50, 51, 52, 53, 54, 55, 56, 57, 97, 98, 99, 100, 101, 102, 103, 104, 105, 106, 107, 108, 109, 110, 111, 112, 113, 114, 115, 116, 117, 118, 119, 120, 121, 122]⟩ : ByteArray).size) : (((⟨#[48, 49, 50, 51, 52, 53, 54, 55, 56, 57, 97, 98, 99, 100, 101, 102, 103, 104, 105, 106, 107, 108, 109, 110, 111, 112, 113, 114, 115, 116, 117, 118, 119, 120, 121, 122]⟩ : ByteArray)[7]'h).toNat : Int) = 55 := rfl
@[go_sem] theorem dg8 (h : 8 < (⟨#[48, 49, 50, 51, 52, 53, 54, 55, 56, 57, 97, 98, 99, 100, 101, 102, 103, 104, 105, 106, 107, 108, 109, 110, 111, 112, 113, 114, 115, 116, 117, 118, 119, 120, 121, 122]⟩ : ByteArray).size) : (((⟨#[48, 49, 50, 51, 52, 53, 54, 55, 56, 57, 97, 98, 99, 100, 101, 102, 103, 104, 105, 106, 107, 108, 109, 110, 111, 112, 113, 114, 115, 116, 117, 118, 119, 120, 121, 122]⟩ : ByteArray)[8]'h).toNat : Int) = 56 := rfl
@[go_sem] theorem dg9 (h : 9 < (⟨#[48, 49, 50, 51, 52, 53, 54, 55, 56, 57, 97, 98, 99, 100, 101, 102, 103, 104, 105, 106, 107, 108, 109, 110, 111, 112, 113, 114, 115, 116, 117, 118, 119, 120, 121, 122]⟩ : ByteArray).size) : (((⟨#[48, 49, 50, 51, 52, 53, 54, 55, 56, 57, 97, 98, 99, 100, 101, 102, 103, 104, 105, 106, 107, 108, 109, 110, 111, 112, 113, 114, 115, 116, 117, 118, 119, 120, 121, 122]⟩ : ByteArray)[9]'h).toNat : Int) = 57 := rfl
@[go_sem] theorem dg10 (h : 10 < (⟨#[48, 49, 50, 51, 52, 53, 54, 55, 56, 57, 97, 98, 99, 100, 101, 102, 103, 104, 105, 106, 107, 108, 109, 110, 111, 112, 113, 114, 115, 116, 117, 118, 119, 120, 121, 122]⟩ : ByteArray).size) : (((⟨#[48, 49, 50, 51, 52, 53, 54, 55, 56, 57, 97, 98, 99, 100, 101, 102, 103, 104, 105, 106, 107, 108, 109, 110, 111, 112, 113, 114, 115, 116, 117, 118, 119, 120, 121, 122]⟩ : ByteArray)[10]'h).toNat : Int) = 97 := rfl
@[go_sem] theorem dg11 (h : 11 < (⟨#[48, 49, 50, 51, 52, 53, 54, 55, 56, 57, 97, 98, 99, 100, 101, 102, 103, 104, 105, 106, 107, 108, 109, 110, 111, 112, 113, 114, 115, 116, 117, 118, 119, 120, 121, 122]⟩ : ByteArray).size) : (((⟨#[48, 49, 50, 51, 52, 53, 54, 55, 56, 57, 97, 98, 99, 100, 101, 102, 103, 104, 105, 106, 107, 108, 109, 110, 111, 112, 113, 114, 115, 116, 117, 118, 119, 120, 121, 122]⟩ : ByteArray)[11]'h).toNat : Int) = 98 := rfl
@[go_sem] theorem dg12 (h : 12 < (⟨#[48, 49, 50, 51, 52, 53, 54, 55, 56, 57, 97, 98, 99, 100, 101, 102, 103, 104, 105, 106, 107, 108, 109, 110, 111, 112, 113, 114, 115, 116, 117, 118, 119, 120, 121, 122]⟩ : ByteArray).size) : (((⟨#[48, 49, 50, 51, 52, 53, 54, 55, 56, 57, 97, 98, 99, 100, 101, 102, 103, 104, 105, 106, 107, 108, 109, 110, 111, 112, 113, 114, 115, 116, 117, 118, 119, 120, 121, 122]⟩ : ByteArray)[12]'h).toNat : Int) = 99 := rfl
@[go_sem] theorem dg13 (h : 13 < (⟨#[48, 49, 50, 51, 52, 53, 54, 55, 56, 57, 97, 98, 99, 100, 101, 102, 103, 104, 105, 106, 107, 108, 109, 110, 111, 112, 113, 114, 115, 116, 117, 118, 119, 120, 121, 122]⟩ : ByteArray).size) : (((⟨#[48, 49, 50, 51, 52, 53, 54, 55, 56, 57, 97, 98, 99, 100, 101, 102, 103, 104, 105, 106, 107, 108, 109, 110, 111, 112, 113, 114, 115, 116, 117, 118, 119, 120, 121, 122]⟩ : ByteArray)[13]'h).toNat : Int) = 100 := rfl
@[go_sem] theorem dg14 (h : 14 < (⟨#[48, 49, 50, 51, 52, 53, 54, 55, 56, 57, 97, 98, 99, 100, 101, 102, 103, 104, 105, 106, 107, 108, 109, 110, 111, 112, 113, 114, 115, 116, 117, 118, 119, 120, 121, 122]⟩ : ByteArray).size) : (((⟨#[48, 49, 50, 51, 52, 53, 54, 55, 56, 57, 97, 98, 99, 100, 101, 102, 103, 104, 105, 106, 107, 108, 109, 110, 111, 112, 113, 114, 115, 116, 117, 118, 119, 120, 121, 122]⟩ : ByteArray)[14]'h).toNat : Int) = 101 := rfl
@[go_sem] theorem dg15 (h : 15 < (⟨#[48, 49, 50, 51, 52, 53, 54, 55, 56, 57, 97, 98, 99, 100, 101, 102, 103, 104, 105, 106, 107, 108, 109, 110, 111, 112, 113, 114, 115, 116, 117, 118, 119, 120, 121, 122]⟩ : ByteArray).size) : (((⟨#[48, 49, 50, 51, 52, 53, 54, 55, 56, 57, 97, 98, 99, 100, 101, 102, 103, 104, 105, 106, 107, 108, 109, 110, 111, 112, 113, 114, 115, 116, 117, 118, 119, 120, 121, 122]⟩ : ByteArray)[15]'h).toNat : Int) = 102 := rfl

set_option maxRecDepth 100000 in
set_option maxHeartbeats 4000000 in
theorem fbits_p0 (w : World) (ht : Tab w) : Calls Tryz.prog 105 #[.slice none 0 0, .int .u64 0, .int .i64 16, .bool false, .bool false] w fun e w' => e = .returned (.tuple #[.slice none 0 0, .string ⟨#[48]⟩]) ∧ Below w.heap.size w w' := by
  have HT := Lib.hid ht
  clear ht
  go_enter Tryz.func105, Tryz.ntmps105
  go_wp2_with (first
    | (go_at_call 131; ((with_reducible refine (pow2_c _).mono ?_)); rintro e w' ⟨rfl, rfl⟩)
    | (go_at_call 132; ((with_reducible refine (tz64_c _ (HT.out.below (bal1 _ _))).mono ?_)); rintro e w' ⟨rfl, rfl⟩))
  go_loopw [1, 13] (fun u i wr => ∃ k : Nat, k ≤ 0 ∧ u = .int .u64 (0 / 16 ^ k : Nat) ∧ i = .int .i64 (65 - k : Nat) ∧ Below w.heap.size w wr ∧ wr.heap[w.heap.size]? = some (.cells (bufV (hexG 0 k)) 146 (0, 0))) (fun u _ _ => (intOf u).toNat)
  case atStart => exact ⟨0, by omega, rfl, rfl, bal1 _ _, by rw [al_new _ rfl, zero146]; try simp only [hexG_zero]⟩
  case round =>
    obtain ⟨k, hk, hu, hi, hb, hh⟩ := hrel
    obtain rfl : k = 0 := by omega
    · replace hu : _ = Value.int .u64 0 := hu
      replace hi : _ = Value.int .i64 65 := hi
      subst hu; subst hi
      have A : bits .and .u64 0 15 = 0 := by decide
      have HB := Lib.hid hb
      have HH := Lib.hid hh
      have c1 := cell_of_heap hh (bufV_at _ 64 (by omega))
      have f1 := frozen_of_row wr w.heap.size 64 _ _ hh
      have HX : Hid ((wr.setCell ⟨w.heap.size, 64, none⟩ (.int .u8 48)).heap[w.heap.size]? = some (.cells (bufV (hexG 0 1)) 146 (0, 0))) := Lib.hid (by
        have q := heap_setCell_same wr w.heap.size 64 _ _ (.int .u8 (48 : Nat)) hh
        rw [bufV_set _ _ _ (by omega)] at q
        rw [← hexG_step 0 0 (by omega)]; exact q)
      have cv1 : (convert 22 9 (.slice (some ⟨w.heap.size, 64, none⟩) 1 1)).run Tryz.prog (wr.setCell ⟨w.heap.size, 64, none⟩ (.int .u8 48)) = .ok (.string ⟨#[48]⟩) (wr.setCell ⟨w.heap.size, 64, none⟩ (.int .u8 48)) :=
        run_convert_bytes_back _ 22 9 5 ⟨w.heap.size, 64, none⟩ 1 [48] Tryz.underlying22 Tryz.underlying5 Tryz.underlying9 (fun j hj => by
          have hj' : j < 1 := hj
          have hadd : (⟨w.heap.size, 64, none⟩ : Addr).add j = ⟨w.heap.size, 64 + j, none⟩ := by unfold Addr.add; split <;> simp_all
          rw [hadd, cell_of_heap HX.out (bufV_at (hexG 0 1) (64 + j) (by omega))]
          obtain rfl : j = 0 := by omega
          all_goals rfl)
      clear hb hh
      go_wp2_with fail
      go_ret2; exact ⟨rfl, HB.out.setCell (Nat.le_refl _) _⟩


set_option maxRecDepth 100000 in
set_option maxHeartbeats 4000000 in
theorem fbits_p1 (w : World) (ht : Tab w) : Calls Tryz.prog 105 #[.slice none 0 0, .int .u64 1065353216, .int .i64 16, .bool false, .bool false] w fun e w' => e = .returned (.tuple #[.slice none 0 0, .string ⟨#[51,102,56,48,48,48,48,48]⟩]) ∧ Below w.heap.size w w' := by
  have HT := Lib.hid ht
  clear ht
  go_enter Tryz.func105, Tryz.ntmps105
  go_wp2_with (first
    | (go_at_call 131; ((with_reducible refine (pow2_c _).mono ?_)); rintro e w' ⟨rfl, rfl⟩)
    | (go_at_call 132; ((with_reducible refine (tz64_c _ (HT.out.below (bal1 _ _))).mono ?_)); rintro e w' ⟨rfl, rfl⟩))
  go_loopw [1, 13] (fun u i wr => ∃ k : Nat, k ≤ 7 ∧ u = .int .u64 (1065353216 / 16 ^ k : Nat) ∧ i = .int .i64 (65 - k : Nat) ∧ Below w.heap.size w wr ∧ wr.heap[w.heap.size]? = some (.cells (bufV (hexG 1065353216 k)) 146 (0, 0))) (fun u _ _ => (intOf u).toNat)
  case atStart => exact ⟨0, by omega, rfl, rfl, bal1 _ _, by rw [al_new _ rfl, zero146]; try simp only [hexG_zero]⟩
  case round =>
    obtain ⟨k, hk, hu, hi, hb, hh⟩ := hrel
    obtain rfl | rfl | rfl | rfl | rfl | rfl | rfl | rfl : k = 0 ∨ k = 1 ∨ k = 2 ∨ k = 3 ∨ k = 4 ∨ k = 5 ∨ k = 6 ∨ k = 7 := by omega
    · replace hu : _ = Value.int .u64 1065353216 := hu
      replace hi : _ = Value.int .i64 65 := hi
      subst hu; subst hi
      have A : bits .and .u64 1065353216 15 = 0 := by decide
      have HB := Lib.hid hb
      have HH := Lib.hid hh
      have c1 := cell_of_heap hh (bufV_at _ 64 (by omega))
      have f1 := frozen_of_row wr w.heap.size 64 _ _ hh
      clear hb hh
      go_wp2_with fail
      refine ⟨⟨1, by omega, rfl, rfl, HB.out.setCell (Nat.le_refl _) _, ?_⟩, by simp [intOf]⟩
      have q := heap_setCell_same wr w.heap.size 64 _ _ (.int .u8 (48 : Nat)) HH.out
      rw [bufV_set _ _ _ (by omega)] at q
      rw [← hexG_step 1065353216 0 (by omega)]; exact q
    · replace hu : _ = Value.int .u64 66584576 := hu
      replace hi : _ = Value.int .i64 64 := hi
      subst hu; subst hi
      have A : bits .and .u64 66584576 15 = 0 := by decide
      have HB := Lib.hid hb
      have HH := Lib.hid hh
      have c1 := cell_of_heap hh (bufV_at _ 63 (by omega))
      have f1 := frozen_of_row wr w.heap.size 63 _ _ hh
      clear hb hh
      go_wp2_with fail
      refine ⟨⟨2, by omega, rfl, rfl, HB.out.setCell (Nat.le_refl _) _, ?_⟩, by simp [intOf]⟩
      have q := heap_setCell_same wr w.heap.size 63 _ _ (.int .u8 (48 : Nat)) HH.out
      rw [bufV_set _ _ _ (by omega)] at q
      rw [← hexG_step 1065353216 1 (by omega)]; exact q
    · replace hu : _ = Value.int .u64 4161536 := hu
      replace hi : _ = Value.int .i64 63 := hi
      subst hu; subst hi
      have A : bits .and .u64 4161536 15 = 0 := by decide
      have HB := Lib.hid hb
      have HH := Lib.hid hh
      have c1 := cell_of_heap hh (bufV_at _ 62 (by omega))
      have f1 := frozen_of_row wr w.heap.size 62 _ _ hh
      clear hb hh
      go_wp2_with fail
      refine ⟨⟨3, by omega, rfl, rfl, HB.out.setCell (Nat.le_refl _) _, ?_⟩, by simp [intOf]⟩
      have q := heap_setCell_same wr w.heap.size 62 _ _ (.int .u8 (48 : Nat)) HH.out
      rw [bufV_set _ _ _ (by omega)] at q
      rw [← hexG_step 1065353216 2 (by omega)]; exact q
    · replace hu : _ = Value.int .u64 260096 := hu
      replace hi : _ = Value.int .i64 62 := hi
      subst hu; subst hi
      have A : bits .and .u64 260096 15 = 0 := by decide
      have HB := Lib.hid hb
      have HH := Lib.hid hh
      have c1 := cell_of_heap hh (bufV_at _ 61 (by omega))
      have f1 := frozen_of_row wr w.heap.size 61 _ _ hh
      clear hb hh
      go_wp2_with fail
      refine ⟨⟨4, by omega, rfl, rfl, HB.out.setCell (Nat.le_refl _) _, ?_⟩, by simp [intOf]⟩
      have q := heap_setCell_same wr w.heap.size 61 _ _ (.int .u8 (48 : Nat)) HH.out
      rw [bufV_set _ _ _ (by omega)] at q
      rw [← hexG_step 1065353216 3 (by omega)]; exact q
    · replace hu : _ = Value.int .u64 16256 := hu
      replace hi : _ = Value.int .i64 61 := hi
      subst hu; subst hi
      have A : bits .and .u64 16256 15 = 0 := by decide
      have HB := Lib.hid hb
      have HH := Lib.hid hh
      have c1 := cell_of_heap hh (bufV_at _ 60 (by omega))
      have f1 := frozen_of_row wr w.heap.size 60 _ _ hh
      clear hb hh
      go_wp2_with fail
      refine ⟨⟨5, by omega, rfl, rfl, HB.out.setCell (Nat.le_refl _) _, ?_⟩, by simp [intOf]⟩
      have q := heap_setCell_same wr w.heap.size 60 _ _ (.int .u8 (48 : Nat)) HH.out
      rw [bufV_set _ _ _ (by omega)] at q
      rw [← hexG_step 1065353216 4 (by omega)]; exact q
    · replace hu : _ = Value.int .u64 1016 := hu
      replace hi : _ = Value.int .i64 60 := hi
      subst hu; subst hi
      have A : bits .and .u64 1016 15 = 8 := by decide
      have HB := Lib.hid hb
      have HH := Lib.hid hh
      have c1 := cell_of_heap hh (bufV_at _ 59 (by omega))
      have f1 := frozen_of_row wr w.heap.size 59 _ _ hh
      clear hb hh
      go_wp2_with fail
      refine ⟨⟨6, by omega, rfl, rfl, HB.out.setCell (Nat.le_refl _) _, ?_⟩, by simp [intOf]⟩
      have q := heap_setCell_same wr w.heap.size 59 _ _ (.int .u8 (56 : Nat)) HH.out
      rw [bufV_set _ _ _ (by omega)] at q
      rw [← hexG_step 1065353216 5 (by omega)]; exact q
    · replace hu : _ = Value.int .u64 63 := hu
      replace hi : _ = Value.int .i64 59 := hi
      subst hu; subst hi
      have A : bits .and .u64 63 15 = 15 := by decide
      have HB := Lib.hid hb
      have HH := Lib.hid hh
      have c1 := cell_of_heap hh (bufV_at _ 58 (by omega))
      have f1 := frozen_of_row wr w.heap.size 58 _ _ hh
      clear hb hh
      go_wp2_with fail
      refine ⟨⟨7, by omega, rfl, rfl, HB.out.setCell (Nat.le_refl _) _, ?_⟩, by simp [intOf]⟩
      have q := heap_setCell_same wr w.heap.size 58 _ _ (.int .u8 (102 : Nat)) HH.out
      rw [bufV_set _ _ _ (by omega)] at q
      rw [← hexG_step 1065353216 6 (by omega)]; exact q
    · replace hu : _ = Value.int .u64 3 := hu
      replace hi : _ = Value.int .i64 58 := hi
      subst hu; subst hi
      have A : bits .and .u64 3 15 = 3 := by decide
      have HB := Lib.hid hb
      have HH := Lib.hid hh
      have c1 := cell_of_heap hh (bufV_at _ 57 (by omega))
      have f1 := frozen_of_row wr w.heap.size 57 _ _ hh
      have HX : Hid ((wr.setCell ⟨w.heap.size, 57, none⟩ (.int .u8 51)).heap[w.heap.size]? = some (.cells (bufV (hexG 1065353216 8)) 146 (0, 0))) := Lib.hid (by
        have q := heap_setCell_same wr w.heap.size 57 _ _ (.int .u8 (51 : Nat)) hh
        rw [bufV_set _ _ _ (by omega)] at q
        rw [← hexG_step 1065353216 7 (by omega)]; exact q)
      have cv1 : (convert 22 9 (.slice (some ⟨w.heap.size, 57, none⟩) 8 8)).run Tryz.prog (wr.setCell ⟨w.heap.size, 57, none⟩ (.int .u8 51)) = .ok (.string ⟨#[51,102,56,48,48,48,48,48]⟩) (wr.setCell ⟨w.heap.size, 57, none⟩ (.int .u8 51)) :=
        run_convert_bytes_back _ 22 9 5 ⟨w.heap.size, 57, none⟩ 8 [51,102,56,48,48,48,48,48] Tryz.underlying22 Tryz.underlying5 Tryz.underlying9 (fun j hj => by
          have hj' : j < 8 := hj
          have hadd : (⟨w.heap.size, 57, none⟩ : Addr).add j = ⟨w.heap.size, 57 + j, none⟩ := by unfold Addr.add; split <;> simp_all
          rw [hadd, cell_of_heap HX.out (bufV_at (hexG 1065353216 8) (57 + j) (by omega))]
          obtain rfl | rfl | rfl | rfl | rfl | rfl | rfl | rfl : j = 0 ∨ j = 1 ∨ j = 2 ∨ j = 3 ∨ j = 4 ∨ j = 5 ∨ j = 6 ∨ j = 7 := by omega
          all_goals rfl)
      clear hb hh
      go_wp2_with fail
      go_ret2; exact ⟨rfl, HB.out.setCell (Nat.le_refl _) _⟩


set_option maxRecDepth 100000 in
set_option maxHeartbeats 4000000 in
theorem fbits_p2 (w : World) (ht : Tab w) : Calls Tryz.prog 105 #[.slice none 0 0, .int .u64 1073741824, .int .i64 16, .bool false, .bool false] w fun e w' => e = .returned (.tuple #[.slice none 0 0, .string ⟨#[52,48,48,48,48,48,48,48]⟩]) ∧ Below w.heap.size w w' := by
  have HT := Lib.hid ht
  clear ht
  go_enter Tryz.func105, Tryz.ntmps105
  go_wp2_with (first
    | (go_at_call 131; ((with_reducible refine (pow2_c _).mono ?_)); rintro e w' ⟨rfl, rfl⟩)
    | (go_at_call 132; ((with_reducible refine (tz64_c _ (HT.out.below (bal1 _ _))).mono ?_)); rintro e w' ⟨rfl, rfl⟩))
  go_loopw [1, 13] (fun u i wr => ∃ k : Nat, k ≤ 7 ∧ u = .int .u64 (1073741824 / 16 ^ k : Nat) ∧ i = .int .i64 (65 - k : Nat) ∧ Below w.heap.size w wr ∧ wr.heap[w.heap.size]? = some (.cells (bufV (hexG 1073741824 k)) 146 (0, 0))) (fun u _ _ => (intOf u).toNat)
  case atStart => exact ⟨0, by omega, rfl, rfl, bal1 _ _, by rw [al_new _ rfl, zero146]; try simp only [hexG_zero]⟩
  case round =>
    obtain ⟨k, hk, hu, hi, hb, hh⟩ := hrel
    obtain rfl | rfl | rfl | rfl | rfl | rfl | rfl | rfl : k = 0 ∨ k = 1 ∨ k = 2 ∨ k = 3 ∨ k = 4 ∨ k = 5 ∨ k = 6 ∨ k = 7 := by omega
    · replace hu : _ = Value.int .u64 1073741824 := hu
      replace hi : _ = Value.int .i64 65 := hi
      subst hu; subst hi
      have A : bits .and .u64 1073741824 15 = 0 := by decide
      have HB := Lib.hid hb
      have HH := Lib.hid hh
      have c1 := cell_of_heap hh (bufV_at _ 64 (by omega))
      have f1 := frozen_of_row wr w.heap.size 64 _ _ hh
      clear hb hh
      go_wp2_with fail
      refine ⟨⟨1, by omega, rfl, rfl, HB.out.setCell (Nat.le_refl _) _, ?_⟩, by simp [intOf]⟩
      have q := heap_setCell_same wr w.heap.size 64 _ _ (.int .u8 (48 : Nat)) HH.out
      rw [bufV_set _ _ _ (by omega)] at q
      rw [← hexG_step 1073741824 0 (by omega)]; exact q
    · replace hu : _ = Value.int .u64 67108864 := hu
      replace hi : _ = Value.int .i64 64 := hi
      subst hu; subst hi
      have A : bits .and .u64 67108864 15 = 0 := by decide
      have HB := Lib.hid hb
      have HH := Lib.hid hh
      have c1 := cell_of_heap hh (bufV_at _ 63 (by omega))
      have f1 := frozen_of_row wr w.heap.size 63 _ _ hh
      clear hb hh
      go_wp2_with fail
      refine ⟨⟨2, by omega, rfl, rfl, HB.out.setCell (Nat.le_refl _) _, ?_⟩, by simp [intOf]⟩
      have q := heap_setCell_same wr w.heap.size 63 _ _ (.int .u8 (48 : Nat)) HH.out
      rw [bufV_set _ _ _ (by omega)] at q
      rw [← hexG_step 1073741824 1 (by omega)]; exact q
    · replace hu : _ = Value.int .u64 4194304 := hu
      replace hi : _ = Value.int .i64 63 := hi
      subst hu; subst hi
      have A : bits .and .u64 4194304 15 = 0 := by decide
      have HB := Lib.hid hb
      have HH := Lib.hid hh
      have c1 := cell_of_heap hh (bufV_at _ 62 (by omega))
      have f1 := frozen_of_row wr w.heap.size 62 _ _ hh
      clear hb hh
      go_wp2_with fail
      refine ⟨⟨3, by omega, rfl, rfl, HB.out.setCell (Nat.le_refl _) _, ?_⟩, by simp [intOf]⟩
      have q := heap_setCell_same wr w.heap.size 62 _ _ (.int .u8 (48 : Nat)) HH.out
      rw [bufV_set _ _ _ (by omega)] at q
      rw [← hexG_step 1073741824 2 (by omega)]; exact q
    · replace hu : _ = Value.int .u64 262144 := hu
      replace hi : _ = Value.int .i64 62 := hi
      subst hu; subst hi
      have A : bits .and .u64 262144 15 = 0 := by decide
      have HB := Lib.hid hb
      have HH := Lib.hid hh
      have c1 := cell_of_heap hh (bufV_at _ 61 (by omega))
      have f1 := frozen_of_row wr w.heap.size 61 _ _ hh
      clear hb hh
      go_wp2_with fail
      refine ⟨⟨4, by omega, rfl, rfl, HB.out.setCell (Nat.le_refl _) _, ?_⟩, by simp [intOf]⟩
      have q := heap_setCell_same wr w.heap.size 61 _ _ (.int .u8 (48 : Nat)) HH.out
      rw [bufV_set _ _ _ (by omega)] at q
      rw [← hexG_step 1073741824 3 (by omega)]; exact q
    · replace hu : _ = Value.int .u64 16384 := hu
      replace hi : _ = Value.int .i64 61 := hi
      subst hu; subst hi
      have A : bits .and .u64 16384 15 = 0 := by decide
      have HB := Lib.hid hb
      have HH := Lib.hid hh
      have c1 := cell_of_heap hh (bufV_at _ 60 (by omega))
      have f1 := frozen_of_row wr w.heap.size 60 _ _ hh
      clear hb hh
      go_wp2_with fail
      refine ⟨⟨5, by omega, rfl, rfl, HB.out.setCell (Nat.le_refl _) _, ?_⟩, by simp [intOf]⟩
      have q := heap_setCell_same wr w.heap.size 60 _ _ (.int .u8 (48 : Nat)) HH.out
      rw [bufV_set _ _ _ (by omega)] at q
      rw [← hexG_step 1073741824 4 (by omega)]; exact q
    · replace hu : _ = Value.int .u64 1024 := hu
      replace hi : _ = Value.int .i64 60 := hi
      subst hu; subst hi
      have A : bits .and .u64 1024 15 = 0 := by decide
      have HB := Lib.hid hb
      have HH := Lib.hid hh
      have c1 := cell_of_heap hh (bufV_at _ 59 (by omega))
      have f1 := frozen_of_row wr w.heap.size 59 _ _ hh
      clear hb hh
      go_wp2_with fail
      refine ⟨⟨6, by omega, rfl, rfl, HB.out.setCell (Nat.le_refl _) _, ?_⟩, by simp [intOf]⟩
      have q := heap_setCell_same wr w.heap.size 59 _ _ (.int .u8 (48 : Nat)) HH.out
      rw [bufV_set _ _ _ (by omega)] at q
      rw [← hexG_step 1073741824 5 (by omega)]; exact q
    · replace hu : _ = Value.int .u64 64 := hu
      replace hi : _ = Value.int .i64 59 := hi
      subst hu; subst hi
      have A : bits .and .u64 64 15 = 0 := by decide
      have HB := Lib.hid hb
      have HH := Lib.hid hh
      have c1 := cell_of_heap hh (bufV_at _ 58 (by omega))
      have f1 := frozen_of_row wr w.heap.size 58 _ _ hh
      clear hb hh
      go_wp2_with fail
      refine ⟨⟨7, by omega, rfl, rfl, HB.out.setCell (Nat.le_refl _) _, ?_⟩, by simp [intOf]⟩
      have q := heap_setCell_same wr w.heap.size 58 _ _ (.int .u8 (48 : Nat)) HH.out
      rw [bufV_set _ _ _ (by omega)] at q
      rw [← hexG_step 1073741824 6 (by omega)]; exact q
    · replace hu : _ = Value.int .u64 4 := hu
      replace hi : _ = Value.int .i64 58 := hi
      subst hu; subst hi
      have A : bits .and .u64 4 15 = 4 := by decide
      have HB := Lib.hid hb
      have HH := Lib.hid hh
      have c1 := cell_of_heap hh (bufV_at _ 57 (by omega))
      have f1 := frozen_of_row wr w.heap.size 57 _ _ hh
      have HX : Hid ((wr.setCell ⟨w.heap.size, 57, none⟩ (.int .u8 52)).heap[w.heap.size]? = some (.cells (bufV (hexG 1073741824 8)) 146 (0, 0))) := Lib.hid (by
        have q := heap_setCell_same wr w.heap.size 57 _ _ (.int .u8 (52 : Nat)) hh
        rw [bufV_set _ _ _ (by omega)] at q
        rw [← hexG_step 1073741824 7 (by omega)]; exact q)
      have cv1 : (convert 22 9 (.slice (some ⟨w.heap.size, 57, none⟩) 8 8)).run Tryz.prog (wr.setCell ⟨w.heap.size, 57, none⟩ (.int .u8 52)) = .ok (.string ⟨#[52,48,48,48,48,48,48,48]⟩) (wr.setCell ⟨w.heap.size, 57, none⟩ (.int .u8 52)) :=
        run_convert_bytes_back _ 22 9 5 ⟨w.heap.size, 57, none⟩ 8 [52,48,48,48,48,48,48,48] Tryz.underlying22 Tryz.underlying5 Tryz.underlying9 (fun j hj => by
          have hj' : j < 8 := hj
          have hadd : (⟨w.heap.size, 57, none⟩ : Addr).add j = ⟨w.heap.size, 57 + j, none⟩ := by unfold Addr.add; split <;> simp_all
          rw [hadd, cell_of_heap HX.out (bufV_at (hexG 1073741824 8) (57 + j) (by omega))]
          obtain rfl | rfl | rfl | rfl | rfl | rfl | rfl | rfl : j = 0 ∨ j = 1 ∨ j = 2 ∨ j = 3 ∨ j = 4 ∨ j = 5 ∨ j = 6 ∨ j = 7 := by omega
          all_goals rfl)
      clear hb hh
      go_wp2_with fail
      go_ret2; exact ⟨rfl, HB.out.setCell (Nat.le_refl _) _⟩


set_option maxRecDepth 100000 in
set_option maxHeartbeats 4000000 in
theorem fbits_p3 (w : World) (ht : Tab w) : Calls Tryz.prog 105 #[.slice none 0 0, .int .u64 1077936128, .int .i64 16, .bool false, .bool false] w fun e w' => e = .returned (.tuple #[.slice none 0 0, .string ⟨#[52,48,52,48,48,48,48,48]⟩]) ∧ Below w.heap.size w w' := by
  have HT := Lib.hid ht
  clear ht
  go_enter Tryz.func105, Tryz.ntmps105
  go_wp2_with (first
    | (go_at_call 131; ((with_reducible refine (pow2_c _).mono ?_)); rintro e w' ⟨rfl, rfl⟩)
    | (go_at_call 132; ((with_reducible refine (tz64_c _ (HT.out.below (bal1 _ _))).mono ?_)); rintro e w' ⟨rfl, rfl⟩))
  go_loopw [1, 13] (fun u i wr => ∃ k : Nat, k ≤ 7 ∧ u = .int .u64 (1077936128 / 16 ^ k : Nat) ∧ i = .int .i64 (65 - k : Nat) ∧ Below w.heap.size w wr ∧ wr.heap[w.heap.size]? = some (.cells (bufV (hexG 1077936128 k)) 146 (0, 0))) (fun u _ _ => (intOf u).toNat)
  case atStart => exact ⟨0, by omega, rfl, rfl, bal1 _ _, by rw [al_new _ rfl, zero146]; try simp only [hexG_zero]⟩
  case round =>
    obtain ⟨k, hk, hu, hi, hb, hh⟩ := hrel
    obtain rfl | rfl | rfl | rfl | rfl | rfl | rfl | rfl : k = 0 ∨ k = 1 ∨ k = 2 ∨ k = 3 ∨ k = 4 ∨ k = 5 ∨ k = 6 ∨ k = 7 := by omega
    · replace hu : _ = Value.int .u64 1077936128 := hu
      replace hi : _ = Value.int .i64 65 := hi
      subst hu; subst hi
      have A : bits .and .u64 1077936128 15 = 0 := by decide
      have HB := Lib.hid hb
      have HH := Lib.hid hh
      have c1 := cell_of_heap hh (bufV_at _ 64 (by omega))
      have f1 := frozen_of_row wr w.heap.size 64 _ _ hh
      clear hb hh
      go_wp2_with fail
      refine ⟨⟨1, by omega, rfl, rfl, HB.out.setCell (Nat.le_refl _) _, ?_⟩, by simp [intOf]⟩
      have q := heap_setCell_same wr w.heap.size 64 _ _ (.int .u8 (48 : Nat)) HH.out
      rw [bufV_set _ _ _ (by omega)] at q
      rw [← hexG_step 1077936128 0 (by omega)]; exact q
    · replace hu : _ = Value.int .u64 67371008 := hu
      replace hi : _ = Value.int .i64 64 := hi
      subst hu; subst hi
      have A : bits .and .u64 67371008 15 = 0 := by decide
      have HB := Lib.hid hb
      have HH := Lib.hid hh
      have c1 := cell_of_heap hh (bufV_at _ 63 (by omega))
      have f1 := frozen_of_row wr w.heap.size 63 _ _ hh
      clear hb hh
      go_wp2_with fail
      refine ⟨⟨2, by omega, rfl, rfl, HB.out.setCell (Nat.le_refl _) _, ?_⟩, by simp [intOf]⟩
      have q := heap_setCell_same wr w.heap.size 63 _ _ (.int .u8 (48 : Nat)) HH.out
      rw [bufV_set _ _ _ (by omega)] at q
      rw [← hexG_step 1077936128 1 (by omega)]; exact q
    · replace hu : _ = Value.int .u64 4210688 := hu
      replace hi : _ = Value.int .i64 63 := hi
      subst hu; subst hi
      have A : bits .and .u64 4210688 15 = 0 := by decide
      have HB := Lib.hid hb
      have HH := Lib.hid hh
      have c1 := cell_of_heap hh (bufV_at _ 62 (by omega))
      have f1 := frozen_of_row wr w.heap.size 62 _ _ hh
      clear hb hh
      go_wp2_with fail
      refine ⟨⟨3, by omega, rfl, rfl, HB.out.setCell (Nat.le_refl _) _, ?_⟩, by simp [intOf]⟩
      have q := heap_setCell_same wr w.heap.size 62 _ _ (.int .u8 (48 : Nat)) HH.out
      rw [bufV_set _ _ _ (by omega)] at q
      rw [← hexG_step 1077936128 2 (by omega)]; exact q
    · replace hu : _ = Value.int .u64 263168 := hu
      replace hi : _ = Value.int .i64 62 := hi
      subst hu; subst hi
      have A : bits .and .u64 263168 15 = 0 := by decide
      have HB := Lib.hid hb
      have HH := Lib.hid hh
      have c1 := cell_of_heap hh (bufV_at _ 61 (by omega))
      have f1 := frozen_of_row wr w.heap.size 61 _ _ hh
      clear hb hh
      go_wp2_with fail
      refine ⟨⟨4, by omega, rfl, rfl, HB.out.setCell (Nat.le_refl _) _, ?_⟩, by simp [intOf]⟩
      have q := heap_setCell_same wr w.heap.size 61 _ _ (.int .u8 (48 : Nat)) HH.out
      rw [bufV_set _ _ _ (by omega)] at q
      rw [← hexG_step 1077936128 3 (by omega)]; exact q
    · replace hu : _ = Value.int .u64 16448 := hu
      replace hi : _ = Value.int .i64 61 := hi
      subst hu; subst hi
      have A : bits .and .u64 16448 15 = 0 := by decide
      have HB := Lib.hid hb
      have HH := Lib.hid hh
      have c1 := cell_of_heap hh (bufV_at _ 60 (by omega))
      have f1 := frozen_of_row wr w.heap.size 60 _ _ hh
      clear hb hh
      go_wp2_with fail
      refine ⟨⟨5, by omega, rfl, rfl, HB.out.setCell (Nat.le_refl _) _, ?_⟩, by simp [intOf]⟩
      have q := heap_setCell_same wr w.heap.size 60 _ _ (.int .u8 (48 : Nat)) HH.out
      rw [bufV_set _ _ _ (by omega)] at q
      rw [← hexG_step 1077936128 4 (by omega)]; exact q
    · replace hu : _ = Value.int .u64 1028 := hu
      replace hi : _ = Value.int .i64 60 := hi
      subst hu; subst hi
      have A : bits .and .u64 1028 15 = 4 := by decide
      have HB := Lib.hid hb
      have HH := Lib.hid hh
      have c1 := cell_of_heap hh (bufV_at _ 59 (by omega))
      have f1 := frozen_of_row wr w.heap.size 59 _ _ hh
      clear hb hh
      go_wp2_with fail
      refine ⟨⟨6, by omega, rfl, rfl, HB.out.setCell (Nat.le_refl _) _, ?_⟩, by simp [intOf]⟩
      have q := heap_setCell_same wr w.heap.size 59 _ _ (.int .u8 (52 : Nat)) HH.out
      rw [bufV_set _ _ _ (by omega)] at q
      rw [← hexG_step 1077936128 5 (by omega)]; exact q
    · replace hu : _ = Value.int .u64 64 := hu
      replace hi : _ = Value.int .i64 59 := hi
      subst hu; subst hi
      have A : bits .and .u64 64 15 = 0 := by decide
      have HB := Lib.hid hb
      have HH := Lib.hid hh
      have c1 := cell_of_heap hh (bufV_at _ 58 (by omega))
      have f1 := frozen_of_row wr w.heap.size 58 _ _ hh
      clear hb hh
      go_wp2_with fail
      refine ⟨⟨7, by omega, rfl, rfl, HB.out.setCell (Nat.le_refl _) _, ?_⟩, by simp [intOf]⟩
      have q := heap_setCell_same wr w.heap.size 58 _ _ (.int .u8 (48 : Nat)) HH.out
      rw [bufV_set _ _ _ (by omega)] at q
      rw [← hexG_step 1077936128 6 (by omega)]; exact q
    · replace hu : _ = Value.int .u64 4 := hu
      replace hi : _ = Value.int .i64 58 := hi
      subst hu; subst hi
      have A : bits .and .u64 4 15 = 4 := by decide
      have HB := Lib.hid hb
      have HH := Lib.hid hh
      have c1 := cell_of_heap hh (bufV_at _ 57 (by omega))
      have f1 := frozen_of_row wr w.heap.size 57 _ _ hh
      have HX : Hid ((wr.setCell ⟨w.heap.size, 57, none⟩ (.int .u8 52)).heap[w.heap.size]? = some (.cells (bufV (hexG 1077936128 8)) 146 (0, 0))) := Lib.hid (by
        have q := heap_setCell_same wr w.heap.size 57 _ _ (.int .u8 (52 : Nat)) hh
        rw [bufV_set _ _ _ (by omega)] at q
        rw [← hexG_step 1077936128 7 (by omega)]; exact q)
      have cv1 : (convert 22 9 (.slice (some ⟨w.heap.size, 57, none⟩) 8 8)).run Tryz.prog (wr.setCell ⟨w.heap.size, 57, none⟩ (.int .u8 52)) = .ok (.string ⟨#[52,48,52,48,48,48,48,48]⟩) (wr.setCell ⟨w.heap.size, 57, none⟩ (.int .u8 52)) :=
        run_convert_bytes_back _ 22 9 5 ⟨w.heap.size, 57, none⟩ 8 [52,48,52,48,48,48,48,48] Tryz.underlying22 Tryz.underlying5 Tryz.underlying9 (fun j hj => by
          have hj' : j < 8 := hj
          have hadd : (⟨w.heap.size, 57, none⟩ : Addr).add j = ⟨w.heap.size, 57 + j, none⟩ := by unfold Addr.add; split <;> simp_all
          rw [hadd, cell_of_heap HX.out (bufV_at (hexG 1077936128 8) (57 + j) (by omega))]
          obtain rfl | rfl | rfl | rfl | rfl | rfl | rfl | rfl : j = 0 ∨ j = 1 ∨ j = 2 ∨ j = 3 ∨ j = 4 ∨ j = 5 ∨ j = 6 ∨ j = 7 := by omega
          all_goals rfl)
      clear hb hh
      go_wp2_with fail
      go_ret2; exact ⟨rfl, HB.out.setCell (Nat.le_refl _) _⟩


set_option maxRecDepth 100000 in
set_option maxHeartbeats 4000000 in
theorem fbits_p4 (w : World) (ht : Tab w) : Calls Tryz.prog 105 #[.slice none 0 0, .int .u64 1082130432, .int .i64 16, .bool false, .bool false] w fun e w' => e = .returned (.tuple #[.slice none 0 0, .string ⟨#[52,48,56,48,48,48,48,48]⟩]) ∧ Below w.heap.size w w' := by
  have HT := Lib.hid ht
  clear ht
  go_enter Tryz.func105, Tryz.ntmps105
  go_wp2_with (first
    | (go_at_call 131; ((with_reducible refine (pow2_c _).mono ?_)); rintro e w' ⟨rfl, rfl⟩)
    | (go_at_call 132; ((with_reducible refine (tz64_c _ (HT.out.below (bal1 _ _))).mono ?_)); rintro e w' ⟨rfl, rfl⟩))
  go_loopw [1, 13] (fun u i wr => ∃ k : Nat, k ≤ 7 ∧ u = .int .u64 (1082130432 / 16 ^ k : Nat) ∧ i = .int .i64 (65 - k : Nat) ∧ Below w.heap.size w wr ∧ wr.heap[w.heap.size]? = some (.cells (bufV (hexG 1082130432 k)) 146 (0, 0))) (fun u _ _ => (intOf u).toNat)
  case atStart => exact ⟨0, by omega, rfl, rfl, bal1 _ _, by rw [al_new _ rfl, zero146]; try simp only [hexG_zero]⟩
  case round =>
    obtain ⟨k, hk, hu, hi, hb, hh⟩ := hrel
    obtain rfl | rfl | rfl | rfl | rfl | rfl | rfl | rfl : k = 0 ∨ k = 1 ∨ k = 2 ∨ k = 3 ∨ k = 4 ∨ k = 5 ∨ k = 6 ∨ k = 7 := by omega
    · replace hu : _ = Value.int .u64 1082130432 := hu
      replace hi : _ = Value.int .i64 65 := hi
      subst hu; subst hi
      have A : bits .and .u64 1082130432 15 = 0 := by decide
      have HB := Lib.hid hb
      have HH := Lib.hid hh
      have c1 := cell_of_heap hh (bufV_at _ 64 (by omega))
      have f1 := frozen_of_row wr w.heap.size 64 _ _ hh
      clear hb hh
      go_wp2_with fail
      refine ⟨⟨1, by omega, rfl, rfl, HB.out.setCell (Nat.le_refl _) _, ?_⟩, by simp [intOf]⟩
      have q := heap_setCell_same wr w.heap.size 64 _ _ (.int .u8 (48 : Nat)) HH.out
      rw [bufV_set _ _ _ (by omega)] at q
      rw [← hexG_step 1082130432 0 (by omega)]; exact q
    · replace hu : _ = Value.int .u64 67633152 := hu
      replace hi : _ = Value.int .i64 64 := hi
      subst hu; subst hi
      have A : bits .and .u64 67633152 15 = 0 := by decide
      have HB := Lib.hid hb
      have HH := Lib.hid hh
      have c1 := cell_of_heap hh (bufV_at _ 63 (by omega))
      have f1 := frozen_of_row wr w.heap.size 63 _ _ hh
      clear hb hh
      go_wp2_with fail
      refine ⟨⟨2, by omega, rfl, rfl, HB.out.setCell (Nat.le_refl _) _, ?_⟩, by simp [intOf]⟩
      have q := heap_setCell_same wr w.heap.size 63 _ _ (.int .u8 (48 : Nat)) HH.out
      rw [bufV_set _ _ _ (by omega)] at q
      rw [← hexG_step 1082130432 1 (by omega)]; exact q
    · replace hu : _ = Value.int .u64 4227072 := hu
      replace hi : _ = Value.int .i64 63 := hi
      subst hu; subst hi
      have A : bits .and .u64 4227072 15 = 0 := by decide
      have HB := Lib.hid hb
      have HH := Lib.hid hh
      have c1 := cell_of_heap hh (bufV_at _ 62 (by omega))
      have f1 := frozen_of_row wr w.heap.size 62 _ _ hh
      clear hb hh
      go_wp2_with fail
      refine ⟨⟨3, by omega, rfl, rfl, HB.out.setCell (Nat.le_refl _) _, ?_⟩, by simp [intOf]⟩
      have q := heap_setCell_same wr w.heap.size 62 _ _ (.int .u8 (48 : Nat)) HH.out
      rw [bufV_set _ _ _ (by omega)] at q
      rw [← hexG_step 1082130432 2 (by omega)]; exact q
    · replace hu : _ = Value.int .u64 264192 := hu
      replace hi : _ = Value.int .i64 62 := hi
      subst hu; subst hi
      have A : bits .and .u64 264192 15 = 0 := by decide
      have HB := Lib.hid hb
      have HH := Lib.hid hh
      have c1 := cell_of_heap hh (bufV_at _ 61 (by omega))
      have f1 := frozen_of_row wr w.heap.size 61 _ _ hh
      clear hb hh
      go_wp2_with fail
      refine ⟨⟨4, by omega, rfl, rfl, HB.out.setCell (Nat.le_refl _) _, ?_⟩, by simp [intOf]⟩
      have q := heap_setCell_same wr w.heap.size 61 _ _ (.int .u8 (48 : Nat)) HH.out
      rw [bufV_set _ _ _ (by omega)] at q
      rw [← hexG_step 1082130432 3 (by omega)]; exact q
    · replace hu : _ = Value.int .u64 16512 := hu
      replace hi : _ = Value.int .i64 61 := hi
      subst hu; subst hi
      have A : bits .and .u64 16512 15 = 0 := by decide
      have HB := Lib.hid hb
      have HH := Lib.hid hh
      have c1 := cell_of_heap hh (bufV_at _ 60 (by omega))
      have f1 := frozen_of_row wr w.heap.size 60 _ _ hh
      clear hb hh
      go_wp2_with fail
      refine ⟨⟨5, by omega, rfl, rfl, HB.out.setCell (Nat.le_refl _) _, ?_⟩, by simp [intOf]⟩
      have q := heap_setCell_same wr w.heap.size 60 _ _ (.int .u8 (48 : Nat)) HH.out
      rw [bufV_set _ _ _ (by omega)] at q
      rw [← hexG_step 1082130432 4 (by omega)]; exact q
    · replace hu : _ = Value.int .u64 1032 := hu
      replace hi : _ = Value.int .i64 60 := hi
      subst hu; subst hi
      have A : bits .and .u64 1032 15 = 8 := by decide
      have HB := Lib.hid hb
      have HH := Lib.hid hh
      have c1 := cell_of_heap hh (bufV_at _ 59 (by omega))
      have f1 := frozen_of_row wr w.heap.size 59 _ _ hh
      clear hb hh
      go_wp2_with fail
      refine ⟨⟨6, by omega, rfl, rfl, HB.out.setCell (Nat.le_refl _) _, ?_⟩, by simp [intOf]⟩
      have q := heap_setCell_same wr w.heap.size 59 _ _ (.int .u8 (56 : Nat)) HH.out
      rw [bufV_set _ _ _ (by omega)] at q
      rw [← hexG_step 1082130432 5 (by omega)]; exact q
    · replace hu : _ = Value.int .u64 64 := hu
      replace hi : _ = Value.int .i64 59 := hi
      subst hu; subst hi
      have A : bits .and .u64 64 15 = 0 := by decide
      have HB := Lib.hid hb
      have HH := Lib.hid hh
      have c1 := cell_of_heap hh (bufV_at _ 58 (by omega))
      have f1 := frozen_of_row wr w.heap.size 58 _ _ hh
      clear hb hh
      go_wp2_with fail
      refine ⟨⟨7, by omega, rfl, rfl, HB.out.setCell (Nat.le_refl _) _, ?_⟩, by simp [intOf]⟩
      have q := heap_setCell_same wr w.heap.size 58 _ _ (.int .u8 (48 : Nat)) HH.out
      rw [bufV_set _ _ _ (by omega)] at q
      rw [← hexG_step 1082130432 6 (by omega)]; exact q
    · replace hu : _ = Value.int .u64 4 := hu
      replace hi : _ = Value.int .i64 58 := hi
      subst hu; subst hi
      have A : bits .and .u64 4 15 = 4 := by decide
      have HB := Lib.hid hb
      have HH := Lib.hid hh
      have c1 := cell_of_heap hh (bufV_at _ 57 (by omega))
      have f1 := frozen_of_row wr w.heap.size 57 _ _ hh
      have HX : Hid ((wr.setCell ⟨w.heap.size, 57, none⟩ (.int .u8 52)).heap[w.heap.size]? = some (.cells (bufV (hexG 1082130432 8)) 146 (0, 0))) := Lib.hid (by
        have q := heap_setCell_same wr w.heap.size 57 _ _ (.int .u8 (52 : Nat)) hh
        rw [bufV_set _ _ _ (by omega)] at q
        rw [← hexG_step 1082130432 7 (by omega)]; exact q)
      have cv1 : (convert 22 9 (.slice (some ⟨w.heap.size, 57, none⟩) 8 8)).run Tryz.prog (wr.setCell ⟨w.heap.size, 57, none⟩ (.int .u8 52)) = .ok (.string ⟨#[52,48,56,48,48,48,48,48]⟩) (wr.setCell ⟨w.heap.size, 57, none⟩ (.int .u8 52)) :=
        run_convert_bytes_back _ 22 9 5 ⟨w.heap.size, 57, none⟩ 8 [52,48,56,48,48,48,48,48] Tryz.underlying22 Tryz.underlying5 Tryz.underlying9 (fun j hj => by
          have hj' : j < 8 := hj
          have hadd : (⟨w.heap.size, 57, none⟩ : Addr).add j = ⟨w.heap.size, 57 + j, none⟩ := by unfold Addr.add; split <;> simp_all
          rw [hadd, cell_of_heap HX.out (bufV_at (hexG 1082130432 8) (57 + j) (by omega))]
          obtain rfl | rfl | rfl | rfl | rfl | rfl | rfl | rfl : j = 0 ∨ j = 1 ∨ j = 2 ∨ j = 3 ∨ j = 4 ∨ j = 5 ∨ j = 6 ∨ j = 7 := by omega
          all_goals rfl)
      clear hb hh
      go_wp2_with fail
      go_ret2; exact ⟨rfl, HB.out.setCell (Nat.le_refl _) _⟩


set_option maxRecDepth 100000 in
set_option maxHeartbeats 4000000 in
theorem fbits_n1 (w : World) (ht : Tab w) : Calls Tryz.prog 105 #[.slice none 0 0, .int .u64 18446744072644198400, .int .i64 16, .bool true, .bool false] w fun e w' => e = .returned (.tuple #[.slice none 0 0, .string ⟨#[45,51,102,56,48,48,48,48,48]⟩]) ∧ Below w.heap.size w w' := by
  have HT := Lib.hid ht
  clear ht
  have ng : IntKind.u64.wrap (-18446744072644198400) = 1065353216 := by decide
  go_enter Tryz.func105, Tryz.ntmps105
  go_wp2_with (first
    | (go_at_call 131; ((with_reducible refine (pow2_c _).mono ?_)); rintro e w' ⟨rfl, rfl⟩)
    | (go_at_call 132; ((with_reducible refine (tz64_c _ (HT.out.below (bal1 _ _))).mono ?_)); rintro e w' ⟨rfl, rfl⟩))
  go_loopw [1, 13] (fun u i wr => ∃ k : Nat, k ≤ 7 ∧ u = .int .u64 (1065353216 / 16 ^ k : Nat) ∧ i = .int .i64 (65 - k : Nat) ∧ Below w.heap.size w wr ∧ wr.heap[w.heap.size]? = some (.cells (bufV (hexG 1065353216 k)) 146 (0, 0))) (fun u _ _ => (intOf u).toNat)
  case atStart => exact ⟨0, by omega, rfl, rfl, bal1 _ _, by rw [al_new _ rfl, zero146]; try simp only [hexG_zero]⟩
  case round =>
    obtain ⟨k, hk, hu, hi, hb, hh⟩ := hrel
    obtain rfl | rfl | rfl | rfl | rfl | rfl | rfl | rfl : k = 0 ∨ k = 1 ∨ k = 2 ∨ k = 3 ∨ k = 4 ∨ k = 5 ∨ k = 6 ∨ k = 7 := by omega
    · replace hu : _ = Value.int .u64 1065353216 := hu
      replace hi : _ = Value.int .i64 65 := hi
      subst hu; subst hi
      have A : bits .and .u64 1065353216 15 = 0 := by decide
      have HB := Lib.hid hb
      have HH := Lib.hid hh
      have c1 := cell_of_heap hh (bufV_at _ 64 (by omega))
      have f1 := frozen_of_row wr w.heap.size 64 _ _ hh
      clear hb hh
      go_wp2_with fail
      refine ⟨⟨1, by omega, rfl, rfl, HB.out.setCell (Nat.le_refl _) _, ?_⟩, by simp [intOf]⟩
      have q := heap_setCell_same wr w.heap.size 64 _ _ (.int .u8 (48 : Nat)) HH.out
      rw [bufV_set _ _ _ (by omega)] at q
      rw [← hexG_step 1065353216 0 (by omega)]; exact q
    · replace hu : _ = Value.int .u64 66584576 := hu
      replace hi : _ = Value.int .i64 64 := hi
      subst hu; subst hi
      have A : bits .and .u64 66584576 15 = 0 := by decide
      have HB := Lib.hid hb
      have HH := Lib.hid hh
      have c1 := cell_of_heap hh (bufV_at _ 63 (by omega))
      have f1 := frozen_of_row wr w.heap.size 63 _ _ hh
      clear hb hh
      go_wp2_with fail
      refine ⟨⟨2, by omega, rfl, rfl, HB.out.setCell (Nat.le_refl _) _, ?_⟩, by simp [intOf]⟩
      have q := heap_setCell_same wr w.heap.size 63 _ _ (.int .u8 (48 : Nat)) HH.out
      rw [bufV_set _ _ _ (by omega)] at q
      rw [← hexG_step 1065353216 1 (by omega)]; exact q
    · replace hu : _ = Value.int .u64 4161536 := hu
      replace hi : _ = Value.int .i64 63 := hi
      subst hu; subst hi
      have A : bits .and .u64 4161536 15 = 0 := by decide
      have HB := Lib.hid hb
      have HH := Lib.hid hh
      have c1 := cell_of_heap hh (bufV_at _ 62 (by omega))
      have f1 := frozen_of_row wr w.heap.size 62 _ _ hh
      clear hb hh
      go_wp2_with fail
      refine ⟨⟨3, by omega, rfl, rfl, HB.out.setCell (Nat.le_refl _) _, ?_⟩, by simp [intOf]⟩
      have q := heap_setCell_same wr w.heap.size 62 _ _ (.int .u8 (48 : Nat)) HH.out
      rw [bufV_set _ _ _ (by omega)] at q
      rw [← hexG_step 1065353216 2 (by omega)]; exact q
    · replace hu : _ = Value.int .u64 260096 := hu
      replace hi : _ = Value.int .i64 62 := hi
      subst hu; subst hi
      have A : bits .and .u64 260096 15 = 0 := by decide
      have HB := Lib.hid hb
      have HH := Lib.hid hh
      have c1 := cell_of_heap hh (bufV_at _ 61 (by omega))
      have f1 := frozen_of_row wr w.heap.size 61 _ _ hh
      clear hb hh
      go_wp2_with fail
      refine ⟨⟨4, by omega, rfl, rfl, HB.out.setCell (Nat.le_refl _) _, ?_⟩, by simp [intOf]⟩
      have q := heap_setCell_same wr w.heap.size 61 _ _ (.int .u8 (48 : Nat)) HH.out
      rw [bufV_set _ _ _ (by omega)] at q
      rw [← hexG_step 1065353216 3 (by omega)]; exact q
    · replace hu : _ = Value.int .u64 16256 := hu
      replace hi : _ = Value.int .i64 61 := hi
      subst hu; subst hi
      have A : bits .and .u64 16256 15 = 0 := by decide
      have HB := Lib.hid hb
      have HH := Lib.hid hh
      have c1 := cell_of_heap hh (bufV_at _ 60 (by omega))
      have f1 := frozen_of_row wr w.heap.size 60 _ _ hh
      clear hb hh
      go_wp2_with fail
      refine ⟨⟨5, by omega, rfl, rfl, HB.out.setCell (Nat.le_refl _) _, ?_⟩, by simp [intOf]⟩
      have q := heap_setCell_same wr w.heap.size 60 _ _ (.int .u8 (48 : Nat)) HH.out
      rw [bufV_set _ _ _ (by omega)] at q
      rw [← hexG_step 1065353216 4 (by omega)]; exact q
    · replace hu : _ = Value.int .u64 1016 := hu
      replace hi : _ = Value.int .i64 60 := hi
      subst hu; subst hi
      have A : bits .and .u64 1016 15 = 8 := by decide
      have HB := Lib.hid hb
      have HH := Lib.hid hh
      have c1 := cell_of_heap hh (bufV_at _ 59 (by omega))
      have f1 := frozen_of_row wr w.heap.size 59 _ _ hh
      clear hb hh
      go_wp2_with fail
      refine ⟨⟨6, by omega, rfl, rfl, HB.out.setCell (Nat.le_refl _) _, ?_⟩, by simp [intOf]⟩
      have q := heap_setCell_same wr w.heap.size 59 _ _ (.int .u8 (56 : Nat)) HH.out
      rw [bufV_set _ _ _ (by omega)] at q
      rw [← hexG_step 1065353216 5 (by omega)]; exact q
    · replace hu : _ = Value.int .u64 63 := hu
      replace hi : _ = Value.int .i64 59 := hi
      subst hu; subst hi
      have A : bits .and .u64 63 15 = 15 := by decide
      have HB := Lib.hid hb
      have HH := Lib.hid hh
      have c1 := cell_of_heap hh (bufV_at _ 58 (by omega))
      have f1 := frozen_of_row wr w.heap.size 58 _ _ hh
      clear hb hh
      go_wp2_with fail
      refine ⟨⟨7, by omega, rfl, rfl, HB.out.setCell (Nat.le_refl _) _, ?_⟩, by simp [intOf]⟩
      have q := heap_setCell_same wr w.heap.size 58 _ _ (.int .u8 (102 : Nat)) HH.out
      rw [bufV_set _ _ _ (by omega)] at q
      rw [← hexG_step 1065353216 6 (by omega)]; exact q
    · replace hu : _ = Value.int .u64 3 := hu
      replace hi : _ = Value.int .i64 58 := hi
      subst hu; subst hi
      have A : bits .and .u64 3 15 = 3 := by decide
      have HB := Lib.hid hb
      have HH := Lib.hid hh
      have c1 := cell_of_heap hh (bufV_at _ 57 (by omega))
      have f1 := frozen_of_row wr w.heap.size 57 _ _ hh
      have HX : Hid ((wr.setCell ⟨w.heap.size, 57, none⟩ (.int .u8 51)).heap[w.heap.size]? = some (.cells (bufV (hexG 1065353216 8)) 146 (0, 0))) := Lib.hid (by
        have q := heap_setCell_same wr w.heap.size 57 _ _ (.int .u8 (51 : Nat)) hh
        rw [bufV_set _ _ _ (by omega)] at q
        rw [← hexG_step 1065353216 7 (by omega)]; exact q)
      have c2 := cell_of_heap HX.out (bufV_at _ 56 (by omega))
      have f2 := frozen_of_row _ w.heap.size 56 _ _ HX.out
      have HY : Hid (((wr.setCell ⟨w.heap.size, 57, none⟩ (.int .u8 51)).setCell ⟨w.heap.size, 56, none⟩ (.int .u8 45)).heap[w.heap.size]? = some (.cells (bufV (updF (hexG 1065353216 8) 56 45)) 146 (0, 0))) := Lib.hid (by
        have q := heap_setCell_same _ w.heap.size 56 _ _ (.int .u8 (45 : Nat)) HX.out
        rw [bufV_set _ _ _ (by omega)] at q; exact q)
      have cv1 : (convert 22 9 (.slice (some ⟨w.heap.size, 56, none⟩) 9 9)).run Tryz.prog ((wr.setCell ⟨w.heap.size, 57, none⟩ (.int .u8 51)).setCell ⟨w.heap.size, 56, none⟩ (.int .u8 45)) = .ok (.string ⟨#[45,51,102,56,48,48,48,48,48]⟩) ((wr.setCell ⟨w.heap.size, 57, none⟩ (.int .u8 51)).setCell ⟨w.heap.size, 56, none⟩ (.int .u8 45)) :=
        run_convert_bytes_back _ 22 9 5 ⟨w.heap.size, 56, none⟩ 9 [45,51,102,56,48,48,48,48,48] Tryz.underlying22 Tryz.underlying5 Tryz.underlying9 (fun j hj => by
          have hj' : j < 9 := hj
          have hadd : (⟨w.heap.size, 56, none⟩ : Addr).add j = ⟨w.heap.size, 56 + j, none⟩ := by unfold Addr.add; split <;> simp_all
          rw [hadd, cell_of_heap HY.out (bufV_at (updF (hexG 1065353216 8) 56 45) (56 + j) (by omega))]
          obtain rfl | rfl | rfl | rfl | rfl | rfl | rfl | rfl | rfl : j = 0 ∨ j = 1 ∨ j = 2 ∨ j = 3 ∨ j = 4 ∨ j = 5 ∨ j = 6 ∨ j = 7 ∨ j = 8 := by omega
          all_goals rfl)
      clear hb hh
      go_wp2_with fail
      go_ret2; exact ⟨rfl, (HB.out.setCell (Nat.le_refl _) _).setCell (Nat.le_refl _) _⟩


set_option maxRecDepth 100000 in
set_option maxHeartbeats 4000000 in
theorem fbits_n2 (w : World) (ht : Tab w) : Calls Tryz.prog 105 #[.slice none 0 0, .int .u64 18446744072635809792, .int .i64 16, .bool true, .bool false] w fun e w' => e = .returned (.tuple #[.slice none 0 0, .string ⟨#[45,52,48,48,48,48,48,48,48]⟩]) ∧ Below w.heap.size w w' := by
  have HT := Lib.hid ht
  clear ht
  have ng : IntKind.u64.wrap (-18446744072635809792) = 1073741824 := by decide
  go_enter Tryz.func105, Tryz.ntmps105
  go_wp2_with (first
    | (go_at_call 131; ((with_reducible refine (pow2_c _).mono ?_)); rintro e w' ⟨rfl, rfl⟩)
    | (go_at_call 132; ((with_reducible refine (tz64_c _ (HT.out.below (bal1 _ _))).mono ?_)); rintro e w' ⟨rfl, rfl⟩))
  go_loopw [1, 13] (fun u i wr => ∃ k : Nat, k ≤ 7 ∧ u = .int .u64 (1073741824 / 16 ^ k : Nat) ∧ i = .int .i64 (65 - k : Nat) ∧ Below w.heap.size w wr ∧ wr.heap[w.heap.size]? = some (.cells (bufV (hexG 1073741824 k)) 146 (0, 0))) (fun u _ _ => (intOf u).toNat)
  case atStart => exact ⟨0, by omega, rfl, rfl, bal1 _ _, by rw [al_new _ rfl, zero146]; try simp only [hexG_zero]⟩
  case round =>
    obtain ⟨k, hk, hu, hi, hb, hh⟩ := hrel
    obtain rfl | rfl | rfl | rfl | rfl | rfl | rfl | rfl : k = 0 ∨ k = 1 ∨ k = 2 ∨ k = 3 ∨ k = 4 ∨ k = 5 ∨ k = 6 ∨ k = 7 := by omega
    · replace hu : _ = Value.int .u64 1073741824 := hu
      replace hi : _ = Value.int .i64 65 := hi
      subst hu; subst hi
      have A : bits .and .u64 1073741824 15 = 0 := by decide
      have HB := Lib.hid hb
      have HH := Lib.hid hh
      have c1 := cell_of_heap hh (bufV_at _ 64 (by omega))
      have f1 := frozen_of_row wr w.heap.size 64 _ _ hh
      clear hb hh
      go_wp2_with fail
      refine ⟨⟨1, by omega, rfl, rfl, HB.out.setCell (Nat.le_refl _) _, ?_⟩, by simp [intOf]⟩
      have q := heap_setCell_same wr w.heap.size 64 _ _ (.int .u8 (48 : Nat)) HH.out
      rw [bufV_set _ _ _ (by omega)] at q
      rw [← hexG_step 1073741824 0 (by omega)]; exact q
    · replace hu : _ = Value.int .u64 67108864 := hu
      replace hi : _ = Value.int .i64 64 := hi
      subst hu; subst hi
      have A : bits .and .u64 67108864 15 = 0 := by decide
      have HB := Lib.hid hb
      have HH := Lib.hid hh
      have c1 := cell_of_heap hh (bufV_at _ 63 (by omega))
      have f1 := frozen_of_row wr w.heap.size 63 _ _ hh
      clear hb hh
      go_wp2_with fail
      refine ⟨⟨2, by omega, rfl, rfl, HB.out.setCell (Nat.le_refl _) _, ?_⟩, by simp [intOf]⟩
      have q := heap_setCell_same wr w.heap.size 63 _ _ (.int .u8 (48 : Nat)) HH.out
      rw [bufV_set _ _ _ (by omega)] at q
      rw [← hexG_step 1073741824 1 (by omega)]; exact q
    · replace hu : _ = Value.int .u64 4194304 := hu
      replace hi : _ = Value.int .i64 63 := hi
      subst hu; subst hi
      have A : bits .and .u64 4194304 15 = 0 := by decide
      have HB := Lib.hid hb
      have HH := Lib.hid hh
      have c1 := cell_of_heap hh (bufV_at _ 62 (by omega))
      have f1 := frozen_of_row wr w.heap.size 62 _ _ hh
      clear hb hh
      go_wp2_with fail
      refine ⟨⟨3, by omega, rfl, rfl, HB.out.setCell (Nat.le_refl _) _, ?_⟩, by simp [intOf]⟩
      have q := heap_setCell_same wr w.heap.size 62 _ _ (.int .u8 (48 : Nat)) HH.out
      rw [bufV_set _ _ _ (by omega)] at q
      rw [← hexG_step 1073741824 2 (by omega)]; exact q
    · replace hu : _ = Value.int .u64 262144 := hu
      replace hi : _ = Value.int .i64 62 := hi
      subst hu; subst hi
      have A : bits .and .u64 262144 15 = 0 := by decide
      have HB := Lib.hid hb
      have HH := Lib.hid hh
      have c1 := cell_of_heap hh (bufV_at _ 61 (by omega))
      have f1 := frozen_of_row wr w.heap.size 61 _ _ hh
      clear hb hh
      go_wp2_with fail
      refine ⟨⟨4, by omega, rfl, rfl, HB.out.setCell (Nat.le_refl _) _, ?_⟩, by simp [intOf]⟩
      have q := heap_setCell_same wr w.heap.size 61 _ _ (.int .u8 (48 : Nat)) HH.out
      rw [bufV_set _ _ _ (by omega)] at q
      rw [← hexG_step 1073741824 3 (by omega)]; exact q
    · replace hu : _ = Value.int .u64 16384 := hu
      replace hi : _ = Value.int .i64 61 := hi
      subst hu; subst hi
      have A : bits .and .u64 16384 15 = 0 := by decide
      have HB := Lib.hid hb
      have HH := Lib.hid hh
      have c1 := cell_of_heap hh (bufV_at _ 60 (by omega))
      have f1 := frozen_of_row wr w.heap.size 60 _ _ hh
      clear hb hh
      go_wp2_with fail
      refine ⟨⟨5, by omega, rfl, rfl, HB.out.setCell (Nat.le_refl _) _, ?_⟩, by simp [intOf]⟩
      have q := heap_setCell_same wr w.heap.size 60 _ _ (.int .u8 (48 : Nat)) HH.out
      rw [bufV_set _ _ _ (by omega)] at q
      rw [← hexG_step 1073741824 4 (by omega)]; exact q
    · replace hu : _ = Value.int .u64 1024 := hu
      replace hi : _ = Value.int .i64 60 := hi
      subst hu; subst hi
      have A : bits .and .u64 1024 15 = 0 := by decide
      have HB := Lib.hid hb
      have HH := Lib.hid hh
      have c1 := cell_of_heap hh (bufV_at _ 59 (by omega))
      have f1 := frozen_of_row wr w.heap.size 59 _ _ hh
      clear hb hh
      go_wp2_with fail
      refine ⟨⟨6, by omega, rfl, rfl, HB.out.setCell (Nat.le_refl _) _, ?_⟩, by simp [intOf]⟩
      have q := heap_setCell_same wr w.heap.size 59 _ _ (.int .u8 (48 : Nat)) HH.out
      rw [bufV_set _ _ _ (by omega)] at q
      rw [← hexG_step 1073741824 5 (by omega)]; exact q
    · replace hu : _ = Value.int .u64 64 := hu
      replace hi : _ = Value.int .i64 59 := hi
      subst hu; subst hi
      have A : bits .and .u64 64 15 = 0 := by decide
      have HB := Lib.hid hb
      have HH := Lib.hid hh
      have c1 := cell_of_heap hh (bufV_at _ 58 (by omega))
      have f1 := frozen_of_row wr w.heap.size 58 _ _ hh
      clear hb hh
      go_wp2_with fail
      refine ⟨⟨7, by omega, rfl, rfl, HB.out.setCell (Nat.le_refl _) _, ?_⟩, by simp [intOf]⟩
      have q := heap_setCell_same wr w.heap.size 58 _ _ (.int .u8 (48 : Nat)) HH.out
      rw [bufV_set _ _ _ (by omega)] at q
      rw [← hexG_step 1073741824 6 (by omega)]; exact q
    · replace hu : _ = Value.int .u64 4 := hu
      replace hi : _ = Value.int .i64 58 := hi
      subst hu; subst hi
      have A : bits .and .u64 4 15 = 4 := by decide
      have HB := Lib.hid hb
      have HH := Lib.hid hh
      have c1 := cell_of_heap hh (bufV_at _ 57 (by omega))
      have f1 := frozen_of_row wr w.heap.size 57 _ _ hh
      have HX : Hid ((wr.setCell ⟨w.heap.size, 57, none⟩ (.int .u8 52)).heap[w.heap.size]? = some (.cells (bufV (hexG 1073741824 8)) 146 (0, 0))) := Lib.hid (by
        have q := heap_setCell_same wr w.heap.size 57 _ _ (.int .u8 (52 : Nat)) hh
        rw [bufV_set _ _ _ (by omega)] at q
        rw [← hexG_step 1073741824 7 (by omega)]; exact q)
      have c2 := cell_of_heap HX.out (bufV_at _ 56 (by omega))
      have f2 := frozen_of_row _ w.heap.size 56 _ _ HX.out
      have HY : Hid (((wr.setCell ⟨w.heap.size, 57, none⟩ (.int .u8 52)).setCell ⟨w.heap.size, 56, none⟩ (.int .u8 45)).heap[w.heap.size]? = some (.cells (bufV (updF (hexG 1073741824 8) 56 45)) 146 (0, 0))) := Lib.hid (by
        have q := heap_setCell_same _ w.heap.size 56 _ _ (.int .u8 (45 : Nat)) HX.out
        rw [bufV_set _ _ _ (by omega)] at q; exact q)
      have cv1 : (convert 22 9 (.slice (some ⟨w.heap.size, 56, none⟩) 9 9)).run Tryz.prog ((wr.setCell ⟨w.heap.size, 57, none⟩ (.int .u8 52)).setCell ⟨w.heap.size, 56, none⟩ (.int .u8 45)) = .ok (.string ⟨#[45,52,48,48,48,48,48,48,48]⟩) ((wr.setCell ⟨w.heap.size, 57, none⟩ (.int .u8 52)).setCell ⟨w.heap.size, 56, none⟩ (.int .u8 45)) :=
        run_convert_bytes_back _ 22 9 5 ⟨w.heap.size, 56, none⟩ 9 [45,52,48,48,48,48,48,48,48] Tryz.underlying22 Tryz.underlying5 Tryz.underlying9 (fun j hj => by
          have hj' : j < 9 := hj
          have hadd : (⟨w.heap.size, 56, none⟩ : Addr).add j = ⟨w.heap.size, 56 + j, none⟩ := by unfold Addr.add; split <;> simp_all
          rw [hadd, cell_of_heap HY.out (bufV_at (updF (hexG 1073741824 8) 56 45) (56 + j) (by omega))]
          obtain rfl | rfl | rfl | rfl | rfl | rfl | rfl | rfl | rfl : j = 0 ∨ j = 1 ∨ j = 2 ∨ j = 3 ∨ j = 4 ∨ j = 5 ∨ j = 6 ∨ j = 7 ∨ j = 8 := by omega
          all_goals rfl)
      clear hb hh
      go_wp2_with fail
      go_ret2; exact ⟨rfl, (HB.out.setCell (Nat.le_refl _) _).setCell (Nat.le_refl _) _⟩


set_option maxRecDepth 100000 in
set_option maxHeartbeats 4000000 in
theorem fbits_n3 (w : World) (ht : Tab w) : Calls Tryz.prog 105 #[.slice none 0 0, .int .u64 18446744072631615488, .int .i64 16, .bool true, .bool false] w fun e w' => e = .returned (.tuple #[.slice none 0 0, .string ⟨#[45,52,48,52,48,48,48,48,48]⟩]) ∧ Below w.heap.size w w' := by
  have HT := Lib.hid ht
  clear ht
  have ng : IntKind.u64.wrap (-18446744072631615488) = 1077936128 := by decide
  go_enter Tryz.func105, Tryz.ntmps105
  go_wp2_with (first
    | (go_at_call 131; ((with_reducible refine (pow2_c _).mono ?_)); rintro e w' ⟨rfl, rfl⟩)
    | (go_at_call 132; ((with_reducible refine (tz64_c _ (HT.out.below (bal1 _ _))).mono ?_)); rintro e w' ⟨rfl, rfl⟩))
  go_loopw [1, 13] (fun u i wr => ∃ k : Nat, k ≤ 7 ∧ u = .int .u64 (1077936128 / 16 ^ k : Nat) ∧ i = .int .i64 (65 - k : Nat) ∧ Below w.heap.size w wr ∧ wr.heap[w.heap.size]? = some (.cells (bufV (hexG 1077936128 k)) 146 (0, 0))) (fun u _ _ => (intOf u).toNat)
  case atStart => exact ⟨0, by omega, rfl, rfl, bal1 _ _, by rw [al_new _ rfl, zero146]; try simp only [hexG_zero]⟩
  case round =>
    obtain ⟨k, hk, hu, hi, hb, hh⟩ := hrel
    obtain rfl | rfl | rfl | rfl | rfl | rfl | rfl | rfl : k = 0 ∨ k = 1 ∨ k = 2 ∨ k = 3 ∨ k = 4 ∨ k = 5 ∨ k = 6 ∨ k = 7 := by omega
    · replace hu : _ = Value.int .u64 1077936128 := hu
      replace hi : _ = Value.int .i64 65 := hi
      subst hu; subst hi
      have A : bits .and .u64 1077936128 15 = 0 := by decide
      have HB := Lib.hid hb
      have HH := Lib.hid hh
      have c1 := cell_of_heap hh (bufV_at _ 64 (by omega))
      have f1 := frozen_of_row wr w.heap.size 64 _ _ hh
      clear hb hh
      go_wp2_with fail
      refine ⟨⟨1, by omega, rfl, rfl, HB.out.setCell (Nat.le_refl _) _, ?_⟩, by simp [intOf]⟩
      have q := heap_setCell_same wr w.heap.size 64 _ _ (.int .u8 (48 : Nat)) HH.out
      rw [bufV_set _ _ _ (by omega)] at q
      rw [← hexG_step 1077936128 0 (by omega)]; exact q
    · replace hu : _ = Value.int .u64 67371008 := hu
      replace hi : _ = Value.int .i64 64 := hi
      subst hu; subst hi
      have A : bits .and .u64 67371008 15 = 0 := by decide
      have HB := Lib.hid hb
      have HH := Lib.hid hh
      have c1 := cell_of_heap hh (bufV_at _ 63 (by omega))
      have f1 := frozen_of_row wr w.heap.size 63 _ _ hh
      clear hb hh
      go_wp2_with fail
      refine ⟨⟨2, by omega, rfl, rfl, HB.out.setCell (Nat.le_refl _) _, ?_⟩, by simp [intOf]⟩
      have q := heap_setCell_same wr w.heap.size 63 _ _ (.int .u8 (48 : Nat)) HH.out
      rw [bufV_set _ _ _ (by omega)] at q
      rw [← hexG_step 1077936128 1 (by omega)]; exact q
    · replace hu : _ = Value.int .u64 4210688 := hu
      replace hi : _ = Value.int .i64 63 := hi
      subst hu; subst hi
      have A : bits .and .u64 4210688 15 = 0 := by decide
      have HB := Lib.hid hb
      have HH := Lib.hid hh
      have c1 := cell_of_heap hh (bufV_at _ 62 (by omega))
      have f1 := frozen_of_row wr w.heap.size 62 _ _ hh
      clear hb hh
      go_wp2_with fail
      refine ⟨⟨3, by omega, rfl, rfl, HB.out.setCell (Nat.le_refl _) _, ?_⟩, by simp [intOf]⟩
      have q := heap_setCell_same wr w.heap.size 62 _ _ (.int .u8 (48 : Nat)) HH.out
      rw [bufV_set _ _ _ (by omega)] at q
      rw [← hexG_step 1077936128 2 (by omega)]; exact q
    · replace hu : _ = Value.int .u64 263168 := hu
      replace hi : _ = Value.int .i64 62 := hi
      subst hu; subst hi
      have A : bits .and .u64 263168 15 = 0 := by decide
      have HB := Lib.hid hb
      have HH := Lib.hid hh
      have c1 := cell_of_heap hh (bufV_at _ 61 (by omega))
      have f1 := frozen_of_row wr w.heap.size 61 _ _ hh
      clear hb hh
      go_wp2_with fail
      refine ⟨⟨4, by omega, rfl, rfl, HB.out.setCell (Nat.le_refl _) _, ?_⟩, by simp [intOf]⟩
      have q := heap_setCell_same wr w.heap.size 61 _ _ (.int .u8 (48 : Nat)) HH.out
      rw [bufV_set _ _ _ (by omega)] at q
      rw [← hexG_step 1077936128 3 (by omega)]; exact q
    · replace hu : _ = Value.int .u64 16448 := hu
      replace hi : _ = Value.int .i64 61 := hi
      subst hu; subst hi
      have A : bits .and .u64 16448 15 = 0 := by decide
      have HB := Lib.hid hb
      have HH := Lib.hid hh
      have c1 := cell_of_heap hh (bufV_at _ 60 (by omega))
      have f1 := frozen_of_row wr w.heap.size 60 _ _ hh
      clear hb hh
      go_wp2_with fail
      refine ⟨⟨5, by omega, rfl, rfl, HB.out.setCell (Nat.le_refl _) _, ?_⟩, by simp [intOf]⟩
      have q := heap_setCell_same wr w.heap.size 60 _ _ (.int .u8 (48 : Nat)) HH.out
      rw [bufV_set _ _ _ (by omega)] at q
      rw [← hexG_step 1077936128 4 (by omega)]; exact q
    · replace hu : _ = Value.int .u64 1028 := hu
      replace hi : _ = Value.int .i64 60 := hi
      subst hu; subst hi
      have A : bits .and .u64 1028 15 = 4 := by decide
      have HB := Lib.hid hb
      have HH := Lib.hid hh
      have c1 := cell_of_heap hh (bufV_at _ 59 (by omega))
      have f1 := frozen_of_row wr w.heap.size 59 _ _ hh
      clear hb hh
      go_wp2_with fail
      refine ⟨⟨6, by omega, rfl, rfl, HB.out.setCell (Nat.le_refl _) _, ?_⟩, by simp [intOf]⟩
      have q := heap_setCell_same wr w.heap.size 59 _ _ (.int .u8 (52 : Nat)) HH.out
      rw [bufV_set _ _ _ (by omega)] at q
      rw [← hexG_step 1077936128 5 (by omega)]; exact q
    · replace hu : _ = Value.int .u64 64 := hu
      replace hi : _ = Value.int .i64 59 := hi
      subst hu; subst hi
      have A : bits .and .u64 64 15 = 0 := by decide
      have HB := Lib.hid hb
      have HH := Lib.hid hh
      have c1 := cell_of_heap hh (bufV_at _ 58 (by omega))
      have f1 := frozen_of_row wr w.heap.size 58 _ _ hh
      clear hb hh
      go_wp2_with fail
      refine ⟨⟨7, by omega, rfl, rfl, HB.out.setCell (Nat.le_refl _) _, ?_⟩, by simp [intOf]⟩
      have q := heap_setCell_same wr w.heap.size 58 _ _ (.int .u8 (48 : Nat)) HH.out
      rw [bufV_set _ _ _ (by omega)] at q
      rw [← hexG_step 1077936128 6 (by omega)]; exact q
    · replace hu : _ = Value.int .u64 4 := hu
      replace hi : _ = Value.int .i64 58 := hi
      subst hu; subst hi
      have A : bits .and .u64 4 15 = 4 := by decide
      have HB := Lib.hid hb
      have HH := Lib.hid hh
      have c1 := cell_of_heap hh (bufV_at _ 57 (by omega))
      have f1 := frozen_of_row wr w.heap.size 57 _ _ hh
      have HX : Hid ((wr.setCell ⟨w.heap.size, 57, none⟩ (.int .u8 52)).heap[w.heap.size]? = some (.cells (bufV (hexG 1077936128 8)) 146 (0, 0))) := Lib.hid (by
        have q := heap_setCell_same wr w.heap.size 57 _ _ (.int .u8 (52 : Nat)) hh
        rw [bufV_set _ _ _ (by omega)] at q
        rw [← hexG_step 1077936128 7 (by omega)]; exact q)
      have c2 := cell_of_heap HX.out (bufV_at _ 56 (by omega))
      have f2 := frozen_of_row _ w.heap.size 56 _ _ HX.out
      have HY : Hid (((wr.setCell ⟨w.heap.size, 57, none⟩ (.int .u8 52)).setCell ⟨w.heap.size, 56, none⟩ (.int .u8 45)).heap[w.heap.size]? = some (.cells (bufV (updF (hexG 1077936128 8) 56 45)) 146 (0, 0))) := Lib.hid (by
        have q := heap_setCell_same _ w.heap.size 56 _ _ (.int .u8 (45 : Nat)) HX.out
        rw [bufV_set _ _ _ (by omega)] at q; exact q)
      have cv1 : (convert 22 9 (.slice (some ⟨w.heap.size, 56, none⟩) 9 9)).run Tryz.prog ((wr.setCell ⟨w.heap.size, 57, none⟩ (.int .u8 52)).setCell ⟨w.heap.size, 56, none⟩ (.int .u8 45)) = .ok (.string ⟨#[45,52,48,52,48,48,48,48,48]⟩) ((wr.setCell ⟨w.heap.size, 57, none⟩ (.int .u8 52)).setCell ⟨w.heap.size, 56, none⟩ (.int .u8 45)) :=
        run_convert_bytes_back _ 22 9 5 ⟨w.heap.size, 56, none⟩ 9 [45,52,48,52,48,48,48,48,48] Tryz.underlying22 Tryz.underlying5 Tryz.underlying9 (fun j hj => by
          have hj' : j < 9 := hj
          have hadd : (⟨w.heap.size, 56, none⟩ : Addr).add j = ⟨w.heap.size, 56 + j, none⟩ := by unfold Addr.add; split <;> simp_all
          rw [hadd, cell_of_heap HY.out (bufV_at (updF (hexG 1077936128 8) 56 45) (56 + j) (by omega))]
          obtain rfl | rfl | rfl | rfl | rfl | rfl | rfl | rfl | rfl : j = 0 ∨ j = 1 ∨ j = 2 ∨ j = 3 ∨ j = 4 ∨ j = 5 ∨ j = 6 ∨ j = 7 ∨ j = 8 := by omega
          all_goals rfl)
      clear hb hh
      go_wp2_with fail
      go_ret2; exact ⟨rfl, (HB.out.setCell (Nat.le_refl _) _).setCell (Nat.le_refl _) _⟩


set_option maxRecDepth 100000 in
set_option maxHeartbeats 4000000 in
theorem fbits_n4 (w : World) (ht : Tab w) : Calls Tryz.prog 105 #[.slice none 0 0, .int .u64 18446744072627421184, .int .i64 16, .bool true, .bool false] w fun e w' => e = .returned (.tuple #[.slice none 0 0, .string ⟨#[45,52,48,56,48,48,48,48,48]⟩]) ∧ Below w.heap.size w w' := by
  have HT := Lib.hid ht
  clear ht
  have ng : IntKind.u64.wrap (-18446744072627421184) = 1082130432 := by decide
  go_enter Tryz.func105, Tryz.ntmps105
  go_wp2_with (first
    | (go_at_call 131; ((with_reducible refine (pow2_c _).mono ?_)); rintro e w' ⟨rfl, rfl⟩)
    | (go_at_call 132; ((with_reducible refine (tz64_c _ (HT.out.below (bal1 _ _))).mono ?_)); rintro e w' ⟨rfl, rfl⟩))
  go_loopw [1, 13] (fun u i wr => ∃ k : Nat, k ≤ 7 ∧ u = .int .u64 (1082130432 / 16 ^ k : Nat) ∧ i = .int .i64 (65 - k : Nat) ∧ Below w.heap.size w wr ∧ wr.heap[w.heap.size]? = some (.cells (bufV (hexG 1082130432 k)) 146 (0, 0))) (fun u _ _ => (intOf u).toNat)
  case atStart => exact ⟨0, by omega, rfl, rfl, bal1 _ _, by rw [al_new _ rfl, zero146]; try simp only [hexG_zero]⟩
  case round =>
    obtain ⟨k, hk, hu, hi, hb, hh⟩ := hrel
    obtain rfl | rfl | rfl | rfl | rfl | rfl | rfl | rfl : k = 0 ∨ k = 1 ∨ k = 2 ∨ k = 3 ∨ k = 4 ∨ k = 5 ∨ k = 6 ∨ k = 7 := by omega
    · replace hu : _ = Value.int .u64 1082130432 := hu
      replace hi : _ = Value.int .i64 65 := hi
      subst hu; subst hi
      have A : bits .and .u64 1082130432 15 = 0 := by decide
      have HB := Lib.hid hb
      have HH := Lib.hid hh
      have c1 := cell_of_heap hh (bufV_at _ 64 (by omega))
      have f1 := frozen_of_row wr w.heap.size 64 _ _ hh
      clear hb hh
      go_wp2_with fail
      refine ⟨⟨1, by omega, rfl, rfl, HB.out.setCell (Nat.le_refl _) _, ?_⟩, by simp [intOf]⟩
      have q := heap_setCell_same wr w.heap.size 64 _ _ (.int .u8 (48 : Nat)) HH.out
      rw [bufV_set _ _ _ (by omega)] at q
      rw [← hexG_step 1082130432 0 (by omega)]; exact q
    · replace hu : _ = Value.int .u64 67633152 := hu
      replace hi : _ = Value.int .i64 64 := hi
      subst hu; subst hi
      have A : bits .and .u64 67633152 15 = 0 := by decide
      have HB := Lib.hid hb
      have HH := Lib.hid hh
      have c1 := cell_of_heap hh (bufV_at _ 63 (by omega))
      have f1 := frozen_of_row wr w.heap.size 63 _ _ hh
      clear hb hh
      go_wp2_with fail
      refine ⟨⟨2, by omega, rfl, rfl, HB.out.setCell (Nat.le_refl _) _, ?_⟩, by simp [intOf]⟩
      have q := heap_setCell_same wr w.heap.size 63 _ _ (.int .u8 (48 : Nat)) HH.out
      rw [bufV_set _ _ _ (by omega)] at q
      rw [← hexG_step 1082130432 1 (by omega)]; exact q
    · replace hu : _ = Value.int .u64 4227072 := hu
      replace hi : _ = Value.int .i64 63 := hi
      subst hu; subst hi
      have A : bits .and .u64 4227072 15 = 0 := by decide
      have HB := Lib.hid hb
      have HH := Lib.hid hh
      have c1 := cell_of_heap hh (bufV_at _ 62 (by omega))
      have f1 := frozen_of_row wr w.heap.size 62 _ _ hh
      clear hb hh
      go_wp2_with fail
      refine ⟨⟨3, by omega, rfl, rfl, HB.out.setCell (Nat.le_refl _) _, ?_⟩, by simp [intOf]⟩
      have q := heap_setCell_same wr w.heap.size 62 _ _ (.int .u8 (48 : Nat)) HH.out
      rw [bufV_set _ _ _ (by omega)] at q
      rw [← hexG_step 1082130432 2 (by omega)]; exact q
    · replace hu : _ = Value.int .u64 264192 := hu
      replace hi : _ = Value.int .i64 62 := hi
      subst hu; subst hi
      have A : bits .and .u64 264192 15 = 0 := by decide
      have HB := Lib.hid hb
      have HH := Lib.hid hh
      have c1 := cell_of_heap hh (bufV_at _ 61 (by omega))
      have f1 := frozen_of_row wr w.heap.size 61 _ _ hh
      clear hb hh
      go_wp2_with fail
      refine ⟨⟨4, by omega, rfl, rfl, HB.out.setCell (Nat.le_refl _) _, ?_⟩, by simp [intOf]⟩
      have q := heap_setCell_same wr w.heap.size 61 _ _ (.int .u8 (48 : Nat)) HH.out
      rw [bufV_set _ _ _ (by omega)] at q
      rw [← hexG_step 1082130432 3 (by omega)]; exact q
    · replace hu : _ = Value.int .u64 16512 := hu
      replace hi : _ = Value.int .i64 61 := hi
      subst hu; subst hi
      have A : bits .and .u64 16512 15 = 0 := by decide
      have HB := Lib.hid hb
      have HH := Lib.hid hh
      have c1 := cell_of_heap hh (bufV_at _ 60 (by omega))
      have f1 := frozen_of_row wr w.heap.size 60 _ _ hh
      clear hb hh
      go_wp2_with fail
      refine ⟨⟨5, by omega, rfl, rfl, HB.out.setCell (Nat.le_refl _) _, ?_⟩, by simp [intOf]⟩
      have q := heap_setCell_same wr w.heap.size 60 _ _ (.int .u8 (48 : Nat)) HH.out
      rw [bufV_set _ _ _ (by omega)] at q
      rw [← hexG_step 1082130432 4 (by omega)]; exact q
    · replace hu : _ = Value.int .u64 1032 := hu
      replace hi : _ = Value.int .i64 60 := hi
      subst hu; subst hi
      have A : bits .and .u64 1032 15 = 8 := by decide
      have HB := Lib.hid hb
      have HH := Lib.hid hh
      have c1 := cell_of_heap hh (bufV_at _ 59 (by omega))
      have f1 := frozen_of_row wr w.heap.size 59 _ _ hh
      clear hb hh
      go_wp2_with fail
      refine ⟨⟨6, by omega, rfl, rfl, HB.out.setCell (Nat.le_refl _) _, ?_⟩, by simp [intOf]⟩
      have q := heap_setCell_same wr w.heap.size 59 _ _ (.int .u8 (56 : Nat)) HH.out
      rw [bufV_set _ _ _ (by omega)] at q
      rw [← hexG_step 1082130432 5 (by omega)]; exact q
    · replace hu : _ = Value.int .u64 64 := hu
      replace hi : _ = Value.int .i64 59 := hi
      subst hu; subst hi
      have A : bits .and .u64 64 15 = 0 := by decide
      have HB := Lib.hid hb
      have HH := Lib.hid hh
      have c1 := cell_of_heap hh (bufV_at _ 58 (by omega))
      have f1 := frozen_of_row wr w.heap.size 58 _ _ hh
      clear hb hh
      go_wp2_with fail
      refine ⟨⟨7, by omega, rfl, rfl, HB.out.setCell (Nat.le_refl _) _, ?_⟩, by simp [intOf]⟩
      have q := heap_setCell_same wr w.heap.size 58 _ _ (.int .u8 (48 : Nat)) HH.out
      rw [bufV_set _ _ _ (by omega)] at q
      rw [← hexG_step 1082130432 6 (by omega)]; exact q
    · replace hu : _ = Value.int .u64 4 := hu
      replace hi : _ = Value.int .i64 58 := hi
      subst hu; subst hi
      have A : bits .and .u64 4 15 = 4 := by decide
      have HB := Lib.hid hb
      have HH := Lib.hid hh
      have c1 := cell_of_heap hh (bufV_at _ 57 (by omega))
      have f1 := frozen_of_row wr w.heap.size 57 _ _ hh
      have HX : Hid ((wr.setCell ⟨w.heap.size, 57, none⟩ (.int .u8 52)).heap[w.heap.size]? = some (.cells (bufV (hexG 1082130432 8)) 146 (0, 0))) := Lib.hid (by
        have q := heap_setCell_same wr w.heap.size 57 _ _ (.int .u8 (52 : Nat)) hh
        rw [bufV_set _ _ _ (by omega)] at q
        rw [← hexG_step 1082130432 7 (by omega)]; exact q)
      have c2 := cell_of_heap HX.out (bufV_at _ 56 (by omega))
      have f2 := frozen_of_row _ w.heap.size 56 _ _ HX.out
      have HY : Hid (((wr.setCell ⟨w.heap.size, 57, none⟩ (.int .u8 52)).setCell ⟨w.heap.size, 56, none⟩ (.int .u8 45)).heap[w.heap.size]? = some (.cells (bufV (updF (hexG 1082130432 8) 56 45)) 146 (0, 0))) := Lib.hid (by
        have q := heap_setCell_same _ w.heap.size 56 _ _ (.int .u8 (45 : Nat)) HX.out
        rw [bufV_set _ _ _ (by omega)] at q; exact q)
      have cv1 : (convert 22 9 (.slice (some ⟨w.heap.size, 56, none⟩) 9 9)).run Tryz.prog ((wr.setCell ⟨w.heap.size, 57, none⟩ (.int .u8 52)).setCell ⟨w.heap.size, 56, none⟩ (.int .u8 45)) = .ok (.string ⟨#[45,52,48,56,48,48,48,48,48]⟩) ((wr.setCell ⟨w.heap.size, 57, none⟩ (.int .u8 52)).setCell ⟨w.heap.size, 56, none⟩ (.int .u8 45)) :=
        run_convert_bytes_back _ 22 9 5 ⟨w.heap.size, 56, none⟩ 9 [45,52,48,56,48,48,48,48,48] Tryz.underlying22 Tryz.underlying5 Tryz.underlying9 (fun j hj => by
          have hj' : j < 9 := hj
          have hadd : (⟨w.heap.size, 56, none⟩ : Addr).add j = ⟨w.heap.size, 56 + j, none⟩ := by unfold Addr.add; split <;> simp_all
          rw [hadd, cell_of_heap HY.out (bufV_at (updF (hexG 1082130432 8) 56 45) (56 + j) (by omega))]
          obtain rfl | rfl | rfl | rfl | rfl | rfl | rfl | rfl | rfl : j = 0 ∨ j = 1 ∨ j = 2 ∨ j = 3 ∨ j = 4 ∨ j = 5 ∨ j = 6 ∨ j = 7 ∨ j = 8 := by omega
          all_goals rfl)
      clear hb hh
      go_wp2_with fail
      go_ret2; exact ⟨rfl, (HB.out.setCell (Nat.le_refl _) _).setCell (Nat.le_refl _) _⟩

end Go.Proofs.YtdpdjcehobjohaaGreatDoor
