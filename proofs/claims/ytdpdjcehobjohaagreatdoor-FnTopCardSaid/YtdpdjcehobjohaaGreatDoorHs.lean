/- impl.sums on lists of 1, 4 and 16 numbers. -/
import Derived.Test.YtdpdjcehobjohaaGreatDoorGs
namespace Go.Proofs.YtdpdjcehobjohaaGreatDoor
open Go Go.RowKit Go.BigFrame Fl

/-- one stage of the sums -/
def stage (h : Nat) (F : Nat → Nat) : Nat → Nat := fun p => if p / h % 2 = 0 then a32 (F p) (F (p + h)) else s32 (F (p - h)) (F p)
def low (h p : Nat) : Nat := if p / h % 2 = 0 then p else p - h
def sMix (h : Nat) (F : Nat → Nat) (j : Nat) : Nat → Nat := fun p => if low h p < j then stage h F p else F p
def wt : Nat → (Nat → Nat) → Nat → Nat
  | 0, f => f
  | k + 1, f => stage (2 ^ k) (wt k f)
def SumOk (t : Nat) (f : Nat → Nat) : Prop := ∀ k, k < t → ∀ j, j < 2 ^ t → j / 2 ^ k % 2 = 0 →
  floatBits .add .f32 (wt k f j) (wt k f (j + 2 ^ k)) = some (a32 (wt k f j) (wt k f (j + 2 ^ k))) ∧
  floatBits .sub .f32 (wt k f j) (wt k f (j + 2 ^ k)) = some (s32 (wt k f j) (wt k f (j + 2 ^ k)))

theorem sMix_zero (h : Nat) (F : Nat → Nat) : sMix h F 0 = F := by funext p; unfold sMix; rw [if_neg (by omega)]
theorem sMix_j (h : Nat) (hh : h = 1 ∨ h = 2 ∨ h = 4 ∨ h = 8) (F : Nat → Nat) (j : Nat) (hj : j / h % 2 = 0) : sMix h F j j = F j ∧ sMix h F j (j + h) = F (j + h) := by
  constructor
  · unfold sMix low; rw [if_pos hj, if_neg (by omega)]
  · have e : ¬ (j + h) / h % 2 = 0 := by rcases hh with rfl | rfl | rfl | rfl <;> omega
    unfold sMix low
    rw [if_neg e, if_neg (by omega)]
theorem sMix_set (h : Nat) (hh : h = 1 ∨ h = 2 ∨ h = 4 ∨ h = 8) (F : Nat → Nat) (j : Nat) (hj : ¬ j / h % 2 = 0) : sMix h F j = sMix h F (j + 1) := by
  funext p; unfold sMix low; congr 1; apply propext
  by_cases e : p / h % 2 = 0
  · rw [if_pos e]
    have : p ≠ j := fun q => hj (q ▸ e)
    omega
  · rw [if_neg e]
    have : p - h ≠ j := by rcases hh with rfl | rfl | rfl | rfl <;> omega
    omega
theorem sMix_clear (h : Nat) (hh : h = 1 ∨ h = 2 ∨ h = 4 ∨ h = 8) (F : Nat → Nat) (j : Nat) (hj : j / h % 2 = 0) :
    updF (updF (sMix h F j) j (a32 (F j) (F (j + h)))) (j + h) (s32 (F j) (F (j + h))) = sMix h F (j + 1) := by
  funext p; unfold updF sMix
  by_cases e1 : p = j + h
  · subst e1
    have e2 : ¬ (j + h) / h % 2 = 0 := by rcases hh with rfl | rfl | rfl | rfl <;> omega
    rw [if_pos rfl, if_pos (by unfold low; rw [if_neg e2]; omega)]
    unfold stage; rw [if_neg e2, Nat.add_sub_cancel]
  · rw [if_neg e1]
    by_cases e2 : p = j
    · subst e2
      rw [if_pos rfl, if_pos (by unfold low; rw [if_pos hj]; omega)]
      unfold stage; rw [if_pos hj]
    · rw [if_neg e2]; congr 1; apply propext
      have : low h p ≠ j := by
        unfold low
        by_cases e : p / h % 2 = 0
        · rw [if_pos e]; exact e2
        · rw [if_neg e]; rcases hh with rfl | rfl | rfl | rfl <;> omega
      omega
theorem sMix_all (h : Nat) (F : Nat → Nat) (L p : Nat) (hp : p < L) : sMix h F L p = stage h F p := by
  unfold sMix; rw [if_pos (by unfold low; split <;> omega)]

theorem and_bit (h : Nat) (hh : h = 1 ∨ h = 2 ∨ h = 4 ∨ h = 8) (j : Nat) (hj : j < 16) : bits .and .i64 (j : Int) (h : Int) = if j / h % 2 = 0 then 0 else (h : Int) := by
  have : j = 0 ∨ j = 1 ∨ j = 2 ∨ j = 3 ∨ j = 4 ∨ j = 5 ∨ j = 6 ∨ j = 7 ∨ j = 8 ∨ j = 9 ∨ j = 10 ∨ j = 11 ∨ j = 12 ∨ j = 13 ∨ j = 14 ∨ j = 15 := by omega
  rcases hh with rfl | rfl | rfl | rfl <;> rcases this with rfl | rfl | rfl | rfl | rfl | rfl | rfl | rfl | rfl | rfl | rfl | rfl | rfl | rfl | rfl | rfl <;> decide

set_option maxRecDepth 100000 in
set_option maxHeartbeats 4000000 in
theorem sums1_c (v : Value) (f : Nat → Nat) (hf : SumOk 0 f) (w : World) (hv : RowF w 0 v 1 f) :
    Calls Tryz.prog 69 #[v] w fun e w' => (∃ v', e = .returned v' ∧ w'.ownsRow w.heap.size 40 1 v' 1 (fvs 1 (wt 0 f))) ∧ Below w.heap.size w w' := by
  have HV := Lib.hid hv
  have HF := Lib.hid hf
  clear hv hf
  go_enter Tryz.func69, Tryz.ntmps69
  go_wp2_with (first
    | (go_at_call 101
       ((with_reducible refine (cloneF_c v 1 (by omega) f _ HV.out).mono ?_))
       rintro e w1 ⟨⟨v1, rfl, ho⟩, hb1⟩
       obtain ⟨g, cap, cur, rfl, hbg, -⟩ := own_open ho (by omega)
       have HO := Lib.hid ho
       have HB := Lib.hid hb1
       clear ho hb1))
  go_loopw [4] (fun c wr => ∃ k : Nat, k ≤ 0 ∧ c = .int .i64 (2 ^ k : Nat) ∧ Below w.heap.size w wr ∧ wr.ownsRow w.heap.size 40 1 (.slice (some ⟨g, 0, none⟩) 1 cap) 1 (fvs 1 (wt k f))) (fun c _ => (1 - intOf c).toNat)
  case atStart => exact ⟨0, by omega, rfl, HB.out, HO.out⟩
  case round =>
    obtain ⟨k, hk, hck, hb, ho⟩ := hrel
    clear HB HO
    obtain rfl : k = 0 := by omega
    · replace hck : _ = Value.int .i64 1 := hck
      subst hck
      go_wp2_with fail
      go_ret; exact ⟨⟨_, rfl, ho⟩, hb⟩


set_option maxRecDepth 100000 in
set_option maxHeartbeats 4000000 in
theorem sums4_c (v : Value) (f : Nat → Nat) (hf : SumOk 2 f) (w : World) (hv : RowF w 0 v 4 f) :
    Calls Tryz.prog 69 #[v] w fun e w' => (∃ v', e = .returned v' ∧ w'.ownsRow w.heap.size 40 1 v' 4 (fvs 4 (wt 2 f))) ∧ Below w.heap.size w w' := by
  have HV := Lib.hid hv
  have HF := Lib.hid hf
  clear hv hf
  go_enter Tryz.func69, Tryz.ntmps69
  go_wp2_with (first
    | (go_at_call 101
       ((with_reducible refine (cloneF_c v 4 (by omega) f _ HV.out).mono ?_))
       rintro e w1 ⟨⟨v1, rfl, ho⟩, hb1⟩
       obtain ⟨g, cap, cur, rfl, hbg, -⟩ := own_open ho (by omega)
       have HO := Lib.hid ho
       have HB := Lib.hid hb1
       clear ho hb1))
  go_loopw [4] (fun c wr => ∃ k : Nat, k ≤ 2 ∧ c = .int .i64 (2 ^ k : Nat) ∧ Below w.heap.size w wr ∧ wr.ownsRow w.heap.size 40 1 (.slice (some ⟨g, 0, none⟩) 4 cap) 4 (fvs 4 (wt k f))) (fun c _ => (4 - intOf c).toNat)
  case atStart => exact ⟨0, by omega, rfl, HB.out, HO.out⟩
  case round =>
    obtain ⟨k, hk, hck, hb, ho⟩ := hrel
    clear HB HO
    obtain rfl | rfl | rfl : k = 0 ∨ k = 1 ∨ k = 2 := by omega
    · replace hck : _ = Value.int .i64 1 := hck
      subst hck
      have HO := Lib.hid ho
      have HB := Lib.hid hb
      clear ho hb
      go_wp2_with fail
      go_loopw [18] (fun c wr => ∃ j : Nat, j ≤ 4 ∧ c = .int .i64 j ∧ Below w.heap.size w wr ∧ wr.ownsRow w.heap.size 40 1 (.slice (some ⟨g, 0, none⟩) 4 cap) 4 (fvs 4 (sMix 1 (wt 0 f) j))) (fun c _ => (4 - intOf c).toNat)
      case atStart => exact ⟨0, by omega, rfl, HB.out, by rw [sMix_zero]; exact HO.out⟩
      case round =>
        obtain ⟨j, hj, rfl, hb, ho⟩ := hrel
        clear HB HO
        by_cases hlt : j < 4
        · have A := and_bit 1 (by omega) j (by omega)
          have HO := Lib.hid ho
          have HB := Lib.hid hb
          clear ho hb
          by_cases hbit : j / 1 % 2 = 0
          · replace A : bits .and .i64 (j : Int) 1 = 0 := by rw [if_pos hbit] at A; exact A
            have hjh : j + 1 < 4 := by omega
            have S := sMix_j 1 (by omega) (wt 0 f) j hbit
            have F := HF.out 0 (by omega) j (by omega) hbit
            have k1 := fb (show floatBits .add .f32 (wt 0 f j) (wt 0 f (j + 1)) = some (a32 (wt 0 f j) (wt 0 f (j + 1))) from F.1)
            have k2 := fb (show floatBits .sub .f32 (wt 0 f j) (wt 0 f (j + 1)) = some (s32 (wt 0 f j) (wt 0 f (j + 1))) from F.2)
            clear F
            have a1 : ∀ x : Under wr, x.1.cell? ⟨g, j, none⟩ = some (fv (wt 0 f j)) := fun x => by
              have q := x.cell (own_cell HO.out j (by omega)).1
              rw [S.1] at q; exact q
            have a2 : ∀ x : Under wr, x.1.cell? ⟨g, j + 1, none⟩ = some (fv (wt 0 f (j + 1))) := fun x => by
              have q := x.cell (own_cell HO.out (j + 1) (by omega)).1
              rw [S.2] at q; exact q
            have SS := Lib.hid S
            clear S
            go_wp2_with fail
            clear A
            refine wp_region_quietC (UC wr) (by kernel_rfl) (by kernel_rfl) (UC.drew wr) ?_
            repeat (go_big_quiet_step (fail))
            refine wpQuiet_nil ?_
            rintro _ ⟨x, rfl⟩
            clear a1 a2
            have HX := Lib.hid (own_below (t := 40) HO.out x.2 (Nat.le_refl _))
            have c1 := (own_cell HX.out j (by omega)).1
            have f1 := (own_cell HX.out j (by omega)).2.1
            have HY := Lib.hid (own_set HX.out j (a32 (wt 0 f j) (wt 0 f (j + 1))) (by omega))
            have c2 := (own_cell HY.out (j + 1) (by omega)).1
            have f2 := (own_cell HY.out (j + 1) (by omega)).2.1
            go_wp2_with fail
            refine ⟨⟨j + 1, by omega, by go_num, ((under_below HB.out x).setCell hbg _).setCell hbg _, ?_⟩, by simp [intOf]; omega⟩
            rw [← sMix_clear 1 (by omega) (wt 0 f) j hbit]
            exact own_set HY.out (j + 1) _ (by omega)
          · replace A : bits .and .i64 (j : Int) 1 = 1 := by rw [if_neg hbit] at A; exact A
            go_wp2_with fail
            exact ⟨⟨j + 1, by omega, by go_num, HB.out, by rw [← sMix_set 1 (by omega) _ _ hbit]; exact HO.out⟩, by simp [intOf]; omega⟩
        · have HO := Lib.hid ho
          have HB := Lib.hid hb
          clear ho hb
          go_wp2_with fail
          have HE : wr.ownsRow w.heap.size 40 1 (.slice (some ⟨g, 0, none⟩) 4 cap) 4 (fvs 4 (wt 1 f)) := own_ext HO.out (fun i hi => by
            have : j = 4 := by omega
            subst this; exact sMix_all 1 _ _ i hi)
          exact ⟨⟨1, by omega, rfl, HB.out, HE⟩, by simp [intOf]⟩
    · replace hck : _ = Value.int .i64 2 := hck
      subst hck
      have HO := Lib.hid ho
      have HB := Lib.hid hb
      clear ho hb
      go_wp2_with fail
      go_loopw [18] (fun c wr => ∃ j : Nat, j ≤ 4 ∧ c = .int .i64 j ∧ Below w.heap.size w wr ∧ wr.ownsRow w.heap.size 40 1 (.slice (some ⟨g, 0, none⟩) 4 cap) 4 (fvs 4 (sMix 2 (wt 1 f) j))) (fun c _ => (4 - intOf c).toNat)
      case atStart => exact ⟨0, by omega, rfl, HB.out, by rw [sMix_zero]; exact HO.out⟩
      case round =>
        obtain ⟨j, hj, rfl, hb, ho⟩ := hrel
        clear HB HO
        by_cases hlt : j < 4
        · have A := and_bit 2 (by omega) j (by omega)
          have HO := Lib.hid ho
          have HB := Lib.hid hb
          clear ho hb
          by_cases hbit : j / 2 % 2 = 0
          · replace A : bits .and .i64 (j : Int) 2 = 0 := by rw [if_pos hbit] at A; exact A
            have hjh : j + 2 < 4 := by omega
            have S := sMix_j 2 (by omega) (wt 1 f) j hbit
            have F := HF.out 1 (by omega) j (by omega) hbit
            have k1 := fb (show floatBits .add .f32 (wt 1 f j) (wt 1 f (j + 2)) = some (a32 (wt 1 f j) (wt 1 f (j + 2))) from F.1)
            have k2 := fb (show floatBits .sub .f32 (wt 1 f j) (wt 1 f (j + 2)) = some (s32 (wt 1 f j) (wt 1 f (j + 2))) from F.2)
            clear F
            have a1 : ∀ x : Under wr, x.1.cell? ⟨g, j, none⟩ = some (fv (wt 1 f j)) := fun x => by
              have q := x.cell (own_cell HO.out j (by omega)).1
              rw [S.1] at q; exact q
            have a2 : ∀ x : Under wr, x.1.cell? ⟨g, j + 2, none⟩ = some (fv (wt 1 f (j + 2))) := fun x => by
              have q := x.cell (own_cell HO.out (j + 2) (by omega)).1
              rw [S.2] at q; exact q
            have SS := Lib.hid S
            clear S
            go_wp2_with fail
            clear A
            refine wp_region_quietC (UC wr) (by kernel_rfl) (by kernel_rfl) (UC.drew wr) ?_
            repeat (go_big_quiet_step (fail))
            refine wpQuiet_nil ?_
            rintro _ ⟨x, rfl⟩
            clear a1 a2
            have HX := Lib.hid (own_below (t := 40) HO.out x.2 (Nat.le_refl _))
            have c1 := (own_cell HX.out j (by omega)).1
            have f1 := (own_cell HX.out j (by omega)).2.1
            have HY := Lib.hid (own_set HX.out j (a32 (wt 1 f j) (wt 1 f (j + 2))) (by omega))
            have c2 := (own_cell HY.out (j + 2) (by omega)).1
            have f2 := (own_cell HY.out (j + 2) (by omega)).2.1
            go_wp2_with fail
            refine ⟨⟨j + 1, by omega, by go_num, ((under_below HB.out x).setCell hbg _).setCell hbg _, ?_⟩, by simp [intOf]; omega⟩
            rw [← sMix_clear 2 (by omega) (wt 1 f) j hbit]
            exact own_set HY.out (j + 2) _ (by omega)
          · replace A : bits .and .i64 (j : Int) 2 = 2 := by rw [if_neg hbit] at A; exact A
            go_wp2_with fail
            exact ⟨⟨j + 1, by omega, by go_num, HB.out, by rw [← sMix_set 2 (by omega) _ _ hbit]; exact HO.out⟩, by simp [intOf]; omega⟩
        · have HO := Lib.hid ho
          have HB := Lib.hid hb
          clear ho hb
          go_wp2_with fail
          have HE : wr.ownsRow w.heap.size 40 1 (.slice (some ⟨g, 0, none⟩) 4 cap) 4 (fvs 4 (wt 2 f)) := own_ext HO.out (fun i hi => by
            have : j = 4 := by omega
            subst this; exact sMix_all 2 _ _ i hi)
          exact ⟨⟨2, by omega, rfl, HB.out, HE⟩, by simp [intOf]⟩
    · replace hck : _ = Value.int .i64 4 := hck
      subst hck
      go_wp2_with fail
      go_ret; exact ⟨⟨_, rfl, ho⟩, hb⟩


set_option maxRecDepth 100000 in
set_option maxHeartbeats 4000000 in
theorem sums16_c (v : Value) (f : Nat → Nat) (hf : SumOk 4 f) (w : World) (hv : RowF w 0 v 16 f) :
    Calls Tryz.prog 69 #[v] w fun e w' => (∃ v', e = .returned v' ∧ w'.ownsRow w.heap.size 40 1 v' 16 (fvs 16 (wt 4 f))) ∧ Below w.heap.size w w' := by
  have HV := Lib.hid hv
  have HF := Lib.hid hf
  clear hv hf
  go_enter Tryz.func69, Tryz.ntmps69
  go_wp2_with (first
    | (go_at_call 101
       ((with_reducible refine (cloneF_c v 16 (by omega) f _ HV.out).mono ?_))
       rintro e w1 ⟨⟨v1, rfl, ho⟩, hb1⟩
       obtain ⟨g, cap, cur, rfl, hbg, -⟩ := own_open ho (by omega)
       have HO := Lib.hid ho
       have HB := Lib.hid hb1
       clear ho hb1))
  go_loopw [4] (fun c wr => ∃ k : Nat, k ≤ 4 ∧ c = .int .i64 (2 ^ k : Nat) ∧ Below w.heap.size w wr ∧ wr.ownsRow w.heap.size 40 1 (.slice (some ⟨g, 0, none⟩) 16 cap) 16 (fvs 16 (wt k f))) (fun c _ => (16 - intOf c).toNat)
  case atStart => exact ⟨0, by omega, rfl, HB.out, HO.out⟩
  case round =>
    obtain ⟨k, hk, hck, hb, ho⟩ := hrel
    clear HB HO
    obtain rfl | rfl | rfl | rfl | rfl : k = 0 ∨ k = 1 ∨ k = 2 ∨ k = 3 ∨ k = 4 := by omega
    · replace hck : _ = Value.int .i64 1 := hck
      subst hck
      have HO := Lib.hid ho
      have HB := Lib.hid hb
      clear ho hb
      go_wp2_with fail
      go_loopw [18] (fun c wr => ∃ j : Nat, j ≤ 16 ∧ c = .int .i64 j ∧ Below w.heap.size w wr ∧ wr.ownsRow w.heap.size 40 1 (.slice (some ⟨g, 0, none⟩) 16 cap) 16 (fvs 16 (sMix 1 (wt 0 f) j))) (fun c _ => (16 - intOf c).toNat)
      case atStart => exact ⟨0, by omega, rfl, HB.out, by rw [sMix_zero]; exact HO.out⟩
      case round =>
        obtain ⟨j, hj, rfl, hb, ho⟩ := hrel
        clear HB HO
        by_cases hlt : j < 16
        · have A := and_bit 1 (by omega) j (by omega)
          have HO := Lib.hid ho
          have HB := Lib.hid hb
          clear ho hb
          by_cases hbit : j / 1 % 2 = 0
          · replace A : bits .and .i64 (j : Int) 1 = 0 := by rw [if_pos hbit] at A; exact A
            have hjh : j + 1 < 16 := by omega
            have S := sMix_j 1 (by omega) (wt 0 f) j hbit
            have F := HF.out 0 (by omega) j (by omega) hbit
            have k1 := fb (show floatBits .add .f32 (wt 0 f j) (wt 0 f (j + 1)) = some (a32 (wt 0 f j) (wt 0 f (j + 1))) from F.1)
            have k2 := fb (show floatBits .sub .f32 (wt 0 f j) (wt 0 f (j + 1)) = some (s32 (wt 0 f j) (wt 0 f (j + 1))) from F.2)
            clear F
            have a1 : ∀ x : Under wr, x.1.cell? ⟨g, j, none⟩ = some (fv (wt 0 f j)) := fun x => by
              have q := x.cell (own_cell HO.out j (by omega)).1
              rw [S.1] at q; exact q
            have a2 : ∀ x : Under wr, x.1.cell? ⟨g, j + 1, none⟩ = some (fv (wt 0 f (j + 1))) := fun x => by
              have q := x.cell (own_cell HO.out (j + 1) (by omega)).1
              rw [S.2] at q; exact q
            have SS := Lib.hid S
            clear S
            go_wp2_with fail
            clear A
            refine wp_region_quietC (UC wr) (by kernel_rfl) (by kernel_rfl) (UC.drew wr) ?_
            repeat (go_big_quiet_step (fail))
            refine wpQuiet_nil ?_
            rintro _ ⟨x, rfl⟩
            clear a1 a2
            have HX := Lib.hid (own_below (t := 40) HO.out x.2 (Nat.le_refl _))
            have c1 := (own_cell HX.out j (by omega)).1
            have f1 := (own_cell HX.out j (by omega)).2.1
            have HY := Lib.hid (own_set HX.out j (a32 (wt 0 f j) (wt 0 f (j + 1))) (by omega))
            have c2 := (own_cell HY.out (j + 1) (by omega)).1
            have f2 := (own_cell HY.out (j + 1) (by omega)).2.1
            go_wp2_with fail
            refine ⟨⟨j + 1, by omega, by go_num, ((under_below HB.out x).setCell hbg _).setCell hbg _, ?_⟩, by simp [intOf]; omega⟩
            rw [← sMix_clear 1 (by omega) (wt 0 f) j hbit]
            exact own_set HY.out (j + 1) _ (by omega)
          · replace A : bits .and .i64 (j : Int) 1 = 1 := by rw [if_neg hbit] at A; exact A
            go_wp2_with fail
            exact ⟨⟨j + 1, by omega, by go_num, HB.out, by rw [← sMix_set 1 (by omega) _ _ hbit]; exact HO.out⟩, by simp [intOf]; omega⟩
        · have HO := Lib.hid ho
          have HB := Lib.hid hb
          clear ho hb
          go_wp2_with fail
          have HE : wr.ownsRow w.heap.size 40 1 (.slice (some ⟨g, 0, none⟩) 16 cap) 16 (fvs 16 (wt 1 f)) := own_ext HO.out (fun i hi => by
            have : j = 16 := by omega
            subst this; exact sMix_all 1 _ _ i hi)
          exact ⟨⟨1, by omega, rfl, HB.out, HE⟩, by simp [intOf]⟩
    · replace hck : _ = Value.int .i64 2 := hck
      subst hck
      have HO := Lib.hid ho
      have HB := Lib.hid hb
      clear ho hb
      go_wp2_with fail
      go_loopw [18] (fun c wr => ∃ j : Nat, j ≤ 16 ∧ c = .int .i64 j ∧ Below w.heap.size w wr ∧ wr.ownsRow w.heap.size 40 1 (.slice (some ⟨g, 0, none⟩) 16 cap) 16 (fvs 16 (sMix 2 (wt 1 f) j))) (fun c _ => (16 - intOf c).toNat)
      case atStart => exact ⟨0, by omega, rfl, HB.out, by rw [sMix_zero]; exact HO.out⟩
      case round =>
        obtain ⟨j, hj, rfl, hb, ho⟩ := hrel
        clear HB HO
        by_cases hlt : j < 16
        · have A := and_bit 2 (by omega) j (by omega)
          have HO := Lib.hid ho
          have HB := Lib.hid hb
          clear ho hb
          by_cases hbit : j / 2 % 2 = 0
          · replace A : bits .and .i64 (j : Int) 2 = 0 := by rw [if_pos hbit] at A; exact A
            have hjh : j + 2 < 16 := by omega
            have S := sMix_j 2 (by omega) (wt 1 f) j hbit
            have F := HF.out 1 (by omega) j (by omega) hbit
            have k1 := fb (show floatBits .add .f32 (wt 1 f j) (wt 1 f (j + 2)) = some (a32 (wt 1 f j) (wt 1 f (j + 2))) from F.1)
            have k2 := fb (show floatBits .sub .f32 (wt 1 f j) (wt 1 f (j + 2)) = some (s32 (wt 1 f j) (wt 1 f (j + 2))) from F.2)
            clear F
            have a1 : ∀ x : Under wr, x.1.cell? ⟨g, j, none⟩ = some (fv (wt 1 f j)) := fun x => by
              have q := x.cell (own_cell HO.out j (by omega)).1
              rw [S.1] at q; exact q
            have a2 : ∀ x : Under wr, x.1.cell? ⟨g, j + 2, none⟩ = some (fv (wt 1 f (j + 2))) := fun x => by
              have q := x.cell (own_cell HO.out (j + 2) (by omega)).1
              rw [S.2] at q; exact q
            have SS := Lib.hid S
            clear S
            go_wp2_with fail
            clear A
            refine wp_region_quietC (UC wr) (by kernel_rfl) (by kernel_rfl) (UC.drew wr) ?_
            repeat (go_big_quiet_step (fail))
            refine wpQuiet_nil ?_
            rintro _ ⟨x, rfl⟩
            clear a1 a2
            have HX := Lib.hid (own_below (t := 40) HO.out x.2 (Nat.le_refl _))
            have c1 := (own_cell HX.out j (by omega)).1
            have f1 := (own_cell HX.out j (by omega)).2.1
            have HY := Lib.hid (own_set HX.out j (a32 (wt 1 f j) (wt 1 f (j + 2))) (by omega))
            have c2 := (own_cell HY.out (j + 2) (by omega)).1
            have f2 := (own_cell HY.out (j + 2) (by omega)).2.1
            go_wp2_with fail
            refine ⟨⟨j + 1, by omega, by go_num, ((under_below HB.out x).setCell hbg _).setCell hbg _, ?_⟩, by simp [intOf]; omega⟩
            rw [← sMix_clear 2 (by omega) (wt 1 f) j hbit]
            exact own_set HY.out (j + 2) _ (by omega)
          · replace A : bits .and .i64 (j : Int) 2 = 2 := by rw [if_neg hbit] at A; exact A
            go_wp2_with fail
            exact ⟨⟨j + 1, by omega, by go_num, HB.out, by rw [← sMix_set 2 (by omega) _ _ hbit]; exact HO.out⟩, by simp [intOf]; omega⟩
        · have HO := Lib.hid ho
          have HB := Lib.hid hb
          clear ho hb
          go_wp2_with fail
          have HE : wr.ownsRow w.heap.size 40 1 (.slice (some ⟨g, 0, none⟩) 16 cap) 16 (fvs 16 (wt 2 f)) := own_ext HO.out (fun i hi => by
            have : j = 16 := by omega
            subst this; exact sMix_all 2 _ _ i hi)
          exact ⟨⟨2, by omega, rfl, HB.out, HE⟩, by simp [intOf]⟩
    · replace hck : _ = Value.int .i64 4 := hck
      subst hck
      have HO := Lib.hid ho
      have HB := Lib.hid hb
      clear ho hb
      go_wp2_with fail
      go_loopw [18] (fun c wr => ∃ j : Nat, j ≤ 16 ∧ c = .int .i64 j ∧ Below w.heap.size w wr ∧ wr.ownsRow w.heap.size 40 1 (.slice (some ⟨g, 0, none⟩) 16 cap) 16 (fvs 16 (sMix 4 (wt 2 f) j))) (fun c _ => (16 - intOf c).toNat)
      case atStart => exact ⟨0, by omega, rfl, HB.out, by rw [sMix_zero]; exact HO.out⟩
      case round =>
        obtain ⟨j, hj, rfl, hb, ho⟩ := hrel
        clear HB HO
        by_cases hlt : j < 16
        · have A := and_bit 4 (by omega) j (by omega)
          have HO := Lib.hid ho
          have HB := Lib.hid hb
          clear ho hb
          by_cases hbit : j / 4 % 2 = 0
          · replace A : bits .and .i64 (j : Int) 4 = 0 := by rw [if_pos hbit] at A; exact A
            have hjh : j + 4 < 16 := by omega
            have S := sMix_j 4 (by omega) (wt 2 f) j hbit
            have F := HF.out 2 (by omega) j (by omega) hbit
            have k1 := fb (show floatBits .add .f32 (wt 2 f j) (wt 2 f (j + 4)) = some (a32 (wt 2 f j) (wt 2 f (j + 4))) from F.1)
            have k2 := fb (show floatBits .sub .f32 (wt 2 f j) (wt 2 f (j + 4)) = some (s32 (wt 2 f j) (wt 2 f (j + 4))) from F.2)
            clear F
            have a1 : ∀ x : Under wr, x.1.cell? ⟨g, j, none⟩ = some (fv (wt 2 f j)) := fun x => by
              have q := x.cell (own_cell HO.out j (by omega)).1
              rw [S.1] at q; exact q
            have a2 : ∀ x : Under wr, x.1.cell? ⟨g, j + 4, none⟩ = some (fv (wt 2 f (j + 4))) := fun x => by
              have q := x.cell (own_cell HO.out (j + 4) (by omega)).1
              rw [S.2] at q; exact q
            have SS := Lib.hid S
            clear S
            go_wp2_with fail
            clear A
            refine wp_region_quietC (UC wr) (by kernel_rfl) (by kernel_rfl) (UC.drew wr) ?_
            repeat (go_big_quiet_step (fail))
            refine wpQuiet_nil ?_
            rintro _ ⟨x, rfl⟩
            clear a1 a2
            have HX := Lib.hid (own_below (t := 40) HO.out x.2 (Nat.le_refl _))
            have c1 := (own_cell HX.out j (by omega)).1
            have f1 := (own_cell HX.out j (by omega)).2.1
            have HY := Lib.hid (own_set HX.out j (a32 (wt 2 f j) (wt 2 f (j + 4))) (by omega))
            have c2 := (own_cell HY.out (j + 4) (by omega)).1
            have f2 := (own_cell HY.out (j + 4) (by omega)).2.1
            go_wp2_with fail
            refine ⟨⟨j + 1, by omega, by go_num, ((under_below HB.out x).setCell hbg _).setCell hbg _, ?_⟩, by simp [intOf]; omega⟩
            rw [← sMix_clear 4 (by omega) (wt 2 f) j hbit]
            exact own_set HY.out (j + 4) _ (by omega)
          · replace A : bits .and .i64 (j : Int) 4 = 4 := by rw [if_neg hbit] at A; exact A
            go_wp2_with fail
            exact ⟨⟨j + 1, by omega, by go_num, HB.out, by rw [← sMix_set 4 (by omega) _ _ hbit]; exact HO.out⟩, by simp [intOf]; omega⟩
        · have HO := Lib.hid ho
          have HB := Lib.hid hb
          clear ho hb
          go_wp2_with fail
          have HE : wr.ownsRow w.heap.size 40 1 (.slice (some ⟨g, 0, none⟩) 16 cap) 16 (fvs 16 (wt 3 f)) := own_ext HO.out (fun i hi => by
            have : j = 16 := by omega
            subst this; exact sMix_all 4 _ _ i hi)
          exact ⟨⟨3, by omega, rfl, HB.out, HE⟩, by simp [intOf]⟩
    · replace hck : _ = Value.int .i64 8 := hck
      subst hck
      have HO := Lib.hid ho
      have HB := Lib.hid hb
      clear ho hb
      go_wp2_with fail
      go_loopw [18] (fun c wr => ∃ j : Nat, j ≤ 16 ∧ c = .int .i64 j ∧ Below w.heap.size w wr ∧ wr.ownsRow w.heap.size 40 1 (.slice (some ⟨g, 0, none⟩) 16 cap) 16 (fvs 16 (sMix 8 (wt 3 f) j))) (fun c _ => (16 - intOf c).toNat)
      case atStart => exact ⟨0, by omega, rfl, HB.out, by rw [sMix_zero]; exact HO.out⟩
      case round =>
        obtain ⟨j, hj, rfl, hb, ho⟩ := hrel
        clear HB HO
        by_cases hlt : j < 16
        · have A := and_bit 8 (by omega) j (by omega)
          have HO := Lib.hid ho
          have HB := Lib.hid hb
          clear ho hb
          by_cases hbit : j / 8 % 2 = 0
          · replace A : bits .and .i64 (j : Int) 8 = 0 := by rw [if_pos hbit] at A; exact A
            have hjh : j + 8 < 16 := by omega
            have S := sMix_j 8 (by omega) (wt 3 f) j hbit
            have F := HF.out 3 (by omega) j (by omega) hbit
            have k1 := fb (show floatBits .add .f32 (wt 3 f j) (wt 3 f (j + 8)) = some (a32 (wt 3 f j) (wt 3 f (j + 8))) from F.1)
            have k2 := fb (show floatBits .sub .f32 (wt 3 f j) (wt 3 f (j + 8)) = some (s32 (wt 3 f j) (wt 3 f (j + 8))) from F.2)
            clear F
            have a1 : ∀ x : Under wr, x.1.cell? ⟨g, j, none⟩ = some (fv (wt 3 f j)) := fun x => by
              have q := x.cell (own_cell HO.out j (by omega)).1
              rw [S.1] at q; exact q
            have a2 : ∀ x : Under wr, x.1.cell? ⟨g, j + 8, none⟩ = some (fv (wt 3 f (j + 8))) := fun x => by
              have q := x.cell (own_cell HO.out (j + 8) (by omega)).1
              rw [S.2] at q; exact q
            have SS := Lib.hid S
            clear S
            go_wp2_with fail
            clear A
            refine wp_region_quietC (UC wr) (by kernel_rfl) (by kernel_rfl) (UC.drew wr) ?_
            repeat (go_big_quiet_step (fail))
            refine wpQuiet_nil ?_
            rintro _ ⟨x, rfl⟩
            clear a1 a2
            have HX := Lib.hid (own_below (t := 40) HO.out x.2 (Nat.le_refl _))
            have c1 := (own_cell HX.out j (by omega)).1
            have f1 := (own_cell HX.out j (by omega)).2.1
            have HY := Lib.hid (own_set HX.out j (a32 (wt 3 f j) (wt 3 f (j + 8))) (by omega))
            have c2 := (own_cell HY.out (j + 8) (by omega)).1
            have f2 := (own_cell HY.out (j + 8) (by omega)).2.1
            go_wp2_with fail
            refine ⟨⟨j + 1, by omega, by go_num, ((under_below HB.out x).setCell hbg _).setCell hbg _, ?_⟩, by simp [intOf]; omega⟩
            rw [← sMix_clear 8 (by omega) (wt 3 f) j hbit]
            exact own_set HY.out (j + 8) _ (by omega)
          · replace A : bits .and .i64 (j : Int) 8 = 8 := by rw [if_neg hbit] at A; exact A
            go_wp2_with fail
            exact ⟨⟨j + 1, by omega, by go_num, HB.out, by rw [← sMix_set 8 (by omega) _ _ hbit]; exact HO.out⟩, by simp [intOf]; omega⟩
        · have HO := Lib.hid ho
          have HB := Lib.hid hb
          clear ho hb
          go_wp2_with fail
          have HE : wr.ownsRow w.heap.size 40 1 (.slice (some ⟨g, 0, none⟩) 16 cap) 16 (fvs 16 (wt 4 f)) := own_ext HO.out (fun i hi => by
            have : j = 16 := by omega
            subst this; exact sMix_all 8 _ _ i hi)
          exact ⟨⟨4, by omega, rfl, HB.out, HE⟩, by simp [intOf]⟩
    · replace hck : _ = Value.int .i64 16 := hck
      subst hck
      go_wp2_with fail
      go_ret; exact ⟨⟨_, rfl, ho⟩, hb⟩

end Go.Proofs.YtdpdjcehobjohaaGreatDoor
