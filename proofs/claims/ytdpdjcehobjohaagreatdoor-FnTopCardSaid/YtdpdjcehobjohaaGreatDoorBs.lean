/- impl.sumsBack, impl.SumsByCodes, impl.SumsBack on lists of 1, 4 and 16 numbers. -/
import Derived.Test.YtdpdjcehobjohaaGreatDoorHs
namespace Go.Proofs.YtdpdjcehobjohaaGreatDoor
open Go Go.RowKit Go.BigFrame Fl

def dM (F : Nat → Nat) (a j : Nat) : Nat → Nat := fun i => if i < j then q32 (F i) a else F i
theorem dM_at (F : Nat → Nat) (a j : Nat) : dM F a j j = F j := by unfold dM; rw [if_neg (by omega)]
theorem dM_step (F : Nat → Nat) (a j : Nat) : updF (dM F a j) j (q32 (F j) a) = dM F a (j + 1) := by
  funext i; unfold updF dM
  by_cases e : i = j
  · subst e; rw [if_pos rfl, if_pos (by omega)]
  · rw [if_neg e]; congr 1; apply propext; omega


set_option maxRecDepth 100000 in
set_option maxHeartbeats 4000000 in
theorem sumsBack1_c (v : Value) (f : Nat → Nat) (hf : SumOk 0 f) (hq : ∀ i, i < 1 → floatBits .quo .f32 (wt 0 f i) 1065353216 = some (q32 (wt 0 f i) 1065353216)) (w : World) (hv : RowF w 0 v 1 f) :
    Calls Tryz.prog 70 #[v] w fun e w' => (∃ v', e = .returned v' ∧ w'.ownsRow w.heap.size 40 1 v' 1 (fvs 1 fun i => q32 (wt 0 f i) 1065353216)) ∧ Below w.heap.size w w' := by
  have HQ := Lib.hid hq
  have C : ∀ W : World, (convert 3 40 (.int .i64 1)).run Tryz.prog W = .ok (.float .f32 1065353216) W := fun W => by kernel_rfl
  clear hq
  go_enter Tryz.func70, Tryz.ntmps70
  go_wp2_with (first
    | (go_at_call 69
       ((with_reducible refine (sums1_c v f hf _ hv).mono ?_))
       rintro e w1 ⟨⟨v1, rfl, ho⟩, hb1⟩
       obtain ⟨g, cap, cur, rfl, hbg, -⟩ := own_open ho (by omega)
       have HO := Lib.hid ho
       have HB := Lib.hid hb1
       clear ho hb1))
  go_loopw [9] (fun c wr => ∃ j : Nat, j ≤ 1 ∧ c = .int .i64 j ∧ Below w.heap.size w wr ∧ wr.ownsRow w.heap.size 40 1 (.slice (some ⟨g, 0, none⟩) 1 cap) 1 (fvs 1 (dM (wt 0 f) 1065353216 j))) (fun c _ => (1 - intOf c).toNat)
  case atStart => exact ⟨0, by omega, rfl, HB.out, own_ext HO.out (fun i _ => by unfold dM; rw [if_neg (by omega)])⟩
  case round =>
    obtain ⟨j, hj, rfl, hb, ho⟩ := hrel
    clear HB HO
    by_cases hlt : j < 1
    · have c1 := (own_cell ho j (by omega)).1
      rw [dM_at] at c1
      have f1 := (own_cell ho j (by omega)).2.1
      have k1 := fb (HQ.out j hlt)
      have HO := Lib.hid ho
      have HB := Lib.hid hb
      clear ho hb
      go_wp2_with fail
      refine ⟨⟨j + 1, by omega, by go_num, HB.out.setCell hbg _, ?_⟩, by simp [intOf]; omega⟩
      rw [← dM_step]; exact own_set HO.out j _ (by omega)
    · go_wp2_with fail
      go_ret; exact ⟨⟨_, rfl, own_ext ho (fun i hi => by unfold dM; rw [if_pos (by omega)])⟩, hb⟩


set_option maxHeartbeats 1000000 in
theorem sumsByCodesS1_c (v : Value) (f : Nat → Nat) (h0 : ∀ i, i < 1 → FinOk (f i)) (hf : SumOk 0 f) (h1 : ∀ i, i < 1 → FinOk (wt 0 f i)) (w : World) (hv : RowF w 0 v 1 f) :
    Calls Tryz.prog 33 #[v] w fun e w' => (∃ v', e = .returned (.tuple #[v', .int .i64 0]) ∧ w'.ownsRow w.heap.size 40 1 v' 1 (fvs 1 fun i => wt 0 f i)) ∧ Below w.heap.size w w' := by
  have HV := Lib.hid hv
  have H0 := Lib.hid h0
  have H1 := Lib.hid h1
  clear hv h0 h1
  go_enter Tryz.func33, Tryz.ntmps33
  go_wp2_with (first
    | (go_at_call 66; ((with_reducible refine (listCode_c v 1 (by omega) f _ HV.out H0.out).mono ?_)); rintro e w1 ⟨rfl, rfl⟩)
    | (go_at_call 69
       ((with_reducible refine (sums1_c v f hf _ HV.out).mono ?_))
       rintro e w1 ⟨⟨v1, rfl, ho⟩, hb1⟩
       have HO := Lib.hid ho
       have HB := Lib.hid hb1
       clear ho hb1)
    | (go_at_call 68; ((with_reducible refine (finite_c v1 1 (by omega) (fun i => wt 0 f i) _ ((RowF.of_own HO.out (by omega)).weak (Nat.zero_le _)) H1.out).mono ?_)); rintro e w2 ⟨rfl, rfl⟩))
  go_ret2; exact ⟨⟨_, rfl, HO.out⟩, HB.out⟩

set_option maxHeartbeats 1000000 in
theorem sumsByCodes1_c (v : Value) (f : Nat → Nat) (h0 : ∀ i, i < 1 → FinOk (f i)) (hf : SumOk 0 f) (h1 : ∀ i, i < 1 → FinOk (wt 0 f i)) (w : World) (hv : RowF w 0 v 1 f) :
    Calls Tryz.prog 17 #[v] w fun e w' => (∃ v', e = .returned (.tuple #[v', .int .i64 0]) ∧ w'.ownsRow w.heap.size 40 1 v' 1 (fvs 1 fun i => pz (wt 0 f i))) ∧ Below w.heap.size w w' := by
  have K : Hid (∀ w1, Below w.heap.size w w1 → Calls Tryz.prog 33 #[v] w1 fun e w' => (∃ v', e = .returned (.tuple #[v', .int .i64 0]) ∧ w'.ownsRow w1.heap.size 40 1 v' 1 (fvs 1 fun i => wt 0 f i)) ∧ Below w1.heap.size w1 w') :=
    Lib.hid fun w1 hb => sumsByCodesS1_c v f h0 hf h1 w1 (hv.below hb (Nat.le_refl _))
  clear hv h0 hf h1
  go_enter Tryz.func17, Tryz.ntmps17
  go_wp2_with (first
    | (go_at_call 33
       ((with_reducible refine (K.out _ (Below.refl _ _)).mono ?_))
       rintro e w1 ⟨⟨v1, rfl, ho⟩, hb1⟩
       have HO := Lib.hid ho
       have HB := Lib.hid hb1
       clear ho hb1)
    | (go_at_call 34
       ((with_reducible refine (plainF_c v1 1 (by omega) (fun i => wt 0 f i) _ _ HO.out).mono ?_))
       rintro e w2 ⟨rfl, ho2, hg2⟩
       have HO2 := Lib.hid ho2
       have HB2 := Lib.hid (HB.out.trans (grown_below hg2 (fun k hk => (HO.out.lt k hk).1) HB.out.size))
       clear ho2 hg2))
  go_ret2; exact ⟨⟨_, rfl, HO2.out⟩, HB2.out⟩


set_option maxHeartbeats 1000000 in
theorem sumsBackCS1_c (v : Value) (f : Nat → Nat) (h0 : ∀ i, i < 1 → FinOk (f i)) (hf : SumOk 0 f) (hq : ∀ i, i < 1 → floatBits .quo .f32 (wt 0 f i) 1065353216 = some (q32 (wt 0 f i) 1065353216)) (h1 : ∀ i, i < 1 → FinOk (q32 (wt 0 f i) 1065353216)) (w : World) (hv : RowF w 0 v 1 f) :
    Calls Tryz.prog 35 #[v] w fun e w' => (∃ v', e = .returned (.tuple #[v', .int .i64 0]) ∧ w'.ownsRow w.heap.size 40 1 v' 1 (fvs 1 fun i => q32 (wt 0 f i) 1065353216)) ∧ Below w.heap.size w w' := by
  have HV := Lib.hid hv
  have H0 := Lib.hid h0
  have H1 := Lib.hid h1
  clear hv h0 h1
  go_enter Tryz.func35, Tryz.ntmps35
  go_wp2_with (first
    | (go_at_call 66; ((with_reducible refine (listCode_c v 1 (by omega) f _ HV.out H0.out).mono ?_)); rintro e w1 ⟨rfl, rfl⟩)
    | (go_at_call 70
       ((with_reducible refine (sumsBack1_c v f hf hq _ HV.out).mono ?_))
       rintro e w1 ⟨⟨v1, rfl, ho⟩, hb1⟩
       have HO := Lib.hid ho
       have HB := Lib.hid hb1
       clear ho hb1)
    | (go_at_call 68; ((with_reducible refine (finite_c v1 1 (by omega) (fun i => q32 (wt 0 f i) 1065353216) _ ((RowF.of_own HO.out (by omega)).weak (Nat.zero_le _)) H1.out).mono ?_)); rintro e w2 ⟨rfl, rfl⟩))
  go_ret2; exact ⟨⟨_, rfl, HO.out⟩, HB.out⟩

set_option maxHeartbeats 1000000 in
theorem sumsBackC1_c (v : Value) (f : Nat → Nat) (h0 : ∀ i, i < 1 → FinOk (f i)) (hf : SumOk 0 f) (hq : ∀ i, i < 1 → floatBits .quo .f32 (wt 0 f i) 1065353216 = some (q32 (wt 0 f i) 1065353216)) (h1 : ∀ i, i < 1 → FinOk (q32 (wt 0 f i) 1065353216)) (w : World) (hv : RowF w 0 v 1 f) :
    Calls Tryz.prog 18 #[v] w fun e w' => (∃ v', e = .returned (.tuple #[v', .int .i64 0]) ∧ w'.ownsRow w.heap.size 40 1 v' 1 (fvs 1 fun i => pz (q32 (wt 0 f i) 1065353216))) ∧ Below w.heap.size w w' := by
  have K : Hid (∀ w1, Below w.heap.size w w1 → Calls Tryz.prog 35 #[v] w1 fun e w' => (∃ v', e = .returned (.tuple #[v', .int .i64 0]) ∧ w'.ownsRow w1.heap.size 40 1 v' 1 (fvs 1 fun i => q32 (wt 0 f i) 1065353216)) ∧ Below w1.heap.size w1 w') :=
    Lib.hid fun w1 hb => sumsBackCS1_c v f h0 hf hq h1 w1 (hv.below hb (Nat.le_refl _))
  clear hv h0 hf h1 hq
  go_enter Tryz.func18, Tryz.ntmps18
  go_wp2_with (first
    | (go_at_call 35
       ((with_reducible refine (K.out _ (Below.refl _ _)).mono ?_))
       rintro e w1 ⟨⟨v1, rfl, ho⟩, hb1⟩
       have HO := Lib.hid ho
       have HB := Lib.hid hb1
       clear ho hb1)
    | (go_at_call 34
       ((with_reducible refine (plainF_c v1 1 (by omega) (fun i => q32 (wt 0 f i) 1065353216) _ _ HO.out).mono ?_))
       rintro e w2 ⟨rfl, ho2, hg2⟩
       have HO2 := Lib.hid ho2
       have HB2 := Lib.hid (HB.out.trans (grown_below hg2 (fun k hk => (HO.out.lt k hk).1) HB.out.size))
       clear ho2 hg2))
  go_ret2; exact ⟨⟨_, rfl, HO2.out⟩, HB2.out⟩


set_option maxRecDepth 100000 in
set_option maxHeartbeats 4000000 in
theorem sumsBack4_c (v : Value) (f : Nat → Nat) (hf : SumOk 2 f) (hq : ∀ i, i < 4 → floatBits .quo .f32 (wt 2 f i) 1082130432 = some (q32 (wt 2 f i) 1082130432)) (w : World) (hv : RowF w 0 v 4 f) :
    Calls Tryz.prog 70 #[v] w fun e w' => (∃ v', e = .returned v' ∧ w'.ownsRow w.heap.size 40 1 v' 4 (fvs 4 fun i => q32 (wt 2 f i) 1082130432)) ∧ Below w.heap.size w w' := by
  have HQ := Lib.hid hq
  have C : ∀ W : World, (convert 3 40 (.int .i64 4)).run Tryz.prog W = .ok (.float .f32 1082130432) W := fun W => by kernel_rfl
  clear hq
  go_enter Tryz.func70, Tryz.ntmps70
  go_wp2_with (first
    | (go_at_call 69
       ((with_reducible refine (sums4_c v f hf _ hv).mono ?_))
       rintro e w1 ⟨⟨v1, rfl, ho⟩, hb1⟩
       obtain ⟨g, cap, cur, rfl, hbg, -⟩ := own_open ho (by omega)
       have HO := Lib.hid ho
       have HB := Lib.hid hb1
       clear ho hb1))
  go_loopw [9] (fun c wr => ∃ j : Nat, j ≤ 4 ∧ c = .int .i64 j ∧ Below w.heap.size w wr ∧ wr.ownsRow w.heap.size 40 1 (.slice (some ⟨g, 0, none⟩) 4 cap) 4 (fvs 4 (dM (wt 2 f) 1082130432 j))) (fun c _ => (4 - intOf c).toNat)
  case atStart => exact ⟨0, by omega, rfl, HB.out, own_ext HO.out (fun i _ => by unfold dM; rw [if_neg (by omega)])⟩
  case round =>
    obtain ⟨j, hj, rfl, hb, ho⟩ := hrel
    clear HB HO
    by_cases hlt : j < 4
    · have c1 := (own_cell ho j (by omega)).1
      rw [dM_at] at c1
      have f1 := (own_cell ho j (by omega)).2.1
      have k1 := fb (HQ.out j hlt)
      have HO := Lib.hid ho
      have HB := Lib.hid hb
      clear ho hb
      go_wp2_with fail
      refine ⟨⟨j + 1, by omega, by go_num, HB.out.setCell hbg _, ?_⟩, by simp [intOf]; omega⟩
      rw [← dM_step]; exact own_set HO.out j _ (by omega)
    · go_wp2_with fail
      go_ret; exact ⟨⟨_, rfl, own_ext ho (fun i hi => by unfold dM; rw [if_pos (by omega)])⟩, hb⟩


set_option maxHeartbeats 1000000 in
theorem sumsByCodesS4_c (v : Value) (f : Nat → Nat) (h0 : ∀ i, i < 4 → FinOk (f i)) (hf : SumOk 2 f) (h1 : ∀ i, i < 4 → FinOk (wt 2 f i)) (w : World) (hv : RowF w 0 v 4 f) :
    Calls Tryz.prog 33 #[v] w fun e w' => (∃ v', e = .returned (.tuple #[v', .int .i64 0]) ∧ w'.ownsRow w.heap.size 40 1 v' 4 (fvs 4 fun i => wt 2 f i)) ∧ Below w.heap.size w w' := by
  have HV := Lib.hid hv
  have H0 := Lib.hid h0
  have H1 := Lib.hid h1
  clear hv h0 h1
  go_enter Tryz.func33, Tryz.ntmps33
  go_wp2_with (first
    | (go_at_call 66; ((with_reducible refine (listCode_c v 4 (by omega) f _ HV.out H0.out).mono ?_)); rintro e w1 ⟨rfl, rfl⟩)
    | (go_at_call 69
       ((with_reducible refine (sums4_c v f hf _ HV.out).mono ?_))
       rintro e w1 ⟨⟨v1, rfl, ho⟩, hb1⟩
       have HO := Lib.hid ho
       have HB := Lib.hid hb1
       clear ho hb1)
    | (go_at_call 68; ((with_reducible refine (finite_c v1 4 (by omega) (fun i => wt 2 f i) _ ((RowF.of_own HO.out (by omega)).weak (Nat.zero_le _)) H1.out).mono ?_)); rintro e w2 ⟨rfl, rfl⟩))
  go_ret2; exact ⟨⟨_, rfl, HO.out⟩, HB.out⟩

set_option maxHeartbeats 1000000 in
theorem sumsByCodes4_c (v : Value) (f : Nat → Nat) (h0 : ∀ i, i < 4 → FinOk (f i)) (hf : SumOk 2 f) (h1 : ∀ i, i < 4 → FinOk (wt 2 f i)) (w : World) (hv : RowF w 0 v 4 f) :
    Calls Tryz.prog 17 #[v] w fun e w' => (∃ v', e = .returned (.tuple #[v', .int .i64 0]) ∧ w'.ownsRow w.heap.size 40 1 v' 4 (fvs 4 fun i => pz (wt 2 f i))) ∧ Below w.heap.size w w' := by
  have K : Hid (∀ w1, Below w.heap.size w w1 → Calls Tryz.prog 33 #[v] w1 fun e w' => (∃ v', e = .returned (.tuple #[v', .int .i64 0]) ∧ w'.ownsRow w1.heap.size 40 1 v' 4 (fvs 4 fun i => wt 2 f i)) ∧ Below w1.heap.size w1 w') :=
    Lib.hid fun w1 hb => sumsByCodesS4_c v f h0 hf h1 w1 (hv.below hb (Nat.le_refl _))
  clear hv h0 hf h1
  go_enter Tryz.func17, Tryz.ntmps17
  go_wp2_with (first
    | (go_at_call 33
       ((with_reducible refine (K.out _ (Below.refl _ _)).mono ?_))
       rintro e w1 ⟨⟨v1, rfl, ho⟩, hb1⟩
       have HO := Lib.hid ho
       have HB := Lib.hid hb1
       clear ho hb1)
    | (go_at_call 34
       ((with_reducible refine (plainF_c v1 4 (by omega) (fun i => wt 2 f i) _ _ HO.out).mono ?_))
       rintro e w2 ⟨rfl, ho2, hg2⟩
       have HO2 := Lib.hid ho2
       have HB2 := Lib.hid (HB.out.trans (grown_below hg2 (fun k hk => (HO.out.lt k hk).1) HB.out.size))
       clear ho2 hg2))
  go_ret2; exact ⟨⟨_, rfl, HO2.out⟩, HB2.out⟩


set_option maxHeartbeats 1000000 in
theorem sumsBackCS4_c (v : Value) (f : Nat → Nat) (h0 : ∀ i, i < 4 → FinOk (f i)) (hf : SumOk 2 f) (hq : ∀ i, i < 4 → floatBits .quo .f32 (wt 2 f i) 1082130432 = some (q32 (wt 2 f i) 1082130432)) (h1 : ∀ i, i < 4 → FinOk (q32 (wt 2 f i) 1082130432)) (w : World) (hv : RowF w 0 v 4 f) :
    Calls Tryz.prog 35 #[v] w fun e w' => (∃ v', e = .returned (.tuple #[v', .int .i64 0]) ∧ w'.ownsRow w.heap.size 40 1 v' 4 (fvs 4 fun i => q32 (wt 2 f i) 1082130432)) ∧ Below w.heap.size w w' := by
  have HV := Lib.hid hv
  have H0 := Lib.hid h0
  have H1 := Lib.hid h1
  clear hv h0 h1
  go_enter Tryz.func35, Tryz.ntmps35
  go_wp2_with (first
    | (go_at_call 66; ((with_reducible refine (listCode_c v 4 (by omega) f _ HV.out H0.out).mono ?_)); rintro e w1 ⟨rfl, rfl⟩)
    | (go_at_call 70
       ((with_reducible refine (sumsBack4_c v f hf hq _ HV.out).mono ?_))
       rintro e w1 ⟨⟨v1, rfl, ho⟩, hb1⟩
       have HO := Lib.hid ho
       have HB := Lib.hid hb1
       clear ho hb1)
    | (go_at_call 68; ((with_reducible refine (finite_c v1 4 (by omega) (fun i => q32 (wt 2 f i) 1082130432) _ ((RowF.of_own HO.out (by omega)).weak (Nat.zero_le _)) H1.out).mono ?_)); rintro e w2 ⟨rfl, rfl⟩))
  go_ret2; exact ⟨⟨_, rfl, HO.out⟩, HB.out⟩

set_option maxHeartbeats 1000000 in
theorem sumsBackC4_c (v : Value) (f : Nat → Nat) (h0 : ∀ i, i < 4 → FinOk (f i)) (hf : SumOk 2 f) (hq : ∀ i, i < 4 → floatBits .quo .f32 (wt 2 f i) 1082130432 = some (q32 (wt 2 f i) 1082130432)) (h1 : ∀ i, i < 4 → FinOk (q32 (wt 2 f i) 1082130432)) (w : World) (hv : RowF w 0 v 4 f) :
    Calls Tryz.prog 18 #[v] w fun e w' => (∃ v', e = .returned (.tuple #[v', .int .i64 0]) ∧ w'.ownsRow w.heap.size 40 1 v' 4 (fvs 4 fun i => pz (q32 (wt 2 f i) 1082130432))) ∧ Below w.heap.size w w' := by
  have K : Hid (∀ w1, Below w.heap.size w w1 → Calls Tryz.prog 35 #[v] w1 fun e w' => (∃ v', e = .returned (.tuple #[v', .int .i64 0]) ∧ w'.ownsRow w1.heap.size 40 1 v' 4 (fvs 4 fun i => q32 (wt 2 f i) 1082130432)) ∧ Below w1.heap.size w1 w') :=
    Lib.hid fun w1 hb => sumsBackCS4_c v f h0 hf hq h1 w1 (hv.below hb (Nat.le_refl _))
  clear hv h0 hf h1 hq
  go_enter Tryz.func18, Tryz.ntmps18
  go_wp2_with (first
    | (go_at_call 35
       ((with_reducible refine (K.out _ (Below.refl _ _)).mono ?_))
       rintro e w1 ⟨⟨v1, rfl, ho⟩, hb1⟩
       have HO := Lib.hid ho
       have HB := Lib.hid hb1
       clear ho hb1)
    | (go_at_call 34
       ((with_reducible refine (plainF_c v1 4 (by omega) (fun i => q32 (wt 2 f i) 1082130432) _ _ HO.out).mono ?_))
       rintro e w2 ⟨rfl, ho2, hg2⟩
       have HO2 := Lib.hid ho2
       have HB2 := Lib.hid (HB.out.trans (grown_below hg2 (fun k hk => (HO.out.lt k hk).1) HB.out.size))
       clear ho2 hg2))
  go_ret2; exact ⟨⟨_, rfl, HO2.out⟩, HB2.out⟩


set_option maxRecDepth 100000 in
set_option maxHeartbeats 4000000 in
theorem sumsBack16_c (v : Value) (f : Nat → Nat) (hf : SumOk 4 f) (hq : ∀ i, i < 16 → floatBits .quo .f32 (wt 4 f i) 1098907648 = some (q32 (wt 4 f i) 1098907648)) (w : World) (hv : RowF w 0 v 16 f) :
    Calls Tryz.prog 70 #[v] w fun e w' => (∃ v', e = .returned v' ∧ w'.ownsRow w.heap.size 40 1 v' 16 (fvs 16 fun i => q32 (wt 4 f i) 1098907648)) ∧ Below w.heap.size w w' := by
  have HQ := Lib.hid hq
  have C : ∀ W : World, (convert 3 40 (.int .i64 16)).run Tryz.prog W = .ok (.float .f32 1098907648) W := fun W => by kernel_rfl
  clear hq
  go_enter Tryz.func70, Tryz.ntmps70
  go_wp2_with (first
    | (go_at_call 69
       ((with_reducible refine (sums16_c v f hf _ hv).mono ?_))
       rintro e w1 ⟨⟨v1, rfl, ho⟩, hb1⟩
       obtain ⟨g, cap, cur, rfl, hbg, -⟩ := own_open ho (by omega)
       have HO := Lib.hid ho
       have HB := Lib.hid hb1
       clear ho hb1))
  go_loopw [9] (fun c wr => ∃ j : Nat, j ≤ 16 ∧ c = .int .i64 j ∧ Below w.heap.size w wr ∧ wr.ownsRow w.heap.size 40 1 (.slice (some ⟨g, 0, none⟩) 16 cap) 16 (fvs 16 (dM (wt 4 f) 1098907648 j))) (fun c _ => (16 - intOf c).toNat)
  case atStart => exact ⟨0, by omega, rfl, HB.out, own_ext HO.out (fun i _ => by unfold dM; rw [if_neg (by omega)])⟩
  case round =>
    obtain ⟨j, hj, rfl, hb, ho⟩ := hrel
    clear HB HO
    by_cases hlt : j < 16
    · have c1 := (own_cell ho j (by omega)).1
      rw [dM_at] at c1
      have f1 := (own_cell ho j (by omega)).2.1
      have k1 := fb (HQ.out j hlt)
      have HO := Lib.hid ho
      have HB := Lib.hid hb
      clear ho hb
      go_wp2_with fail
      refine ⟨⟨j + 1, by omega, by go_num, HB.out.setCell hbg _, ?_⟩, by simp [intOf]; omega⟩
      rw [← dM_step]; exact own_set HO.out j _ (by omega)
    · go_wp2_with fail
      go_ret; exact ⟨⟨_, rfl, own_ext ho (fun i hi => by unfold dM; rw [if_pos (by omega)])⟩, hb⟩


set_option maxHeartbeats 1000000 in
theorem sumsByCodesS16_c (v : Value) (f : Nat → Nat) (h0 : ∀ i, i < 16 → FinOk (f i)) (hf : SumOk 4 f) (h1 : ∀ i, i < 16 → FinOk (wt 4 f i)) (w : World) (hv : RowF w 0 v 16 f) :
    Calls Tryz.prog 33 #[v] w fun e w' => (∃ v', e = .returned (.tuple #[v', .int .i64 0]) ∧ w'.ownsRow w.heap.size 40 1 v' 16 (fvs 16 fun i => wt 4 f i)) ∧ Below w.heap.size w w' := by
  have HV := Lib.hid hv
  have H0 := Lib.hid h0
  have H1 := Lib.hid h1
  clear hv h0 h1
  go_enter Tryz.func33, Tryz.ntmps33
  go_wp2_with (first
    | (go_at_call 66; ((with_reducible refine (listCode_c v 16 (by omega) f _ HV.out H0.out).mono ?_)); rintro e w1 ⟨rfl, rfl⟩)
    | (go_at_call 69
       ((with_reducible refine (sums16_c v f hf _ HV.out).mono ?_))
       rintro e w1 ⟨⟨v1, rfl, ho⟩, hb1⟩
       have HO := Lib.hid ho
       have HB := Lib.hid hb1
       clear ho hb1)
    | (go_at_call 68; ((with_reducible refine (finite_c v1 16 (by omega) (fun i => wt 4 f i) _ ((RowF.of_own HO.out (by omega)).weak (Nat.zero_le _)) H1.out).mono ?_)); rintro e w2 ⟨rfl, rfl⟩))
  go_ret2; exact ⟨⟨_, rfl, HO.out⟩, HB.out⟩

set_option maxHeartbeats 1000000 in
theorem sumsByCodes16_c (v : Value) (f : Nat → Nat) (h0 : ∀ i, i < 16 → FinOk (f i)) (hf : SumOk 4 f) (h1 : ∀ i, i < 16 → FinOk (wt 4 f i)) (w : World) (hv : RowF w 0 v 16 f) :
    Calls Tryz.prog 17 #[v] w fun e w' => (∃ v', e = .returned (.tuple #[v', .int .i64 0]) ∧ w'.ownsRow w.heap.size 40 1 v' 16 (fvs 16 fun i => pz (wt 4 f i))) ∧ Below w.heap.size w w' := by
  have K : Hid (∀ w1, Below w.heap.size w w1 → Calls Tryz.prog 33 #[v] w1 fun e w' => (∃ v', e = .returned (.tuple #[v', .int .i64 0]) ∧ w'.ownsRow w1.heap.size 40 1 v' 16 (fvs 16 fun i => wt 4 f i)) ∧ Below w1.heap.size w1 w') :=
    Lib.hid fun w1 hb => sumsByCodesS16_c v f h0 hf h1 w1 (hv.below hb (Nat.le_refl _))
  clear hv h0 hf h1
  go_enter Tryz.func17, Tryz.ntmps17
  go_wp2_with (first
    | (go_at_call 33
       ((with_reducible refine (K.out _ (Below.refl _ _)).mono ?_))
       rintro e w1 ⟨⟨v1, rfl, ho⟩, hb1⟩
       have HO := Lib.hid ho
       have HB := Lib.hid hb1
       clear ho hb1)
    | (go_at_call 34
       ((with_reducible refine (plainF_c v1 16 (by omega) (fun i => wt 4 f i) _ _ HO.out).mono ?_))
       rintro e w2 ⟨rfl, ho2, hg2⟩
       have HO2 := Lib.hid ho2
       have HB2 := Lib.hid (HB.out.trans (grown_below hg2 (fun k hk => (HO.out.lt k hk).1) HB.out.size))
       clear ho2 hg2))
  go_ret2; exact ⟨⟨_, rfl, HO2.out⟩, HB2.out⟩


set_option maxHeartbeats 1000000 in
theorem sumsBackCS16_c (v : Value) (f : Nat → Nat) (h0 : ∀ i, i < 16 → FinOk (f i)) (hf : SumOk 4 f) (hq : ∀ i, i < 16 → floatBits .quo .f32 (wt 4 f i) 1098907648 = some (q32 (wt 4 f i) 1098907648)) (h1 : ∀ i, i < 16 → FinOk (q32 (wt 4 f i) 1098907648)) (w : World) (hv : RowF w 0 v 16 f) :
    Calls Tryz.prog 35 #[v] w fun e w' => (∃ v', e = .returned (.tuple #[v', .int .i64 0]) ∧ w'.ownsRow w.heap.size 40 1 v' 16 (fvs 16 fun i => q32 (wt 4 f i) 1098907648)) ∧ Below w.heap.size w w' := by
  have HV := Lib.hid hv
  have H0 := Lib.hid h0
  have H1 := Lib.hid h1
  clear hv h0 h1
  go_enter Tryz.func35, Tryz.ntmps35
  go_wp2_with (first
    | (go_at_call 66; ((with_reducible refine (listCode_c v 16 (by omega) f _ HV.out H0.out).mono ?_)); rintro e w1 ⟨rfl, rfl⟩)
    | (go_at_call 70
       ((with_reducible refine (sumsBack16_c v f hf hq _ HV.out).mono ?_))
       rintro e w1 ⟨⟨v1, rfl, ho⟩, hb1⟩
       have HO := Lib.hid ho
       have HB := Lib.hid hb1
       clear ho hb1)
    | (go_at_call 68; ((with_reducible refine (finite_c v1 16 (by omega) (fun i => q32 (wt 4 f i) 1098907648) _ ((RowF.of_own HO.out (by omega)).weak (Nat.zero_le _)) H1.out).mono ?_)); rintro e w2 ⟨rfl, rfl⟩))
  go_ret2; exact ⟨⟨_, rfl, HO.out⟩, HB.out⟩

set_option maxHeartbeats 1000000 in
theorem sumsBackC16_c (v : Value) (f : Nat → Nat) (h0 : ∀ i, i < 16 → FinOk (f i)) (hf : SumOk 4 f) (hq : ∀ i, i < 16 → floatBits .quo .f32 (wt 4 f i) 1098907648 = some (q32 (wt 4 f i) 1098907648)) (h1 : ∀ i, i < 16 → FinOk (q32 (wt 4 f i) 1098907648)) (w : World) (hv : RowF w 0 v 16 f) :
    Calls Tryz.prog 18 #[v] w fun e w' => (∃ v', e = .returned (.tuple #[v', .int .i64 0]) ∧ w'.ownsRow w.heap.size 40 1 v' 16 (fvs 16 fun i => pz (q32 (wt 4 f i) 1098907648))) ∧ Below w.heap.size w w' := by
  have K : Hid (∀ w1, Below w.heap.size w w1 → Calls Tryz.prog 35 #[v] w1 fun e w' => (∃ v', e = .returned (.tuple #[v', .int .i64 0]) ∧ w'.ownsRow w1.heap.size 40 1 v' 16 (fvs 16 fun i => q32 (wt 4 f i) 1098907648)) ∧ Below w1.heap.size w1 w') :=
    Lib.hid fun w1 hb => sumsBackCS16_c v f h0 hf hq h1 w1 (hv.below hb (Nat.le_refl _))
  clear hv h0 hf h1 hq
  go_enter Tryz.func18, Tryz.ntmps18
  go_wp2_with (first
    | (go_at_call 35
       ((with_reducible refine (K.out _ (Below.refl _ _)).mono ?_))
       rintro e w1 ⟨⟨v1, rfl, ho⟩, hb1⟩
       have HO := Lib.hid ho
       have HB := Lib.hid hb1
       clear ho hb1)
    | (go_at_call 34
       ((with_reducible refine (plainF_c v1 16 (by omega) (fun i => q32 (wt 4 f i) 1098907648) _ _ HO.out).mono ?_))
       rintro e w2 ⟨rfl, ho2, hg2⟩
       have HO2 := Lib.hid ho2
       have HB2 := Lib.hid (HB.out.trans (grown_below hg2 (fun k hk => (HO.out.lt k hk).1) HB.out.size))
       clear ho2 hg2))
  go_ret2; exact ⟨⟨_, rfl, HO2.out⟩, HB2.out⟩

end Go.Proofs.YtdpdjcehobjohaaGreatDoor
