/- impl.plain of a list of float32, impl.sums and impl.sumsBack on lists of 1, 4 and 16 numbers, and the public functions over them. -/
import Derived.Test.YtdpdjcehobjohaaGreatDoorFs
namespace Go.Proofs.YtdpdjcehobjohaaGreatDoor
open Go Go.RowKit Go.BigFrame Fl

theorem own_ext {w : World} {B m : Nat} {v : Value} {f g : Nat → Nat} (h : w.ownsRow B 40 1 v m (fvs m f)) (he : ∀ i, i < m → f i = g i) : w.ownsRow B 40 1 v m (fvs m g) := by
  rw [← fvs_ext he]; exact h
theorem own_cell {w : World} {B m g cap : Nat} {f : Nat → Nat} (h : w.ownsRow B 40 1 (.slice (some ⟨g, 0, none⟩) m cap) m (fvs m f)) (i : Nat) (hi : i < m) :
    w.cell? ⟨g, i, none⟩ = some (fv (f i)) ∧ w.frozen? ⟨g, i, none⟩ = false ∧ B ≤ g := by
  obtain ⟨g', cap', cur, hv, hb, hg, hc, hm, hs, hcell⟩ := own_open h (by omega)
  injection hv with e1 e2 e3
  injection e1 with e1
  injection e1 with e1
  subst e1
  exact ⟨cell_of_heap hg (hcell i hi), frozen_of_row w g i _ _ hg, hb⟩
theorem grown_next {w wr w1 : World} {row : Option Nat} (h : w.grownBy wr row) (k : Below wr.heap.size wr w1) : w.grownBy w1 row :=
  ⟨k.os.trans h.os, k.tape.trans h.tape, k.output.trans h.output, Nat.le_trans h.size k.size, fun i hi hne => (k.block i (Nat.lt_of_lt_of_le hi h.size)).trans (h.block i hi hne)⟩
def plM (f : Nat → Nat) (j : Nat) : Nat → Nat := fun i => if i < j then pz (f i) else f i
theorem plM_at (f : Nat → Nat) (j : Nat) : plM f j j = f j := by unfold plM; rw [if_neg (by omega)]
theorem plM_step (f : Nat → Nat) (j : Nat) : updF (plM f j) j (pz (f j)) = plM f (j + 1) := by
  funext i; unfold updF plM
  by_cases e : i = j
  · subst e; rw [if_pos rfl, if_pos (by omega)]
  · rw [if_neg e]; congr 1; apply propext; omega

set_option maxHeartbeats 1000000 in
theorem plainListF_c (g cap m : Nat) (hm : 0 < m ∧ m ≤ 1000) (f : Nat → Nat) (w : World) (B : Nat) (hv : w.ownsRow B 40 1 (.slice (some ⟨g, 0, none⟩) m cap) m (fvs m f)) :
    Calls Tryz.prog 53 #[.slice (some ⟨g, 0, none⟩) m cap] w fun e w' => e = .returned (.slice (some ⟨g, 0, none⟩) m cap) ∧
      w'.ownsRow B 40 1 (.slice (some ⟨g, 0, none⟩) m cap) m (fvs m fun i => pz (f i)) ∧ w.grownBy w' (some g) := by
  have HV := Lib.hid hv
  clear hv
  go_enter Tryz.func53, Tryz.ntmps53
  go_wp2_with fail
  go_loopw [7] (fun c wr => ∃ j : Nat, j ≤ m ∧ c = .int .i64 j ∧ w.grownBy wr (some g) ∧ wr.ownsRow B 40 1 (.slice (some ⟨g, 0, none⟩) m cap) m (fvs m (plM f j))) (fun c _ => (m - intOf c).toNat)
  case atStart => exact ⟨0, by omega, rfl, grown_refl _ _, own_ext HV.out (fun i _ => by unfold plM; rw [if_neg (by omega)])⟩
  case round =>
    obtain ⟨j, hj, rfl, hb1, ho⟩ := hrel
    by_cases hlt : j < m
    · have hc0 := (own_cell ho j hlt).1
      rw [plM_at] at hc0
      have HO := Lib.hid ho
      have HB1 := Lib.hid hb1
      clear ho hb1
      go_wp2_with (first
        | (go_at_call 85
           ((with_reducible refine (plainN_c _ _).mono ?_))
           rintro e w1 ⟨rfl, hb2⟩
           have HO1 := Lib.hid (own_below (t := 40) HO.out hb2 (Nat.le_refl _))
           have HB2 := Lib.hid (grown_next HB1.out hb2)
           have hc1 := (own_cell HO1.out j hlt).1
           have hf1 := (own_cell HO1.out j hlt).2.1
           clear hb2))
      refine ⟨⟨j + 1, by omega, by go_num, grown_set HB2.out _ _, ?_⟩, by simp [intOf]; omega⟩
      rw [← plM_step]; exact own_set HO1.out j (pz (f j)) hlt
    · go_wp2_with fail
      go_ret; exact ⟨rfl, own_ext ho (fun i hi => by unfold plM; rw [if_pos (by omega)]), hb1⟩

set_option maxRecDepth 100000 in
set_option maxHeartbeats 1000000 in
theorem plainF_c (v : Value) (m : Nat) (hm : 0 < m ∧ m ≤ 1000) (f : Nat → Nat) (w : World) (B : Nat) (hv : w.ownsRow B 40 1 v m (fvs m f)) :
    Calls Tryz.prog 34 #[v] w fun e w' => e = .returned v ∧ w'.ownsRow B 40 1 v m (fvs m fun i => pz (f i)) ∧ w.grownBy w' v.ownBlock := by
  obtain ⟨g, cap, cur, rfl, hb, hg, hc, hm', hs, hcell⟩ := own_open hv hm.1
  have hlt := lt_of_block hg
  clear hg hc hm' hs hcell cur
  have HV := Lib.hid (hv.alloc (.cells #[.slice (some ⟨g, 0, none⟩) m cap] 41 (0, 0)))
  clear hv
  go_enter Tryz.func34, Tryz.ntmps34
  go_wp2_with (first
    | (go_at_call 53
       ((with_reducible refine (plainListF_c g cap m hm f _ B HV.out).mono ?_))
       rintro e w1 ⟨rfl, ho, hg1⟩
       have hh := (hg1.block w.heap.size (by simp) (by intro e; injection e; omega)).trans (heap_alloc_last w _)
       have hc1 := cell_of_heap (j := 0) hh rfl
       have hf1 := frozen_of_row _ _ 0 _ _ hh
       have HO := Lib.hid ho
       have HG := Lib.hid hg1
       clear ho hg1 hh))
  go_ret
  refine ⟨rfl, HO.out.kept (row := some w.heap.size) (grown_set (grown_refl _ _) _ _) (by right; simp [Value.ownBlock]; omega), ?_⟩
  have h1 : w.grownBy (w.alloc (.cells #[.slice (some ⟨g, 0, none⟩) m cap] 41 (0, 0))) (some g) := World.grownBy_alloc w _ _
  refine ⟨HG.out.os, HG.out.tape, HG.out.output, ?_, fun k hk hne => ?_⟩
  · have := HG.out.size; simp only [World.size_alloc] at this; simp [World.setCell]; omega
  · rw [heap_setCell_other _ _ _ _ (by simp; omega), HG.out.block k (by simp; omega) hne, h1.block k hk hne]
end Go.Proofs.YtdpdjcehobjohaaGreatDoor
