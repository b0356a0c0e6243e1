/- Comparing two waves. -/
import Derived.Test.YtdpdjcehobjohaaGreatDoorPq
import Derived.ChangeKeysEq
namespace Go.Proofs.YtdpdjcehobjohaaGreatDoor
open Go Go.RowKit Go.BigFrame Fl

def CEq (z y : Nat → CB) : Prop := ∀ i, i < 64 → Ieee.single.order (z i).1 (y i).1 = some .eq ∧ Ieee.single.order (z i).2 (y i).2 = some .eq
theorem part28 (z : Nat → CB) (i : Nat) (hi : i < 64) (w : World) : (Go.part 28 (rowV z) i).run Tryz.prog w = .ok (cv (z i)) w := by
  unfold Go.part
  have h1 : (isAgg 28).run Tryz.prog w = .ok false w := by kernel_rfl
  simp only [Sem.run_bind, h1, Result.andThen_ok, Bool.false_eq_true, if_false, rowV_at z i hi, Sem.run_pure]
theorem part2 (n : Int) (z : Nat → CB) (w : World) : (Go.part 2 (cellsV n z) 0).run Tryz.prog w = .ok (.int .i64 n) w := by
  unfold Go.part
  have h1 : (isAgg 2).run Tryz.prog w = .ok false w := by kernel_rfl
  simp only [Sem.run_bind, h1, Result.andThen_ok, Bool.false_eq_true, if_false, cellsV_zero, Sem.run_pure]
theorem part29 (n : Int) (z : Nat → CB) (w : World) : (Go.part 29 (cellsV n z) 1).run Tryz.prog w = .ok (.agg (rowV z)) w := by
  unfold Go.part
  have h1 : (isAgg 29).run Tryz.prog w = .ok true w := by kernel_rfl
  have h2 : (sizeOf 29).run Tryz.prog w = .ok 64 w := by kernel_rfl
  have e : (cellsV n z).extract 1 (1 + 64) = rowV z := by
    rw [cellsV_eq, rowV_eq]
    apply Array.toList_inj.1
    have h := arrV_length z
    generalize arrV z = l at h ⊢
    simp
    exact List.take_of_length_le (by omega)
  simp only [Sem.run_bind, h1, h2, Result.andThen_ok, if_true, Sem.run_pure, e]
theorem eqC (d : Nat) (x y : CB) (h1 : Ieee.single.order x.1 y.1 = some .eq) (h2 : Ieee.single.order x.2 y.2 = some .eq) (w : World) : (Op.equalIn (d + 1) 28 (cv x) (cv y)).run Tryz.prog w = .ok true w := by
  have e1 : Op.floatEq .f32 x.1 y.1 = true := by show (Ieee.single.order x.1 y.1 == some .eq) = true; rw [h1]; rfl
  have e2 : Op.floatEq .f32 x.2 y.2 = true := by show (Ieee.single.order x.2 y.2 == some .eq) = true; rw [h2]; rfl
  simp only [Op.equalIn, Sem.run_bind, run_underlying Tryz.underlying28, Result.andThen_ok, if_true, Sem.run_pure, e1, e2, Bool.and_true, cv]
theorem eqItems (d : Nat) (z y : Nat → CB) (h : CEq z y) (w : World) : ∀ (is : List Nat), (∀ i ∈ is, i < 64) → (Op.eqItems (d + 1) 28 1 (rowV z) (rowV y) is).run Tryz.prog w = .ok true w
  | [], _ => by simp [Op.eqItems]
  | i :: is, hi => by
    have hlt := hi i (by simp)
    simp only [Op.eqItems, Sem.run_bind, Nat.mul_one, part28 z i hlt, part28 y i hlt, Result.andThen_ok, eqC d _ _ (h i hlt).1 (h i hlt).2, Bool.not_true, Bool.false_eq_true, if_false]
    exact eqItems d z y h w is (fun j hj => hi j (by simp [hj]))
theorem cellsOf28 : Tryz.prog.cellsOf 28 = 1 := by kernel_rfl
theorem eqWaveD (d : Nat) (n : Int) (z y : Nat → CB) (h : CEq z y) (w : World) : (Op.equalIn (d + 3) 31 (.agg (cellsV n z)) (.agg (cellsV n y))).run Tryz.prog w = .ok true w := by
  obtain ⟨i0, hi, -⟩ := info_parts info28
  have hm : ((Tryz.prog.fieldsOf 31).toList.map fun f => (f.name, f.type, f.offset)) = [("Side", 2, 0), ("Cells", 29, 1)] := by kernel_rfl
  obtain ⟨f1, l1, hl, p1, hm1⟩ := List.map_eq_cons_iff.1 hm
  obtain ⟨f2, l2, rfl, p2, hm2⟩ := List.map_eq_cons_iff.1 hm1
  have hl2 : l2 = [] := List.map_eq_nil_iff.1 hm2
  subst hl2
  have a1 : f1.name = "Side" := congrArg (·.1) p1
  have a2 : f1.type = 2 := congrArg (·.2.1) p1
  have a3 : f1.offset = 0 := congrArg (·.2.2) p1
  have b1 : f2.name = "Cells" := congrArg (·.1) p2
  have b2 : f2.type = 29 := congrArg (·.2.1) p2
  have b3 : f2.offset = 1 := congrArg (·.2.2) p2
  have c1 : f1.name ≠ "_" := by rw [a1]; decide
  have c2 : f2.name ≠ "_" := by rw [b1]; decide
  rw [run_equalIn_struct w (d + 2) 31 _ _ (by kernel_rfl) (by kernel_rfl), hl]
  have e2 : (Op.equalIn (d + 2) 2 (.int .i64 n) (.int .i64 n)).run Tryz.prog w = .ok true w := by
    rw [run_equalIn_int w (d + 1) 2 .i64 .i64 n n Tryz.underlying2]; simp
  have e29 : (Op.equalIn (d + 2) 29 (.agg (rowV z)) (.agg (rowV y))).run Tryz.prog w = .ok true w := by
    rw [run_equalIn_array w (d + 1) _ _ Tryz.underlying29 hi, cellsOf28]
    exact eqItems d z y h w _ (fun i hi => List.mem_range.1 hi)
  simp only [Op.eqFields, Sem.run_bind, Sem.run_ite, a2, a3, b2, b3, if_pos c1, if_pos c2, part2, part29, Result.andThen_ok, e2, e29, Bool.not_true, Bool.false_eq_true, if_false, Sem.run_pure]
theorem eqWave (n : Int) (z y : Nat → CB) (h : CEq z y) (w : World) : (Op.equalIn 10000 31 (.agg (cellsV n z)) (.agg (cellsV n y))).run Tryz.prog w = .ok true w := eqWaveD 9997 n z y h w
end Go.Proofs.YtdpdjcehobjohaaGreatDoor
