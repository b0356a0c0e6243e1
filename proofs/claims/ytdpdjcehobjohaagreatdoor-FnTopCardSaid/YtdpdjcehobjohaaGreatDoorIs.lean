/- impl.IsWave and spec.l01Is of waves whose cells are finite and 0 beyond the side, and what stands on them: limitWave, l01Told, changeWave. -/
import Derived.Test.YtdpdjcehobjohaaGreatDoorTr
namespace Go.Proofs.YtdpdjcehobjohaaGreatDoor
open Go Go.RowKit Go.BigFrame Fl

theorem range29 {w : World} {b : Nat} {n : Int} {z : Nat → CB} (h : Wv w b n z) : w.rangeAt b 1 (arrV z) := by
  intro j v hv
  have hj : j < 64 := by
    rcases Nat.lt_or_ge j 64 with h | h
    · exact h
    · have : (arrV z)[j]? = none := by simp [arrV_length]; omega
      rw [this] at hv; cases hv
  rw [arrV_at z j hj] at hv
  cases hv
  exact cell_of_heap h (cellsV_at n z j hj)
theorem wpList_load29 {ops : Array Oper} {rest : List Oper} {op : Oper} {a : Act} {w : World} {Q : Exit → Act → World → Prop} (hgd : op.guard = none) (x : Operand) (ho : op.op = .load 29 x)
    (b : Nat) (hx : a.eval x = .pointer (some ⟨b, 1, none⟩)) {n : Int} {z : Nat → CB} (hg : Wv w b n z)
    (h : wpList Tryz.prog ops Q rest (a.put op.dst (.agg (rowV z))) w) : wpList Tryz.prog ops Q (op :: rest) a w :=
  wpList_load_mid hgd 29 x ho b 1 hx (arrV z) _ (range29 hg) Tryz.underlying29 rfl (by rw [arrV_length]; exact size29) (by rw [← rowV_eq]; exact h)
theorem run_index_row (z : Nat → CB) (i : Nat) (h : i < 64) (w : World) : (Instr.index 29 (.agg (rowV z)) (.int .i64 i)).run Tryz.prog w = .ok (cv (z i)) w := by
  have hs : (sizeOf 28).run Tryz.prog w = .ok 1 w := by kernel_rfl
  have ha : (isAgg 28).run Tryz.prog w = .ok false w := by kernel_rfl
  have h1 : (0 : Int) ≤ i ∧ (i : Int) < 64 := by omega
  have hr := rowV_at z i h
  simp only [Instr.index, asIntOf, Sem.run_bind, Sem.run_pure, Result.andThen_ok, run_underlying Tryz.underlying29]
  rw [if_pos (by omega)]
  simp only [Sem.run_bind, hs, Result.andThen_ok, Go.part, ha, Int.toNat_natCast, Nat.mul_one, hr]
  rfl

/-- what IsWave asks of the cells -/
structure Fine (n : Int) (z : Nat → CB) : Prop where
  fin : ∀ i, i < 64 → FinOk (z i).1 ∧ FinOk (z i).2
  zer : ∀ i : Nat, i < 64 → n * n ≤ i → FloatKind.f32.format.order (z i).1 0 = some .eq ∧ FloatKind.f32.format.order (z i).2 0 = some .eq

set_option maxHeartbeats 400000 in
theorem isWave_t (n : Int) (hn : n = 1 ∨ n = 2 ∨ n = 4) (z : Nat → CB) (hz : Fine n z) (w : World) :
    Calls Tryz.prog 20 #[.agg (cellsV n z)] w fun e w' => e = .returned (.bool true) ∧ Below w.heap.size w w' := by
  have hb : 1 ≤ n * n ∧ n * n ≤ 16 := by rcases hn with rfl | rfl | rfl <;> decide
  have HZ := Lib.hid hz
  have hw := al_new (w := w) (Obj.cells (cellsV n z) 31 (0, 0)) rfl
  have HW := Lib.hid hw
  clear hz hw
  go_enter Tryz.func20, Tryz.ntmps20
  go_wp2_with (first
    | (go_at_call 36; ((with_reducible refine (isSide_t _ _ hn).mono ?_)); rintro e w1 ⟨rfl, rfl⟩)
    | (refine wpList_load29 rfl _ rfl w.heap.size rfl HW.out ?_))
  go_loop [11] (fun c => ∃ j : Nat, j ≤ 64 ∧ c = .int .i64 j) (fun c => (64 - intOf c).toNat)
  case atStart => exact ⟨0, by omega, rfl⟩
  case round =>
    obtain ⟨j, hj, rfl⟩ := hrel
    by_cases hlt : j < 64
    · have ix := fun w => run_index_row z j hlt w
      obtain ⟨k1, k2⟩ := HZ.out.fin j hlt
      by_cases hjn : (j : Int) < n * n
      · go_wp2_with (go_at_call 37; ((with_reducible refine (isComplex_t _ _ _ k1 k2).mono ?_)); rintro e w1 ⟨rfl, rfl⟩)
        exact ⟨⟨j + 1, by omega, by go_num⟩, by simp [intOf]; omega⟩
      · obtain ⟨o1, o2⟩ := HZ.out.zer j hlt (by omega)
        go_wp2_with (go_at_call 37; ((with_reducible refine (isComplex_t _ _ _ k1 k2).mono ?_)); rintro e w1 ⟨rfl, rfl⟩)
        exact ⟨⟨j + 1, by omega, by go_num⟩, by simp [intOf]; omega⟩
    · go_wp2_with fail
      go_ret; exact ⟨rfl, bal1 _ _⟩
set_option maxHeartbeats 400000 in
theorem l01Is_t (n : Int) (hn : n = 1 ∨ n = 2 ∨ n = 4) (z : Nat → CB) (hz : Fine n z) (w : World) :
    Calls Tryz.prog 23 #[.agg (cellsV n z)] w fun e w' => e = .returned (.bool true) ∧ Below w.heap.size w w' := by
  have hb : 1 ≤ n * n ∧ n * n ≤ 16 := by rcases hn with rfl | rfl | rfl <;> decide
  have HZ := Lib.hid hz
  clear hz
  go_enter Tryz.func23, Tryz.ntmps23
  go_wp2_with (go_at_call 41; ((with_reducible refine (l01Side_t _ _ hn).mono ?_)); rintro e w1 ⟨rfl, rfl⟩)
  go_loop [3] (fun c => ∃ j : Nat, j ≤ 64 ∧ c = .int .i64 j) (fun c => (64 - intOf c).toNat)
  case atStart => exact ⟨0, by omega, rfl⟩
  case round =>
    obtain ⟨j, hj, rfl⟩ := hrel
    by_cases hlt : j < 64
    · have ix := cellsV_at n z j hlt
      obtain ⟨k1, k2⟩ := HZ.out.fin j hlt
      by_cases hjn : (j : Int) < n * n
      · go_wp2_with (go_at_call 42; ((with_reducible refine (l01Whole_t _ _ _ k1 k2).mono ?_)); rintro e w1 ⟨rfl, rfl⟩)
        exact ⟨⟨j + 1, by omega, by go_num⟩, by simp [intOf]; omega⟩
      · obtain ⟨o1, o2⟩ := HZ.out.zer j hlt (by omega)
        go_wp2_with (go_at_call 42; ((with_reducible refine (l01Whole_t _ _ _ k1 k2).mono ?_)); rintro e w1 ⟨rfl, rfl⟩)
        exact ⟨⟨j + 1, by omega, by go_num⟩, by simp [intOf]; omega⟩
    · go_wp2_with fail
      go_ret; exact ⟨rfl, bal1 _ _⟩
end Go.Proofs.YtdpdjcehobjohaaGreatDoor
