/- impl.limitWave, spec.l01Told, impl.plain of a wave, spec.l01PlusWave, impl.changeWave. -/
import Derived.Test.YtdpdjcehobjohaaGreatDoorIs
namespace Go.Proofs.YtdpdjcehobjohaaGreatDoor
open Go Go.RowKit Go.BigFrame Fl

theorem results_wave {fn : Func} {p u : Tmp} (h : fn.results = #[.cell p 31, .tmp u]) (tmps : Array Value) (w : World) (b : Nat) (n : Int) (z : Nat → CB) (v : Value)
    (hp : tmps.getD p undef = .pointer (some ⟨b, 0, none⟩)) (hu : tmps.getD u undef = v) (hg : Wv w b n z) :
    (results fn tmps).run Tryz.prog w = .ok (.tuple #[.agg (cellsV n z), v]) w := by
  rw [results_cell_tmp h, hp, hu]
  simp only [asAddr, Sem.run_pure, Result.andThen_ok, run_loadVar_row w b 31 31 _ (0, 0) _ hg Tryz.underlying31 rfl (size31c _ _)]

/-- load of a whole wave -/
theorem ld31 {ops : Array Oper} {rest : List Oper} {op : Oper} {a : Act} {w : World} {Q : Exit → Act → World → Prop} (hgd : op.guard = none) (x : Operand) (ho : op.op = .load 31 x)
    (b : Nat) (hx : a.eval x = .pointer (some ⟨b, 0, none⟩)) {n : Int} {z : Nat → CB} (hg : Wv w b n z)
    (h : wpList Tryz.prog ops Q rest (a.put op.dst (.agg (cellsV n z))) w) : wpList Tryz.prog ops Q (op :: rest) a w :=
  wpList_load_row hgd 31 x ho b hx 31 (cellsV n z) (0, 0) _ hg Tryz.underlying31 rfl (size31c _ _) h
/-- store of a whole wave -/
theorem st31 {ops : Array Oper} {rest : List Oper} {op : Oper} {a : Act} {w : World} {Q : Exit → Act → World → Prop} (hgd : op.guard = none) (x y : Operand) (ho : op.op = .store 31 x y)
    (b : Nat) (hx : a.eval x = .pointer (some ⟨b, 0, none⟩)) {n m : Int} {z u : Nat → CB} (hy : a.eval y = .agg (cellsV n z)) (hg : Wv w b m u)
    (h : wpList Tryz.prog ops Q rest (a.put op.dst undef) (w.setRow b (cellsV n z))) : wpList Tryz.prog ops Q (op :: rest) a w :=
  wpList_store_row hgd 31 x y ho b _ hx hy 31 _ hg (size31c _ _) (cellsV_sizes _ _ _ _) (cellsV_one _ _) h

set_option maxHeartbeats 400000 in
theorem limitWave_c (n : Int) (hn : n = 1 ∨ n = 2 ∨ n = 4) (z : Nat → CB) (hz : Fine n z) (w : World) :
    Calls Tryz.prog 89 #[.agg (cellsV n z)] w fun e w' => e = .returned (.tuple #[.agg (cellsV n z), .int .i64 0]) ∧ Below w.heap.size w w' := by
  go_enter Tryz.func89, Tryz.ntmps89
  go_wp2_with (first
    | (go_at_call 20
       ((with_reducible refine (isWave_t n hn z hz _).mono ?_))
       rintro e w1 ⟨rfl, hb1⟩
       have H0 := Lib.hid (below_heap' hb1 (al_old _ (al_new (Obj.cells (cellsV n z) 31 (0, 0)) rfl)))
       have H1 := Lib.hid (below_heap' hb1 (al_new (Obj.cells (cellsV 0 zW) 31 (0, 0)) (by simp : w.heap.size + 1 = _))))
    | (refine ld31 rfl _ rfl w.heap.size rfl H0.out ?_)
    | (refine ld31 rfl _ rfl w.heap.size rfl (al_old _ (al_new (Obj.cells (cellsV n z) 31 (0, 0)) rfl)) ?_)
    | (refine st31 rfl _ _ rfl (w.heap.size + 1) rfl rfl H1.out ?_))
  exact bodyPost_ret (results_wave rfl _ _ (w.heap.size + 1) n z _ rfl rfl (heap_setRow_same H1.out)) rfl ⟨rfl, below_setRow (bnext (bal2 w _ _) hb1) (by omega) _⟩

set_option maxHeartbeats 400000 in
theorem l01Told_c (n : Int) (hn : n = 1 ∨ n = 2 ∨ n = 4) (z : Nat → CB) (hz : Fine n z) (w : World) :
    Calls Tryz.prog 60 #[.agg (cellsV n z)] w fun e w' => e = .returned (.tuple #[.agg (cellsV n z), .int .i64 0]) ∧ Below w.heap.size w w' := by
  go_enter Tryz.func60, Tryz.ntmps60
  go_wp2_with (first
    | (go_at_call 23
       ((with_reducible refine (l01Is_t n hn z hz _).mono ?_))
       rintro e w1 ⟨rfl, hb1⟩
       have H0 := Lib.hid (below_heap' hb1 (al_old _ (al_new (Obj.cells (cellsV n z) 31 (0, 0)) rfl)))
       have H1 := Lib.hid (below_heap' hb1 (al_new (Obj.cells (cellsV 0 zW) 31 (0, 0)) (by simp : w.heap.size + 1 = _))))
    | (refine ld31 rfl _ rfl w.heap.size rfl H0.out ?_)
    | (refine ld31 rfl _ rfl w.heap.size rfl (al_old _ (al_new (Obj.cells (cellsV n z) 31 (0, 0)) rfl)) ?_)
    | (refine st31 rfl _ _ rfl (w.heap.size + 1) rfl rfl H1.out ?_))
  exact bodyPost_ret (results_wave rfl _ _ (w.heap.size + 1) n z _ rfl rfl (heap_setRow_same H1.out)) rfl ⟨rfl, below_setRow (bnext (bal2 w _ _) hb1) (by omega) _⟩

set_option maxHeartbeats 400000 in
theorem changeWave_c (n : Int) (hn : n = 1 ∨ n = 2 ∨ n = 4) (z y : Nat → CB) (hz : Fine n z) (hy : Fine n y) (k : FuncId) (hk : IsFn k) (w : World)
    (hf : ∀ w1, Below w.heap.size w w1 → Calls Tryz.prog k #[.agg (cellsV n z)] w1 fun e w2 => e = .returned (.agg (cellsV n y)) ∧ Below w1.heap.size w1 w2) :
    Calls Tryz.prog 58 #[.agg (cellsV n z), .func (.func k) #[] #[]] w fun e w' => e = .returned (.tuple #[.agg (cellsV n y), .int .i64 0]) ∧ Below w.heap.size w w' := by
  have HF := Lib.hid hf
  clear hf
  go_enter Tryz.func58, Tryz.ntmps58
  go_wp2_with (first
    | (go_at_call 20
       ((with_reducible refine (isWave_t n hn z hz _).mono ?_))
       rintro e w1 ⟨rfl, hb1⟩
       have H0 := Lib.hid (below_heap' hb1 (al_old _ (al_new (Obj.cells (cellsV n z) 31 (0, 0)) rfl)))
       have H1 := Lib.hid (below_heap' hb1 (al_new (Obj.cells (cellsV 0 zW) 31 (0, 0)) (by simp : w.heap.size + 1 = _)))
       have HB := Lib.hid (bnext (bal2 w _ _) hb1)
       clear hb1)
    | (refine ld31 rfl _ rfl w.heap.size rfl H0.out ?_)
    | (refine ld31 rfl _ rfl w.heap.size rfl (al_old _ (al_new (Obj.cells (cellsV n z) 31 (0, 0)) rfl)) ?_)
    | (go_at_call 89
       ((with_reducible refine (limitWave_c n hn y hy _).mono ?_))
       rintro e w3 ⟨rfl, hb3⟩
       have H3 := Lib.hid (below_heap' hb3 H2.out)
       have HB3 := Lib.hid (bnext HB2.out hb3)
       clear hb3)
    | (((with_reducible refine (HF.out w1 HB.out).mono ?_))
       rintro e w2 ⟨rfl, hb2⟩
       have H2 := Lib.hid (below_heap' hb2 H1.out)
       have HB2 := Lib.hid (bnext HB.out hb2)
       clear hb2)
    | (refine st31 rfl _ _ rfl (w.heap.size + 1) rfl rfl H3.out ?_))
  exact bodyPost_ret (results_wave rfl _ _ (w.heap.size + 1) n y _ rfl rfl (heap_setRow_same H3.out)) rfl ⟨rfl, below_setRow HB3.out (by omega) _⟩
end Go.Proofs.YtdpdjcehobjohaaGreatDoor
