/- impl.each, impl.both, impl.from and their closures, on waves of a side of at most 4: what each cell of the result is, under contracts of the functions that are handed over. -/
import Derived.Test.YtdpdjcehobjohaaGreatDoorLf
import Derived.Test.YtdpdjcehobjohaaGreatDoorWb
namespace Go.Proofs.YtdpdjcehobjohaaGreatDoor
open Go Go.RowKit Go.BigFrame Fl

theorem callFunc_k {k : FuncId} (h : ∀ args w, (callFunc k args).run Tryz.prog w = .ok (.enter k args) w) : ∀ args w, (callFunc k args).run Tryz.prog w = .ok (.enter k args) w := h
abbrev IsFn (k : FuncId) : Prop := ∀ args w, (callFunc k args).run Tryz.prog w = .ok (.enter k args) w
theorem isFn121 : IsFn 121 := fun _ _ => by kernel_rfl
theorem isFn169 : IsFn 169 := fun _ _ => by kernel_rfl
theorem isFn124 : IsFn 124 := fun _ _ => by kernel_rfl
theorem isFn170 : IsFn 170 := fun _ _ => by kernel_rfl
theorem isFn95 : IsFn 95 := fun _ _ => by kernel_rfl
theorem isFn98 : IsFn 98 := fun _ _ => by kernel_rfl
theorem isFn143 : IsFn 143 := fun _ _ => by kernel_rfl

abbrev Wv (w : World) (b : Nat) (n : Int) (z : Nat → CB) : Prop := w.heap[b]? = some (.cells (cellsV n z) 31 (0, 0))
abbrev zW : Nat → CB := fun _ => (0, 0)

set_option maxHeartbeats 400000 in
theorem each1_c (y x : Int) (i : Nat) (b1 b2 : Nat) (k : FuncId) (caps : Array Value) (n : Int) (z : Nat → CB) (g : CB) (w : World) (hi : i < 64)
    (hk : IsFn k)
    (h1 : w.heap[b1]? = some (.cells #[.func (.func k) #[] caps] 74 (0, 0)))
    (h2 : Wv w b2 n z)
    (hf : ∀ w1, Below w.heap.size w w1 → Calls Tryz.prog k (#[cv (z i)] ++ caps) w1 fun e w2 => e = .returned (cv g) ∧ Below w1.heap.size w1 w2) :
    Calls Tryz.prog 121 #[.int .i64 y, .int .i64 x, .int .i64 i, .pointer (some ⟨b1, 0, none⟩), .pointer (some ⟨b2, 0, none⟩)] w fun e w2 =>
      e = .returned (cv g) ∧ Below w.heap.size w w2 := by
  have HF := Lib.hid hf
  have f1 : ∀ x : Under w, x.1.cell? ⟨b1, 0, none⟩ = some (.func (.func k) #[] caps) := fun x => x.cell (cell_of_heap h1 rfl)
  have f2 : ∀ x : Under w, x.1.cell? ⟨b2, 1 + i, none⟩ = some (cv (z i)) := fun x => x.cell (cell_of_heap h2 (cellsV_at _ _ _ hi))
  clear h1 h2 hf
  go_enter Tryz.func121, Tryz.ntmps121
  go_wp2_with fail
  refine wp_region_quietC (UC w) (by kernel_rfl) (by kernel_rfl) (UC.drew w) ?_
  repeat (go_big_quiet_step (exact under_call (HF.out _ (Subtype.property _))))
  refine wpQuiet_nil ?_
  rintro _ ⟨x, rfl⟩
  go_wp2_with fail
  go_ret; exact ⟨rfl, x.2⟩

set_option maxHeartbeats 400000 in
theorem both1_c (y x : Int) (i : Nat) (b1 b2 b3 : Nat) (k : FuncId) (caps : Array Value) (n m : Int) (z u : Nat → CB) (g : CB) (w : World) (hi : i < 64)
    (hk : IsFn k)
    (h1 : w.heap[b1]? = some (.cells #[.func (.func k) #[] caps] 158 (0, 0)))
    (h2 : Wv w b2 n z) (h3 : Wv w b3 m u)
    (hf : ∀ w1, Below w.heap.size w w1 → Calls Tryz.prog k (#[cv (z i), cv (u i)] ++ caps) w1 fun e w2 => e = .returned (cv g) ∧ Below w1.heap.size w1 w2) :
    Calls Tryz.prog 169 #[.int .i64 y, .int .i64 x, .int .i64 i, .pointer (some ⟨b1, 0, none⟩), .pointer (some ⟨b2, 0, none⟩), .pointer (some ⟨b3, 0, none⟩)] w fun e w2 =>
      e = .returned (cv g) ∧ Below w.heap.size w w2 := by
  have HF := Lib.hid hf
  have f1 : ∀ x : Under w, x.1.cell? ⟨b1, 0, none⟩ = some (.func (.func k) #[] caps) := fun x => x.cell (cell_of_heap h1 rfl)
  have f2 : ∀ x : Under w, x.1.cell? ⟨b2, 1 + i, none⟩ = some (cv (z i)) := fun x => x.cell (cell_of_heap h2 (cellsV_at _ _ _ hi))
  have f3 : ∀ x : Under w, x.1.cell? ⟨b3, 1 + i, none⟩ = some (cv (u i)) := fun x => x.cell (cell_of_heap h3 (cellsV_at _ _ _ hi))
  clear h1 h2 h3 hf
  go_enter Tryz.func169, Tryz.ntmps169
  go_wp2_with fail
  refine wp_region_quietC (UC w) (by kernel_rfl) (by kernel_rfl) (UC.drew w) ?_
  repeat (go_big_quiet_step (exact under_call (HF.out _ (Subtype.property _))))
  refine wpQuiet_nil ?_
  rintro _ ⟨x, rfl⟩
  go_wp2_with fail
  go_ret; exact ⟨rfl, x.2⟩

theorem heap_part {n : Int} (hn : n = 1 ∨ n = 2 ∨ n = 4) {i : Nat} (h : (i : Int) < n * n) : i < 64 := by
  rcases hn with rfl | rfl | rfl <;> omega

set_option maxHeartbeats 400000 in
theorem each_c (n : Int) (hn : n = 1 ∨ n = 2 ∨ n = 4) (z g : Nat → CB) (k : FuncId) (caps : Array Value) (w : World) (hk : IsFn k)
    (hf : ∀ i : Nat, (i : Int) < n * n → ∀ w1, Below w.heap.size w w1 → Calls Tryz.prog k (#[cv (z i)] ++ caps) w1 fun e w2 => e = .returned (cv (g i)) ∧ Below w1.heap.size w1 w2) :
    Calls Tryz.prog 94 #[.agg (cellsV n z), .func (.func k) #[] caps] w fun e w' => e = .returned (.agg (cellsV n (part g (n * n).toNat))) ∧ Below w.heap.size w w' := by
  have HF := Lib.hid hf
  have HK := Lib.hid hk
  clear hf hk
  go_enter Tryz.func94, Tryz.ntmps94
  go_wp2_with (first
    | (go_at_call 120
       ((with_reducible refine (waveBy_c n hn 121 _ g _ isFn121 ?_).mono ?_))
       · intro i hi w1 hb
         exact each1_c _ _ i _ _ k caps n z (g i) w1 (heap_part hn hi) HK.out
           (below_heap' hb (al_old _ (al_new _ (by simp)))) (below_heap' hb (al_old _ (al_old _ (al_new _ rfl))))
           (fun w2 h2 => HF.out i hi w2 (bnext (bnext (bal3 w _ _ _) hb) h2))
       rintro e w1 ⟨rfl, hb1⟩
       have H1 := Lib.hid (below_heap' hb1 (al_new (Obj.cells (cellsV 0 zW) 31 (0, 0)) (by simp : w.heap.size + 1 + 1 = _))))
    | (refine wpList_store_row rfl 31 _ _ rfl (w.heap.size + 1 + 1) _ rfl rfl 31 (cellsV 0 zW) H1.out (size31c _ _) (cellsV_sizes _ _ _ _) (cellsV_one _ _) ?_))
  refine bodyPost_ret (v := .agg _) (results_cell_row rfl _ _ (w.heap.size + 1 + 1) 31 _ (0, 0) _ rfl (heap_setRow_same H1.out) Tryz.underlying31 rfl (size31c _ _)) rfl ⟨rfl, below_setRow (bnext (bal3 w _ _ _) hb1) (by omega) _⟩

set_option maxHeartbeats 400000 in
theorem both_c (n m : Int) (hn : n = 1 ∨ n = 2 ∨ n = 4) (z u g : Nat → CB) (k : FuncId) (caps : Array Value) (w : World) (hk : IsFn k)
    (hf : ∀ i : Nat, (i : Int) < n * n → ∀ w1, Below w.heap.size w w1 → Calls Tryz.prog k (#[cv (z i), cv (u i)] ++ caps) w1 fun e w2 => e = .returned (cv (g i)) ∧ Below w1.heap.size w1 w2) :
    Calls Tryz.prog 151 #[.agg (cellsV n z), .agg (cellsV m u), .func (.func k) #[] caps] w fun e w' => e = .returned (.agg (cellsV n (part g (n * n).toNat))) ∧ Below w.heap.size w w' := by
  have HF := Lib.hid hf
  have HK := Lib.hid hk
  clear hf hk
  go_enter Tryz.func151, Tryz.ntmps151
  go_wp2_with (first
    | (go_at_call 120
       ((with_reducible refine (waveBy_c n hn 169 _ g _ isFn169 ?_).mono ?_))
       · intro i hi w1 hb
         exact both1_c _ _ i _ _ _ k caps n m z u (g i) w1 (heap_part hn hi) HK.out
           (below_heap' hb (al_old _ (al_new _ (by simp)))) (below_heap' hb (al_old _ (al_old _ (al_old _ (al_new _ rfl))))) (below_heap' hb (al_old _ (al_old _ (al_new _ (by simp)))))
           (fun w2 h2 => HF.out i hi w2 (bnext (bnext (bal4 w _ _ _ _) hb) h2))
       rintro e w1 ⟨rfl, hb1⟩
       have H1 := Lib.hid (below_heap' hb1 (al_new (Obj.cells (cellsV 0 zW) 31 (0, 0)) (by simp : w.heap.size + 1 + 1 + 1 = _))))
    | (refine wpList_store_row rfl 31 _ _ rfl (w.heap.size + 1 + 1 + 1) _ rfl rfl 31 (cellsV 0 zW) H1.out (size31c _ _) (cellsV_sizes _ _ _ _) (cellsV_one _ _) ?_))
  refine bodyPost_ret (v := .agg _) (results_cell_row rfl _ _ (w.heap.size + 1 + 1 + 1) 31 _ (0, 0) _ rfl (heap_setRow_same H1.out) Tryz.underlying31 rfl (size31c _ _)) rfl ⟨rfl, below_setRow (bnext (bal4 w _ _ _ _) hb1) (by omega) _⟩

theorem flip1_c (y x : Int) (w : World) (hy : 0 ≤ y ∧ y ≤ 8) (hx : 0 ≤ x ∧ x ≤ 8) :
    Calls Tryz.prog 98 #[.int .i64 y, .int .i64 x] w fun e w' => e = .returned (.tuple #[.int .i64 (-y), .int .i64 (-x)]) ∧ w = w' := by
  go_enter Tryz.func98, Tryz.ntmps98
  go_wp2
  go_ret2; exact ⟨rfl, rfl⟩

/-- the place that the flipped wave reads -/
def flipAt (n : Int) (i : Nat) : Nat := (n * ((-((i : Int) / n)) % n) + (-((i : Int) % n)) % n).toNat

set_option maxHeartbeats 400000 in
theorem from1_c (i : Nat) (b1 b2 b3 : Nat) (n : Int) (hn : n = 1 ∨ n = 2 ∨ n = 4) (z : Nat → CB) (w : World) (hi : (i : Int) < n * n)
    (h1 : w.heap[b1]? = some (.cells #[.func (.func 98) #[] #[]] 117 (0, 0)))
    (h2 : Wv w b2 n z) (h3 : w.heap[b3]? = some (.cells #[.int .i64 n] 2 (0, 0))) :
    Calls Tryz.prog 124 #[.int .i64 (i / n), .int .i64 (i % n), .int .i64 i, .pointer (some ⟨b1, 0, none⟩), .pointer (some ⟨b2, 0, none⟩), .pointer (some ⟨b3, 0, none⟩)] w fun e w2 =>
      e = .returned (cv (z (flipAt n i))) ∧ Below w.heap.size w w2 := by
  have hb1 : 1 ≤ n ∧ n ≤ 4 := by omega
  have hi16 : i < 16 := by rcases hn with rfl | rfl | rfl <;> omega
  have q1 : 0 ≤ (i : Int) / n ∧ (i : Int) / n ≤ 8 := by rcases hn with rfl | rfl | rfl <;> omega
  have q2 : 0 ≤ (i : Int) % n ∧ (i : Int) % n ≤ 8 := by rcases hn with rfl | rfl | rfl <;> omega
  have q3 : 0 ≤ (-((i : Int) / n)) % n ∧ (-((i : Int) / n)) % n ≤ 3 := by rcases hn with rfl | rfl | rfl <;> omega
  have q4 : 0 ≤ (-((i : Int) % n)) % n ∧ (-((i : Int) % n)) % n ≤ 3 := by rcases hn with rfl | rfl | rfl <;> omega
  have q5 : 0 ≤ n * ((-((i : Int) / n)) % n) ∧ n * ((-((i : Int) / n)) % n) ≤ 12 := by rcases hn with rfl | rfl | rfl <;> omega
  have q7 : flipAt n i < 64 := by unfold flipAt; omega
  have f1 : ∀ x : Under w, x.1.cell? ⟨b1, 0, none⟩ = some (.func (.func 98) #[] #[]) := fun x => x.cell (cell_of_heap h1 rfl)
  have f2 : ∀ x : Under w, x.1.cell? ⟨b2, 1 + (n * ((-((i : Int) / n)) % n) + (-((i : Int) % n)) % n).toNat, none⟩ = some (cv (z (flipAt n i))) := fun x => x.cell (cell_of_heap h2 (cellsV_at _ _ _ q7))
  have f3 : ∀ x : Under w, x.1.cell? ⟨b3, 0, none⟩ = some (.int .i64 n) := fun x => x.cell (cell_of_heap h3 rfl)
  have f0 := cell_of_heap (j := 0) h1 rfl
  clear h1 h2 h3 q7
  go_enter Tryz.func124, Tryz.ntmps124
  go_wp2_with (go_at_call 98; ((with_reducible refine (flip1_c _ _ _ q1 q2).mono ?_)); rintro e w1 ⟨rfl, rfl⟩)
  refine wp_region_quietC (UC w) (by kernel_rfl) (by kernel_rfl) (UC.drew w) ?_
  repeat (go_big_quiet_step (exact under_same (modulo_c _ _ _ (by omega) (by omega))))
  refine wpQuiet_nil ?_
  rintro _ ⟨x, rfl⟩
  go_wp2_with fail
  go_ret; exact ⟨rfl, x.2⟩
end Go.Proofs.YtdpdjcehobjohaaGreatDoor
