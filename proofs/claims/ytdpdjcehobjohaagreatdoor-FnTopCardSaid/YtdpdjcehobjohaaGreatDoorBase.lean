/- Words for waves as rows of cells, and for worlds that only have new blocks more. Plain lemmas. -/
import Derived.Test.YtdpdjcehobjohaaGreatDoorProg
import Derived.Test.YtdpdjcehobjohaaGreatDoorQt
import Derived.Test.YtdpdjcehobjohaaGreatDoorPd
import Derived.WalkKit
import Derived.WalkLawsBesides
import Derived.WalkSpells
import Derived.Lib.Hide
import Derived.BigQuiet
import Derived.Laws.EntriesVeiled
import Derived.Deep.WholeRow
import Derived.Deep.MidRow
namespace Go.Proofs.YtdpdjcehobjohaaGreatDoor
open Go Go.RowKit Fl

abbrev cv (z : CB) : Value := .complex .f32 z.1 z.2
def arrV (z : Nat → CB) : List Value := (List.range 64).map fun i => cv (z i)
/-- The 65 cells of a wave. -/
@[irreducible] def cellsV (n : Int) (z : Nat → CB) : Array Value := (Value.int .i64 n :: arrV z).toArray
/-- The 64 cells alone. -/
@[irreducible] def rowV (z : Nat → CB) : Array Value := (arrV z).toArray
def upd (z : Nat → CB) (i : Nat) (v : CB) : Nat → CB := fun j => if j = i then v else z j

theorem cellsV_eq (n : Int) (z : Nat → CB) : cellsV n z = (Value.int .i64 n :: arrV z).toArray := by unfold cellsV; rfl
theorem rowV_eq (z : Nat → CB) : rowV z = (arrV z).toArray := by unfold rowV; rfl
theorem arrV_length (z : Nat → CB) : (arrV z).length = 64 := by simp [arrV]
@[simp, go_sem] theorem cellsV_size (n : Int) (z : Nat → CB) : (cellsV n z).size = 65 := by rw [cellsV_eq]; simp [arrV_length]
@[simp, go_sem] theorem rowV_size (z : Nat → CB) : (rowV z).size = 64 := by rw [rowV_eq]; simp [arrV_length]
theorem arrV_at (z : Nat → CB) (i : Nat) (h : i < 64) : (arrV z)[i]? = some (cv (z i)) := by simp [arrV, h]
@[simp, go_sem] theorem cellsV_zero (n : Int) (z : Nat → CB) : (cellsV n z)[0]? = some (.int .i64 n) := by rw [cellsV_eq]; rfl
@[simp, go_sem] theorem cellsV_get0 (n : Int) (z : Nat → CB) (h : 0 < (cellsV n z).size) : (cellsV n z)[0]'h = .int .i64 n := by
  have := cellsV_zero n z
  rw [Array.getElem?_eq_getElem h] at this
  exact Option.some.inj this
theorem cellsV_at (n : Int) (z : Nat → CB) (i : Nat) (h : i < 64) : (cellsV n z)[1 + i]? = some (cv (z i)) := by
  rw [cellsV_eq, Nat.add_comm]; simpa using arrV_at z i h
theorem rowV_at (z : Nat → CB) (i : Nat) (h : i < 64) : (rowV z)[i]? = some (cv (z i)) := by
  rw [rowV_eq]; simpa using arrV_at z i h
theorem arrV_ext {z y : Nat → CB} (h : ∀ i, i < 64 → z i = y i) : arrV z = arrV y := by
  unfold arrV; apply List.map_congr_left; intro i hi; rw [h i (List.mem_range.1 hi)]
theorem cellsV_ext {n : Int} {z y : Nat → CB} (h : ∀ i, i < 64 → z i = y i) : cellsV n z = cellsV n y := by
  rw [cellsV_eq, cellsV_eq, arrV_ext h]
theorem cellsV_set (n : Int) (z : Nat → CB) (i : Nat) (v : CB) (h : i < 64) : (cellsV n z).setIfInBounds (1 + i) (cv v) = cellsV n (upd z i v) := by
  rw [cellsV_eq, cellsV_eq]
  apply Array.ext_getElem?
  intro j
  rw [Array.getElem?_setIfInBounds]
  rcases j with _ | j
  · simp
  · simp only [List.size_toArray, List.length_cons, arrV_length, List.getElem?_toArray, List.getElem?_cons_succ]
    by_cases hj : j < 64
    · rw [arrV_at _ _ hj]
      by_cases e : 1 + i = j + 1
      · have : j = i := by omega
        subst this
        simp [upd, Nat.add_comm, h, arrV_at _ _ h]
      · have : j ≠ i := by omega
        simp [e, upd, this, arrV_at _ _ hj]
    · have h1 : (arrV z)[j]? = none := by simp [arrV_length]; omega
      have h2 : (arrV (upd z i v))[j]? = none := by simp [arrV_length]; omega
      have e : ¬ (1 + i = j + 1) := by omega
      rw [if_neg e, h1, h2]
@[go_sem] theorem cellsV_head (m n : Int) (z : Nat → CB) : (cellsV m z).setIfInBounds 0 (.int .i64 n) = cellsV n z := by
  rw [cellsV_eq, cellsV_eq]; rfl
@[go_sem] theorem cellsV_ne (n : Int) (z : Nat → CB) : (cellsV n z = #[]) = False := by
  rw [cellsV_eq]; simp
@[go_sem] theorem rowV_ne (z : Nat → CB) : (rowV z = #[]) = False := by
  simp only [eq_iff_iff, iff_false]; intro h; have := rowV_size z; rw [h] at this; simp at this
theorem size31 : (Tryz.prog.info? 31).map (·.size) = some 65 := by kernel_rfl
theorem size29 : (Tryz.prog.info? 29).map (·.size) = some 64 := by kernel_rfl
theorem size31c (n : Int) (z : Nat → CB) : (Tryz.prog.info? 31).map (·.size) = some (cellsV n z).size := by rw [cellsV_size]; exact size31
theorem size29c (z : Nat → CB) : (Tryz.prog.info? 29).map (·.size) = some (rowV z).size := by rw [rowV_size]; exact size29
theorem cellsV_sizes (m n : Int) (z y : Nat → CB) : (cellsV m z).size = (cellsV n y).size := by rw [cellsV_size, cellsV_size]
theorem cellsV_one (n : Int) (z : Nat → CB) : (cellsV n z).all (·.oneCell') = true := by
  rw [cellsV_eq]; simp [arrV, cv, Value.oneCell']
theorem rowV_one (z : Nat → CB) : (rowV z).all (·.oneCell') = true := by
  rw [rowV_eq]; simp [arrV, cv, Value.oneCell']
@[go_sem] theorem zero31 : Tryz.zeroCells31 = cellsV 0 (fun _ => (0, 0)) := by
  rw [cellsV_eq]; rfl

/-- The worlds that have, beside those of wr, new blocks alone. -/
def Under (wr : World) := {w' : World // Below wr.heap.size wr w'}
instance (wr : World) : Nonempty (Under wr) := ⟨⟨wr, Below.refl _ _⟩⟩
abbrev UC (wr : World) : World → Prop := fun w' => ∃ x : Under wr, w' = x.1
theorem UC.drew (wr : World) : UC wr wr.drew := ⟨⟨wr.drew, (Below.refl _ _).drew⟩, rfl⟩
theorem Under.cell {wr : World} (x : Under wr) {p : Addr} {v : Value} (h : wr.cell? p = some v) : x.1.cell? p = some v := by
  rw [x.2.cell (block_lt_of_cell h), h]
theorem Under.heap {wr : World} (x : Under wr) {b : Nat} {o : Obj} (h : wr.heap[b]? = some o) : x.1.heap[b]? = some o := by
  rw [x.2.block b (lt_of_block h), h]
theorem under_below {w wr : World} (hb : Below w.heap.size w wr) (x : Under wr) : Below w.heap.size w x.1 := hb.trans (x.2.mono hb.size)
theorem under_call {P : Program} {f : FuncId} {args : Array Value} {wr : World} {x : Under wr} {v : Value}
    (h : Calls P f args x.1 fun e w' => e = .returned v ∧ Below x.1.heap.size x.1 w') : Calls P f args x.1 fun e w'' => e = .returned v ∧ ∃ y : Under wr, w'' = y.1 :=
  h.mono fun _ w' ⟨he, hb⟩ => ⟨he, ⟨w', x.2.trans (hb.mono x.2.size)⟩, rfl⟩
theorem under_same {P : Program} {f : FuncId} {args : Array Value} {wr : World} {x : Under wr} {v : Value}
    (h : Calls P f args x.1 fun e w' => e = .returned v ∧ x.1 = w') : Calls P f args x.1 fun e w'' => e = .returned v ∧ ∃ y : Under wr, w'' = y.1 :=
  h.mono fun _ _ ⟨he, hb⟩ => ⟨he, x, hb.symm⟩

theorem al_old {w : World} {b : Nat} {o : Obj} (O : Obj) (h : w.heap[b]? = some o) : (w.alloc O).heap[b]? = some o := by
  rw [Below.heap_alloc w O b (lt_of_block h), h]
theorem al_new {w : World} {b : Nat} (O : Obj) (h : b = w.heap.size) : (w.alloc O).heap[b]? = some O := by
  subst h; exact heap_alloc_last w O
theorem below_heap {B : Nat} {w w' : World} (h : Below B w w') {b : Nat} {o : Obj} (hb : b < B) (k : w.heap[b]? = some o) : w'.heap[b]? = some o := by
  rw [h.block b hb, k]
theorem below_heap' {w w' : World} (h : Below w.heap.size w w') {b : Nat} {o : Obj} (k : w.heap[b]? = some o) : w'.heap[b]? = some o := below_heap h (lt_of_block k) k
/-- 'Below', from a world with new blocks on. -/
theorem below_al {B : Nat} {a w w' : World} (h : Below B a w) (k : Below w.heap.size w w') (hB : B ≤ w.heap.size) : Below B a w' := h.trans (k.mono hB)
theorem bal1 (w : World) (A : Obj) : Below w.heap.size w (w.alloc A) := (Below.refl _ _).alloc (Nat.le_refl _) _
theorem bal2 (w : World) (A B : Obj) : Below w.heap.size w ((w.alloc A).alloc B) := (bal1 w A).alloc (by simp) _
theorem bal3 (w : World) (A B C : Obj) : Below w.heap.size w (((w.alloc A).alloc B).alloc C) := (bal2 w A B).alloc (by simp; omega) _
theorem bal4 (w : World) (A B C D : Obj) : Below w.heap.size w ((((w.alloc A).alloc B).alloc C).alloc D) := (bal3 w A B C).alloc (by simp; omega) _
/-- a world further on -/
theorem bnext {w W w' : World} (h : Below w.heap.size w W) (k : Below W.heap.size W w') : Below w.heap.size w w' := h.trans (k.mono h.size)
theorem heap_setRow_same {w : World} {b : Nat} {old cs : Array Value} {t : TypeId} (h : w.heap[b]? = some (.cells old t (0, 0))) : (w.setRow b cs).heap[b]? = some (.cells cs t (0, 0)) := setRow_heap w b old cs t _ h
theorem below_setRow {B : Nat} {a w : World} (h : Below B a w) {b : Nat} (hb : B ≤ b) (cs : Array Value) : Below B a (w.setRow b cs) :=
  h.trans ⟨rfl, rfl, rfl, by simp, fun k hk => setRow_other w b k cs (by omega)⟩
section
variable (P : Program) (w : World) (a : Addr) (m : Mode)
@[go_sem] theorem run_store_float (k : FloatKind) (b : Nat) : (store a (.float k b) m).run P w = stored P w a (.float k b) m := run_store P w a _ m rfl
@[go_sem] theorem run_store_complex (k : FloatKind) (b c : Nat) : (store a (.complex k b c) m).run P w = stored P w a (.complex k b c) m := run_store P w a _ m rfl
end
theorem cell_of_heap {w : World} {b j : Nat} {cs : Array Value} {t : TypeId} {fr : Nat × Nat} {v : Value} (h : w.heap[b]? = some (.cells cs t fr)) (hv : cs[j]? = some v) : w.cell? ⟨b, j, none⟩ = some v := by
  rw [cell_of_row w b j cs t fr h, hv]
end Go.Proofs.YtdpdjcehobjohaaGreatDoor
