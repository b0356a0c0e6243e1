/- impl.lines: the transforms of all rows, or of all columns, on sides of at most 4. -/
import Derived.Test.YtdpdjcehobjohaaGreatDoorSl
import Derived.Deep.RegionWith
namespace Go.Proofs.YtdpdjcehobjohaaGreatDoor
open Go Go.RowKit Go.BigFrame Fl

def li (c : Bool) (n i : Nat) : Nat := if c then i % n else i / n
def il (c : Bool) (n i : Nat) : Nat := if c then i / n else i % n
def pos (c : Bool) (n a b : Nat) : Nat := if c then n * b + a else n * a + b
/-- the cells of a line -/
def cut (c : Bool) (n : Nat) (z : Nat → CB) (a : Nat) : Nat → CB := fun b => z (pos c n a b)
/-- the transforms of all lines -/
def lin (mul : CB → CB → CB) (ph : Nat → CB) (s : Int) (d : Nat) (c : Bool) (z : Nat → CB) : Nat → CB := fun i =>
  tr mul ph s d (cut c (2 ^ d) z (li c (2 ^ d) i)) (il c (2 ^ d) i)
/-- the lines before line a, and the first j cells of line a -/
def lMix (r : Nat → CB) (c : Bool) (n a j : Nat) : Nat → CB := fun i => if i < n * n ∧ (li c n i < a ∨ li c n i = a ∧ il c n i < j) then r i else (0, 0)

theorem pos_lt (c : Bool) (d a j : Nat) (hd : d ≤ 2) (ha : a < 2 ^ d) (hj : j < 2 ^ d) : pos c (2 ^ d) a j < 2 ^ d * 2 ^ d := by
  unfold pos
  obtain rfl | rfl | rfl : d = 0 ∨ d = 1 ∨ d = 2 := by omega
  all_goals (cases c <;> simp only [Bool.false_eq_true, if_false, if_true] <;> omega)
theorem li_pos (c : Bool) (d a j : Nat) (hd : d ≤ 2) (ha : a < 2 ^ d) (hj : j < 2 ^ d) : li c (2 ^ d) (pos c (2 ^ d) a j) = a ∧ il c (2 ^ d) (pos c (2 ^ d) a j) = j := by
  unfold li il pos
  obtain rfl | rfl | rfl : d = 0 ∨ d = 1 ∨ d = 2 := by omega
  all_goals (cases c <;> simp only [Bool.false_eq_true, if_false, if_true] <;> omega)
theorem pos_eq (c : Bool) (d a j i : Nat) (hd : d ≤ 2) (ha : a < 2 ^ d) (hj : j < 2 ^ d) (h1 : li c (2 ^ d) i = a) (h2 : il c (2 ^ d) i = j) : i = pos c (2 ^ d) a j := by
  unfold li at h1; unfold il at h2; unfold pos
  obtain rfl | rfl | rfl : d = 0 ∨ d = 1 ∨ d = 2 := by omega
  all_goals (cases c <;> simp only [Bool.false_eq_true, if_false, if_true] at h1 h2 ⊢ <;> omega)
theorem lMix_zero (r : Nat → CB) (c : Bool) (n : Nat) : lMix r c n 0 0 = zW := by
  funext i; unfold lMix; rw [if_neg (by omega)]
theorem lMix_step (r : Nat → CB) (c : Bool) (d a j : Nat) (hd : d ≤ 2) (ha : a < 2 ^ d) (hj : j < 2 ^ d) :
    upd (lMix r c (2 ^ d) a j) (pos c (2 ^ d) a j) (r (pos c (2 ^ d) a j)) = lMix r c (2 ^ d) a (j + 1) := by
  have h1 := pos_lt c d a j hd ha hj
  have h2 := li_pos c d a j hd ha hj
  funext i; unfold upd lMix
  by_cases h : i = pos c (2 ^ d) a j
  · subst h; rw [if_pos rfl, if_pos ⟨h1, .inr ⟨h2.1, by omega⟩⟩]
  · rw [if_neg h]; congr 1; apply propext
    have : ¬ (li c (2 ^ d) i = a ∧ il c (2 ^ d) i = j) := fun q => h (pos_eq c d a j i hd ha hj q.1 q.2)
    omega
theorem il_lt (c : Bool) (d i : Nat) (hd : d ≤ 2) (h : i < 2 ^ d * 2 ^ d) : il c (2 ^ d) i < 2 ^ d ∧ li c (2 ^ d) i < 2 ^ d := by
  unfold il li
  obtain rfl | rfl | rfl : d = 0 ∨ d = 1 ∨ d = 2 := by omega
  all_goals (cases c <;> simp only [Bool.false_eq_true, if_false, if_true] <;> omega)
theorem lMix_line (r : Nat → CB) (c : Bool) (d a : Nat) (hd : d ≤ 2) : lMix r c (2 ^ d) a (2 ^ d) = lMix r c (2 ^ d) (a + 1) 0 := by
  funext i; unfold lMix; congr 1; apply propext
  constructor
  · intro ⟨h1, h2⟩; exact ⟨h1, by omega⟩
  · intro ⟨h1, h2⟩; have := il_lt c d i hd h1; exact ⟨h1, by omega⟩
theorem lMix_all (r : Nat → CB) (c : Bool) (d : Nat) (hd : d ≤ 2) : lMix r c (2 ^ d) (2 ^ d) 0 = part r (2 ^ d * 2 ^ d) := by
  funext i; unfold lMix part
  by_cases h : i < 2 ^ d * 2 ^ d
  · have := il_lt c d i hd h; rw [if_pos ⟨h, by omega⟩, if_pos h]
  · rw [if_neg (by omega), if_neg h]
theorem lin_pos (mul : CB → CB → CB) (ph : Nat → CB) (s : Int) (d : Nat) (c : Bool) (z : Nat → CB) (a j : Nat) (hd : d ≤ 2) (ha : a < 2 ^ d) (hj : j < 2 ^ d) :
    lin mul ph s d c z (pos c (2 ^ d) a j) = tr mul ph s d (cut c (2 ^ d) z a) j := by
  have h2 := li_pos c d a j hd ha hj
  unfold lin; rw [h2.1, h2.2]

theorem st_row (w : World) (b : Nat) (m n : Int) (z u : Nat → CB) (h : Wv w b m u) : (storeCells ⟨b, 0, none⟩ (cellsV n z).toList 0).run Tryz.prog w = .ok () (w.setRow b (cellsV n z)) := by
  have := run_storeCells_at (P := Tryz.prog) b 0 31 (cellsV n z).toList 0 (cellsV m u) w h (by simp) (by
    intro v hv
    have := cellsV_one n z
    rw [← Array.all_toList, List.all_eq_true] at this
    exact this v hv)
  rw [this]
  have h2 : List.drop (0 + 0 + (cellsV n z).toList.length) (cellsV m u).toList = [] := List.drop_eq_nil_of_le (by simp)
  rw [h2]
  simp
theorem grown_set {w w' : World} {g : Nat} (h : w.grownBy w' (some g)) (i : Nat) (v : Value) : w.grownBy (w'.setCell ⟨g, i, none⟩ v) (some g) :=
  ⟨h.os, h.tape, h.output, by simpa [World.setCell] using h.size, fun k hk hne => by
    rw [heap_setCell_other _ _ _ _ (fun e => hne (by simp [e]))]; exact h.block k hk hne⟩
theorem grown_refl (w : World) (row : Option Nat) : w.grownBy w row := ⟨rfl, rfl, rfl, Nat.le_refl _, fun _ _ _ => rfl⟩
theorem Wv.set {w : World} {b : Nat} {n : Int} {z : Nat → CB} (h : Wv w b n z) (i : Nat) (hi : i < 64) (v : CB) : Wv (w.setCell ⟨b, 1 + i, none⟩ (cv v)) b n (upd z i v) := by
  have := heap_setCell_same w b (1 + i) _ _ (cv v) h
  rw [cellsV_set _ _ _ _ hi] at this
  exact this

set_option maxRecDepth 100000 in
set_option maxHeartbeats 8000000 in
theorem lines1false_c (s : Int) (hs : s = 1 ∨ s = -1) (z : Nat → CB) (hz : ∀ a, a < 1 → TrOk MulOk mulC qp s 0 (cut false (2 ^ 0) z a)) (w : World) :
    Calls Tryz.prog 90 #[.agg (cellsV 1 z), .int .i64 s, .bool false] w fun e w' => e = .returned (.agg (cellsV 1 (part (lin mulC qp s 0 false z) 1))) ∧ Below w.heap.size w w' := by
  obtain ⟨i0, hi, hz0, hz1, hz2⟩ := info_parts info28
  have HZ := Lib.hid hz
  clear hz
  go_enter Tryz.func90, Tryz.ntmps90
  go_wp2_with fail
  have hs1 := st_row (((w.alloc (Obj.cells (cellsV 1 z) 31 (0, 0))).alloc (Obj.cells (cellsV 0 zW) 31 (0, 0))).alloc (Obj.cells (cellsV 0 zW) 31 (0, 0))).drew (w.heap.size + 1 + 1) 0 1 zW zW (al_new (Obj.cells (cellsV 0 zW) 31 (0, 0)) (by simp))
  go_region
  have HB0 : Hid (Below w.heap.size w ((((w.alloc (Obj.cells (cellsV 1 z) 31 (0, 0))).alloc (Obj.cells (cellsV 0 zW) 31 (0, 0))).alloc (Obj.cells (cellsV 0 zW) 31 (0, 0))).drew.setRow (w.heap.size + 1 + 1) (cellsV 1 zW))) := Lib.hid (below_setRow (bal3 w _ _ _).drew (by omega) _)
  have HA0 : Hid (Wv ((((w.alloc (Obj.cells (cellsV 1 z) 31 (0, 0))).alloc (Obj.cells (cellsV 0 zW) 31 (0, 0))).alloc (Obj.cells (cellsV 0 zW) 31 (0, 0))).drew.setRow (w.heap.size + 1 + 1) (cellsV 1 zW)) w.heap.size 1 z) := Lib.hid ((setRow_other _ _ _ _ (by omega)).trans (al_old _ (al_old _ (al_new (Obj.cells (cellsV 1 z) 31 (0, 0)) rfl))))
  have HA1 : Hid (Wv ((((w.alloc (Obj.cells (cellsV 1 z) 31 (0, 0))).alloc (Obj.cells (cellsV 0 zW) 31 (0, 0))).alloc (Obj.cells (cellsV 0 zW) 31 (0, 0))).drew.setRow (w.heap.size + 1 + 1) (cellsV 1 zW)) (w.heap.size + 1) 0 zW) := Lib.hid ((setRow_other _ _ _ _ (by omega)).trans (al_old _ (al_new (Obj.cells (cellsV 0 zW) 31 (0, 0)) (by simp))))
  have HA2 : Hid (Wv ((((w.alloc (Obj.cells (cellsV 1 z) 31 (0, 0))).alloc (Obj.cells (cellsV 0 zW) 31 (0, 0))).alloc (Obj.cells (cellsV 0 zW) 31 (0, 0))).drew.setRow (w.heap.size + 1 + 1) (cellsV 1 zW)) (w.heap.size + 1 + 1) 1 zW) := Lib.hid (heap_setRow_same (al_new (Obj.cells (cellsV 0 zW) 31 (0, 0)) (by simp)))
  clear hs1
  generalize ((((w.alloc (Obj.cells (cellsV 1 z) 31 (0, 0))).alloc (Obj.cells (cellsV 0 zW) 31 (0, 0))).alloc (Obj.cells (cellsV 0 zW) 31 (0, 0))).drew.setRow (w.heap.size + 1 + 1) (cellsV 1 zW)) = W0 at HB0 HA0 HA1 HA2 ⊢
  go_wp2_with fail
  go_loopw [20] (fun c wr => ∃ a : Nat, a ≤ 1 ∧ c = .int .i64 a ∧ Below w.heap.size w wr ∧ Wv wr w.heap.size 1 z ∧ Wv wr (w.heap.size + 1) 0 zW ∧ Wv wr (w.heap.size + 1 + 1) 1 (lMix (lin mulC qp s 0 false z) false (2 ^ 0) a 0)) (fun c _ => (1 - intOf c).toNat)
  case atStart => exact ⟨0, by omega, rfl, HB0.out, HA0.out, HA1.out, by rw [lMix_zero]; exact HA2.out⟩
  case round =>
    obtain ⟨a, ha, hca, hb, h0, h1, h2⟩ := hrel
    clear HB0 HA0 HA1 HA2
    obtain rfl | rfl : a = 0 ∨ a = 1 := by omega
    · replace hca : _ = Value.int .i64 0 := hca
      subst hca
      obtain ⟨wo, rfl⟩ : ∃ x, x = wr := ⟨_, rfl⟩
      have HB := Lib.hid hb
      have H0 := Lib.hid h0
      have H1 := Lib.hid h1
      have H2 := Lib.hid h2
      have HS : Hid (w.heap.size + 1 + 1 < wo.heap.size) := Lib.hid (lt_of_block h2)
      clear hb h0 h1 h2
      go_wp2_with fail
      go_loopw [25, 10] (fun c v wr => ∃ j : Nat, j ≤ 1 ∧ c = .int .i64 j ∧ Below wo.heap.size wo wr ∧ wr.ownsRow wo.heap.size 28 1 v j (cvs j (cut false (2 ^ 0) z 0))) (fun c _ _ => (1 - intOf c).toNat)
      case atStart => exact ⟨0, by omega, rfl, bal1 _ _, World.ownsRow_made wo #[] 0 (by omega) (by decide) rfl⟩
      case round =>
        obtain ⟨j, hj, rfl, hb, ho⟩ := hrel
        obtain rfl | rfl : j = 0 ∨ j = 1 := by omega
        · have KB := Lib.hid hb
          have KO := Lib.hid ho
          have hc0 : wr.cell? ⟨w.heap.size, 1, none⟩ = some (cv (z 0)) := cell_of_heap (below_heap' hb H0.out) (cellsV_at 1 z 0 (by omega))
          clear hb ho
          go_wp2_with (at_builtin; refine wpList_app1 _ rfl (.tmp 40) (.tmp 49) 50 rfl wo.heap.size 28 i0 (cv (0, 0)) 8 Tryz.underlying50 hi hz0 hz1 hz2 rfl _ _ _ rfl (KO.out.alloc _) ⟨wr.heap.size, 0, none⟩ 1 (cv (z 0)) rfl (by simp) rfl (by omega) (by omega) (by have := KB.out.size; simp; omega) ?_; intro v' w1 q1 q2 _; have T : Hid (w1.ownsRow wo.heap.size 28 1 v' 1 (cvs 1 (cut false (2 ^ 0) z 0))) := Lib.hid (by rw [← cvs_succ]; exact q1); have KB1 := Lib.hid (KB.out.trans (((bal1 wr _).mono KB.out.size).trans (grown_below q2 (own_lt KO.out) (by have := KB.out.size; simp; omega)))); clear q1 q2)
          exact ⟨⟨1, by omega, rfl, KB1.out, T.out⟩, by simp [intOf]⟩
        · have KB := Lib.hid hb
          have RE : Hid (Row wr 0 _ (2 ^ 0) (cut false (2 ^ 0) z 0)) := Lib.hid ((Row.of_own ho (by omega)).weak (Nat.zero_le _))
          clear hb ho
          go_wp2_with (first
          | (go_at_call 117
             ((with_reducible refine (TrC.get (transform_c 0 (by omega)) s hs _ (HZ.out 0 (by omega)) _ _ RE.out).mono ?_))
             rintro e w1 ⟨⟨v1, rfl, b1, o1, c1, rfl, hB1, hm1, hc1⟩, hb1⟩
             have K1 := Lib.hid hc1
             have K2 : Hid (Below wo.heap.size wo w1) := Lib.hid (KB.out.trans (hb1.mono KB.out.size))
             have KN : Hid (w.heap.size + 1 + 1 < b1) := Lib.hid (by have := HS.out; have := KB.out.size; omega)
             clear hc1 hb1 hB1 hm1))
          go_loopw [56] (fun c wr => ∃ j : Nat, j ≤ 1 ∧ c = .int .i64 j ∧ w1.grownBy wr (some (w.heap.size + 1 + 1)) ∧ Wv wr (w.heap.size + 1 + 1) 1 (lMix (lin mulC qp s 0 false z) false (2 ^ 0) 0 j)) (fun c _ => (1 - intOf c).toNat)
          case atStart => exact ⟨0, by omega, rfl, grown_refl _ _, below_heap' K2.out H2.out⟩
          case round =>
            obtain ⟨j, hj, rfl, hg, h2⟩ := hrel
            obtain rfl | rfl : j = 0 ∨ j = 1 := by omega
            · have G := Lib.hid hg
              have M2 := Lib.hid h2
              have hcr : wr.cell? ⟨b1, o1, none⟩ = some (cv (tr mulC qp s 0 (cut false (2 ^ 0) z 0) 0)) := hg.cell (K1.out 0 (by decide)) (by have := KN.out; simp; omega)
              have hc0 := cell_of_heap h2 (cellsV_at 1 _ 0 (by omega))
              have hf0 := frozen_of_row wr (w.heap.size + 1 + 1) 1 _ _ h2
              clear hg h2
              go_wp2_with fail
              refine ⟨⟨1, by omega, rfl, grown_set G.out _ _, ?_⟩, by simp [intOf]⟩
              have q := M2.out.set 0 (by omega) (tr mulC qp s 0 (cut false (2 ^ 0) z 0) 0)
              have q2 := lMix_step (lin mulC qp s 0 false z) false 0 0 0 (by omega) (by omega) (by omega)
              rw [lin_pos _ _ _ _ _ _ _ _ (by omega) (by omega) (by omega)] at q2
              rw [← q2]; exact q
            · have G := Lib.hid hg
              have M2 := Lib.hid h2
              clear hg h2
              go_wp2_with fail
              have k3 := grown_below G.out (B := w.heap.size) (by intro k hk; cases hk; omega) (by have := HB.out.size; have := K2.out.size; omega)
              have k1 := lt_of_block (below_heap' K2.out H0.out)
              have k2 := lt_of_block (below_heap' K2.out H1.out)
              refine ⟨⟨1, by omega, rfl, (HB.out.trans (K2.out.mono HB.out.size)).trans k3, ?_, ?_, ?_⟩, by simp [intOf]⟩
              · exact (G.out.block _ k1 (by intro e; injection e; omega)).trans (below_heap' K2.out H0.out)
              · exact (G.out.block _ k2 (by intro e; injection e; omega)).trans (below_heap' K2.out H1.out)
              · rw [← lMix_line _ _ _ _ (by omega)]; exact M2.out
    · go_wp2_with (first
        | (refine ld31 rfl _ rfl (w.heap.size + 1 + 1) rfl h2 ?_)
        | (refine st31 rfl _ _ rfl (w.heap.size + 1) rfl rfl h1 ?_))
      rw [← lMix_all (lin mulC qp s 0 false z) false 0 (by omega)]
      exact bodyPost_ret (v := .agg (cellsV 1 _)) (results_cell_row rfl _ _ (w.heap.size + 1) 31 _ (0, 0) _ rfl (heap_setRow_same h1) Tryz.underlying31 rfl (size31c _ _)) rfl ⟨rfl, below_setRow hb (by omega) _⟩


set_option maxRecDepth 100000 in
set_option maxHeartbeats 8000000 in
theorem lines1true_c (s : Int) (hs : s = 1 ∨ s = -1) (z : Nat → CB) (hz : ∀ a, a < 1 → TrOk MulOk mulC qp s 0 (cut true (2 ^ 0) z a)) (w : World) :
    Calls Tryz.prog 90 #[.agg (cellsV 1 z), .int .i64 s, .bool true] w fun e w' => e = .returned (.agg (cellsV 1 (part (lin mulC qp s 0 true z) 1))) ∧ Below w.heap.size w w' := by
  obtain ⟨i0, hi, hz0, hz1, hz2⟩ := info_parts info28
  have HZ := Lib.hid hz
  clear hz
  go_enter Tryz.func90, Tryz.ntmps90
  go_wp2_with fail
  have hs1 := st_row (((w.alloc (Obj.cells (cellsV 1 z) 31 (0, 0))).alloc (Obj.cells (cellsV 0 zW) 31 (0, 0))).alloc (Obj.cells (cellsV 0 zW) 31 (0, 0))).drew (w.heap.size + 1 + 1) 0 1 zW zW (al_new (Obj.cells (cellsV 0 zW) 31 (0, 0)) (by simp))
  go_region
  have HB0 : Hid (Below w.heap.size w ((((w.alloc (Obj.cells (cellsV 1 z) 31 (0, 0))).alloc (Obj.cells (cellsV 0 zW) 31 (0, 0))).alloc (Obj.cells (cellsV 0 zW) 31 (0, 0))).drew.setRow (w.heap.size + 1 + 1) (cellsV 1 zW))) := Lib.hid (below_setRow (bal3 w _ _ _).drew (by omega) _)
  have HA0 : Hid (Wv ((((w.alloc (Obj.cells (cellsV 1 z) 31 (0, 0))).alloc (Obj.cells (cellsV 0 zW) 31 (0, 0))).alloc (Obj.cells (cellsV 0 zW) 31 (0, 0))).drew.setRow (w.heap.size + 1 + 1) (cellsV 1 zW)) w.heap.size 1 z) := Lib.hid ((setRow_other _ _ _ _ (by omega)).trans (al_old _ (al_old _ (al_new (Obj.cells (cellsV 1 z) 31 (0, 0)) rfl))))
  have HA1 : Hid (Wv ((((w.alloc (Obj.cells (cellsV 1 z) 31 (0, 0))).alloc (Obj.cells (cellsV 0 zW) 31 (0, 0))).alloc (Obj.cells (cellsV 0 zW) 31 (0, 0))).drew.setRow (w.heap.size + 1 + 1) (cellsV 1 zW)) (w.heap.size + 1) 0 zW) := Lib.hid ((setRow_other _ _ _ _ (by omega)).trans (al_old _ (al_new (Obj.cells (cellsV 0 zW) 31 (0, 0)) (by simp))))
  have HA2 : Hid (Wv ((((w.alloc (Obj.cells (cellsV 1 z) 31 (0, 0))).alloc (Obj.cells (cellsV 0 zW) 31 (0, 0))).alloc (Obj.cells (cellsV 0 zW) 31 (0, 0))).drew.setRow (w.heap.size + 1 + 1) (cellsV 1 zW)) (w.heap.size + 1 + 1) 1 zW) := Lib.hid (heap_setRow_same (al_new (Obj.cells (cellsV 0 zW) 31 (0, 0)) (by simp)))
  clear hs1
  generalize ((((w.alloc (Obj.cells (cellsV 1 z) 31 (0, 0))).alloc (Obj.cells (cellsV 0 zW) 31 (0, 0))).alloc (Obj.cells (cellsV 0 zW) 31 (0, 0))).drew.setRow (w.heap.size + 1 + 1) (cellsV 1 zW)) = W0 at HB0 HA0 HA1 HA2 ⊢
  go_wp2_with fail
  go_loopw [20] (fun c wr => ∃ a : Nat, a ≤ 1 ∧ c = .int .i64 a ∧ Below w.heap.size w wr ∧ Wv wr w.heap.size 1 z ∧ Wv wr (w.heap.size + 1) 0 zW ∧ Wv wr (w.heap.size + 1 + 1) 1 (lMix (lin mulC qp s 0 true z) true (2 ^ 0) a 0)) (fun c _ => (1 - intOf c).toNat)
  case atStart => exact ⟨0, by omega, rfl, HB0.out, HA0.out, HA1.out, by rw [lMix_zero]; exact HA2.out⟩
  case round =>
    obtain ⟨a, ha, hca, hb, h0, h1, h2⟩ := hrel
    clear HB0 HA0 HA1 HA2
    obtain rfl | rfl : a = 0 ∨ a = 1 := by omega
    · replace hca : _ = Value.int .i64 0 := hca
      subst hca
      obtain ⟨wo, rfl⟩ : ∃ x, x = wr := ⟨_, rfl⟩
      have HB := Lib.hid hb
      have H0 := Lib.hid h0
      have H1 := Lib.hid h1
      have H2 := Lib.hid h2
      have HS : Hid (w.heap.size + 1 + 1 < wo.heap.size) := Lib.hid (lt_of_block h2)
      clear hb h0 h1 h2
      go_wp2_with fail
      go_loopw [25, 10] (fun c v wr => ∃ j : Nat, j ≤ 1 ∧ c = .int .i64 j ∧ Below wo.heap.size wo wr ∧ wr.ownsRow wo.heap.size 28 1 v j (cvs j (cut true (2 ^ 0) z 0))) (fun c _ _ => (1 - intOf c).toNat)
      case atStart => exact ⟨0, by omega, rfl, bal1 _ _, World.ownsRow_made wo #[] 0 (by omega) (by decide) rfl⟩
      case round =>
        obtain ⟨j, hj, rfl, hb, ho⟩ := hrel
        obtain rfl | rfl : j = 0 ∨ j = 1 := by omega
        · have KB := Lib.hid hb
          have KO := Lib.hid ho
          have hc0 : wr.cell? ⟨w.heap.size, 1, none⟩ = some (cv (z 0)) := cell_of_heap (below_heap' hb H0.out) (cellsV_at 1 z 0 (by omega))
          clear hb ho
          go_wp2_with (at_builtin; refine wpList_app1 _ rfl (.tmp 29) (.tmp 38) 50 rfl wo.heap.size 28 i0 (cv (0, 0)) 8 Tryz.underlying50 hi hz0 hz1 hz2 rfl _ _ _ rfl (KO.out.alloc _) ⟨wr.heap.size, 0, none⟩ 1 (cv (z 0)) rfl (by simp) rfl (by omega) (by omega) (by have := KB.out.size; simp; omega) ?_; intro v' w1 q1 q2 _; have T : Hid (w1.ownsRow wo.heap.size 28 1 v' 1 (cvs 1 (cut true (2 ^ 0) z 0))) := Lib.hid (by rw [← cvs_succ]; exact q1); have KB1 := Lib.hid (KB.out.trans (((bal1 wr _).mono KB.out.size).trans (grown_below q2 (own_lt KO.out) (by have := KB.out.size; simp; omega)))); clear q1 q2)
          exact ⟨⟨1, by omega, rfl, KB1.out, T.out⟩, by simp [intOf]⟩
        · have KB := Lib.hid hb
          have RE : Hid (Row wr 0 _ (2 ^ 0) (cut true (2 ^ 0) z 0)) := Lib.hid ((Row.of_own ho (by omega)).weak (Nat.zero_le _))
          clear hb ho
          go_wp2_with (first
          | (go_at_call 117
             ((with_reducible refine (TrC.get (transform_c 0 (by omega)) s hs _ (HZ.out 0 (by omega)) _ _ RE.out).mono ?_))
             rintro e w1 ⟨⟨v1, rfl, b1, o1, c1, rfl, hB1, hm1, hc1⟩, hb1⟩
             have K1 := Lib.hid hc1
             have K2 : Hid (Below wo.heap.size wo w1) := Lib.hid (KB.out.trans (hb1.mono KB.out.size))
             have KN : Hid (w.heap.size + 1 + 1 < b1) := Lib.hid (by have := HS.out; have := KB.out.size; omega)
             clear hc1 hb1 hB1 hm1))
          go_loopw [56] (fun c wr => ∃ j : Nat, j ≤ 1 ∧ c = .int .i64 j ∧ w1.grownBy wr (some (w.heap.size + 1 + 1)) ∧ Wv wr (w.heap.size + 1 + 1) 1 (lMix (lin mulC qp s 0 true z) true (2 ^ 0) 0 j)) (fun c _ => (1 - intOf c).toNat)
          case atStart => exact ⟨0, by omega, rfl, grown_refl _ _, below_heap' K2.out H2.out⟩
          case round =>
            obtain ⟨j, hj, rfl, hg, h2⟩ := hrel
            obtain rfl | rfl : j = 0 ∨ j = 1 := by omega
            · have G := Lib.hid hg
              have M2 := Lib.hid h2
              have hcr : wr.cell? ⟨b1, o1, none⟩ = some (cv (tr mulC qp s 0 (cut true (2 ^ 0) z 0) 0)) := hg.cell (K1.out 0 (by decide)) (by have := KN.out; simp; omega)
              have hc0 := cell_of_heap h2 (cellsV_at 1 _ 0 (by omega))
              have hf0 := frozen_of_row wr (w.heap.size + 1 + 1) 1 _ _ h2
              clear hg h2
              go_wp2_with fail
              refine ⟨⟨1, by omega, rfl, grown_set G.out _ _, ?_⟩, by simp [intOf]⟩
              have q := M2.out.set 0 (by omega) (tr mulC qp s 0 (cut true (2 ^ 0) z 0) 0)
              have q2 := lMix_step (lin mulC qp s 0 true z) true 0 0 0 (by omega) (by omega) (by omega)
              rw [lin_pos _ _ _ _ _ _ _ _ (by omega) (by omega) (by omega)] at q2
              rw [← q2]; exact q
            · have G := Lib.hid hg
              have M2 := Lib.hid h2
              clear hg h2
              go_wp2_with fail
              have k3 := grown_below G.out (B := w.heap.size) (by intro k hk; cases hk; omega) (by have := HB.out.size; have := K2.out.size; omega)
              have k1 := lt_of_block (below_heap' K2.out H0.out)
              have k2 := lt_of_block (below_heap' K2.out H1.out)
              refine ⟨⟨1, by omega, rfl, (HB.out.trans (K2.out.mono HB.out.size)).trans k3, ?_, ?_, ?_⟩, by simp [intOf]⟩
              · exact (G.out.block _ k1 (by intro e; injection e; omega)).trans (below_heap' K2.out H0.out)
              · exact (G.out.block _ k2 (by intro e; injection e; omega)).trans (below_heap' K2.out H1.out)
              · rw [← lMix_line _ _ _ _ (by omega)]; exact M2.out
    · go_wp2_with (first
        | (refine ld31 rfl _ rfl (w.heap.size + 1 + 1) rfl h2 ?_)
        | (refine st31 rfl _ _ rfl (w.heap.size + 1) rfl rfl h1 ?_))
      rw [← lMix_all (lin mulC qp s 0 true z) true 0 (by omega)]
      exact bodyPost_ret (v := .agg (cellsV 1 _)) (results_cell_row rfl _ _ (w.heap.size + 1) 31 _ (0, 0) _ rfl (heap_setRow_same h1) Tryz.underlying31 rfl (size31c _ _)) rfl ⟨rfl, below_setRow hb (by omega) _⟩


set_option maxRecDepth 100000 in
set_option maxHeartbeats 8000000 in
theorem lines2false_c (s : Int) (hs : s = 1 ∨ s = -1) (z : Nat → CB) (hz : ∀ a, a < 2 → TrOk MulOk mulC qp s 1 (cut false (2 ^ 1) z a)) (w : World) :
    Calls Tryz.prog 90 #[.agg (cellsV 2 z), .int .i64 s, .bool false] w fun e w' => e = .returned (.agg (cellsV 2 (part (lin mulC qp s 1 false z) 4))) ∧ Below w.heap.size w w' := by
  obtain ⟨i0, hi, hz0, hz1, hz2⟩ := info_parts info28
  have HZ := Lib.hid hz
  clear hz
  go_enter Tryz.func90, Tryz.ntmps90
  go_wp2_with fail
  have hs1 := st_row (((w.alloc (Obj.cells (cellsV 2 z) 31 (0, 0))).alloc (Obj.cells (cellsV 0 zW) 31 (0, 0))).alloc (Obj.cells (cellsV 0 zW) 31 (0, 0))).drew (w.heap.size + 1 + 1) 0 2 zW zW (al_new (Obj.cells (cellsV 0 zW) 31 (0, 0)) (by simp))
  go_region
  have HB0 : Hid (Below w.heap.size w ((((w.alloc (Obj.cells (cellsV 2 z) 31 (0, 0))).alloc (Obj.cells (cellsV 0 zW) 31 (0, 0))).alloc (Obj.cells (cellsV 0 zW) 31 (0, 0))).drew.setRow (w.heap.size + 1 + 1) (cellsV 2 zW))) := Lib.hid (below_setRow (bal3 w _ _ _).drew (by omega) _)
  have HA0 : Hid (Wv ((((w.alloc (Obj.cells (cellsV 2 z) 31 (0, 0))).alloc (Obj.cells (cellsV 0 zW) 31 (0, 0))).alloc (Obj.cells (cellsV 0 zW) 31 (0, 0))).drew.setRow (w.heap.size + 1 + 1) (cellsV 2 zW)) w.heap.size 2 z) := Lib.hid ((setRow_other _ _ _ _ (by omega)).trans (al_old _ (al_old _ (al_new (Obj.cells (cellsV 2 z) 31 (0, 0)) rfl))))
  have HA1 : Hid (Wv ((((w.alloc (Obj.cells (cellsV 2 z) 31 (0, 0))).alloc (Obj.cells (cellsV 0 zW) 31 (0, 0))).alloc (Obj.cells (cellsV 0 zW) 31 (0, 0))).drew.setRow (w.heap.size + 1 + 1) (cellsV 2 zW)) (w.heap.size + 1) 0 zW) := Lib.hid ((setRow_other _ _ _ _ (by omega)).trans (al_old _ (al_new (Obj.cells (cellsV 0 zW) 31 (0, 0)) (by simp))))
  have HA2 : Hid (Wv ((((w.alloc (Obj.cells (cellsV 2 z) 31 (0, 0))).alloc (Obj.cells (cellsV 0 zW) 31 (0, 0))).alloc (Obj.cells (cellsV 0 zW) 31 (0, 0))).drew.setRow (w.heap.size + 1 + 1) (cellsV 2 zW)) (w.heap.size + 1 + 1) 2 zW) := Lib.hid (heap_setRow_same (al_new (Obj.cells (cellsV 0 zW) 31 (0, 0)) (by simp)))
  clear hs1
  generalize ((((w.alloc (Obj.cells (cellsV 2 z) 31 (0, 0))).alloc (Obj.cells (cellsV 0 zW) 31 (0, 0))).alloc (Obj.cells (cellsV 0 zW) 31 (0, 0))).drew.setRow (w.heap.size + 1 + 1) (cellsV 2 zW)) = W0 at HB0 HA0 HA1 HA2 ⊢
  go_wp2_with fail
  go_loopw [20] (fun c wr => ∃ a : Nat, a ≤ 2 ∧ c = .int .i64 a ∧ Below w.heap.size w wr ∧ Wv wr w.heap.size 2 z ∧ Wv wr (w.heap.size + 1) 0 zW ∧ Wv wr (w.heap.size + 1 + 1) 2 (lMix (lin mulC qp s 1 false z) false (2 ^ 1) a 0)) (fun c _ => (2 - intOf c).toNat)
  case atStart => exact ⟨0, by omega, rfl, HB0.out, HA0.out, HA1.out, by rw [lMix_zero]; exact HA2.out⟩
  case round =>
    obtain ⟨a, ha, hca, hb, h0, h1, h2⟩ := hrel
    clear HB0 HA0 HA1 HA2
    obtain rfl | rfl | rfl : a = 0 ∨ a = 1 ∨ a = 2 := by omega
    · replace hca : _ = Value.int .i64 0 := hca
      subst hca
      obtain ⟨wo, rfl⟩ : ∃ x, x = wr := ⟨_, rfl⟩
      have HB := Lib.hid hb
      have H0 := Lib.hid h0
      have H1 := Lib.hid h1
      have H2 := Lib.hid h2
      have HS : Hid (w.heap.size + 1 + 1 < wo.heap.size) := Lib.hid (lt_of_block h2)
      clear hb h0 h1 h2
      go_wp2_with fail
      go_loopw [25, 10] (fun c v wr => ∃ j : Nat, j ≤ 2 ∧ c = .int .i64 j ∧ Below wo.heap.size wo wr ∧ wr.ownsRow wo.heap.size 28 1 v j (cvs j (cut false (2 ^ 1) z 0))) (fun c _ _ => (2 - intOf c).toNat)
      case atStart => exact ⟨0, by omega, rfl, bal1 _ _, World.ownsRow_made wo #[] 0 (by omega) (by decide) rfl⟩
      case round =>
        obtain ⟨j, hj, rfl, hb, ho⟩ := hrel
        obtain rfl | rfl | rfl : j = 0 ∨ j = 1 ∨ j = 2 := by omega
        · have KB := Lib.hid hb
          have KO := Lib.hid ho
          have hc0 : wr.cell? ⟨w.heap.size, 1, none⟩ = some (cv (z 0)) := cell_of_heap (below_heap' hb H0.out) (cellsV_at 2 z 0 (by omega))
          clear hb ho
          go_wp2_with (at_builtin; refine wpList_app1 _ rfl (.tmp 40) (.tmp 49) 50 rfl wo.heap.size 28 i0 (cv (0, 0)) 8 Tryz.underlying50 hi hz0 hz1 hz2 rfl _ _ _ rfl (KO.out.alloc _) ⟨wr.heap.size, 0, none⟩ 1 (cv (z 0)) rfl (by simp) rfl (by omega) (by omega) (by have := KB.out.size; simp; omega) ?_; intro v' w1 q1 q2 _; have T : Hid (w1.ownsRow wo.heap.size 28 1 v' 1 (cvs 1 (cut false (2 ^ 1) z 0))) := Lib.hid (by rw [← cvs_succ]; exact q1); have KB1 := Lib.hid (KB.out.trans (((bal1 wr _).mono KB.out.size).trans (grown_below q2 (own_lt KO.out) (by have := KB.out.size; simp; omega)))); clear q1 q2)
          exact ⟨⟨1, by omega, rfl, KB1.out, T.out⟩, by simp [intOf]⟩
        · have KB := Lib.hid hb
          have KO := Lib.hid ho
          have hc0 : wr.cell? ⟨w.heap.size, 2, none⟩ = some (cv (z 1)) := cell_of_heap (below_heap' hb H0.out) (cellsV_at 2 z 1 (by omega))
          clear hb ho
          go_wp2_with (at_builtin; refine wpList_app1 _ rfl (.tmp 40) (.tmp 49) 50 rfl wo.heap.size 28 i0 (cv (0, 0)) 8 Tryz.underlying50 hi hz0 hz1 hz2 rfl _ _ _ rfl (KO.out.alloc _) ⟨wr.heap.size, 0, none⟩ 1 (cv (z 1)) rfl (by simp) rfl (by omega) (by omega) (by have := KB.out.size; simp; omega) ?_; intro v' w1 q1 q2 _; have T : Hid (w1.ownsRow wo.heap.size 28 1 v' 2 (cvs 2 (cut false (2 ^ 1) z 0))) := Lib.hid (by rw [← cvs_succ]; exact q1); have KB1 := Lib.hid (KB.out.trans (((bal1 wr _).mono KB.out.size).trans (grown_below q2 (own_lt KO.out) (by have := KB.out.size; simp; omega)))); clear q1 q2)
          exact ⟨⟨2, by omega, rfl, KB1.out, T.out⟩, by simp [intOf]⟩
        · have KB := Lib.hid hb
          have RE : Hid (Row wr 0 _ (2 ^ 1) (cut false (2 ^ 1) z 0)) := Lib.hid ((Row.of_own ho (by omega)).weak (Nat.zero_le _))
          clear hb ho
          go_wp2_with (first
          | (go_at_call 117
             ((with_reducible refine (TrC.get (transform_c 1 (by omega)) s hs _ (HZ.out 0 (by omega)) _ _ RE.out).mono ?_))
             rintro e w1 ⟨⟨v1, rfl, b1, o1, c1, rfl, hB1, hm1, hc1⟩, hb1⟩
             have K1 := Lib.hid hc1
             have K2 : Hid (Below wo.heap.size wo w1) := Lib.hid (KB.out.trans (hb1.mono KB.out.size))
             have KN : Hid (w.heap.size + 1 + 1 < b1) := Lib.hid (by have := HS.out; have := KB.out.size; omega)
             clear hc1 hb1 hB1 hm1))
          go_loopw [56] (fun c wr => ∃ j : Nat, j ≤ 2 ∧ c = .int .i64 j ∧ w1.grownBy wr (some (w.heap.size + 1 + 1)) ∧ Wv wr (w.heap.size + 1 + 1) 2 (lMix (lin mulC qp s 1 false z) false (2 ^ 1) 0 j)) (fun c _ => (2 - intOf c).toNat)
          case atStart => exact ⟨0, by omega, rfl, grown_refl _ _, below_heap' K2.out H2.out⟩
          case round =>
            obtain ⟨j, hj, rfl, hg, h2⟩ := hrel
            obtain rfl | rfl | rfl : j = 0 ∨ j = 1 ∨ j = 2 := by omega
            · have G := Lib.hid hg
              have M2 := Lib.hid h2
              have hcr : wr.cell? ⟨b1, o1, none⟩ = some (cv (tr mulC qp s 1 (cut false (2 ^ 1) z 0) 0)) := hg.cell (K1.out 0 (by decide)) (by have := KN.out; simp; omega)
              have hc0 := cell_of_heap h2 (cellsV_at 2 _ 0 (by omega))
              have hf0 := frozen_of_row wr (w.heap.size + 1 + 1) 1 _ _ h2
              clear hg h2
              go_wp2_with fail
              refine ⟨⟨1, by omega, rfl, grown_set G.out _ _, ?_⟩, by simp [intOf]⟩
              have q := M2.out.set 0 (by omega) (tr mulC qp s 1 (cut false (2 ^ 1) z 0) 0)
              have q2 := lMix_step (lin mulC qp s 1 false z) false 1 0 0 (by omega) (by omega) (by omega)
              rw [lin_pos _ _ _ _ _ _ _ _ (by omega) (by omega) (by omega)] at q2
              rw [← q2]; exact q
            · have G := Lib.hid hg
              have M2 := Lib.hid h2
              have hcr : wr.cell? ⟨b1, o1 + 1, none⟩ = some (cv (tr mulC qp s 1 (cut false (2 ^ 1) z 0) 1)) := hg.cell (K1.out 1 (by decide)) (by have := KN.out; simp; omega)
              have hc0 := cell_of_heap h2 (cellsV_at 2 _ 1 (by omega))
              have hf0 := frozen_of_row wr (w.heap.size + 1 + 1) 2 _ _ h2
              clear hg h2
              go_wp2_with fail
              refine ⟨⟨2, by omega, rfl, grown_set G.out _ _, ?_⟩, by simp [intOf]⟩
              have q := M2.out.set 1 (by omega) (tr mulC qp s 1 (cut false (2 ^ 1) z 0) 1)
              have q2 := lMix_step (lin mulC qp s 1 false z) false 1 0 1 (by omega) (by omega) (by omega)
              rw [lin_pos _ _ _ _ _ _ _ _ (by omega) (by omega) (by omega)] at q2
              rw [← q2]; exact q
            · have G := Lib.hid hg
              have M2 := Lib.hid h2
              clear hg h2
              go_wp2_with fail
              have k3 := grown_below G.out (B := w.heap.size) (by intro k hk; cases hk; omega) (by have := HB.out.size; have := K2.out.size; omega)
              have k1 := lt_of_block (below_heap' K2.out H0.out)
              have k2 := lt_of_block (below_heap' K2.out H1.out)
              refine ⟨⟨1, by omega, rfl, (HB.out.trans (K2.out.mono HB.out.size)).trans k3, ?_, ?_, ?_⟩, by simp [intOf]⟩
              · exact (G.out.block _ k1 (by intro e; injection e; omega)).trans (below_heap' K2.out H0.out)
              · exact (G.out.block _ k2 (by intro e; injection e; omega)).trans (below_heap' K2.out H1.out)
              · rw [← lMix_line _ _ _ _ (by omega)]; exact M2.out
    · replace hca : _ = Value.int .i64 1 := hca
      subst hca
      obtain ⟨wo, rfl⟩ : ∃ x, x = wr := ⟨_, rfl⟩
      have HB := Lib.hid hb
      have H0 := Lib.hid h0
      have H1 := Lib.hid h1
      have H2 := Lib.hid h2
      have HS : Hid (w.heap.size + 1 + 1 < wo.heap.size) := Lib.hid (lt_of_block h2)
      clear hb h0 h1 h2
      go_wp2_with fail
      go_loopw [25, 10] (fun c v wr => ∃ j : Nat, j ≤ 2 ∧ c = .int .i64 j ∧ Below wo.heap.size wo wr ∧ wr.ownsRow wo.heap.size 28 1 v j (cvs j (cut false (2 ^ 1) z 1))) (fun c _ _ => (2 - intOf c).toNat)
      case atStart => exact ⟨0, by omega, rfl, bal1 _ _, World.ownsRow_made wo #[] 0 (by omega) (by decide) rfl⟩
      case round =>
        obtain ⟨j, hj, rfl, hb, ho⟩ := hrel
        obtain rfl | rfl | rfl : j = 0 ∨ j = 1 ∨ j = 2 := by omega
        · have KB := Lib.hid hb
          have KO := Lib.hid ho
          have hc0 : wr.cell? ⟨w.heap.size, 3, none⟩ = some (cv (z 2)) := cell_of_heap (below_heap' hb H0.out) (cellsV_at 2 z 2 (by omega))
          clear hb ho
          go_wp2_with (at_builtin; refine wpList_app1 _ rfl (.tmp 40) (.tmp 49) 50 rfl wo.heap.size 28 i0 (cv (0, 0)) 8 Tryz.underlying50 hi hz0 hz1 hz2 rfl _ _ _ rfl (KO.out.alloc _) ⟨wr.heap.size, 0, none⟩ 1 (cv (z 2)) rfl (by simp) rfl (by omega) (by omega) (by have := KB.out.size; simp; omega) ?_; intro v' w1 q1 q2 _; have T : Hid (w1.ownsRow wo.heap.size 28 1 v' 1 (cvs 1 (cut false (2 ^ 1) z 1))) := Lib.hid (by rw [← cvs_succ]; exact q1); have KB1 := Lib.hid (KB.out.trans (((bal1 wr _).mono KB.out.size).trans (grown_below q2 (own_lt KO.out) (by have := KB.out.size; simp; omega)))); clear q1 q2)
          exact ⟨⟨1, by omega, rfl, KB1.out, T.out⟩, by simp [intOf]⟩
        · have KB := Lib.hid hb
          have KO := Lib.hid ho
          have hc0 : wr.cell? ⟨w.heap.size, 4, none⟩ = some (cv (z 3)) := cell_of_heap (below_heap' hb H0.out) (cellsV_at 2 z 3 (by omega))
          clear hb ho
          go_wp2_with (at_builtin; refine wpList_app1 _ rfl (.tmp 40) (.tmp 49) 50 rfl wo.heap.size 28 i0 (cv (0, 0)) 8 Tryz.underlying50 hi hz0 hz1 hz2 rfl _ _ _ rfl (KO.out.alloc _) ⟨wr.heap.size, 0, none⟩ 1 (cv (z 3)) rfl (by simp) rfl (by omega) (by omega) (by have := KB.out.size; simp; omega) ?_; intro v' w1 q1 q2 _; have T : Hid (w1.ownsRow wo.heap.size 28 1 v' 2 (cvs 2 (cut false (2 ^ 1) z 1))) := Lib.hid (by rw [← cvs_succ]; exact q1); have KB1 := Lib.hid (KB.out.trans (((bal1 wr _).mono KB.out.size).trans (grown_below q2 (own_lt KO.out) (by have := KB.out.size; simp; omega)))); clear q1 q2)
          exact ⟨⟨2, by omega, rfl, KB1.out, T.out⟩, by simp [intOf]⟩
        · have KB := Lib.hid hb
          have RE : Hid (Row wr 0 _ (2 ^ 1) (cut false (2 ^ 1) z 1)) := Lib.hid ((Row.of_own ho (by omega)).weak (Nat.zero_le _))
          clear hb ho
          go_wp2_with (first
          | (go_at_call 117
             ((with_reducible refine (TrC.get (transform_c 1 (by omega)) s hs _ (HZ.out 1 (by omega)) _ _ RE.out).mono ?_))
             rintro e w1 ⟨⟨v1, rfl, b1, o1, c1, rfl, hB1, hm1, hc1⟩, hb1⟩
             have K1 := Lib.hid hc1
             have K2 : Hid (Below wo.heap.size wo w1) := Lib.hid (KB.out.trans (hb1.mono KB.out.size))
             have KN : Hid (w.heap.size + 1 + 1 < b1) := Lib.hid (by have := HS.out; have := KB.out.size; omega)
             clear hc1 hb1 hB1 hm1))
          go_loopw [56] (fun c wr => ∃ j : Nat, j ≤ 2 ∧ c = .int .i64 j ∧ w1.grownBy wr (some (w.heap.size + 1 + 1)) ∧ Wv wr (w.heap.size + 1 + 1) 2 (lMix (lin mulC qp s 1 false z) false (2 ^ 1) 1 j)) (fun c _ => (2 - intOf c).toNat)
          case atStart => exact ⟨0, by omega, rfl, grown_refl _ _, below_heap' K2.out H2.out⟩
          case round =>
            obtain ⟨j, hj, rfl, hg, h2⟩ := hrel
            obtain rfl | rfl | rfl : j = 0 ∨ j = 1 ∨ j = 2 := by omega
            · have G := Lib.hid hg
              have M2 := Lib.hid h2
              have hcr : wr.cell? ⟨b1, o1, none⟩ = some (cv (tr mulC qp s 1 (cut false (2 ^ 1) z 1) 0)) := hg.cell (K1.out 0 (by decide)) (by have := KN.out; simp; omega)
              have hc0 := cell_of_heap h2 (cellsV_at 2 _ 2 (by omega))
              have hf0 := frozen_of_row wr (w.heap.size + 1 + 1) 3 _ _ h2
              clear hg h2
              go_wp2_with fail
              refine ⟨⟨1, by omega, rfl, grown_set G.out _ _, ?_⟩, by simp [intOf]⟩
              have q := M2.out.set 2 (by omega) (tr mulC qp s 1 (cut false (2 ^ 1) z 1) 0)
              have q2 := lMix_step (lin mulC qp s 1 false z) false 1 1 0 (by omega) (by omega) (by omega)
              rw [lin_pos _ _ _ _ _ _ _ _ (by omega) (by omega) (by omega)] at q2
              rw [← q2]; exact q
            · have G := Lib.hid hg
              have M2 := Lib.hid h2
              have hcr : wr.cell? ⟨b1, o1 + 1, none⟩ = some (cv (tr mulC qp s 1 (cut false (2 ^ 1) z 1) 1)) := hg.cell (K1.out 1 (by decide)) (by have := KN.out; simp; omega)
              have hc0 := cell_of_heap h2 (cellsV_at 2 _ 3 (by omega))
              have hf0 := frozen_of_row wr (w.heap.size + 1 + 1) 4 _ _ h2
              clear hg h2
              go_wp2_with fail
              refine ⟨⟨2, by omega, rfl, grown_set G.out _ _, ?_⟩, by simp [intOf]⟩
              have q := M2.out.set 3 (by omega) (tr mulC qp s 1 (cut false (2 ^ 1) z 1) 1)
              have q2 := lMix_step (lin mulC qp s 1 false z) false 1 1 1 (by omega) (by omega) (by omega)
              rw [lin_pos _ _ _ _ _ _ _ _ (by omega) (by omega) (by omega)] at q2
              rw [← q2]; exact q
            · have G := Lib.hid hg
              have M2 := Lib.hid h2
              clear hg h2
              go_wp2_with fail
              have k3 := grown_below G.out (B := w.heap.size) (by intro k hk; cases hk; omega) (by have := HB.out.size; have := K2.out.size; omega)
              have k1 := lt_of_block (below_heap' K2.out H0.out)
              have k2 := lt_of_block (below_heap' K2.out H1.out)
              refine ⟨⟨2, by omega, rfl, (HB.out.trans (K2.out.mono HB.out.size)).trans k3, ?_, ?_, ?_⟩, by simp [intOf]⟩
              · exact (G.out.block _ k1 (by intro e; injection e; omega)).trans (below_heap' K2.out H0.out)
              · exact (G.out.block _ k2 (by intro e; injection e; omega)).trans (below_heap' K2.out H1.out)
              · rw [← lMix_line _ _ _ _ (by omega)]; exact M2.out
    · go_wp2_with (first
        | (refine ld31 rfl _ rfl (w.heap.size + 1 + 1) rfl h2 ?_)
        | (refine st31 rfl _ _ rfl (w.heap.size + 1) rfl rfl h1 ?_))
      rw [← lMix_all (lin mulC qp s 1 false z) false 1 (by omega)]
      exact bodyPost_ret (v := .agg (cellsV 2 _)) (results_cell_row rfl _ _ (w.heap.size + 1) 31 _ (0, 0) _ rfl (heap_setRow_same h1) Tryz.underlying31 rfl (size31c _ _)) rfl ⟨rfl, below_setRow hb (by omega) _⟩


set_option maxRecDepth 100000 in
set_option maxHeartbeats 8000000 in
theorem lines2true_c (s : Int) (hs : s = 1 ∨ s = -1) (z : Nat → CB) (hz : ∀ a, a < 2 → TrOk MulOk mulC qp s 1 (cut true (2 ^ 1) z a)) (w : World) :
    Calls Tryz.prog 90 #[.agg (cellsV 2 z), .int .i64 s, .bool true] w fun e w' => e = .returned (.agg (cellsV 2 (part (lin mulC qp s 1 true z) 4))) ∧ Below w.heap.size w w' := by
  obtain ⟨i0, hi, hz0, hz1, hz2⟩ := info_parts info28
  have HZ := Lib.hid hz
  clear hz
  go_enter Tryz.func90, Tryz.ntmps90
  go_wp2_with fail
  have hs1 := st_row (((w.alloc (Obj.cells (cellsV 2 z) 31 (0, 0))).alloc (Obj.cells (cellsV 0 zW) 31 (0, 0))).alloc (Obj.cells (cellsV 0 zW) 31 (0, 0))).drew (w.heap.size + 1 + 1) 0 2 zW zW (al_new (Obj.cells (cellsV 0 zW) 31 (0, 0)) (by simp))
  go_region
  have HB0 : Hid (Below w.heap.size w ((((w.alloc (Obj.cells (cellsV 2 z) 31 (0, 0))).alloc (Obj.cells (cellsV 0 zW) 31 (0, 0))).alloc (Obj.cells (cellsV 0 zW) 31 (0, 0))).drew.setRow (w.heap.size + 1 + 1) (cellsV 2 zW))) := Lib.hid (below_setRow (bal3 w _ _ _).drew (by omega) _)
  have HA0 : Hid (Wv ((((w.alloc (Obj.cells (cellsV 2 z) 31 (0, 0))).alloc (Obj.cells (cellsV 0 zW) 31 (0, 0))).alloc (Obj.cells (cellsV 0 zW) 31 (0, 0))).drew.setRow (w.heap.size + 1 + 1) (cellsV 2 zW)) w.heap.size 2 z) := Lib.hid ((setRow_other _ _ _ _ (by omega)).trans (al_old _ (al_old _ (al_new (Obj.cells (cellsV 2 z) 31 (0, 0)) rfl))))
  have HA1 : Hid (Wv ((((w.alloc (Obj.cells (cellsV 2 z) 31 (0, 0))).alloc (Obj.cells (cellsV 0 zW) 31 (0, 0))).alloc (Obj.cells (cellsV 0 zW) 31 (0, 0))).drew.setRow (w.heap.size + 1 + 1) (cellsV 2 zW)) (w.heap.size + 1) 0 zW) := Lib.hid ((setRow_other _ _ _ _ (by omega)).trans (al_old _ (al_new (Obj.cells (cellsV 0 zW) 31 (0, 0)) (by simp))))
  have HA2 : Hid (Wv ((((w.alloc (Obj.cells (cellsV 2 z) 31 (0, 0))).alloc (Obj.cells (cellsV 0 zW) 31 (0, 0))).alloc (Obj.cells (cellsV 0 zW) 31 (0, 0))).drew.setRow (w.heap.size + 1 + 1) (cellsV 2 zW)) (w.heap.size + 1 + 1) 2 zW) := Lib.hid (heap_setRow_same (al_new (Obj.cells (cellsV 0 zW) 31 (0, 0)) (by simp)))
  clear hs1
  generalize ((((w.alloc (Obj.cells (cellsV 2 z) 31 (0, 0))).alloc (Obj.cells (cellsV 0 zW) 31 (0, 0))).alloc (Obj.cells (cellsV 0 zW) 31 (0, 0))).drew.setRow (w.heap.size + 1 + 1) (cellsV 2 zW)) = W0 at HB0 HA0 HA1 HA2 ⊢
  go_wp2_with fail
  go_loopw [20] (fun c wr => ∃ a : Nat, a ≤ 2 ∧ c = .int .i64 a ∧ Below w.heap.size w wr ∧ Wv wr w.heap.size 2 z ∧ Wv wr (w.heap.size + 1) 0 zW ∧ Wv wr (w.heap.size + 1 + 1) 2 (lMix (lin mulC qp s 1 true z) true (2 ^ 1) a 0)) (fun c _ => (2 - intOf c).toNat)
  case atStart => exact ⟨0, by omega, rfl, HB0.out, HA0.out, HA1.out, by rw [lMix_zero]; exact HA2.out⟩
  case round =>
    obtain ⟨a, ha, hca, hb, h0, h1, h2⟩ := hrel
    clear HB0 HA0 HA1 HA2
    obtain rfl | rfl | rfl : a = 0 ∨ a = 1 ∨ a = 2 := by omega
    · replace hca : _ = Value.int .i64 0 := hca
      subst hca
      obtain ⟨wo, rfl⟩ : ∃ x, x = wr := ⟨_, rfl⟩
      have HB := Lib.hid hb
      have H0 := Lib.hid h0
      have H1 := Lib.hid h1
      have H2 := Lib.hid h2
      have HS : Hid (w.heap.size + 1 + 1 < wo.heap.size) := Lib.hid (lt_of_block h2)
      clear hb h0 h1 h2
      go_wp2_with fail
      go_loopw [25, 10] (fun c v wr => ∃ j : Nat, j ≤ 2 ∧ c = .int .i64 j ∧ Below wo.heap.size wo wr ∧ wr.ownsRow wo.heap.size 28 1 v j (cvs j (cut true (2 ^ 1) z 0))) (fun c _ _ => (2 - intOf c).toNat)
      case atStart => exact ⟨0, by omega, rfl, bal1 _ _, World.ownsRow_made wo #[] 0 (by omega) (by decide) rfl⟩
      case round =>
        obtain ⟨j, hj, rfl, hb, ho⟩ := hrel
        obtain rfl | rfl | rfl : j = 0 ∨ j = 1 ∨ j = 2 := by omega
        · have KB := Lib.hid hb
          have KO := Lib.hid ho
          have hc0 : wr.cell? ⟨w.heap.size, 1, none⟩ = some (cv (z 0)) := cell_of_heap (below_heap' hb H0.out) (cellsV_at 2 z 0 (by omega))
          clear hb ho
          go_wp2_with (at_builtin; refine wpList_app1 _ rfl (.tmp 29) (.tmp 38) 50 rfl wo.heap.size 28 i0 (cv (0, 0)) 8 Tryz.underlying50 hi hz0 hz1 hz2 rfl _ _ _ rfl (KO.out.alloc _) ⟨wr.heap.size, 0, none⟩ 1 (cv (z 0)) rfl (by simp) rfl (by omega) (by omega) (by have := KB.out.size; simp; omega) ?_; intro v' w1 q1 q2 _; have T : Hid (w1.ownsRow wo.heap.size 28 1 v' 1 (cvs 1 (cut true (2 ^ 1) z 0))) := Lib.hid (by rw [← cvs_succ]; exact q1); have KB1 := Lib.hid (KB.out.trans (((bal1 wr _).mono KB.out.size).trans (grown_below q2 (own_lt KO.out) (by have := KB.out.size; simp; omega)))); clear q1 q2)
          exact ⟨⟨1, by omega, rfl, KB1.out, T.out⟩, by simp [intOf]⟩
        · have KB := Lib.hid hb
          have KO := Lib.hid ho
          have hc0 : wr.cell? ⟨w.heap.size, 3, none⟩ = some (cv (z 2)) := cell_of_heap (below_heap' hb H0.out) (cellsV_at 2 z 2 (by omega))
          clear hb ho
          go_wp2_with (at_builtin; refine wpList_app1 _ rfl (.tmp 29) (.tmp 38) 50 rfl wo.heap.size 28 i0 (cv (0, 0)) 8 Tryz.underlying50 hi hz0 hz1 hz2 rfl _ _ _ rfl (KO.out.alloc _) ⟨wr.heap.size, 0, none⟩ 1 (cv (z 2)) rfl (by simp) rfl (by omega) (by omega) (by have := KB.out.size; simp; omega) ?_; intro v' w1 q1 q2 _; have T : Hid (w1.ownsRow wo.heap.size 28 1 v' 2 (cvs 2 (cut true (2 ^ 1) z 0))) := Lib.hid (by rw [← cvs_succ]; exact q1); have KB1 := Lib.hid (KB.out.trans (((bal1 wr _).mono KB.out.size).trans (grown_below q2 (own_lt KO.out) (by have := KB.out.size; simp; omega)))); clear q1 q2)
          exact ⟨⟨2, by omega, rfl, KB1.out, T.out⟩, by simp [intOf]⟩
        · have KB := Lib.hid hb
          have RE : Hid (Row wr 0 _ (2 ^ 1) (cut true (2 ^ 1) z 0)) := Lib.hid ((Row.of_own ho (by omega)).weak (Nat.zero_le _))
          clear hb ho
          go_wp2_with (first
          | (go_at_call 117
             ((with_reducible refine (TrC.get (transform_c 1 (by omega)) s hs _ (HZ.out 0 (by omega)) _ _ RE.out).mono ?_))
             rintro e w1 ⟨⟨v1, rfl, b1, o1, c1, rfl, hB1, hm1, hc1⟩, hb1⟩
             have K1 := Lib.hid hc1
             have K2 : Hid (Below wo.heap.size wo w1) := Lib.hid (KB.out.trans (hb1.mono KB.out.size))
             have KN : Hid (w.heap.size + 1 + 1 < b1) := Lib.hid (by have := HS.out; have := KB.out.size; omega)
             clear hc1 hb1 hB1 hm1))
          go_loopw [56] (fun c wr => ∃ j : Nat, j ≤ 2 ∧ c = .int .i64 j ∧ w1.grownBy wr (some (w.heap.size + 1 + 1)) ∧ Wv wr (w.heap.size + 1 + 1) 2 (lMix (lin mulC qp s 1 true z) true (2 ^ 1) 0 j)) (fun c _ => (2 - intOf c).toNat)
          case atStart => exact ⟨0, by omega, rfl, grown_refl _ _, below_heap' K2.out H2.out⟩
          case round =>
            obtain ⟨j, hj, rfl, hg, h2⟩ := hrel
            obtain rfl | rfl | rfl : j = 0 ∨ j = 1 ∨ j = 2 := by omega
            · have G := Lib.hid hg
              have M2 := Lib.hid h2
              have hcr : wr.cell? ⟨b1, o1, none⟩ = some (cv (tr mulC qp s 1 (cut true (2 ^ 1) z 0) 0)) := hg.cell (K1.out 0 (by decide)) (by have := KN.out; simp; omega)
              have hc0 := cell_of_heap h2 (cellsV_at 2 _ 0 (by omega))
              have hf0 := frozen_of_row wr (w.heap.size + 1 + 1) 1 _ _ h2
              clear hg h2
              go_wp2_with fail
              refine ⟨⟨1, by omega, rfl, grown_set G.out _ _, ?_⟩, by simp [intOf]⟩
              have q := M2.out.set 0 (by omega) (tr mulC qp s 1 (cut true (2 ^ 1) z 0) 0)
              have q2 := lMix_step (lin mulC qp s 1 true z) true 1 0 0 (by omega) (by omega) (by omega)
              rw [lin_pos _ _ _ _ _ _ _ _ (by omega) (by omega) (by omega)] at q2
              rw [← q2]; exact q
            · have G := Lib.hid hg
              have M2 := Lib.hid h2
              have hcr : wr.cell? ⟨b1, o1 + 1, none⟩ = some (cv (tr mulC qp s 1 (cut true (2 ^ 1) z 0) 1)) := hg.cell (K1.out 1 (by decide)) (by have := KN.out; simp; omega)
              have hc0 := cell_of_heap h2 (cellsV_at 2 _ 2 (by omega))
              have hf0 := frozen_of_row wr (w.heap.size + 1 + 1) 3 _ _ h2
              clear hg h2
              go_wp2_with fail
              refine ⟨⟨2, by omega, rfl, grown_set G.out _ _, ?_⟩, by simp [intOf]⟩
              have q := M2.out.set 2 (by omega) (tr mulC qp s 1 (cut true (2 ^ 1) z 0) 1)
              have q2 := lMix_step (lin mulC qp s 1 true z) true 1 0 1 (by omega) (by omega) (by omega)
              rw [lin_pos _ _ _ _ _ _ _ _ (by omega) (by omega) (by omega)] at q2
              rw [← q2]; exact q
            · have G := Lib.hid hg
              have M2 := Lib.hid h2
              clear hg h2
              go_wp2_with fail
              have k3 := grown_below G.out (B := w.heap.size) (by intro k hk; cases hk; omega) (by have := HB.out.size; have := K2.out.size; omega)
              have k1 := lt_of_block (below_heap' K2.out H0.out)
              have k2 := lt_of_block (below_heap' K2.out H1.out)
              refine ⟨⟨1, by omega, rfl, (HB.out.trans (K2.out.mono HB.out.size)).trans k3, ?_, ?_, ?_⟩, by simp [intOf]⟩
              · exact (G.out.block _ k1 (by intro e; injection e; omega)).trans (below_heap' K2.out H0.out)
              · exact (G.out.block _ k2 (by intro e; injection e; omega)).trans (below_heap' K2.out H1.out)
              · rw [← lMix_line _ _ _ _ (by omega)]; exact M2.out
    · replace hca : _ = Value.int .i64 1 := hca
      subst hca
      obtain ⟨wo, rfl⟩ : ∃ x, x = wr := ⟨_, rfl⟩
      have HB := Lib.hid hb
      have H0 := Lib.hid h0
      have H1 := Lib.hid h1
      have H2 := Lib.hid h2
      have HS : Hid (w.heap.size + 1 + 1 < wo.heap.size) := Lib.hid (lt_of_block h2)
      clear hb h0 h1 h2
      go_wp2_with fail
      go_loopw [25, 10] (fun c v wr => ∃ j : Nat, j ≤ 2 ∧ c = .int .i64 j ∧ Below wo.heap.size wo wr ∧ wr.ownsRow wo.heap.size 28 1 v j (cvs j (cut true (2 ^ 1) z 1))) (fun c _ _ => (2 - intOf c).toNat)
      case atStart => exact ⟨0, by omega, rfl, bal1 _ _, World.ownsRow_made wo #[] 0 (by omega) (by decide) rfl⟩
      case round =>
        obtain ⟨j, hj, rfl, hb, ho⟩ := hrel
        obtain rfl | rfl | rfl : j = 0 ∨ j = 1 ∨ j = 2 := by omega
        · have KB := Lib.hid hb
          have KO := Lib.hid ho
          have hc0 : wr.cell? ⟨w.heap.size, 2, none⟩ = some (cv (z 1)) := cell_of_heap (below_heap' hb H0.out) (cellsV_at 2 z 1 (by omega))
          clear hb ho
          go_wp2_with (at_builtin; refine wpList_app1 _ rfl (.tmp 29) (.tmp 38) 50 rfl wo.heap.size 28 i0 (cv (0, 0)) 8 Tryz.underlying50 hi hz0 hz1 hz2 rfl _ _ _ rfl (KO.out.alloc _) ⟨wr.heap.size, 0, none⟩ 1 (cv (z 1)) rfl (by simp) rfl (by omega) (by omega) (by have := KB.out.size; simp; omega) ?_; intro v' w1 q1 q2 _; have T : Hid (w1.ownsRow wo.heap.size 28 1 v' 1 (cvs 1 (cut true (2 ^ 1) z 1))) := Lib.hid (by rw [← cvs_succ]; exact q1); have KB1 := Lib.hid (KB.out.trans (((bal1 wr _).mono KB.out.size).trans (grown_below q2 (own_lt KO.out) (by have := KB.out.size; simp; omega)))); clear q1 q2)
          exact ⟨⟨1, by omega, rfl, KB1.out, T.out⟩, by simp [intOf]⟩
        · have KB := Lib.hid hb
          have KO := Lib.hid ho
          have hc0 : wr.cell? ⟨w.heap.size, 4, none⟩ = some (cv (z 3)) := cell_of_heap (below_heap' hb H0.out) (cellsV_at 2 z 3 (by omega))
          clear hb ho
          go_wp2_with (at_builtin; refine wpList_app1 _ rfl (.tmp 29) (.tmp 38) 50 rfl wo.heap.size 28 i0 (cv (0, 0)) 8 Tryz.underlying50 hi hz0 hz1 hz2 rfl _ _ _ rfl (KO.out.alloc _) ⟨wr.heap.size, 0, none⟩ 1 (cv (z 3)) rfl (by simp) rfl (by omega) (by omega) (by have := KB.out.size; simp; omega) ?_; intro v' w1 q1 q2 _; have T : Hid (w1.ownsRow wo.heap.size 28 1 v' 2 (cvs 2 (cut true (2 ^ 1) z 1))) := Lib.hid (by rw [← cvs_succ]; exact q1); have KB1 := Lib.hid (KB.out.trans (((bal1 wr _).mono KB.out.size).trans (grown_below q2 (own_lt KO.out) (by have := KB.out.size; simp; omega)))); clear q1 q2)
          exact ⟨⟨2, by omega, rfl, KB1.out, T.out⟩, by simp [intOf]⟩
        · have KB := Lib.hid hb
          have RE : Hid (Row wr 0 _ (2 ^ 1) (cut true (2 ^ 1) z 1)) := Lib.hid ((Row.of_own ho (by omega)).weak (Nat.zero_le _))
          clear hb ho
          go_wp2_with (first
          | (go_at_call 117
             ((with_reducible refine (TrC.get (transform_c 1 (by omega)) s hs _ (HZ.out 1 (by omega)) _ _ RE.out).mono ?_))
             rintro e w1 ⟨⟨v1, rfl, b1, o1, c1, rfl, hB1, hm1, hc1⟩, hb1⟩
             have K1 := Lib.hid hc1
             have K2 : Hid (Below wo.heap.size wo w1) := Lib.hid (KB.out.trans (hb1.mono KB.out.size))
             have KN : Hid (w.heap.size + 1 + 1 < b1) := Lib.hid (by have := HS.out; have := KB.out.size; omega)
             clear hc1 hb1 hB1 hm1))
          go_loopw [56] (fun c wr => ∃ j : Nat, j ≤ 2 ∧ c = .int .i64 j ∧ w1.grownBy wr (some (w.heap.size + 1 + 1)) ∧ Wv wr (w.heap.size + 1 + 1) 2 (lMix (lin mulC qp s 1 true z) true (2 ^ 1) 1 j)) (fun c _ => (2 - intOf c).toNat)
          case atStart => exact ⟨0, by omega, rfl, grown_refl _ _, below_heap' K2.out H2.out⟩
          case round =>
            obtain ⟨j, hj, rfl, hg, h2⟩ := hrel
            obtain rfl | rfl | rfl : j = 0 ∨ j = 1 ∨ j = 2 := by omega
            · have G := Lib.hid hg
              have M2 := Lib.hid h2
              have hcr : wr.cell? ⟨b1, o1, none⟩ = some (cv (tr mulC qp s 1 (cut true (2 ^ 1) z 1) 0)) := hg.cell (K1.out 0 (by decide)) (by have := KN.out; simp; omega)
              have hc0 := cell_of_heap h2 (cellsV_at 2 _ 1 (by omega))
              have hf0 := frozen_of_row wr (w.heap.size + 1 + 1) 2 _ _ h2
              clear hg h2
              go_wp2_with fail
              refine ⟨⟨1, by omega, rfl, grown_set G.out _ _, ?_⟩, by simp [intOf]⟩
              have q := M2.out.set 1 (by omega) (tr mulC qp s 1 (cut true (2 ^ 1) z 1) 0)
              have q2 := lMix_step (lin mulC qp s 1 true z) true 1 1 0 (by omega) (by omega) (by omega)
              rw [lin_pos _ _ _ _ _ _ _ _ (by omega) (by omega) (by omega)] at q2
              rw [← q2]; exact q
            · have G := Lib.hid hg
              have M2 := Lib.hid h2
              have hcr : wr.cell? ⟨b1, o1 + 1, none⟩ = some (cv (tr mulC qp s 1 (cut true (2 ^ 1) z 1) 1)) := hg.cell (K1.out 1 (by decide)) (by have := KN.out; simp; omega)
              have hc0 := cell_of_heap h2 (cellsV_at 2 _ 3 (by omega))
              have hf0 := frozen_of_row wr (w.heap.size + 1 + 1) 4 _ _ h2
              clear hg h2
              go_wp2_with fail
              refine ⟨⟨2, by omega, rfl, grown_set G.out _ _, ?_⟩, by simp [intOf]⟩
              have q := M2.out.set 3 (by omega) (tr mulC qp s 1 (cut true (2 ^ 1) z 1) 1)
              have q2 := lMix_step (lin mulC qp s 1 true z) true 1 1 1 (by omega) (by omega) (by omega)
              rw [lin_pos _ _ _ _ _ _ _ _ (by omega) (by omega) (by omega)] at q2
              rw [← q2]; exact q
            · have G := Lib.hid hg
              have M2 := Lib.hid h2
              clear hg h2
              go_wp2_with fail
              have k3 := grown_below G.out (B := w.heap.size) (by intro k hk; cases hk; omega) (by have := HB.out.size; have := K2.out.size; omega)
              have k1 := lt_of_block (below_heap' K2.out H0.out)
              have k2 := lt_of_block (below_heap' K2.out H1.out)
              refine ⟨⟨2, by omega, rfl, (HB.out.trans (K2.out.mono HB.out.size)).trans k3, ?_, ?_, ?_⟩, by simp [intOf]⟩
              · exact (G.out.block _ k1 (by intro e; injection e; omega)).trans (below_heap' K2.out H0.out)
              · exact (G.out.block _ k2 (by intro e; injection e; omega)).trans (below_heap' K2.out H1.out)
              · rw [← lMix_line _ _ _ _ (by omega)]; exact M2.out
    · go_wp2_with (first
        | (refine ld31 rfl _ rfl (w.heap.size + 1 + 1) rfl h2 ?_)
        | (refine st31 rfl _ _ rfl (w.heap.size + 1) rfl rfl h1 ?_))
      rw [← lMix_all (lin mulC qp s 1 true z) true 1 (by omega)]
      exact bodyPost_ret (v := .agg (cellsV 2 _)) (results_cell_row rfl _ _ (w.heap.size + 1) 31 _ (0, 0) _ rfl (heap_setRow_same h1) Tryz.underlying31 rfl (size31c _ _)) rfl ⟨rfl, below_setRow hb (by omega) _⟩

end Go.Proofs.YtdpdjcehobjohaaGreatDoor
