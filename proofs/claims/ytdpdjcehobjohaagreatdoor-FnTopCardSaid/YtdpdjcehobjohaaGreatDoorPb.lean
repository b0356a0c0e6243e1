/- The facts of one wave, in the form in which the walk of FnTop takes them. -/
import Derived.Test.YtdpdjcehobjohaaGreatDoorPa
namespace Go.Proofs.YtdpdjcehobjohaaGreatDoor
open Go Go.RowKit Go.BigFrame Fl Ieee

abbrev WC (fn : FuncId) (n : Int) (m : Nat) (z y : Nat → CB) : Prop :=
  ∀ w, Calls Tryz.prog fn #[.agg (cellsV n (part z m))] w fun e w' => e = .returned (.tuple #[.agg (cellsV n (part y m)), .int .i64 0]) ∧ Below w.heap.size w w'
abbrev TC (n : Int) (m : Nat) (t : Int) (z y : Nat → CB) : Prop :=
  ∀ w, Calls Tryz.prog 15 #[.agg (cellsV n (part z m)), .int .i64 t] w fun e w' => e = .returned (.tuple #[.agg (cellsV n (part y m)), .int .i64 0]) ∧ Below w.heap.size w w'
theorem zf_rep (m : Nat) (A B : Nat → Int) (h : Small m A B) : RepF 0 (zfC A B) (fun i => (A i, B i)) m := fun i hi => ⟨rep_fb _ (h i hi).1, rep_fb _ (h i hi).2⟩
theorem zf_bd (m : Nat) (A B : Nat → Int) (h : Small m A B) : Bd 4 (fun i => (A i, B i)) m := fun i hi => by
  have := h i hi
  simp only; omega
theorem allB_rep (d : Nat) (hd : d ≤ 2) : Rep single 0 (allB d) (nn d : Nat) := by
  obtain rfl | rfl | rfl : d = 0 ∨ d = 1 ∨ d = 2 := by omega
  · exact rep_p1
  · exact rep_fb 4 (by omega)
  · exact rep_mk (j := 19) (neg := false) (mag := 8388608) (place := -19) (by kernel_rfl) rfl (by omega) (by decide)

theorem packW (d : Nat) (hd : d ≤ 2) (A B : Nat → Int) (hs : Small (nn d) A B) :
    ∃ y1 y2 y3 y6 y7, WC 11 (sd d) (nn d) (zfC A B) y1 ∧ WC 12 (sd d) (nn d) (zfC A B) y2 ∧ WC 13 (sd d) (nn d) y1 y3 ∧ WC 11 (sd d) (nn d) y1 y6 ∧ WC 16 (sd d) (nn d) (zfC A B) y7 ∧
      CEq (part y1 (nn d)) (part y2 (nn d)) ∧ CEq (part y3 (nn d)) (part (zfC A B) (nn d)) ∧
      ∀ i, i < nn d → (floatBits .mul .f32 (part y7 (nn d) i).1 (allB d) = some (m32 (part y7 (nn d) i).1 (allB d)) ∧ floatBits .mul .f32 (part y7 (nn d) i).2 (allB d) = some (m32 (part y7 (nn d) i).2 (allB d))) ∧
        single.order (part y6 (nn d) i).1 (m32 (part y7 (nn d) i).1 (allB d)) = some .eq ∧ single.order (part y6 (nn d) i).2 (m32 (part y7 (nn d) i).2 (allB d)) = some .eq := by
  have hnn := nn_le d hd
  have hz := zf_rep _ A B hs
  have hb := zf_bd _ A B hs
  have hb1 : nn d * 4 ≤ 64 := by omega
  have hb2 : nn d * (nn d * 4) ≤ 1024 := Nat.le_trans (Nat.mul_le_mul hnn.1 hb1) (by omega)
  obtain ⟨y1, a1, a2, a3⟩ := transformW_r d hd 0 4 (by omega) _ _ hz hb (by omega)
  obtain ⟨y2, b1, b2⟩ := sTransformW_r d hd 0 4 (by omega) _ _ hz hb (by omega)
  obtain ⟨y3, c1, c2, c3⟩ := backW_r d hd 0 (nn d * 4) (by omega) _ _ a1 a2 (by omega)
  obtain ⟨y6, e1, e2, e3⟩ := transformW_r d hd 0 (nn d * 4) (by omega) _ _ a1 a2 (by omega)
  obtain ⟨y7, f1, f2⟩ := flipW_r d hd 0 (by omega) _ _ hz
  refine ⟨y1, y2, y3, y6, y7, a3, b2, c3, e3, f2, ceq_of _ 0 _ _ _ a1 b1, ?_, ?_⟩
  · refine ceq_of _ (0 + 2 * d) _ _ _ (repF_congr c1 fun i hi => ?_) (repF_finer d hd (by omega) hz)
    exact two_inv 1 (.inl rfl) d hd _ i hi
  · intro i hi
    have g1 := f1.part i hi
    have g2 := e1.part i hi
    rw [two_sq d hd _ i hi] at g2
    have hl := hs _ (flip_lt d hd i hi)
    have k1 := m32_ok (by omega : 0 + 0 ≤ 100) g1.1 (allB_rep d hd) (by simp only; rw [Int.natAbs_mul]; have : (A (flipAt (sd d) i)).natAbs * (nn d : Int).natAbs ≤ 4 * 16 := Nat.mul_le_mul (by omega) (by omega); omega)
    have k2 := m32_ok (by omega : 0 + 0 ≤ 100) g1.2 (allB_rep d hd) (by simp only; rw [Int.natAbs_mul]; have : (B (flipAt (sd d) i)).natAbs * (nn d : Int).natAbs ≤ 4 * 16 := Nat.mul_le_mul (by omega) (by omega); omega)
    have r1 := k1.2
    have r2 := k2.2
    rw [Int.mul_comm] at r1 r2
    exact ⟨⟨k1.1, k2.1⟩, order_of g2.1 r1, order_of g2.2 r2⟩
theorem packT (d : Nat) (hd : d ≤ 2) (A B : Nat → Int) (hs : Small (nn d) A B) (q : Int) (hq : -4 ≤ q ∧ q ≤ 4) :
    ∃ y4 y5, TC (sd d) (nn d) (16 * q) (zfC A B) y4 ∧ TC (sd d) (nn d) (-(16 * q)) y4 y5 ∧ CEq (part y5 (nn d)) (part (zfC A B) (nn d)) := by
  have hnn := nn_le d hd
  have hz := zf_rep _ A B hs
  have hb := zf_bd _ A B hs
  have hb1 : nn d * 4 ≤ 64 := by omega
  have hb2 : nn d * (nn d * 4) ≤ 1024 := Nat.le_trans (Nat.mul_le_mul hnn.1 hb1) (by omega)
  have hb3 : nn d * (nn d * (nn d * 4)) ≤ 16 * 1024 := Nat.mul_le_mul hnn.1 hb2
  have hb4 : nn d * (nn d * (nn d * (nn d * 4))) ≤ 16 * (16 * 1024) := Nat.mul_le_mul hnn.1 hb3
  obtain ⟨y4, a1, a2, a3⟩ := travelW_r d hd q hq 0 4 (by omega) _ _ hz hb (by omega)
  obtain ⟨y5, b1, b2, b3⟩ := travelW_r d hd (-q) (by omega) (0 + 2 * d) _ (by omega) _ _ a1 a2 (by omega)
  refine ⟨y4, y5, a3, fun w => ?_, ?_⟩
  · have := b3 w
    rw [Int.mul_neg] at this
    exact this
  · refine ceq_of _ (0 + 2 * d + 2 * d) _ _ _ (repF_congr b1 fun i hi => ?_) (repF_finer d hd (by omega) (repF_finer d hd (by omega) hz))
    exact travel_home d hd q _ i hi

abbrev LC (fn : FuncId) (m : Nat) (f g : Nat → Nat) : Prop :=
  ∀ (v : Value) (w : World), RowF w 0 v m f → Calls Tryz.prog fn #[v] w fun e w' => (∃ v', e = .returned (.tuple #[v', .int .i64 0]) ∧ w'.ownsRow w.heap.size 40 1 v' m (fvs m g)) ∧ Below w.heap.size w w'
theorem packS (d : Nat) (hd : d ≤ 2) (A : Nat → Int) (hs : ∀ i, i < nn d → -4 ≤ A i ∧ A i ≤ 4) :
    ∃ g1 g2, LC 17 (nn d) (fun i => fbB (A i)) g1 ∧ LC 18 (nn d) g1 g2 ∧ ∀ i, i < nn d → single.order (g2 i) (fbB (A i)) = some .eq := by
  have key : ∀ (t : Nat) (ht : t = 0 ∨ t = 2 ∨ t = 4) (htd : t = 2 * d) (hn : nn d = 2 ^ t) (hinv : ∀ (p : Nat → Int) (i : Nat), i < 2 ^ t → wtI t (wtI t p) i = (2 ^ t : Nat) * p i),
      (SumOk t fun i => fbB (A i)) ∧ (∀ i, i < nn d → FinOk (fbB (A i))) ∧ (∀ i, i < nn d → FinOk (wt t (fun i => fbB (A i)) i)) ∧
      (SumOk t fun i => pz (wt t (fun i => fbB (A i)) i)) ∧ (∀ i, i < nn d → FinOk (pz (wt t (fun i => fbB (A i)) i))) ∧
      (∀ i, i < nn d → floatBits .quo .f32 (wt t (fun i => pz (wt t (fun i => fbB (A i)) i)) i) (allB d) = some (q32 (wt t (fun i => pz (wt t (fun i => fbB (A i)) i)) i) (allB d)) ∧
        FinOk (q32 (wt t (fun i => pz (wt t (fun i => fbB (A i)) i)) i) (allB d)) ∧ single.order (pz (q32 (wt t (fun i => pz (wt t (fun i => fbB (A i)) i)) i) (allB d))) (fbB (A i)) = some .eq) := by
    intro t ht htd hn hinv
    have hr : RepS 0 (fun i => fbB (A i)) A (2 ^ t) := fun i hi => rep_fb _ (hs i (by omega))
    have hb : BdS 4 A (2 ^ t) := fun i hi => by have := hs i (by omega); omega
    have h16 : 2 ^ t ≤ 16 := by rcases ht with rfl | rfl | rfl <;> decide
    obtain ⟨a1, a2, a3⟩ := wt_rep t ht 0 4 (by omega) _ _ hr hb (by omega) t (Nat.le_refl _)
    have b2 : RepS 0 (fun i => pz (wt t (fun i => fbB (A i)) i)) (wtI t A) (2 ^ t) := fun i hi => pz_rep (by omega) (a2 i hi)
    have hm : 2 ^ t * (2 ^ t * 4) ≤ 16 * (16 * 4) := Nat.mul_le_mul h16 (by omega)
    obtain ⟨c1, c2, c3⟩ := wt_rep t ht 0 (2 ^ t * 4) (by omega) _ _ b2 a3 (by omega) t (Nat.le_refl _)
    refine ⟨a1, fun i hi => fin_ok (by omega) (hr i (by omega)), fun i hi => fin_ok (by omega) (a2 i (by omega)), c1, fun i hi => fin_ok (by omega) (b2 i (by omega)), fun i hi => ?_⟩
    have q := div_rep d hd 0 (by omega) _ _ (c2 i (by omega)) (by have := c3 i (by omega); omega)
    refine ⟨q.1, fin_ok (by omega) q.2, ?_⟩
    have q2 := q.2
    rw [hinv A i (by omega)] at q2
    have e : (2 ^ t : Nat) * A i = A i * 2 ^ (2 * d) := by
      subst htd; rw [Int.mul_comm, Int.natCast_pow]; rfl
    rw [e] at q2
    exact order_of (pz_rep (by omega) q2) ((rep_fb _ (hs i hi)).finer (2 * d) (by omega))
  obtain rfl | rfl | rfl : d = 0 ∨ d = 1 ∨ d = 2 := by omega
  · obtain ⟨k1, k2, k3, k4, k5, k6⟩ := key 0 (.inl rfl) rfl rfl (fun p i hi => wt_inv0 p i hi)
    exact ⟨_, _, fun v w hv => sumsByCodes1_c v _ k2 k1 k3 w hv, fun v w hv => sumsBackC1_c v _ k5 k4 (fun i hi => (k6 i hi).1) (fun i hi => (k6 i hi).2.1) w hv, fun i hi => (k6 i hi).2.2⟩
  · obtain ⟨k1, k2, k3, k4, k5, k6⟩ := key 2 (.inr (.inl rfl)) rfl rfl (fun p i hi => wt_inv2 p i hi)
    exact ⟨_, _, fun v w hv => sumsByCodes4_c v _ k2 k1 k3 w hv, fun v w hv => sumsBackC4_c v _ k5 k4 (fun i hi => (k6 i hi).1) (fun i hi => (k6 i hi).2.1) w hv, fun i hi => (k6 i hi).2.2⟩
  · obtain ⟨k1, k2, k3, k4, k5, k6⟩ := key 4 (.inr (.inr rfl)) rfl rfl (fun p i hi => wt_inv4 p i hi)
    exact ⟨_, _, fun v w hv => sumsByCodes16_c v _ k2 k1 k3 w hv, fun v w hv => sumsBackC16_c v _ k5 k4 (fun i hi => (k6 i hi).1) (fun i hi => (k6 i hi).2.1) w hv, fun i hi => (k6 i hi).2.2⟩
end Go.Proofs.YtdpdjcehobjohaaGreatDoor
