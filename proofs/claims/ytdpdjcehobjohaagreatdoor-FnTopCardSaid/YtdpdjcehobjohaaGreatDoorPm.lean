/- The public transforms, back transforms, flips and travels of waves of small Gaussian numbers: what they return, exactly. -/
import Derived.Test.YtdpdjcehobjohaaGreatDoorPl
namespace Go.Proofs.YtdpdjcehobjohaaGreatDoor
open Go Go.RowKit Go.BigFrame Fl Ieee

theorem sd3 (d : Nat) (hd : d ≤ 2) : sd d = 1 ∨ sd d = 2 ∨ sd d = 4 := by
  obtain rfl | rfl | rfl : d = 0 ∨ d = 1 ∨ d = 2 := by omega
  · exact .inl rfl
  · exact .inr (.inl rfl)
  · exact .inr (.inr rfl)
theorem nn_eq (d : Nat) : sd d * sd d = ((nn d : Nat) : Int) := by unfold sd nn; rw [Int.natCast_mul]
theorem nn_toNat (d : Nat) : (sd d * sd d).toNat = nn d := by rw [nn_eq]; rfl
theorem nn_le (d : Nat) (hd : d ≤ 2) : nn d ≤ 16 ∧ 1 ≤ nn d := by
  obtain rfl | rfl | rfl : d = 0 ∨ d = 1 ∨ d = 2 := by omega
  all_goals decide
theorem fine_of (d : Nat) (s : Nat) (hs : s ≤ 100) (z : Nat → CB) (p : Nat → GI) (h : RepF s z p (nn d)) : Fine (sd d) (part z (nn d)) := by
  constructor
  · intro i _
    unfold part
    by_cases hi : i < nn d
    · rw [if_pos hi]; exact ⟨fin_ok hs (h i hi).1, fin_ok hs (h i hi).2⟩
    · rw [if_neg hi]; exact ⟨fin_zero, fin_zero⟩
  · intro i _ hn
    rw [nn_eq] at hn
    have hi : ¬ i < nn d := by omega
    unfold part; rw [if_neg hi]
    exact ⟨by rfl, by rfl⟩
theorem plC_part (z : Nat → CB) (m : Nat) : (fun i => plC (part z m i)) = part (fun i => plC (z i)) m := by
  funext i; unfold part
  by_cases hi : i < m
  · rw [if_pos hi, if_pos hi]
  · rw [if_neg hi, if_neg hi]; exact plC_zero
theorem part_part (z : Nat → CB) (m : Nat) : part (part z m) m = part z m := by
  funext i; unfold part; by_cases hi : i < m <;> simp [hi]
theorem RepF.unpart {s n : Nat} {z : Nat → CB} {p : Nat → GI} (h : RepF s (Go.Proofs.YtdpdjcehobjohaaGreatDoor.part z n) p n) : RepF s z p n := by
  intro i hi; have := h i hi; unfold Go.Proofs.YtdpdjcehobjohaaGreatDoor.part at this; rwa [if_pos hi] at this
theorem plF_rep {s n : Nat} {z : Nat → CB} {p : Nat → GI} (hs : s ≤ 100) (h : RepF s z p n) : RepF s (fun i => plC (z i)) p n := fun i hi => plC_rep hs (h i hi)

theorem allB_read (d : Nat) (hd : d ≤ 2) : single.read (allB d) = .number false (2 ^ 23) (((2 * d : Nat) : Int) - 23) := by
  obtain rfl | rfl | rfl : d = 0 ∨ d = 1 ∨ d = 2 := by omega
  all_goals kernel_rfl
theorem div_rep (d : Nat) (hd : d ≤ 2) (s : Nat) (hs : s ≤ 40) (x : Nat) (m : Int) (hx : Rep single s x m) (hm : m.natAbs < 2 ^ 24) :
    floatBits .quo .f32 x (allB d) = some (q32 x (allB d)) ∧ Rep single (s + 2 * d) (q32 x (allB d)) m :=
  q32_ok (by omega) (hx.finer (2 * d) (by omega)) (allB_read d hd) hm

theorem transformW_r (d : Nat) (hd : d ≤ 2) (s M : Nat) (hs : s ≤ 40) (z : Nat → CB) (p : Nat → GI) (hz : RepF s z p (nn d)) (hp : Bd M p (nn d)) (hM : nn d * M < 2 ^ 22) :
    ∃ y, RepF s y (twoI (-1) d p) (nn d) ∧ Bd (nn d * M) (twoI (-1) d p) (nn d) ∧ ∀ w, Calls Tryz.prog 11 #[.agg (cellsV (sd d) (part z (nn d)))] w fun e w' => e = .returned (.tuple #[.agg (cellsV (sd d) (part y (nn d))), .int .i64 0]) ∧ Below w.heap.size w w' := by
  obtain ⟨h1, h2, h3⟩ := two_rep goodC (-1) d hd (part z (nn d)) p s M hs hz.part hp hM
  refine ⟨fun i => plC (two mulC qp (-1) d (part z (nn d)) i), plF_rep (by omega) h2.unpart, h3, fun w => ?_⟩
  have := transformW_c (sd d) (part z (nn d)) (part (two mulC qp (-1) d (part z (nn d))) (nn d)) w fun w1 =>
    signedTransform_c (sd d) (sd3 d hd) _ _ (fine_of d s (by omega) z p hz) (fine_of d s (by omega) _ _ h2.unpart) w1 fun w2 => forth_c d hd _ h1 w2
  rw [plC_part] at this
  exact this

theorem backC_r (d : Nat) (hd : d ≤ 2) (s M : Nat) (hs : s ≤ 40) (z : Nat → CB) (p : Nat → GI) (hz : RepF s z p (nn d)) (hp : Bd M p (nn d)) (hM : nn d * M < 2 ^ 22) :
    ∃ y, RepF (s + 2 * d) y (twoI 1 d p) (nn d) ∧ Bd (nn d * M) (twoI 1 d p) (nn d) ∧ ∀ w, Calls Tryz.prog 63 #[.agg (cellsV (sd d) (part z (nn d)))] w fun e w' => e = .returned (.agg (cellsV (sd d) (part y (nn d)))) ∧ Below w.heap.size w w' := by
  obtain ⟨h1, h2, h3⟩ := two_rep goodC 1 d hd (part z (nn d)) p s M hs hz.part hp hM
  have Q : ∀ i, i < nn d → _ ∧ _ := fun i hi => ⟨div_rep d hd s hs _ _ (h2 i hi).1 (by have := (h3 i hi).1; omega), div_rep d hd s hs _ _ (h2 i hi).2 (by have := (h3 i hi).2; omega)⟩
  refine ⟨fun i => divC (part (two mulC qp 1 d (part z (nn d))) (nn d) i) (allB d), fun i hi => ⟨(Q i hi).1.2, (Q i hi).2.2⟩, h3, fun w => ?_⟩
  exact back_c d hd (part z (nn d)) h1 (fun i hi => ⟨(Q i hi).1.1, (Q i hi).2.1⟩) w
theorem backW_r (d : Nat) (hd : d ≤ 2) (s M : Nat) (hs : s ≤ 40) (z : Nat → CB) (p : Nat → GI) (hz : RepF s z p (nn d)) (hp : Bd M p (nn d)) (hM : nn d * M < 2 ^ 22) :
    ∃ y, RepF (s + 2 * d) y (twoI 1 d p) (nn d) ∧ Bd (nn d * M) (twoI 1 d p) (nn d) ∧ ∀ w, Calls Tryz.prog 13 #[.agg (cellsV (sd d) (part z (nn d)))] w fun e w' => e = .returned (.tuple #[.agg (cellsV (sd d) (part y (nn d))), .int .i64 0]) ∧ Below w.heap.size w w' := by
  obtain ⟨y, h1, h2, h3⟩ := backC_r d hd s M hs z p hz hp hM
  refine ⟨fun i => plC (y i), plF_rep (by omega) h1, h2, fun w => ?_⟩
  have := backW_c (sd d) (part z (nn d)) (part y (nn d)) w fun w1 =>
    signedBack_c (sd d) (sd3 d hd) _ _ (fine_of d s (by omega) z p hz) (fine_of d (s + 2 * d) (by omega) y _ h1) w1 h3
  rw [plC_part] at this
  exact this
theorem flip_lt (d : Nat) (hd : d ≤ 2) (i : Nat) (hi : i < nn d) : flipAt (sd d) i < nn d := by
  obtain rfl | rfl | rfl : d = 0 ∨ d = 1 ∨ d = 2 := by omega
  · have : i = 0 := by have : nn 0 = 1 := rfl
                       omega
    subst this; decide
  · have : i = 0 ∨ i = 1 ∨ i = 2 ∨ i = 3 := by have : nn 1 = 4 := rfl
                                               omega
    rcases this with rfl | rfl | rfl | rfl <;> decide
  · have : i = 0 ∨ i = 1 ∨ i = 2 ∨ i = 3 ∨ i = 4 ∨ i = 5 ∨ i = 6 ∨ i = 7 ∨ i = 8 ∨ i = 9 ∨ i = 10 ∨ i = 11 ∨ i = 12 ∨ i = 13 ∨ i = 14 ∨ i = 15 := by
      have : nn 2 = 16 := rfl
      omega
    rcases this with rfl | rfl | rfl | rfl | rfl | rfl | rfl | rfl | rfl | rfl | rfl | rfl | rfl | rfl | rfl | rfl <;> decide
theorem flipW_r (d : Nat) (hd : d ≤ 2) (s : Nat) (hs : s ≤ 40) (z : Nat → CB) (p : Nat → GI) (hz : RepF s z p (nn d)) :
    ∃ y, RepF s y (fun i => p (flipAt (sd d) i)) (nn d) ∧ ∀ w, Calls Tryz.prog 16 #[.agg (cellsV (sd d) (part z (nn d)))] w fun e w' => e = .returned (.tuple #[.agg (cellsV (sd d) (part y (nn d))), .int .i64 0]) ∧ Below w.heap.size w w' := by
  have h1 : RepF s (fun i => part z (nn d) (flipAt (sd d) i)) (fun i => p (flipAt (sd d) i)) (nn d) := fun i hi => hz.part _ (flip_lt d hd i hi)
  refine ⟨fun i => plC (part z (nn d) (flipAt (sd d) i)), plF_rep (by omega) h1, fun w => ?_⟩
  have F := fun w2 => flip_c (sd d) (sd3 d hd) (part z (nn d)) w2
  rw [nn_toNat] at F
  have := flipW_c (sd d) (part z (nn d)) (part (fun i => part z (nn d) (flipAt (sd d) i)) (nn d)) w fun w1 =>
    signedFlip_c (sd d) (sd3 d hd) _ _ (fine_of d s (by omega) z p hz) (fine_of d s (by omega) _ _ h1) w1 F
  rw [plC_part] at this
  exact this
theorem trQ4 (n q : Int) (i : Nat) : trQ n q i < 4 := trQ_lt n q i
theorem travel1_r (d : Nat) (hd : d ≤ 2) (q : Int) (hq : -4 ≤ q ∧ q ≤ 4) (s M : Nat) (hs : s ≤ 20) (z : Nat → CB) (p : Nat → GI) (hz : RepF s z p (nn d)) (hp : Bd M p (nn d)) (hM : nn d * (nn d * M) < 2 ^ 22) :
    ∃ y, RepF (s + 2 * d) y (twoI 1 d (fun i => rot (trQ (sd d) q i) (twoI (-1) d p i))) (nn d) ∧ Bd (nn d * (nn d * M)) (twoI 1 d (fun i => rot (trQ (sd d) q i) (twoI (-1) d p i))) (nn d) ∧
      ∀ w, Calls Tryz.prog 123 #[.agg (cellsV (sd d) (part z (nn d))), .int .i64 (16 * q)] w fun e w' => e = .returned (.agg (cellsV (sd d) (part y (nn d)))) ∧ Below w.heap.size w w' := by
  have hle : nn d * M ≤ nn d * (nn d * M) := Nat.le_mul_of_pos_left _ (by have := nn_le d hd; omega)
  obtain ⟨h1, h2, h3⟩ := two_rep goodC (-1) d hd (part z (nn d)) p s M (by omega) hz.part hp (by omega)
  have P : ∀ i, i < nn d → _ := fun i hi => mulC_ok (by omega : s + 0 ≤ 50) (h2 i hi) (qp_rep (trQ (sd d) q i) (trQ_lt _ _ _)) (h3 i hi) (uI_bd _) (by omega) (by omega) (by omega)
  have E : ∀ (q : Nat) (v : GI), q < 4 → (v.1 * (uI q).1 - v.2 * (uI q).2, v.1 * (uI q).2 + v.2 * (uI q).1) = rot q v := by
    intro q v hq
    rw [← rot_eq q hq]
    apply Prod.ext
    · simp only; rw [Int.mul_comm v.1, Int.mul_comm v.2]
    · simp only; rw [Int.mul_comm v.1, Int.mul_comm v.2, Int.add_comm]
  have h4 : RepF s (fun i => mulC (part (two mulC qp (-1) d (part z (nn d))) (nn d) i) (part (fun i => qp (trQ (sd d) q i)) (nn d) i)) (fun i => rot (trQ (sd d) q i) (twoI (-1) d p i)) (nn d) := by
    intro i hi
    have := (P i hi).2
    rw [E _ _ (trQ_lt _ _ _)] at this
    have e : part (fun i => qp (trQ (sd d) q i)) (nn d) i = qp (trQ (sd d) q i) := by unfold part; rw [if_pos hi]
    show RepC s (mulC (part (two mulC qp (-1) d (part z (nn d))) (nn d) i) (part (fun i => qp (trQ (sd d) q i)) (nn d) i)) _
    rw [e]; exact this
  obtain ⟨y, k1, k2, k3⟩ := backC_r d hd s (nn d * M) (by omega) _ _ h4 (fun i hi => rot_bd _ _ _ (h3 i hi)) hM
  refine ⟨y, k1, k2, fun w => ?_⟩
  refine travel_c (sd d) (sd3 d hd) q hq (part z (nn d)) (part (two mulC qp (-1) d (part z (nn d))) (nn d)) (part y (nn d)) w (fun w1 => forth_c d hd _ h1 w1) ?_ ?_
  · intro i hi
    rw [nn_eq] at hi
    have hi' : i < nn d := by omega
    rw [nn_toNat]
    have e : part (fun i => qp (trQ (sd d) q i)) (nn d) i = qp (trQ (sd d) q i) := by unfold part; rw [if_pos hi']
    rw [e]; exact (P i hi').1
  · intro w1
    rw [nn_toNat]
    exact k3 w1
theorem travelW_r (d : Nat) (hd : d ≤ 2) (q : Int) (hq : -4 ≤ q ∧ q ≤ 4) (s M : Nat) (hs : s ≤ 20) (z : Nat → CB) (p : Nat → GI) (hz : RepF s z p (nn d)) (hp : Bd M p (nn d)) (hM : nn d * (nn d * M) < 2 ^ 22) :
    ∃ y, RepF (s + 2 * d) y (twoI 1 d (fun i => rot (trQ (sd d) q i) (twoI (-1) d p i))) (nn d) ∧ Bd (nn d * (nn d * M)) (twoI 1 d (fun i => rot (trQ (sd d) q i) (twoI (-1) d p i))) (nn d) ∧
      ∀ w, Calls Tryz.prog 15 #[.agg (cellsV (sd d) (part z (nn d))), .int .i64 (16 * q)] w fun e w' => e = .returned (.tuple #[.agg (cellsV (sd d) (part y (nn d))), .int .i64 0]) ∧ Below w.heap.size w w' := by
  obtain ⟨y, k1, k2, k3⟩ := travel1_r d hd q hq s M hs z p hz hp hM
  refine ⟨fun i => plC (plC (y i)), plF_rep (by omega) (plF_rep (by omega) k1), k2, fun w => ?_⟩
  have := travelW_c (sd d) (part z (nn d)) (part (fun i => plC (y i)) (nn d)) (16 * q) w fun w1 =>
    signedTravel_c (sd d) _ _ (16 * q) w1 fun w2 => by
      have h := travelSteps_c (sd d) (part z (nn d)) (part y (nn d)) (16 * q) 1 w2 fun w3 =>
        travelSteps1_c (sd d) (sd3 d hd) q hq _ _ (fine_of d s (by omega) z p hz) (fine_of d (s + 2 * d) (by omega) y _ k1) w3 k3
      rw [plC_part] at h
      exact h
  rw [plC_part] at this
  exact this
end Go.Proofs.YtdpdjcehobjohaaGreatDoor
