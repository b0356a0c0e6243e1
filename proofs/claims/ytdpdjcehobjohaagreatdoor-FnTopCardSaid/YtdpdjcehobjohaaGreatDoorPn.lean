/- The reference's transform is the program's; there and back, there twice: identities of Gaussian integers. -/
import Derived.Test.YtdpdjcehobjohaaGreatDoorPm
namespace Go.Proofs.YtdpdjcehobjohaaGreatDoor
open Go Go.RowKit Go.BigFrame Fl Ieee

theorem trI_congr (s : Int) : ∀ (d : Nat) (f g : Nat → GI), (∀ i, i < 2 ^ d → f i = g i) → ∀ i, i < 2 ^ d → trI s d f i = trI s d g i
  | 0, f, g, h, i, hi => h i hi
  | d + 1, f, g, h, i, hi => by
    have hpow : 2 ^ (d + 1) = 2 * 2 ^ d := by rw [Nat.pow_succ]; omega
    have E := trI_congr s d (fun i => f (2 * i)) (fun i => g (2 * i)) (fun i hi => h _ (by omega))
    have O := trI_congr s d (fun i => f (2 * i + 1)) (fun i => g (2 * i + 1)) (fun i hi => h _ (by omega))
    rw [trI, trI]; unfold bflyI
    by_cases hl : i < 2 ^ d
    · rw [if_pos hl, if_pos hl, E i hl, O i hl]
    · rw [if_neg hl, if_neg hl, E (i - 2 ^ d) (by omega), O (i - 2 ^ d) (by omega)]
def turnI (n : Nat) (p : Nat → GI) : Nat → GI := fun i => p (pos true n (i / n) (i % n))
theorem turnI_pos (d : Nat) (hd : d ≤ 2) (p : Nat → GI) (a j : Nat) (ha : a < 2 ^ d) (hj : j < 2 ^ d) : turnI (2 ^ d) p (pos false (2 ^ d) a j) = p (pos true (2 ^ d) a j) := by
  have h2 := li_pos false d a j hd ha hj
  unfold li il at h2
  simp only [Bool.false_eq_true, if_false] at h2
  unfold turnI; rw [h2.1, h2.2]
theorem li_tf (d : Nat) (hd : d ≤ 2) (i : Nat) (hi : i < nn d) : i % 2 ^ d < 2 ^ d ∧ i / 2 ^ d < 2 ^ d := by
  have := il_lt false d i hd hi
  unfold il li at this
  simpa using this
theorem sTwo (s : Int) (d : Nat) (hd : d ≤ 2) (p : Nat → GI) (i : Nat) (hi : i < nn d) : turnI (2 ^ d) (linI s d false (turnI (2 ^ d) (linI s d false p))) i = twoI s d p i := by
  have hb := li_tf d hd i hi
  have e := li_pos false d (i % 2 ^ d) (i / 2 ^ d) hd hb.1 hb.2
  show linI s d false (turnI (2 ^ d) (linI s d false p)) (pos true (2 ^ d) (i / 2 ^ d) (i % 2 ^ d)) = linI s d true (linI s d false p) i
  have ep : pos true (2 ^ d) (i / 2 ^ d) (i % 2 ^ d) = pos false (2 ^ d) (i % 2 ^ d) (i / 2 ^ d) := by unfold pos; simp
  rw [ep]
  show trI s d _ _ = trI s d _ _
  rw [e.1, e.2]
  have e1 : li true (2 ^ d) i = i % 2 ^ d := by unfold li; simp
  have e2 : il true (2 ^ d) i = i / 2 ^ d := by unfold il; simp
  rw [e1, e2]
  exact trI_congr s d _ _ (fun j hj => turnI_pos d hd _ _ j hb.1 hj) _ hb.2

theorem turn_rep (d : Nat) (hd : d ≤ 2) (s : Nat) (z : Nat → CB) (p : Nat → GI) (hz : RepF s z p (nn d)) : RepF s (turn (2 ^ d) z) (turnI (2 ^ d) p) (nn d) := by
  intro i hi
  have hb := li_tf d hd i hi
  exact hz _ (pos_lt true d _ _ hd hb.2 hb.1)
theorem turn_bd (d : Nat) (hd : d ≤ 2) (M : Nat) (p : Nat → GI) (hp : Bd M p (nn d)) : Bd M (turnI (2 ^ d) p) (nn d) := by
  intro i hi
  have hb := li_tf d hd i hi
  exact hp _ (pos_lt true d _ _ hd hb.2 hb.1)
theorem sTransformW_r (d : Nat) (hd : d ≤ 2) (s M : Nat) (hs : s ≤ 40) (z : Nat → CB) (p : Nat → GI) (hz : RepF s z p (nn d)) (hp : Bd M p (nn d)) (hM : nn d * M < 2 ^ 22) :
    ∃ y, RepF s y (twoI (-1) d p) (nn d) ∧ ∀ w, Calls Tryz.prog 12 #[.agg (cellsV (sd d) (part z (nn d)))] w fun e w' => e = .returned (.tuple #[.agg (cellsV (sd d) (part y (nn d))), .int .i64 0]) ∧ Below w.heap.size w w' := by
  have e : 2 ^ d * (2 ^ d * M) = nn d * M := by rw [← Nat.mul_assoc]
  have h1 : 2 ^ d * M ≤ nn d * M := by rw [← e]; exact Nat.le_mul_of_pos_left _ (Nat.pow_pos (by omega))
  obtain ⟨a1, a2, a3⟩ := lin_rep goodS (-1) d hd false (part z (nn d)) p s M hs hz.part hp (by omega)
  have b2 := turn_rep d hd s _ _ a2.part
  have b3 := turn_bd d hd _ _ a3
  obtain ⟨c1, c2, c3⟩ := lin_rep goodS (-1) d hd false _ _ s _ hs b2.part b3 (by rw [e]; exact hM)
  have d2 := turn_rep d hd s _ _ c2.part
  have y2 : RepF s (turn (2 ^ d) (sRows d (sTurn d (sRows d (part z (nn d)))))) (twoI (-1) d p) (nn d) := by
    intro i hi
    rw [← sTwo (-1) d hd p i hi]
    exact d2 i hi
  refine ⟨fun i => plC (turn (2 ^ d) (sRows d (sTurn d (sRows d (part z (nn d))))) i), plF_rep (by omega) y2, fun w => ?_⟩
  have := sTransformW_c (sd d) (part z (nn d)) (sThere d (part z (nn d))) w fun w1 =>
    l02Raw_c (sd d) (sd3 d hd) _ _ (fine_of d s (by omega) z p hz) (fine_of d s (by omega) _ _ y2) w1 fun w2 => l02There_c d hd _ ⟨a1, c1⟩ w2
  unfold sThere at this
  rw [show sTurn d (sRows d (sTurn d (sRows d (part z (nn d))))) = part (turn (2 ^ d) (sRows d (sTurn d (sRows d (part z (nn d)))))) (nn d) from rfl, plC_part] at this
  exact this
end Go.Proofs.YtdpdjcehobjohaaGreatDoor
