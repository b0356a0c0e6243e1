/- Sums by codes of small whole numbers, exactly. Plain lemmas. -/
import Derived.Test.YtdpdjcehobjohaaGreatDoorPk
namespace Go.Proofs.YtdpdjcehobjohaaGreatDoor
open Go Go.RowKit Go.BigFrame Fl Ieee

def stageI (h : Nat) (P : Nat → Int) : Nat → Int := fun p => if p / h % 2 = 0 then P p + P (p + h) else P (p - h) - P p
def wtI : Nat → (Nat → Int) → Nat → Int
  | 0, f => f
  | k + 1, f => stageI (2 ^ k) (wtI k f)
def RepS (s : Nat) (f : Nat → Nat) (p : Nat → Int) (n : Nat) : Prop := ∀ i, i < n → Rep single s (f i) (p i)
def BdS (M : Nat) (p : Nat → Int) (n : Nat) : Prop := ∀ i, i < n → (p i).natAbs ≤ M

theorem stage_lt (t : Nat) (ht : t = 0 ∨ t = 2 ∨ t = 4) (k : Nat) (hk : k < t) (j : Nat) (hj : j < 2 ^ t) : (j / 2 ^ k % 2 = 0 → j + 2 ^ k < 2 ^ t) := by
  rcases ht with rfl | rfl | rfl
  · omega
  · obtain rfl | rfl : k = 0 ∨ k = 1 := by omega
    all_goals (intro h; omega)
  · obtain rfl | rfl | rfl | rfl : k = 0 ∨ k = 1 ∨ k = 2 ∨ k = 3 := by omega
    all_goals (intro h; omega)
theorem wt_rep (t : Nat) (ht : t = 0 ∨ t = 2 ∨ t = 4) (s M : Nat) (hs : s ≤ 40) (f : Nat → Nat) (p : Nat → Int) (hf : RepS s f p (2 ^ t)) (hp : BdS M p (2 ^ t)) (hM : 2 ^ t * M < 2 ^ 22) :
    ∀ k, k ≤ t → (∀ k', k' < k → ∀ j, j < 2 ^ t → j / 2 ^ k' % 2 = 0 →
      floatBits .add .f32 (wt k' f j) (wt k' f (j + 2 ^ k')) = some (a32 (wt k' f j) (wt k' f (j + 2 ^ k'))) ∧
      floatBits .sub .f32 (wt k' f j) (wt k' f (j + 2 ^ k')) = some (s32 (wt k' f j) (wt k' f (j + 2 ^ k')))) ∧ RepS s (wt k f) (wtI k p) (2 ^ t) ∧ BdS (2 ^ k * M) (wtI k p) (2 ^ t)
  | 0, _ => ⟨fun k' h => by omega, hf, by rw [Nat.pow_zero, Nat.one_mul]; exact hp⟩
  | k + 1, hk => by
    obtain ⟨h1, h2, h3⟩ := wt_rep t ht s M hs f p hf hp hM k (by omega)
    have hpow : 2 ^ (k + 1) = 2 * 2 ^ k := by rw [Nat.pow_succ]; omega
    have hle : 2 ^ (k + 1) * M ≤ 2 ^ t * M := Nat.mul_le_mul_right _ (Nat.pow_le_pow_right (by omega) hk)
    have hb : 2 * (2 ^ k * M) < 2 ^ 22 := by rw [hpow, Nat.mul_assoc] at hle; omega
    have P : ∀ j, j < 2 ^ t → j / 2 ^ k % 2 = 0 → _ ∧ _ := fun j hj hbit =>
      have hj2 := stage_lt t ht k (by omega) j hj hbit
      ⟨a32_ok (by omega : s ≤ 100) (h2 j hj) (h2 _ hj2) (by have := h3 j hj; have := h3 _ hj2; omega), s32_ok (by omega : s ≤ 100) (h2 j hj) (h2 _ hj2) (by have := h3 j hj; have := h3 _ hj2; omega)⟩
    have hlow : ∀ j, j < 2 ^ t → ¬ j / 2 ^ k % 2 = 0 → (j - 2 ^ k) / 2 ^ k % 2 = 0 ∧ j - 2 ^ k + 2 ^ k = j := by
      intro j hj hbit
      rcases ht with rfl | rfl | rfl
      · omega
      · obtain rfl | rfl : k = 0 ∨ k = 1 := by omega
        all_goals omega
      · obtain rfl | rfl | rfl | rfl : k = 0 ∨ k = 1 ∨ k = 2 ∨ k = 3 := by omega
        all_goals omega
    refine ⟨fun k' hk' => ?_, fun j hj => ?_, fun j hj => ?_⟩
    · by_cases e : k' = k
      · subst e; exact fun j hj hbit => ⟨(P j hj hbit).1.1, (P j hj hbit).2.1⟩
      · exact h1 k' (by omega)
    · rw [wt, wtI]; unfold stage stageI
      by_cases hbit : j / 2 ^ k % 2 = 0
      · rw [if_pos hbit, if_pos hbit]; exact (P j hj hbit).1.2
      · rw [if_neg hbit, if_neg hbit]
        have e := hlow j hj hbit
        have := (P (j - 2 ^ k) (by omega) e.1).2.2
        rw [e.2] at this; exact this
    · rw [wtI, hpow, Nat.mul_assoc]; unfold stageI
      by_cases hbit : j / 2 ^ k % 2 = 0
      · rw [if_pos hbit]
        have a := h3 j hj
        have b := h3 _ (stage_lt t ht k (by omega) j hj hbit)
        omega
      · rw [if_neg hbit]
        have a := h3 j hj
        have b := h3 (j - 2 ^ k) (by omega)
        omega
theorem wt_inv0 (p : Nat → Int) (i : Nat) (_hi : i < 1) : wtI 0 (wtI 0 p) i = 1 * p i := by simp [wtI]
theorem wt_inv2 (p : Nat → Int) (i : Nat) (hi : i < 4) : wtI 2 (wtI 2 p) i = 4 * p i := by
  have : i = 0 ∨ i = 1 ∨ i = 2 ∨ i = 3 := by omega
  rcases this with rfl | rfl | rfl | rfl <;> simp [wtI, stageI] <;> omega
set_option maxHeartbeats 4000000 in
theorem wt_inv4 (p : Nat → Int) (i : Nat) (hi : i < 16) : wtI 4 (wtI 4 p) i = 16 * p i := by
  have : i = 0 ∨ i = 1 ∨ i = 2 ∨ i = 3 ∨ i = 4 ∨ i = 5 ∨ i = 6 ∨ i = 7 ∨ i = 8 ∨ i = 9 ∨ i = 10 ∨ i = 11 ∨ i = 12 ∨ i = 13 ∨ i = 14 ∨ i = 15 := by omega
  rcases this with rfl | rfl | rfl | rfl | rfl | rfl | rfl | rfl | rfl | rfl | rfl | rfl | rfl | rfl | rfl | rfl <;> simp [wtI, stageI] <;> omega
end Go.Proofs.YtdpdjcehobjohaaGreatDoor
