/- All that FnTop does with one wave of small whole numbers: what the functions return, and that what is compared is equal. -/
import Derived.Test.YtdpdjcehobjohaaGreatDoorEq
namespace Go.Proofs.YtdpdjcehobjohaaGreatDoor
open Go Go.RowKit Go.BigFrame Fl Ieee

def m32 (x y : Nat) : Nat := (single.mul x y).getD 0
theorem m32_ok {s t x y : Nat} {a b : Int} (hs : s + t ≤ 100) (hx : Rep single s x a) (hy : Rep single t y b) (hm : (a * b).natAbs < 2 ^ 24) :
    floatBits .mul .f32 x y = some (m32 x y) ∧ Rep single (s + t) (m32 x y) (a * b) := by
  obtain ⟨r, h1, h2⟩ := Rep.mul good_single hs hx hy hm
  have e : m32 x y = r := by unfold m32; rw [h1]; rfl
  exact ⟨by rw [e]; exact h1, by rw [e]; exact h2⟩
theorem order_of {s x y : Nat} {a : Int} (hx : Rep single s x a) (hy : Rep single s y a) : single.order x y = some .eq := by
  rw [hx.order hy]; simp
theorem ceq_of (m : Nat) (s : Nat) (z y : Nat → CB) (p : Nat → GI) (hz : RepF s z p m) (hy : RepF s y p m) : CEq (part z m) (part y m) := by
  intro i _
  unfold part
  by_cases hi : i < m
  · rw [if_pos hi, if_pos hi]; exact ⟨order_of (hz i hi).1 (hy i hi).1, order_of (hz i hi).2 (hy i hi).2⟩
  · rw [if_neg hi, if_neg hi]; exact ⟨by rfl, by rfl⟩
theorem repF_congr {s m : Nat} {z : Nat → CB} {p q : Nat → GI} (h : RepF s z p m) (e : ∀ i, i < m → p i = q i) : RepF s z q m := fun i hi => by rw [← e i hi]; exact h i hi
theorem repF_finer {s m : Nat} (d : Nat) (hd : d ≤ 2) (hs : s ≤ 40) {z : Nat → CB} {p : Nat → GI} (h : RepF s z p m) : RepF (s + 2 * d) z (fun i => sc (nn d : Nat) (p i)) m := by
  intro i hi
  have e : ∀ a : Int, a * 2 ^ (2 * d) = (nn d : Nat) * a := by
    intro a
    obtain rfl | rfl | rfl : d = 0 ∨ d = 1 ∨ d = 2 := by omega
    · show a * 1 = ((1 : Nat) : Int) * a; omega
    · show a * 4 = ((4 : Nat) : Int) * a; omega
    · show a * 16 = ((16 : Nat) : Int) * a; omega
  have h1 := (h i hi).1.finer (2 * d) (by omega)
  have h2 := (h i hi).2.finer (2 * d) (by omega)
  rw [e] at h1 h2
  exact ⟨h1, h2⟩
theorem trI_sc (s c : Int) : ∀ (d : Nat) (f : Nat → GI) (i : Nat), trI s d (fun i => sc c (f i)) i = sc c (trI s d f i)
  | 0, f, i => rfl
  | d + 1, f, i => by
    have R : ∀ (q : Nat) (v : GI), rot q (sc c v) = sc c (rot q v) := by
      intro q v; unfold rot sc; split <;> simp [Int.mul_neg]
    rw [trI, trI]; unfold bflyI
    have E := trI_sc s c d (fun i => f (2 * i))
    have O := trI_sc s c d (fun i => f (2 * i + 1))
    by_cases h : i < 2 ^ d
    · rw [if_pos h, if_pos h, E, O, R]
      apply Prod.ext
      · simp only [sc, Int.mul_add]
      · simp only [sc, Int.mul_add]
    · rw [if_neg h, if_neg h, E, O, R]
      apply Prod.ext
      · simp only [sc, Int.mul_sub]
      · simp only [sc, Int.mul_sub]
theorem two_sc (s c : Int) (d : Nat) (f : Nat → GI) (i : Nat) : twoI s d (fun i => sc c (f i)) i = sc c (twoI s d f i) := by
  unfold twoI linI
  have e : ∀ i, trI s d (fun b => sc c (f (pos false (2 ^ d) (li false (2 ^ d) i) b))) (il false (2 ^ d) i) = sc c (trI s d (fun b => f (pos false (2 ^ d) (li false (2 ^ d) i) b)) (il false (2 ^ d) i)) := fun i => trI_sc s c d _ _
  simp only [e]
  exact trI_sc s c d _ _
theorem two_congr (s : Int) (d : Nat) (hd : d ≤ 2) (f g : Nat → GI) (h : ∀ i, i < nn d → f i = g i) (i : Nat) (hi : i < nn d) : twoI s d f i = twoI s d g i :=
  linI_congr s d hd true _ _ (fun j hj => linI_congr s d hd false f g h j hj) i hi
theorem rot_back (n q : Int) (i : Nat) (v : GI) : rot (trQ n (-q) i) (rot (trQ n q i) v) = v := by
  have h1 := trQ_lt n q i
  have h2 := trQ_lt n (-q) i
  have h3 : (trQ n q i + trQ n (-q) i) % 4 = 0 := by
    unfold trQ
    have e : -(-q) * (fold n (i / n) * fold n (i / n) + fold n (i % n) * fold n (i % n)) = -(-q * (fold n (i / n) * fold n (i / n) + fold n (i % n) * fold n (i % n))) := by rw [Int.neg_mul, Int.neg_mul]
    rw [e]
    generalize -q * (fold n (i / n) * fold n (i / n) + fold n (i % n) * fold n (i % n)) = X
    omega
  generalize trQ n q i = a at h1 h3 ⊢
  generalize trQ n (-q) i = b at h2 h3 ⊢
  obtain rfl | rfl | rfl | rfl : a = 0 ∨ a = 1 ∨ a = 2 ∨ a = 3 := by omega
  · obtain rfl : b = 0 := by omega
    rfl
  · obtain rfl : b = 3 := by omega
    apply Prod.ext <;> simp [rot]
  · obtain rfl : b = 2 := by omega
    apply Prod.ext <;> simp [rot]
  · obtain rfl : b = 1 := by omega
    apply Prod.ext <;> simp [rot]
theorem travel_home (d : Nat) (hd : d ≤ 2) (q : Int) (p : Nat → GI) (i : Nat) (hi : i < nn d) :
    twoI 1 d (fun i => rot (trQ (sd d) (-q) i) (twoI (-1) d (twoI 1 d (fun i => rot (trQ (sd d) q i) (twoI (-1) d p i))) i)) i = sc (nn d : Nat) (sc (nn d : Nat) (p i)) := by
  have R : ∀ (q : Nat) (c : Int) (v : GI), rot q (sc c v) = sc c (rot q v) := by
    intro q c v; unfold rot sc; split <;> simp [Int.mul_neg]
  have e : ∀ j, j < nn d → rot (trQ (sd d) (-q) j) (twoI (-1) d (twoI 1 d (fun i => rot (trQ (sd d) q i) (twoI (-1) d p i))) j) = sc (nn d : Nat) (twoI (-1) d p j) := by
    intro j hj
    have h := two_inv (-1) (.inr rfl) d hd (fun i => rot (trQ (sd d) q i) (twoI (-1) d p i)) j hj
    rw [show (-(-1) : Int) = 1 from rfl] at h
    rw [h, R, rot_back]
  rw [two_congr 1 d hd _ _ e i hi, two_sc, two_inv 1 (.inl rfl) d hd p i hi]
end Go.Proofs.YtdpdjcehobjohaaGreatDoor
