/- Identities of transforms of Gaussian integers: there and back, there twice, rows and columns. -/
import Derived.Test.YtdpdjcehobjohaaGreatDoorPn
namespace Go.Proofs.YtdpdjcehobjohaaGreatDoor
open Go Go.RowKit Go.BigFrame Fl Ieee

/-- the transforms of 1, 2 and 4 numbers written out -/
def w4 (s : Int) (a b c e : GI) : Nat → GI
  | 0 => (a.1 + b.1 + c.1 + e.1, a.2 + b.2 + c.2 + e.2)
  | 1 => if s = 1 then (a.1 - b.2 - c.1 + e.2, a.2 + b.1 - c.2 - e.1) else (a.1 + b.2 - c.1 - e.2, a.2 - b.1 - c.2 + e.1)
  | 2 => (a.1 - b.1 + c.1 - e.1, a.2 - b.2 + c.2 - e.2)
  | _ => if s = 1 then (a.1 + b.2 - c.1 - e.2, a.2 - b.1 - c.2 + e.1) else (a.1 - b.2 - c.1 + e.2, a.2 + b.1 - c.2 - e.1)
theorem trI1 (s : Int) (f : Nat → GI) : trI s 1 f 0 = ((f 0).1 + (f 1).1, (f 0).2 + (f 1).2) ∧ trI s 1 f 1 = ((f 0).1 - (f 1).1, (f 0).2 - (f 1).2) := by
  constructor <;> simp [trI, bflyI, rot, qi]
theorem trI2 (s : Int) (hs : s = 1 ∨ s = -1) (f : Nat → GI) (i : Nat) (hi : i < 4) : trI s 2 f i = w4 s (f 0) (f 1) (f 2) (f 3) i := by
  have : i = 0 ∨ i = 1 ∨ i = 2 ∨ i = 3 := by omega
  rcases hs with rfl | rfl <;> rcases this with rfl | rfl | rfl | rfl <;> simp [trI, bflyI, rot, qi, w4] <;> omega
def sc (n : Int) (p : GI) : GI := (n * p.1, n * p.2)
theorem w4_inv (s : Int) (hs : s = 1 ∨ s = -1) (a b c e : GI) (i : Nat) (hi : i < 4) :
    w4 s (w4 (-s) a b c e 0) (w4 (-s) a b c e 1) (w4 (-s) a b c e 2) (w4 (-s) a b c e 3) i = sc 4 (if i = 0 then a else if i = 1 then b else if i = 2 then c else e) := by
  have : i = 0 ∨ i = 1 ∨ i = 2 ∨ i = 3 := by omega
  rcases hs with rfl | rfl <;> rcases this with rfl | rfl | rfl | rfl <;> simp [w4, sc] <;> omega
theorem w4_sq (a b c e : GI) (i : Nat) (hi : i < 4) :
    w4 (-1) (w4 (-1) a b c e 0) (w4 (-1) a b c e 1) (w4 (-1) a b c e 2) (w4 (-1) a b c e 3) i = sc 4 (if i = 0 then a else if i = 1 then e else if i = 2 then c else b) := by
  have : i = 0 ∨ i = 1 ∨ i = 2 ∨ i = 3 := by omega
  rcases this with rfl | rfl | rfl | rfl <;> simp [w4, sc] <;> omega
set_option maxHeartbeats 4000000 in
theorem w4_comm (s t : Int) (hs : s = 1 ∨ s = -1) (ht : t = 1 ∨ t = -1) (a0 a1 a2 a3 b0 b1 b2 b3 c0 c1 c2 c3 e0 e1 e2 e3 : GI) (i j : Nat) (hi : i < 4) (hj : j < 4) :
    w4 s (w4 t a0 a1 a2 a3 j) (w4 t b0 b1 b2 b3 j) (w4 t c0 c1 c2 c3 j) (w4 t e0 e1 e2 e3 j) i =
      w4 t (w4 s a0 b0 c0 e0 i) (w4 s a1 b1 c1 e1 i) (w4 s a2 b2 c2 e2 i) (w4 s a3 b3 c3 e3 i) j := by
  have h1 : i = 0 ∨ i = 1 ∨ i = 2 ∨ i = 3 := by omega
  have h2 : j = 0 ∨ j = 1 ∨ j = 2 ∨ j = 3 := by omega
  rcases hs with rfl | rfl <;> rcases ht with rfl | rfl <;> rcases h1 with rfl | rfl | rfl | rfl <;> rcases h2 with rfl | rfl | rfl | rfl <;> simp [w4] <;> omega
theorem inv1 (s : Int) (hs : s = 1 ∨ s = -1) (d : Nat) (hd : d ≤ 2) (p : Nat → GI) (i : Nat) (hi : i < 2 ^ d) : trI s d (trI (-s) d p) i = sc (2 ^ d : Nat) (p i) := by
  obtain rfl | rfl | rfl : d = 0 ∨ d = 1 ∨ d = 2 := by omega
  · have : i = 0 := by omega
    subst this
    simp [trI, sc]
  · have : i = 0 ∨ i = 1 := by omega
    rcases this with rfl | rfl
    · rw [(trI1 s _).1, (trI1 (-s) p).1, (trI1 (-s) p).2]; simp [sc]; omega
    · rw [(trI1 s _).2, (trI1 (-s) p).1, (trI1 (-s) p).2]; simp [sc]; omega
  · have hs' : -s = 1 ∨ -s = -1 := by omega
    rw [trI2 s hs _ i hi, trI2 (-s) hs' p 0 (by omega), trI2 (-s) hs' p 1 (by omega), trI2 (-s) hs' p 2 (by omega), trI2 (-s) hs' p 3 (by omega), w4_inv s hs _ _ _ _ i hi]
    have : i = 0 ∨ i = 1 ∨ i = 2 ∨ i = 3 := by omega
    rcases this with rfl | rfl | rfl | rfl <;> rfl
def neg1 (d i : Nat) : Nat := (2 ^ d - i) % 2 ^ d
theorem sq1 (d : Nat) (hd : d ≤ 2) (p : Nat → GI) (i : Nat) (hi : i < 2 ^ d) : trI (-1) d (trI (-1) d p) i = sc (2 ^ d : Nat) (p (neg1 d i)) := by
  obtain rfl | rfl | rfl : d = 0 ∨ d = 1 ∨ d = 2 := by omega
  · have : i = 0 := by omega
    subst this
    simp [trI, sc, neg1]
  · have : i = 0 ∨ i = 1 := by omega
    rcases this with rfl | rfl
    · rw [(trI1 (-1) _).1, (trI1 (-1) p).1, (trI1 (-1) p).2]; simp [sc, neg1]; omega
    · rw [(trI1 (-1) _).2, (trI1 (-1) p).1, (trI1 (-1) p).2]; simp [sc, neg1]; omega
  · rw [trI2 (-1) (.inr rfl) _ i hi, trI2 (-1) (.inr rfl) p 0 (by omega), trI2 (-1) (.inr rfl) p 1 (by omega), trI2 (-1) (.inr rfl) p 2 (by omega), trI2 (-1) (.inr rfl) p 3 (by omega), w4_sq _ _ _ _ i hi]
    have : i = 0 ∨ i = 1 ∨ i = 2 ∨ i = 3 := by omega
    rcases this with rfl | rfl | rfl | rfl <;> rfl
theorem comm2 (s t : Int) (hs : s = 1 ∨ s = -1) (ht : t = 1 ∨ t = -1) (d : Nat) (hd : d ≤ 2) (g : Nat → Nat → GI) (i j : Nat) (hi : i < 2 ^ d) (hj : j < 2 ^ d) :
    trI s d (fun b => trI t d (fun b' => g b b') j) i = trI t d (fun b' => trI s d (fun b => g b b') i) j := by
  obtain rfl | rfl | rfl : d = 0 ∨ d = 1 ∨ d = 2 := by omega
  · have h1 : i = 0 := by omega
    have h2 : j = 0 := by omega
    subst h1; subst h2; rfl
  · have h1 : i = 0 ∨ i = 1 := by omega
    have h2 : j = 0 ∨ j = 1 := by omega
    rcases h1 with rfl | rfl <;> rcases h2 with rfl | rfl <;> simp only [(trI1 s _).1, (trI1 s _).2, (trI1 t _).1, (trI1 t _).2] <;> apply Prod.ext <;> simp only <;> omega
  · simp only [trI2 s hs _ i hi, trI2 t ht _ j hj]
    exact w4_comm s t hs ht _ _ _ _ _ _ _ _ _ _ _ _ _ _ _ _ i j hi hj
theorem pos_li (c : Bool) (d : Nat) (hd : d ≤ 2) (i : Nat) (hi : i < nn d) : pos c (2 ^ d) (li c (2 ^ d) i) (il c (2 ^ d) i) = i := by
  have h := il_lt c d i hd hi
  exact (pos_eq c d _ _ i hd h.2 h.1 rfl rfl).symm
theorem linI_pos (s : Int) (d : Nat) (hd : d ≤ 2) (c : Bool) (p : Nat → GI) (a b : Nat) (ha : a < 2 ^ d) (hb : b < 2 ^ d) : linI s d c p (pos c (2 ^ d) a b) = trI s d (fun j => p (pos c (2 ^ d) a j)) b := by
  have e := li_pos c d a b hd ha hb
  unfold linI; rw [e.1, e.2]
theorem linI_congr (s : Int) (d : Nat) (hd : d ≤ 2) (c : Bool) (f g : Nat → GI) (h : ∀ i, i < nn d → f i = g i) (i : Nat) (hi : i < nn d) : linI s d c f i = linI s d c g i := by
  have hb := il_lt c d i hd hi
  exact trI_congr s d _ _ (fun j hj => h _ (pos_lt c d _ _ hd hb.2 hj)) _ hb.1
theorem linI_inv (s : Int) (hs : s = 1 ∨ s = -1) (d : Nat) (hd : d ≤ 2) (c : Bool) (p : Nat → GI) (i : Nat) (hi : i < nn d) : linI s d c (linI (-s) d c p) i = sc (2 ^ d : Nat) (p i) := by
  have hb := il_lt c d i hd hi
  have e : linI s d c (linI (-s) d c p) i = trI s d (trI (-s) d (fun j => p (pos c (2 ^ d) (li c (2 ^ d) i) j))) (il c (2 ^ d) i) :=
    trI_congr s d _ _ (fun j hj => linI_pos (-s) d hd c p _ j hb.2 hj) _ hb.1
  rw [e, inv1 s hs d hd _ _ hb.1, pos_li c d hd i hi]
theorem linI_sq (d : Nat) (hd : d ≤ 2) (c : Bool) (p : Nat → GI) (i : Nat) (hi : i < nn d) : linI (-1) d c (linI (-1) d c p) i = sc (2 ^ d : Nat) (p (pos c (2 ^ d) (li c (2 ^ d) i) (neg1 d (il c (2 ^ d) i)))) := by
  have hb := il_lt c d i hd hi
  have e : linI (-1) d c (linI (-1) d c p) i = trI (-1) d (trI (-1) d (fun j => p (pos c (2 ^ d) (li c (2 ^ d) i) j))) (il c (2 ^ d) i) :=
    trI_congr (-1) d _ _ (fun j hj => linI_pos (-1) d hd c p _ j hb.2 hj) _ hb.1
  rw [e, sq1 d hd _ _ hb.1]
theorem linI_comm (s t : Int) (hs : s = 1 ∨ s = -1) (ht : t = 1 ∨ t = -1) (d : Nat) (hd : d ≤ 2) (p : Nat → GI) (i : Nat) (hi : i < nn d) : linI s d true (linI t d false p) i = linI t d false (linI s d true p) i := by
  have hb := li_tf d hd i hi
  have e1 : linI s d true (linI t d false p) i = trI s d (fun b => trI t d (fun b' => p (2 ^ d * b + b')) (i % 2 ^ d)) (i / 2 ^ d) := by
    unfold linI
    have a1 : li true (2 ^ d) i = i % 2 ^ d := by unfold li; simp
    have a2 : il true (2 ^ d) i = i / 2 ^ d := by unfold il; simp
    rw [a1, a2]
    refine trI_congr s d _ _ (fun b hbb => ?_) _ hb.2
    have := linI_pos t d hd false p b (i % 2 ^ d) hbb hb.1
    have ep : pos true (2 ^ d) (i % 2 ^ d) b = pos false (2 ^ d) b (i % 2 ^ d) := by unfold pos; simp
    have e3 : ∀ j, pos false (2 ^ d) b j = 2 ^ d * b + j := fun j => by unfold pos; simp
    simp only [e3] at this
    rw [ep, e3]; exact this
  have e2 : linI t d false (linI s d true p) i = trI t d (fun b' => trI s d (fun b => p (2 ^ d * b + b')) (i / 2 ^ d)) (i % 2 ^ d) := by
    unfold linI
    have a1 : li false (2 ^ d) i = i / 2 ^ d := by unfold li; simp
    have a2 : il false (2 ^ d) i = i % 2 ^ d := by unfold il; simp
    rw [a1, a2]
    refine trI_congr t d _ _ (fun b hbb => ?_) _ hb.1
    have := linI_pos s d hd true p b (i / 2 ^ d) hbb hb.2
    have ep : pos false (2 ^ d) (i / 2 ^ d) b = pos true (2 ^ d) b (i / 2 ^ d) := by unfold pos; simp
    have e3 : ∀ j, pos true (2 ^ d) b j = 2 ^ d * j + b := fun j => by unfold pos; simp
    simp only [e3] at this
    rw [ep, e3]; exact this
  rw [e1, e2]
  exact comm2 s t hs ht d hd (fun b b' => p (2 ^ d * b + b')) _ _ hb.2 hb.1
theorem sc_sc (d : Nat) (p : GI) : sc (2 ^ d : Nat) (sc (2 ^ d : Nat) p) = sc (nn d : Nat) p := by
  unfold sc nn
  apply Prod.ext
  · simp only [Int.natCast_mul, Int.mul_assoc]
  · simp only [Int.natCast_mul, Int.mul_assoc]
theorem two_inv (s : Int) (hs : s = 1 ∨ s = -1) (d : Nat) (hd : d ≤ 2) (p : Nat → GI) (i : Nat) (hi : i < nn d) : twoI s d (twoI (-s) d p) i = sc (nn d : Nat) (p i) := by
  have hs' : -s = 1 ∨ -s = -1 := by omega
  unfold twoI
  rw [linI_congr s d hd true _ _ (fun j hj => (linI_comm (-s) s hs' hs d hd (linI (-s) d false p) j hj).symm) i hi, linI_inv s hs d hd true _ i hi, linI_inv s hs d hd false p i hi, sc_sc]
theorem two_sq (d : Nat) (hd : d ≤ 2) (p : Nat → GI) (i : Nat) (hi : i < nn d) : twoI (-1) d (twoI (-1) d p) i = sc (nn d : Nat) (p (flipAt (sd d) i)) := by
  unfold twoI
  have hb := il_lt true d i hd hi
  have hlt : pos true (2 ^ d) (li true (2 ^ d) i) (neg1 d (il true (2 ^ d) i)) < nn d := pos_lt true d _ _ hd hb.2 (Nat.mod_lt _ (Nat.pow_pos (by omega)))
  rw [linI_congr (-1) d hd true _ _ (fun j hj => (linI_comm (-1) (-1) (.inr rfl) (.inr rfl) d hd (linI (-1) d false p) j hj).symm) i hi, linI_sq d hd true _ i hi, linI_sq d hd false p _ hlt, sc_sc]
  congr 2
  obtain rfl | rfl | rfl : d = 0 ∨ d = 1 ∨ d = 2 := by omega
  · have : i = 0 := by have : nn 0 = 1 := rfl
                       omega
    subst this; decide
  · have : i = 0 ∨ i = 1 ∨ i = 2 ∨ i = 3 := by have : nn 1 = 4 := rfl
                                               omega
    rcases this with rfl | rfl | rfl | rfl <;> decide
  · have : i = 0 ∨ i = 1 ∨ i = 2 ∨ i = 3 ∨ i = 4 ∨ i = 5 ∨ i = 6 ∨ i = 7 ∨ i = 8 ∨ i = 9 ∨ i = 10 ∨ i = 11 ∨ i = 12 ∨ i = 13 ∨ i = 14 ∨ i = 15 := by
      have : nn 2 = 16 := rfl
      omega
    rcases this with rfl | rfl | rfl | rfl | rfl | rfl | rfl | rfl | rfl | rfl | rfl | rfl | rfl | rfl | rfl | rfl <;> decide
end Go.Proofs.YtdpdjcehobjohaaGreatDoor
