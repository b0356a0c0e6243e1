/- The bit functions of the arithmetic of complex numbers, and what they give of small multiples of powers of two. Plain lemmas. -/
import Derived.Test.YtdpdjcehobjohaaGreatDoorFl
import Derived.Laws.FloatArith
namespace Fl
open Ieee Go

abbrev CB := Nat × Nat
def w64 (a : Nat) : Nat := double.write (single.read a)
def n32 (a : Nat) : Nat := single.write (double.read a)
def a32 (x y : Nat) : Nat := (single.add x y).getD 0
def s32 (x y : Nat) : Nat := (single.sub x y).getD 0
def q32 (x y : Nat) : Nat := (single.div x y).getD 0
def a64 (x y : Nat) : Nat := (double.add x y).getD 0
def s64 (x y : Nat) : Nat := (double.sub x y).getD 0
def m64 (x y : Nat) : Nat := (double.mul x y).getD 0
def neg32 (x : Nat) : Nat := x ^^^ 2 ^ 31
def addC (x y : CB) : CB := (a32 x.1 y.1, a32 x.2 y.2)
def subC (x y : CB) : CB := (s32 x.1 y.1, s32 x.2 y.2)
/-- the program's product -/
def mulC (x y : CB) : CB :=
  (n32 (s64 (m64 (w64 x.1) (w64 y.1)) (m64 (w64 x.2) (w64 y.2))), n32 (a64 (m64 (w64 x.1) (w64 y.2)) (m64 (w64 x.2) (w64 y.1))))
/-- the reference's sum of two products -/
def exS (a b c d : Nat) : Nat := n32 (a64 (m64 (w64 a) (w64 b)) (m64 (w64 c) (w64 d)))
/-- the reference's product -/
def mulS (x y : CB) : CB := (exS x.1 y.1 (neg32 x.2) y.2, exS x.1 y.2 x.2 y.1)
/-- a zero made positive -/
def pz (x : Nat) : Nat := if single.order x 0 = some .eq then 0 else x
def plC (z : CB) : CB := (pz z.1, pz z.2)

def RepC (s : Nat) (z : CB) (p : Int × Int) : Prop := Rep single s z.1 p.1 ∧ Rep single s z.2 p.2
/-- a float of at most b units of 1/256 -/
def F (x : Nat) (m : Int) (b : Nat) : Prop := Rep single 8 x m ∧ m.natAbs ≤ b

theorem opp_read {b : Nat} : single.read (neg32 b) = (single.read b).opposite := by
  have h1 : neg32 b / single.signWeight % 2 = (b / single.signWeight + 1) % 2 := by
    have : (neg32 b) / 2 ^ 31 = (b / 2 ^ 31) ^^^ 1 := by
      unfold neg32; rw [Nat.xor_div_two_pow]
    show (neg32 b) / 2 ^ 31 % 2 = _
    rw [this]
    show ((b / 2 ^ 31) ^^^ 1) % 2 = (b / 2 ^ 31 + 1) % 2
    rw [show (2 : Nat) = 2 ^ 1 from rfl, Nat.xor_mod_two_pow]
    generalize hq : b / (2 ^ 1) ^ 31 = q
    rcases Nat.mod_two_eq_zero_or_one q with h | h
    · have : q % 2 ^ 1 = 0 := h
      rw [this]; simp; omega
    · have : q % 2 ^ 1 = 1 := h
      rw [this]; simp; omega
  have h2 : neg32 b % single.signWeight = b % single.signWeight := by
    show (neg32 b) % 2 ^ 31 = b % 2 ^ 31
    unfold neg32; rw [Nat.xor_mod_two_pow]; simp
  unfold Format.read
  simp only [h1, h2]
  have h3 : ((b / single.signWeight + 1) % 2 == 1) = !(b / single.signWeight % 2 == 1) := by
    rcases Nat.mod_two_eq_zero_or_one (b / single.signWeight) with h | h
    · rw [h]; have : (b / single.signWeight + 1) % 2 = 1 := by omega
      rw [this]; rfl
    · rw [h]; have : (b / single.signWeight + 1) % 2 = 0 := by omega
      rw [this]; rfl
  rw [h3]
  split
  · rfl
  · split
    · rfl
    · split <;> rfl

theorem Rep.neg {s x : Nat} {a : Int} (h : Rep single s x a) : Rep single s (neg32 x) (-a) := by
  unfold Rep; rw [opp_read]; exact DRep.opposite h

theorem conv_of_rep {f g : FloatKind} (hne : f ≠ g) {s x r : Nat} {a : Int} (hx : Rep f.format s x a) (hr : r = g.format.write (f.format.read x)) (hg : Rep g.format s r a) :
    floatToFloatBits f x g = some r := by
  obtain ⟨n, mg, p, e⟩ := hx.number
  obtain ⟨n', mg', p', e'⟩ := hg.number
  unfold floatToFloatBits
  have h1 : f.decode x = .number n mg p := e
  rw [if_neg hne, h1]
  have h2 : g.encode (.number n mg p) = r := by rw [hr, e]; rfl
  simp only [h2]
  have h3 : g.decode r = .number n' mg' p' := e'
  rw [h3]; rfl

theorem up_rep {s x : Nat} {a : Int} (hs : s ≤ 100) (hx : Rep single s x a) (hm : a.natAbs < 2 ^ 53) : Rep double s (w64 x) a :=
  Rep.widen good_double hs hx hm
theorem up_ok {s x : Nat} {a : Int} (hs : s ≤ 100) (hx : Rep single s x a) (hm : a.natAbs < 2 ^ 53) : floatToFloatBits .f32 x .f64 = some (w64 x) :=
  conv_of_rep (f := .f32) (g := .f64) (by decide) hx rfl (up_rep hs hx hm)
theorem down_rep {s x : Nat} {a : Int} (hs : s ≤ 100) (hx : Rep double s x a) (hm : a.natAbs < 2 ^ 24) : Rep single s (n32 x) a :=
  Rep.widen good_single hs hx hm
theorem down_ok {s x : Nat} {a : Int} (hs : s ≤ 100) (hx : Rep double s x a) (hm : a.natAbs < 2 ^ 24) : floatToFloatBits .f64 x .f32 = some (n32 x) :=
  conv_of_rep (f := .f64) (g := .f32) (by decide) hx rfl (down_rep hs hx hm)

theorem a32_ok {s x y : Nat} {a b : Int} (hs : s ≤ 100) (hx : Rep single s x a) (hy : Rep single s y b) (hm : (a + b).natAbs < 2 ^ 24) :
    floatBits .add .f32 x y = some (a32 x y) ∧ Rep single s (a32 x y) (a + b) := by
  obtain ⟨r, h1, h2⟩ := Rep.add good_single hs hx hy hm
  have e : a32 x y = r := by unfold a32; rw [h1]; rfl
  exact ⟨by rw [e]; exact h1, by rw [e]; exact h2⟩
theorem s32_ok {s x y : Nat} {a b : Int} (hs : s ≤ 100) (hx : Rep single s x a) (hy : Rep single s y b) (hm : (a - b).natAbs < 2 ^ 24) :
    floatBits .sub .f32 x y = some (s32 x y) ∧ Rep single s (s32 x y) (a - b) := by
  obtain ⟨r, h1, h2⟩ := Rep.sub good_single hs hx hy hm
  have e : s32 x y = r := by unfold s32; rw [h1]; rfl
  exact ⟨by rw [e]; exact h1, by rw [e]; exact h2⟩
theorem a64_ok {s x y : Nat} {a b : Int} (hs : s ≤ 100) (hx : Rep double s x a) (hy : Rep double s y b) (hm : (a + b).natAbs < 2 ^ 53) :
    floatBits .add .f64 x y = some (a64 x y) ∧ Rep double s (a64 x y) (a + b) := by
  obtain ⟨r, h1, h2⟩ := Rep.add good_double hs hx hy hm
  have e : a64 x y = r := by unfold a64; rw [h1]; rfl
  exact ⟨by rw [e]; exact h1, by rw [e]; exact h2⟩
theorem s64_ok {s x y : Nat} {a b : Int} (hs : s ≤ 100) (hx : Rep double s x a) (hy : Rep double s y b) (hm : (a - b).natAbs < 2 ^ 53) :
    floatBits .sub .f64 x y = some (s64 x y) ∧ Rep double s (s64 x y) (a - b) := by
  obtain ⟨r, h1, h2⟩ := Rep.sub good_double hs hx hy hm
  have e : s64 x y = r := by unfold s64; rw [h1]; rfl
  exact ⟨by rw [e]; exact h1, by rw [e]; exact h2⟩
theorem m64_ok {s t x y : Nat} {a b : Int} (hs : s + t ≤ 100) (hx : Rep double s x a) (hy : Rep double t y b) (hm : (a * b).natAbs < 2 ^ 53) :
    floatBits .mul .f64 x y = some (m64 x y) ∧ Rep double (s + t) (m64 x y) (a * b) := by
  obtain ⟨r, h1, h2⟩ := Rep.mul good_double hs hx hy hm
  have e : m64 x y = r := by unfold m64; rw [h1]; rfl
  exact ⟨by rw [e]; exact h1, by rw [e]; exact h2⟩
theorem q32_ok {s x y j : Nat} {a : Int} (hs : s + j ≤ 100) (hx : Rep single s x (a * 2 ^ j)) (hy : single.read y = .number false (2 ^ 23) ((j : Int) - 23)) (hm : a.natAbs < 2 ^ 24) :
    floatBits .quo .f32 x y = some (q32 x y) ∧ Rep single s (q32 x y) a := by
  obtain ⟨r, h1, h2⟩ := Rep.divPow hs hx hy hm
  have e : q32 x y = r := by unfold q32; rw [h1]; rfl
  exact ⟨by rw [e]; exact h1, by rw [e]; exact h2⟩

theorem natAbs_mul_lt {a b : Int} {A B : Nat} (ha : a.natAbs ≤ A) (hb : b.natAbs ≤ B) : (a * b).natAbs ≤ A * B := by
  rw [Int.natAbs_mul]; exact Nat.mul_le_mul ha hb

/-- What the program's product does, step by step. -/
structure MulOk (x y : CB) : Prop where
  c1 : floatToFloatBits .f32 x.1 .f64 = some (w64 x.1)
  c2 : floatToFloatBits .f32 x.2 .f64 = some (w64 x.2)
  c3 : floatToFloatBits .f32 y.1 .f64 = some (w64 y.1)
  c4 : floatToFloatBits .f32 y.2 .f64 = some (w64 y.2)
  m1 : floatBits .mul .f64 (w64 x.1) (w64 y.1) = some (m64 (w64 x.1) (w64 y.1))
  m2 : floatBits .mul .f64 (w64 x.2) (w64 y.2) = some (m64 (w64 x.2) (w64 y.2))
  m3 : floatBits .mul .f64 (w64 x.1) (w64 y.2) = some (m64 (w64 x.1) (w64 y.2))
  m4 : floatBits .mul .f64 (w64 x.2) (w64 y.1) = some (m64 (w64 x.2) (w64 y.1))
  s : floatBits .sub .f64 (m64 (w64 x.1) (w64 y.1)) (m64 (w64 x.2) (w64 y.2)) = some (s64 (m64 (w64 x.1) (w64 y.1)) (m64 (w64 x.2) (w64 y.2)))
  a : floatBits .add .f64 (m64 (w64 x.1) (w64 y.2)) (m64 (w64 x.2) (w64 y.1)) = some (a64 (m64 (w64 x.1) (w64 y.2)) (m64 (w64 x.2) (w64 y.1)))
  n1 : floatToFloatBits .f64 (s64 (m64 (w64 x.1) (w64 y.1)) (m64 (w64 x.2) (w64 y.2))) .f32 = some (mulC x y).1
  n2 : floatToFloatBits .f64 (a64 (m64 (w64 x.1) (w64 y.2)) (m64 (w64 x.2) (w64 y.1))) .f32 = some (mulC x y).2

theorem mulC_ok {s t : Nat} {x y : CB} {p q : Int × Int} {A B : Nat} (hs : s + t ≤ 50) (hx : RepC s x p) (hy : RepC t y q)
    (hp : p.1.natAbs ≤ A ∧ p.2.natAbs ≤ A) (hq : q.1.natAbs ≤ B ∧ q.2.natAbs ≤ B) (hAB : 2 * (A * B) < 2 ^ 24) (hA : A < 2 ^ 24) (hB : B < 2 ^ 24) :
    MulOk x y ∧ RepC (s + t) (mulC x y) (p.1 * q.1 - p.2 * q.2, p.1 * q.2 + p.2 * q.1) := by
  obtain ⟨x1, x2⟩ := hx
  obtain ⟨y1, y2⟩ := hy
  have u1 := up_rep (by omega) x1 (by omega)
  have u2 := up_rep (by omega) x2 (by omega)
  have v1 := up_rep (by omega) y1 (by omega)
  have v2 := up_rep (by omega) y2 (by omega)
  have k1 := natAbs_mul_lt hp.1 hq.1
  have k2 := natAbs_mul_lt hp.2 hq.2
  have k3 := natAbs_mul_lt hp.1 hq.2
  have k4 := natAbs_mul_lt hp.2 hq.1
  have m1 := m64_ok (by omega) u1 v1 (by omega)
  have m2 := m64_ok (by omega) u2 v2 (by omega)
  have m3 := m64_ok (by omega) u1 v2 (by omega)
  have m4 := m64_ok (by omega) u2 v1 (by omega)
  have ss := s64_ok (by omega) m1.2 m2.2 (by omega)
  have aa := a64_ok (by omega) m3.2 m4.2 (by omega)
  exact ⟨⟨up_ok (by omega) x1 (by omega), up_ok (by omega) x2 (by omega), up_ok (by omega) y1 (by omega), up_ok (by omega) y2 (by omega), m1.1, m2.1, m3.1, m4.1, ss.1, aa.1,
    down_ok (by omega) ss.2 (by omega), down_ok (by omega) aa.2 (by omega)⟩, down_rep (by omega) ss.2 (by omega), down_rep (by omega) aa.2 (by omega)⟩

/-- What the reference's sum of two products does, step by step. -/
structure ExOk (a b c d : Nat) : Prop where
  c1 : floatToFloatBits .f32 a .f64 = some (w64 a)
  c2 : floatToFloatBits .f32 b .f64 = some (w64 b)
  c3 : floatToFloatBits .f32 c .f64 = some (w64 c)
  c4 : floatToFloatBits .f32 d .f64 = some (w64 d)
  m1 : floatBits .mul .f64 (w64 a) (w64 b) = some (m64 (w64 a) (w64 b))
  m2 : floatBits .mul .f64 (w64 c) (w64 d) = some (m64 (w64 c) (w64 d))
  s : floatBits .add .f64 (m64 (w64 a) (w64 b)) (m64 (w64 c) (w64 d)) = some (a64 (m64 (w64 a) (w64 b)) (m64 (w64 c) (w64 d)))
  n : floatToFloatBits .f64 (a64 (m64 (w64 a) (w64 b)) (m64 (w64 c) (w64 d))) .f32 = some (exS a b c d)

theorem exS_ok {s t : Nat} {a b c d : Nat} {p q u v : Int} {A B : Nat} (hs : s + t ≤ 50) (ha : Rep single s a p) (hb : Rep single t b q) (hc : Rep single s c u) (hd : Rep single t d v)
    (hp : p.natAbs ≤ A) (hu : u.natAbs ≤ A) (hq : q.natAbs ≤ B) (hv : v.natAbs ≤ B) (hAB : 2 * (A * B) < 2 ^ 24) (hA : A < 2 ^ 24) (hB : B < 2 ^ 24) :
    ExOk a b c d ∧ Rep single (s + t) (exS a b c d) (p * q + u * v) := by
  have u1 := up_rep (by omega) ha (by omega)
  have u2 := up_rep (by omega) hb (by omega)
  have u3 := up_rep (by omega) hc (by omega)
  have u4 := up_rep (by omega) hd (by omega)
  have k1 := natAbs_mul_lt hp hq
  have k2 := natAbs_mul_lt hu hv
  have m1 := m64_ok (by omega) u1 u2 (by omega)
  have m2 := m64_ok (by omega) u3 u4 (by omega)
  have aa := a64_ok (by omega) m1.2 m2.2 (by omega)
  exact ⟨⟨up_ok (by omega) ha (by omega), up_ok (by omega) hb (by omega), up_ok (by omega) hc (by omega), up_ok (by omega) hd (by omega), m1.1, m2.1, aa.1,
    down_ok (by omega) aa.2 (by omega)⟩, down_rep (by omega) aa.2 (by omega)⟩

theorem mulS_ok {s t : Nat} {x y : CB} {p q : Int × Int} {A B : Nat} (hs : s + t ≤ 50) (hx : RepC s x p) (hy : RepC t y q)
    (hp : p.1.natAbs ≤ A ∧ p.2.natAbs ≤ A) (hq : q.1.natAbs ≤ B ∧ q.2.natAbs ≤ B) (hAB : 2 * (A * B) < 2 ^ 24) (hA : A < 2 ^ 24) (hB : B < 2 ^ 24) :
    ExOk x.1 y.1 (neg32 x.2) y.2 ∧ ExOk x.1 y.2 x.2 y.1 ∧ RepC (s + t) (mulS x y) (p.1 * q.1 - p.2 * q.2, p.1 * q.2 + p.2 * q.1) := by
  have h1 := exS_ok hs hx.1 hy.1 (Rep.neg hx.2) hy.2 hp.1 (by omega) hq.1 hq.2 hAB hA hB
  have h2 := exS_ok hs hx.1 hy.2 hx.2 hy.1 hp.1 hp.2 hq.2 hq.1 hAB hA hB
  refine ⟨h1.1, h2.1, ?_, h2.2⟩
  have := h1.2
  rw [Int.neg_mul, ← Int.sub_eq_add_neg] at this
  exact this

theorem addC_ok {s : Nat} {x y : CB} {p q : Int × Int} {A B : Nat} (hs : s ≤ 100) (hx : RepC s x p) (hy : RepC s y q)
    (hp : p.1.natAbs ≤ A ∧ p.2.natAbs ≤ A) (hq : q.1.natAbs ≤ B ∧ q.2.natAbs ≤ B) (hAB : A + B < 2 ^ 24) :
    (floatBits .add .f32 x.1 y.1 = some (addC x y).1 ∧ floatBits .add .f32 x.2 y.2 = some (addC x y).2) ∧ RepC s (addC x y) (p.1 + q.1, p.2 + q.2) := by
  have h1 := a32_ok hs hx.1 hy.1 (by omega)
  have h2 := a32_ok hs hx.2 hy.2 (by omega)
  exact ⟨⟨h1.1, h2.1⟩, h1.2, h2.2⟩
theorem subC_ok {s : Nat} {x y : CB} {p q : Int × Int} {A B : Nat} (hs : s ≤ 100) (hx : RepC s x p) (hy : RepC s y q)
    (hp : p.1.natAbs ≤ A ∧ p.2.natAbs ≤ A) (hq : q.1.natAbs ≤ B ∧ q.2.natAbs ≤ B) (hAB : A + B < 2 ^ 24) :
    (floatBits .sub .f32 x.1 y.1 = some (subC x y).1 ∧ floatBits .sub .f32 x.2 y.2 = some (subC x y).2) ∧ RepC s (subC x y) (p.1 - q.1, p.2 - q.2) := by
  have h1 := s32_ok hs hx.1 hy.1 (by omega)
  have h2 := s32_ok hs hx.2 hy.2 (by omega)
  exact ⟨⟨h1.1, h2.1⟩, h1.2, h2.2⟩

theorem rep_zero (s : Nat) (_hs : s ≤ 100) : Rep single s 0 0 :=
  ⟨false, 0, _, rfl, by decide, by simp [sg]⟩

theorem order_zero {s x : Nat} {a : Int} (hs : s ≤ 100) (hx : Rep single s x a) : single.order x 0 = some (compare a 0) := hx.order (rep_zero s hs)

/-- A finite float less itself is a zero. -/
structure FinOk (x : Nat) : Prop where
  d : floatBits .sub .f32 x x = some (s32 x x)
  z : single.order (s32 x x) 0 = some .eq
theorem fin_ok {s x : Nat} {a : Int} (hs : s ≤ 100) (hx : Rep single s x a) : FinOk x := by
  have h := s32_ok hs hx hx (by simp)
  refine ⟨h.1, ?_⟩
  rw [order_zero hs h.2]; simp
theorem fin_zero : FinOk 0 := fin_ok (s := 0) (by omega) (rep_zero 0 (by omega))

theorem pz_rep {s x : Nat} {a : Int} (hs : s ≤ 100) (hx : Rep single s x a) : Rep single s (pz x) a := by
  unfold pz
  rw [order_zero hs hx]
  split
  · rename_i h
    have : compare a 0 = .eq := by simpa using h
    rw [Int.compare_eq_eq.1 this]
    exact rep_zero s hs
  · exact hx
theorem plC_rep {s : Nat} {z : CB} {p : Int × Int} (hs : s ≤ 100) (h : RepC s z p) : RepC s (plC z) p := ⟨pz_rep hs h.1, pz_rep hs h.2⟩
theorem plC_zero : plC (0, 0) = (0, 0) := by decide
end Fl
