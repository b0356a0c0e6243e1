/- What the transforms give of small Gaussian integers, exactly. Plain lemmas. -/
import Derived.Test.YtdpdjcehobjohaaGreatDoorWn
namespace Go.Proofs.YtdpdjcehobjohaaGreatDoor
open Go Go.RowKit Go.BigFrame Fl Ieee

abbrev GI := Int × Int
def rot : Nat → GI → GI
  | 0, p => p | 1, p => (-p.2, p.1) | 2, p => (-p.1, -p.2) | _, p => (p.2, -p.1)
def uI : Nat → GI
  | 0 => (1, 0) | 1 => (0, 1) | 2 => (-1, 0) | _ => (0, -1)
def bflyI (s : Int) (h : Nat) (e o : Nat → GI) : Nat → GI := fun i =>
  if i < h then ((e i).1 + (rot (qi s i) (o i)).1, (e i).2 + (rot (qi s i) (o i)).2)
  else ((e (i - h)).1 - (rot (qi s (i - h)) (o (i - h))).1, (e (i - h)).2 - (rot (qi s (i - h)) (o (i - h))).2)
def trI (s : Int) : Nat → (Nat → GI) → (Nat → GI)
  | 0, f => f
  | d + 1, f => bflyI s (2 ^ d) (trI s d fun i => f (2 * i)) (trI s d fun i => f (2 * i + 1))
def Bd (M : Nat) (p : Nat → GI) (n : Nat) : Prop := ∀ i, i < n → (p i).1.natAbs ≤ M ∧ (p i).2.natAbs ≤ M
def RepF (s : Nat) (z : Nat → CB) (p : Nat → GI) (n : Nat) : Prop := ∀ i, i < n → RepC s (z i) (p i)
theorem qi_lt (s : Int) (k : Nat) : qi s k < 4 := by unfold qi; omega

def MulGood (ok : CB → CB → Prop) (mul : CB → CB → CB) (ph : Nat → CB) : Prop :=
  ∀ (q : Nat), q < 4 → ∀ (s : Nat) (y : CB) (p : GI) (M : Nat), s ≤ 40 → RepC s y p → (p.1.natAbs ≤ M ∧ p.2.natAbs ≤ M) → M < 2 ^ 22 → ok (ph q) y ∧ RepC s (mul (ph q) y) (rot q p)

theorem rep_mk {b : Nat} {m : Int} {neg : Bool} {mag j : Nat} {place : Int} (h : single.read b = .number neg mag place) (hp : place = -(j : Int)) (hj : j ≤ 1000) (hm : sg neg mag = m * 2 ^ j) : Rep single 0 b m := by
  refine ⟨neg, mag, place, h, by omega, ?_⟩
  rw [hm, show (place + 4000).toNat = 4000 - j by omega, Int.mul_assoc, ← Int.pow_add, show j + (4000 - j) = 4000 - 0 by omega]
theorem rep_p1 : Rep single 0 1065353216 1 := rep_mk (j := 23) (neg := false) (mag := 8388608) (place := -23) (by kernel_rfl) rfl (by omega) (by decide)
theorem rep_n1 : Rep single 0 3212836864 (-1) := rep_mk (j := 23) (neg := true) (mag := 8388608) (place := -23) (by kernel_rfl) rfl (by omega) (by decide)
theorem rep_nz : Rep single 0 2147483648 0 := by
  have := Rep.neg (rep_zero 0 (by omega)); exact this
theorem rep_fb (m : Int) (hm : -4 ≤ m ∧ m ≤ 4) : Rep single 0 (fbB m) m := by
  obtain rfl | rfl | rfl | rfl | rfl | rfl | rfl | rfl | rfl : m = 0 ∨ m = 1 ∨ m = 2 ∨ m = 3 ∨ m = 4 ∨ m = -1 ∨ m = -2 ∨ m = -3 ∨ m = -4 := by omega
  · exact rep_zero 0 (by omega)
  · exact rep_p1
  · exact rep_mk (j := 22) (neg := false) (mag := 8388608) (place := -22) (by kernel_rfl) rfl (by omega) (by decide)
  · exact rep_mk (j := 22) (neg := false) (mag := 12582912) (place := -22) (by kernel_rfl) rfl (by omega) (by decide)
  · exact rep_mk (j := 21) (neg := false) (mag := 8388608) (place := -21) (by kernel_rfl) rfl (by omega) (by decide)
  · exact rep_n1
  · exact rep_mk (j := 22) (neg := true) (mag := 8388608) (place := -22) (by kernel_rfl) rfl (by omega) (by decide)
  · exact rep_mk (j := 22) (neg := true) (mag := 12582912) (place := -22) (by kernel_rfl) rfl (by omega) (by decide)
  · exact rep_mk (j := 21) (neg := true) (mag := 8388608) (place := -21) (by kernel_rfl) rfl (by omega) (by decide)
theorem qp_rep (q : Nat) (h : q < 4) : RepC 0 (qp q) (uI q) := by
  obtain rfl | rfl | rfl | rfl : q = 0 ∨ q = 1 ∨ q = 2 ∨ q = 3 := by omega
  · exact ⟨rep_p1, rep_zero 0 (by omega)⟩
  · exact ⟨rep_zero 0 (by omega), rep_p1⟩
  · exact ⟨rep_n1, rep_zero 0 (by omega)⟩
  · exact ⟨rep_zero 0 (by omega), rep_n1⟩
theorem qz_rep (q : Nat) (h : q < 4) : RepC 0 (qz q) (uI q) := by
  obtain rfl | rfl | rfl | rfl : q = 0 ∨ q = 1 ∨ q = 2 ∨ q = 3 := by omega
  · exact ⟨rep_p1, rep_zero 0 (by omega)⟩
  · exact ⟨rep_nz, rep_p1⟩
  · exact ⟨rep_n1, rep_nz⟩
  · exact ⟨rep_zero 0 (by omega), rep_n1⟩
theorem uI_bd (q : Nat) : (uI q).1.natAbs ≤ 1 ∧ (uI q).2.natAbs ≤ 1 := by
  unfold uI; split <;> decide
theorem rot_eq (q : Nat) (h : q < 4) (p : GI) : ((uI q).1 * p.1 - (uI q).2 * p.2, (uI q).1 * p.2 + (uI q).2 * p.1) = rot q p := by
  obtain rfl | rfl | rfl | rfl : q = 0 ∨ q = 1 ∨ q = 2 ∨ q = 3 := by omega
  all_goals (simp only [uI, rot]; apply Prod.ext <;> simp <;> omega)
theorem rot_bd (q M : Nat) (p : GI) (h : p.1.natAbs ≤ M ∧ p.2.natAbs ≤ M) : (rot q p).1.natAbs ≤ M ∧ (rot q p).2.natAbs ≤ M := by
  unfold rot; split <;> refine ⟨?_, ?_⟩ <;> (try simp only [Int.natAbs_neg]) <;> omega
theorem goodC : MulGood MulOk mulC qp := by
  intro q hq s y p M hs hy hp hM
  have h := mulC_ok (by omega : 0 + s ≤ 50) (qp_rep q hq) hy (uI_bd q) hp (by omega) (by omega) (by omega)
  rw [rot_eq q hq, Nat.zero_add] at h
  exact h
theorem goodS : MulGood OkS mulS qz := by
  intro q hq s y p M hs hy hp hM
  have h := mulS_ok (by omega : 0 + s ≤ 50) (qz_rep q hq) hy (uI_bd q) hp (by omega) (by omega) (by omega)
  rw [rot_eq q hq, Nat.zero_add] at h
  exact ⟨⟨h.1, h.2.1⟩, h.2.2⟩

theorem tr_rep {ok : CB → CB → Prop} {mul : CB → CB → CB} {ph : Nat → CB} (G : MulGood ok mul ph) (sg : Int) : ∀ (d : Nat) (f : Nat → CB) (p : Nat → GI) (s M : Nat), s ≤ 40 → RepF s f p (2 ^ d) → Bd M p (2 ^ d) → 2 ^ d * M < 2 ^ 22 →
    TrOk ok mul ph sg d f ∧ RepF s (tr mul ph sg d f) (trI sg d p) (2 ^ d) ∧ Bd (2 ^ d * M) (trI sg d p) (2 ^ d)
  | 0, f, p, s, M, _, hf, hp, _ => ⟨trivial, hf, by simpa [trI] using hp⟩
  | d + 1, f, p, s, M, hs, hf, hp, hM => by
    have hpow : 2 ^ (d + 1) = 2 * 2 ^ d := by rw [Nat.pow_succ]; omega
    have hM2 : 2 * (2 ^ d * M) < 2 ^ 22 := by rw [hpow, Nat.mul_assoc] at hM; exact hM
    have E := tr_rep G sg d (evn f) (fun i => p (2 * i)) s M hs (fun i hi => hf (2 * i) (by omega)) (fun i hi => hp (2 * i) (by omega)) (by omega)
    have O := tr_rep G sg d (odf f) (fun i => p (2 * i + 1)) s M hs (fun i hi => hf (2 * i + 1) (by omega)) (fun i hi => hp (2 * i + 1) (by omega)) (by omega)
    obtain ⟨e1, e2, e3⟩ := E
    obtain ⟨o1, o2, o3⟩ := O
    have T : ∀ k, k < 2 ^ d → ok (ph (qi sg k)) (tr mul ph sg d (odf f) k) ∧ RepC s (mul (ph (qi sg k)) (tr mul ph sg d (odf f) k)) (rot (qi sg k) (trI sg d (fun i => p (2 * i + 1)) k)) :=
      fun k hk => G (qi sg k) (qi_lt sg k) s _ _ (2 ^ d * M) hs (o2 k hk) (o3 k hk) (by omega)
    have A := fun k (hk : k < 2 ^ d) => addC_ok (by omega : s ≤ 100) (e2 k hk) (T k hk).2 (e3 k hk) (rot_bd (qi sg k) _ _ (o3 k hk)) (by omega)
    have S := fun k (hk : k < 2 ^ d) => subC_ok (by omega : s ≤ 100) (e2 k hk) (T k hk).2 (e3 k hk) (rot_bd (qi sg k) _ _ (o3 k hk)) (by omega)
    refine ⟨⟨e1, o1, ⟨fun k hk => (T k hk).1, fun k hk => (A k hk).1, fun k hk => (S k hk).1⟩⟩, fun i hi => ?_, fun i hi => ?_⟩
    · rw [tr, trI]; unfold bfly bflyI
      by_cases h : i < 2 ^ d
      · rw [if_pos h, if_pos h]; exact (A i h).2
      · rw [if_neg h, if_neg h]; exact (S (i - 2 ^ d) (by omega)).2
    · rw [trI]; unfold bflyI
      rw [hpow, Nat.mul_assoc]
      by_cases h : i < 2 ^ d
      · rw [if_pos h]
        have a := e3 i h
        have b := rot_bd (qi sg i) _ _ (o3 i h)
        simp only; omega
      · rw [if_neg h]
        have a := e3 (i - 2 ^ d) (by omega)
        have b := rot_bd (qi sg (i - 2 ^ d)) _ _ (o3 (i - 2 ^ d) (by omega))
        simp only; omega
/-- the transforms of all lines -/
def linI (s : Int) (d : Nat) (c : Bool) (p : Nat → GI) : Nat → GI := fun i => trI s d (fun b => p (pos c (2 ^ d) (li c (2 ^ d) i) b)) (il c (2 ^ d) i)
theorem RepF.part {s n : Nat} {z : Nat → CB} {p : Nat → GI} (h : RepF s z p n) : RepF s (part z n) p n := by
  intro i hi; unfold Go.Proofs.YtdpdjcehobjohaaGreatDoor.part; rw [if_pos hi]; exact h i hi
theorem lin_rep {ok : CB → CB → Prop} {mul : CB → CB → CB} {ph : Nat → CB} (G : MulGood ok mul ph) (sg : Int) (d : Nat) (hd : d ≤ 2) (c : Bool) (z : Nat → CB) (p : Nat → GI) (s M : Nat) (hs : s ≤ 40)
    (hz : RepF s z p (nn d)) (hp : Bd M p (nn d)) (hM : 2 ^ d * M < 2 ^ 22) :
    LinOk ok mul ph sg d c z ∧ RepF s (lin mul ph sg d c z) (linI sg d c p) (nn d) ∧ Bd (2 ^ d * M) (linI sg d c p) (nn d) := by
  have T : ∀ a, a < 2 ^ d → _ := fun a ha => tr_rep G sg d (cut c (2 ^ d) z a) (fun b => p (pos c (2 ^ d) a b)) s M hs
    (fun b hb => hz _ (pos_lt c d a b hd ha hb)) (fun b hb => hp _ (pos_lt c d a b hd ha hb)) hM
  refine ⟨fun a ha => (T a ha).1, fun i hi => ?_, fun i hi => ?_⟩
  · have h := il_lt c d i hd hi
    exact (T _ h.2).2.1 _ h.1
  · have h := il_lt c d i hd hi
    exact (T _ h.2).2.2 _ h.1
def twoI (s : Int) (d : Nat) (p : Nat → GI) : Nat → GI := linI s d true (linI s d false p)
theorem two_rep {ok : CB → CB → Prop} {mul : CB → CB → CB} {ph : Nat → CB} (G : MulGood ok mul ph) (sg : Int) (d : Nat) (hd : d ≤ 2) (z : Nat → CB) (p : Nat → GI) (s M : Nat) (hs : s ≤ 40)
    (hz : RepF s z p (nn d)) (hp : Bd M p (nn d)) (hM : nn d * M < 2 ^ 22) :
    TwoOk ok mul ph sg d z ∧ RepF s (part (two mul ph sg d z) (nn d)) (twoI sg d p) (nn d) ∧ Bd (nn d * M) (twoI sg d p) (nn d) := by
  have e : 2 ^ d * (2 ^ d * M) = nn d * M := by rw [← Nat.mul_assoc]
  have h1 : 2 ^ d * M ≤ nn d * M := by
    rw [← e]; exact Nat.le_mul_of_pos_left _ (Nat.pow_pos (by omega))
  have A := lin_rep G sg d hd false z p s M hs hz hp (by omega)
  have B := lin_rep G sg d hd true _ _ s (2 ^ d * M) hs A.2.1.part A.2.2 (by rw [e]; exact hM)
  rw [e] at B
  exact ⟨⟨A.1, B.1⟩, B.2.1.part, B.2.2⟩
end Go.Proofs.YtdpdjcehobjohaaGreatDoor
