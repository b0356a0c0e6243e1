/- Floats that are small multiples of a power of two: sums, differences, products, quotients by powers of two and conversions of them are exact. Plain lemmas over the words of IEEE 754. -/
import Derived.Laws.FloatArith
namespace Fl
open Ieee

/-- the signed magnitude -/
def sg (neg : Bool) (mag : Nat) : Int := if neg then -(mag : Int) else (mag : Int)

/-- A datum is the number m / 2 ^ s. -/
def DRep (lo : Int) (s : Nat) (d : Datum) (m : Int) : Prop :=
  ∃ neg mag place, d = .number neg mag place ∧ lo ≤ place ∧
    sg neg mag * 2 ^ (place + 4000).toNat = m * 2 ^ (4000 - s)

/-- The word b of the format f is the number m / 2 ^ s (a zero of either sign). -/
def Rep (f : Format) (s b : Nat) (m : Int) : Prop := DRep (-1100) s (f.read b) m

theorem sg_natAbs (neg : Bool) (mag : Nat) : (sg neg mag).natAbs = mag := by unfold sg; split <;> simp

theorem natAbs_mul_pow (a : Int) (k : Nat) : (a * 2 ^ k).natAbs = a.natAbs * 2 ^ k := by
  rw [Int.natAbs_mul, Int.natAbs_pow]; rfl

/-- what 'cut' does to what is divisible -/
theorem cut_exact (neg : Bool) (q d : Nat) : Toward.even.cut neg (q * 2 ^ d) d = q := by
  have hgap : ∃ g, (1 <<< min d ((q * 2 ^ d).log2 + 2)) = g ∧ (q = 0 ∨ g = 2 ^ d) ∧ 0 < g := by
    refine ⟨_, rfl, ?_, ?_⟩
    · by_cases hq : q = 0
      · exact .inl hq
      · right
        rw [Nat.one_shiftLeft]
        congr 1
        have : 2 ^ d ≤ q * 2 ^ d := Nat.le_mul_of_pos_left _ (by omega)
        have hne : q * 2 ^ d ≠ 0 := by
          have := Nat.two_pow_pos d
          exact Nat.mul_ne_zero hq (by omega)
        have := (Nat.le_log2 hne).2 this
        omega
    · rw [Nat.one_shiftLeft]; exact Nat.two_pow_pos _
  obtain ⟨g, hg, hor, hpos⟩ := hgap
  unfold Toward.cut
  simp only [hg]
  rcases hor with rfl | rfl
  · simp
  · simp only [Nat.mul_mod_left, Nat.mul_div_cancel _ hpos]
    have h1 : decide (2 ^ d < 2 * 0) = false := by simp
    have h2 : (2 ^ d == 2 * 0) = false := by
      rw [beq_eq_false_iff_ne]; omega
    simp only [h1, h2]
    simp

/-- The facts on a format that are used. -/
structure Good (f : Format) : Prop where
  hb : f.leastPlace ≤ -140
  hl : -1100 ≤ f.leastPlace
  hroom : ((-f.leastPlace).toNat + 2) * f.binade ≤ f.infRung
  hinf : f.infRung < f.signWeight

theorem good_single : Good single := by
  constructor <;> decide
theorem good_double : Good double := by
  constructor <;> decide

theorem read_word {f : Format} (neg : Bool) (rung : Nat) (h : rung < f.infRung) (hi : f.infRung < f.signWeight) :
    f.read (f.word neg rung) = if rung < f.binade then .number neg rung f.leastPlace else
      .number neg (f.binade + rung % f.binade) (f.leastPlace + (rung / f.binade - 1 : Nat)) := by
  have hr : rung < f.signWeight := by omega
  have h1 : (f.word neg rung / f.signWeight % 2 == 1) = neg := by
    unfold Format.word
    cases neg
    · simp [Nat.div_eq_of_lt hr]
    · simp only [if_true]
      rw [Nat.add_div_left _ (by omega), Nat.div_eq_of_lt hr]; rfl
  have h2 : f.word neg rung % f.signWeight = rung := by
    unfold Format.word
    cases neg
    · simp [Nat.mod_eq_of_lt hr]
    · simp [Nat.mod_eq_of_lt hr]
  unfold Format.read
  simp only [h1, h2, h, if_true]

theorem nearest_rep {f : Format} (hf : Good f) {s : Nat} (hs : s ≤ 100) {neg : Bool} {mag : Nat} {place : Int} {m : Int}
    (h : DRep (-4000) s (.number neg mag place) m) (hm : m.natAbs < 2 ^ (f.fractionBits + 1)) :
    Rep f s (f.nearest neg mag place) m := by
  obtain ⟨neg', mag', place', he, hp, hv⟩ := h
  cases he
  have hB : 0 < f.binade := Nat.two_pow_pos _
  have hroom := hf.hroom
  have hb := hf.hb
  have hl := hf.hl
  unfold Format.nearest
  by_cases h0 : mag = 0
  · subst h0
    simp only [if_true]
    unfold Rep
    rw [read_word _ _ (by 
      have : 0 < ((-f.leastPlace).toNat + 2) * f.binade := Nat.mul_pos (by omega) hB
      omega) hf.hinf, if_pos hB]
    refine ⟨_, _, _, rfl, hl, ?_⟩
    have : m = 0 := by
      have h3 : (0 : Int) = m * 2 ^ (4000 - s) := by rw [← hv]; simp [sg]
      have h4 : (2 : Int) ^ (4000 - s) ≠ 0 := by
        have : (0 : Int) < 2 ^ (4000 - s) := Int.pow_pos (by omega)
        omega
      rcases Int.mul_eq_zero.1 h3.symm with h | h
      · exact h
      · exact absurd h h4
    simp [this, sg]
  · rw [if_neg h0]
    -- the absolute values
    have hva : mag * 2 ^ (place + 4000).toNat = m.natAbs * 2 ^ (4000 - s) := by
      have := congrArg Int.natAbs hv
      rwa [natAbs_mul_pow, natAbs_mul_pow, sg_natAbs] at this
    have hL1 : 2 ^ mag.log2 ≤ mag := Nat.log2_self_le h0
    have hL2 : mag < 2 ^ (mag.log2 + 1) := Nat.lt_log2_self
    -- the place of the last digit
    have hplace : place + mag.log2 - f.fractionBits ≤ -(s : Int) := by
      have h1 : 2 ^ (mag.log2 + (place + 4000).toNat) < 2 ^ (f.fractionBits + 1 + (4000 - s)) := by
        calc 2 ^ (mag.log2 + (place + 4000).toNat) = 2 ^ mag.log2 * 2 ^ (place + 4000).toNat := Nat.pow_add ..
          _ ≤ mag * 2 ^ (place + 4000).toNat := Nat.mul_le_mul_right _ hL1
          _ = m.natAbs * 2 ^ (4000 - s) := hva
          _ < 2 ^ (f.fractionBits + 1) * 2 ^ (4000 - s) := Nat.mul_lt_mul_of_pos_right hm (Nat.two_pow_pos _)
          _ = _ := (Nat.pow_add ..).symm
      have := (Nat.pow_lt_pow_iff_right (by omega : 1 < 2)).1 h1
      omega
    generalize hlast : max (place + mag.log2 - f.fractionBits) f.leastPlace = last
    have hlast1 : last ≤ -(s : Int) := by omega
    have hlast2 : f.leastPlace ≤ last := by omega
    -- what is kept
    have hkept : ∃ kept, Toward.even.cut neg (mag <<< (place - last).toNat) (last - place).toNat = kept ∧
        kept * 2 ^ (last + 4000).toNat = m.natAbs * 2 ^ (4000 - s) := by
      refine ⟨_, rfl, ?_⟩
      by_cases hc : last ≤ place
      · have e1 : (last - place).toNat = 0 := by omega
        rw [e1, Nat.shiftLeft_eq]
        have := cut_exact neg (mag * 2 ^ (place - last).toNat) 0
        rw [Nat.pow_zero, Nat.mul_one] at this
        rw [this, ← hva, Nat.mul_assoc, ← Nat.pow_add]
        congr 2
        omega
      · have e1 : (place - last).toNat = 0 := by omega
        have e2 : mag = m.natAbs * 2 ^ (-(s : Int) - last).toNat * 2 ^ (last - place).toNat := by
          have hpp : 0 < 2 ^ (place + 4000).toNat := Nat.two_pow_pos _
          apply Nat.eq_of_mul_eq_mul_right hpp
          rw [hva, Nat.mul_assoc, Nat.mul_assoc, ← Nat.pow_add, ← Nat.pow_add]
          congr 2
          omega
        rw [e1, Nat.shiftLeft_eq, Nat.pow_zero, Nat.mul_one]
        have := cut_exact neg (m.natAbs * 2 ^ (-(s : Int) - last).toNat) (last - place).toNat
        rw [← e2] at this
        rw [this, Nat.mul_assoc, ← Nat.pow_add]
        congr 2
        omega
    obtain ⟨kept, hk1, hk2⟩ := hkept
    simp only [hk1]
    have hkval : sg neg kept * 2 ^ (last + 4000).toNat = m * 2 ^ (4000 - s) := by
      rw [← hv]
      have hk3 : (kept : Int) * 2 ^ (last + 4000).toNat = mag * 2 ^ (place + 4000).toNat := by
        have := congrArg (fun x : Nat => (x : Int)) (hk2.trans hva.symm)
        simp only [Int.natCast_mul, Int.natCast_pow] at this
        exact this
      unfold sg
      split
      · rw [Int.neg_mul, Int.neg_mul, hk3]
      · exact hk3
    -- its size
    have hkb : kept < 2 * f.binade ∧ (f.leastPlace < last → f.binade ≤ kept) := by
      have hk4 : kept * 2 ^ (last + 4000).toNat = mag * 2 ^ (place + 4000).toNat := hk2.trans hva.symm
      have hpp : 0 < 2 ^ (last + 4000).toNat := Nat.two_pow_pos _
      constructor
      · apply Nat.lt_of_mul_lt_mul_right (a := 2 ^ (last + 4000).toNat)
        rw [hk4]
        calc mag * 2 ^ (place + 4000).toNat < 2 ^ (mag.log2 + 1) * 2 ^ (place + 4000).toNat := Nat.mul_lt_mul_of_pos_right hL2 (Nat.two_pow_pos _)
          _ = 2 ^ (mag.log2 + 1 + (place + 4000).toNat) := (Nat.pow_add ..).symm
          _ ≤ 2 ^ (f.fractionBits + 1 + (last + 4000).toNat) := Nat.pow_le_pow_right (by omega) (by omega)
          _ = 2 * f.binade * 2 ^ (last + 4000).toNat := by rw [Nat.pow_add, Nat.pow_succ, Nat.mul_comm _ 2]; rfl
      · intro hlt
        apply Nat.le_of_mul_le_mul_right _ hpp
        rw [hk4]
        calc f.binade * 2 ^ (last + 4000).toNat = 2 ^ (f.fractionBits + (last + 4000).toNat) := (Nat.pow_add ..).symm
          _ ≤ 2 ^ (mag.log2 + (place + 4000).toNat) := Nat.pow_le_pow_right (by omega) (by omega)
          _ = 2 ^ mag.log2 * 2 ^ (place + 4000).toNat := Nat.pow_add ..
          _ ≤ _ := Nat.mul_le_mul_right _ hL1
    have hrung : (last - f.leastPlace).toNat * f.binade + kept < f.infRung := by
      have h1 : (last - f.leastPlace).toNat * f.binade ≤ (-f.leastPlace).toNat * f.binade := Nat.mul_le_mul_right _ (by omega)
      have h2 : ((-f.leastPlace).toNat + 2) * f.binade = (-f.leastPlace).toNat * f.binade + 2 * f.binade := Nat.add_mul ..
      omega
    rw [Nat.min_eq_left (Nat.le_of_lt hrung)]
    unfold Rep
    rw [read_word _ _ hrung hf.hinf]
    by_cases hz : last = f.leastPlace
    · have e0 : (last - f.leastPlace).toNat = 0 := by omega
      rw [e0, Nat.zero_mul, Nat.zero_add]
      split
      · exact ⟨_, _, _, rfl, hl, by rw [← hkval, hz]⟩
      · rename_i hge
        have e1 : kept / f.binade = 1 := Nat.div_eq_of_lt_le (by omega) (by omega)
        have e2 : f.binade + kept % f.binade = kept := by
          have := Nat.div_add_mod kept f.binade
          rw [e1] at this; omega
        rw [e1, e2]
        exact ⟨_, _, _, rfl, by simp; omega, by rw [← hkval, hz]; simp⟩
    · have hk5 := hkb.2 (by omega)
      have e0 : 1 ≤ (last - f.leastPlace).toNat := by omega
      have e3 : f.binade ≤ (last - f.leastPlace).toNat * f.binade := Nat.le_mul_of_pos_left _ (by omega)
      rw [if_neg (by omega)]
      have e1 : ((last - f.leastPlace).toNat * f.binade + kept) / f.binade = (last - f.leastPlace).toNat + 1 := by
        rw [Nat.mul_comm, Nat.mul_add_div hB]
        have : kept / f.binade = 1 := Nat.div_eq_of_lt_le (by omega) (by omega)
        omega
      have e2 : f.binade + ((last - f.leastPlace).toNat * f.binade + kept) % f.binade = kept := by
        rw [Nat.mul_comm, Nat.mul_add_mod]
        have := Nat.div_add_mod kept f.binade
        have h1 : kept / f.binade = 1 := Nat.div_eq_of_lt_le (by omega) (by omega)
        rw [h1] at this; omega
      rw [e1, e2]
      have e4 : f.leastPlace + ((last - f.leastPlace).toNat + 1 - 1 : Nat) = last := by omega
      rw [e4]
      exact ⟨_, _, _, rfl, by omega, hkval⟩

theorem sg_of_int (t : Int) (z : Bool) : sg (if t = 0 then z else t < 0) t.natAbs = t := by
  unfold sg
  by_cases h : t = 0
  · subst h; simp
  · rw [if_neg h]
    by_cases h2 : t < 0
    · simp only [h2, decide_true, if_true]; omega
    · simp only [h2, decide_false, Bool.false_eq_true, if_false]; omega

theorem signed_eq (neg : Bool) (mag up : Nat) : signed neg mag up = sg neg mag * 2 ^ up := by
  unfold signed sg
  rw [Nat.shiftLeft_eq]
  cases neg <;> simp [Int.neg_mul]

theorem sg_not (neg : Bool) (mag : Nat) : sg (!neg) mag = - sg neg mag := by
  unfold sg; cases neg <;> simp

theorem sg_mul (s t : Bool) (m n : Nat) : sg (s ^^ t) (m * n) = sg s m * sg t n := by
  unfold sg; cases s <;> cases t <;> simp [Int.neg_mul, Int.mul_neg]

theorem DRep.sum {s : Nat} {x y : Datum} {a b : Int} (hx : DRep (-1100) s x a) (hy : DRep (-1100) s y b) :
    ∃ d, x.sum y = some d ∧ DRep (-4000) s d (a + b) := by
  obtain ⟨sx, mx, i, rfl, hi, hvx⟩ := hx
  obtain ⟨sy, my, j, rfl, hj, hvy⟩ := hy
  refine ⟨_, rfl, _, _, _, rfl, by omega, ?_⟩
  rw [sg_of_int, signed_eq, signed_eq, Int.add_mul, Int.add_mul, Int.mul_assoc, Int.mul_assoc, ← Int.pow_add, ← Int.pow_add, ← hvx, ← hvy]
  congr 3 <;> omega

theorem DRep.opposite {lo : Int} {s : Nat} {x : Datum} {a : Int} (hx : DRep lo s x a) : DRep lo s x.opposite (-a) := by
  obtain ⟨sx, mx, i, rfl, hi, hvx⟩ := hx
  exact ⟨_, _, _, rfl, hi, by rw [sg_not, Int.neg_mul, Int.neg_mul, hvx]⟩

theorem DRep.product {s t : Nat} {x y : Datum} {a b : Int} (hs : s ≤ 100) (ht : t ≤ 100) (hx : DRep (-1100) s x a) (hy : DRep (-1100) t y b) :
    ∃ d, x.product y = some d ∧ DRep (-4000) (s + t) d (a * b) := by
  obtain ⟨sx, mx, i, rfl, hi, hvx⟩ := hx
  obtain ⟨sy, my, j, rfl, hj, hvy⟩ := hy
  refine ⟨_, rfl, _, _, _, rfl, by omega, ?_⟩
  have h1 : (2 : Int) ^ 4000 ≠ 0 := by
    have : (0 : Int) < 2 ^ 4000 := Int.pow_pos (by omega)
    exact Int.ne_of_gt this
  apply Int.eq_of_mul_eq_mul_right h1
  rw [sg_mul]
  have e1 : (i + j + 4000).toNat + 4000 = (i + 4000).toNat + (j + 4000).toNat := by omega
  have e2 : 4000 - (s + t) + 4000 = (4000 - s) + (4000 - t) := by omega
  rw [Int.mul_assoc, Int.mul_assoc (a * b), ← Int.pow_add, ← Int.pow_add, e1, e2, Int.pow_add, Int.pow_add]
  rw [← Int.mul_assoc, ← Int.mul_assoc]
  have r1 : sg sx mx * sg sy my * 2 ^ (i + 4000).toNat * 2 ^ (j + 4000).toNat = sg sx mx * 2 ^ (i + 4000).toNat * (sg sy my * 2 ^ (j + 4000).toNat) := by
    ac_rfl
  have r2 : a * b * 2 ^ (4000 - s) * 2 ^ (4000 - t) = a * 2 ^ (4000 - s) * (b * 2 ^ (4000 - t)) := by ac_rfl
  rw [r1, r2, hvx, hvy]

theorem DRep.unique {lo lo' : Int} {s : Nat} {x : Datum} {a b : Int} (hx : DRep lo s x a) (hy : DRep lo' s x b) : a = b := by
  obtain ⟨sx, mx, i, rfl, hi, hvx⟩ := hx
  obtain ⟨sy, my, j, e, hj, hvy⟩ := hy
  cases e
  have h : a * 2 ^ (4000 - s) = b * 2 ^ (4000 - s) := hvx.symm.trans hvy
  have h1 : (2 : Int) ^ (4000 - s) ≠ 0 := by
    have : (0 : Int) < 2 ^ (4000 - s) := Int.pow_pos (by omega)
    exact Int.ne_of_gt this
  exact Int.eq_of_mul_eq_mul_right h1 h

/-- finer units -/
theorem DRep.finer {lo : Int} {s : Nat} {x : Datum} {a : Int} (t : Nat) (hst : s + t ≤ 4000) (hx : DRep lo s x a) : DRep lo (s + t) x (a * 2 ^ t) := by
  obtain ⟨sx, mx, i, rfl, hi, hvx⟩ := hx
  refine ⟨_, _, _, rfl, hi, ?_⟩
  rw [hvx, Int.mul_assoc, ← Int.pow_add]
  congr 2
  omega

theorem Rep.number {f : Format} {s b : Nat} {m : Int} (h : Rep f s b m) : ∃ neg mag place, f.read b = .number neg mag place := by
  obtain ⟨n, mg, p, e, _⟩ := h; exact ⟨n, mg, p, e⟩

theorem write_rep {f : Format} (hf : Good f) {s : Nat} (hs : s ≤ 100) {d : Datum} {m : Int} (h : DRep (-4000) s d m)
    (hm : m.natAbs < 2 ^ (f.fractionBits + 1)) : Rep f s (f.write d) m := by
  obtain ⟨n, mg, p, e, h2⟩ := h
  subst e
  exact nearest_rep hf hs ⟨_, _, _, rfl, h2⟩ hm

theorem Rep.add {f : Format} (hf : Good f) {s x y : Nat} {a b : Int} (hs : s ≤ 100) (hx : Rep f s x a) (hy : Rep f s y b)
    (hm : (a + b).natAbs < 2 ^ (f.fractionBits + 1)) : ∃ r, f.add x y = some r ∧ Rep f s r (a + b) := by
  obtain ⟨d, h1, h2⟩ := DRep.sum hx hy
  exact ⟨f.write d, by simp [Format.add, h1], write_rep hf hs h2 hm⟩

theorem Rep.sub {f : Format} (hf : Good f) {s x y : Nat} {a b : Int} (hs : s ≤ 100) (hx : Rep f s x a) (hy : Rep f s y b)
    (hm : (a - b).natAbs < 2 ^ (f.fractionBits + 1)) : ∃ r, f.sub x y = some r ∧ Rep f s r (a - b) := by
  obtain ⟨d, h1, h2⟩ := DRep.sum hx (DRep.opposite hy)
  exact ⟨f.write d, by simp [Format.sub, h1], write_rep hf hs h2 hm⟩

theorem Rep.mul {f : Format} (hf : Good f) {s t x y : Nat} {a b : Int} (hs : s + t ≤ 100) (hx : Rep f s x a) (hy : Rep f t y b)
    (hm : (a * b).natAbs < 2 ^ (f.fractionBits + 1)) : ∃ r, f.mul x y = some r ∧ Rep f (s + t) r (a * b) := by
  obtain ⟨d, h1, h2⟩ := DRep.product (by omega) (by omega) hx hy
  exact ⟨f.write d, by simp [Format.mul, h1], write_rep hf hs h2 hm⟩

theorem Rep.widen {f g : Format} (hg : Good g) {s x : Nat} {a : Int} (hs : s ≤ 100) (hx : Rep f s x a)
    (hm : a.natAbs < 2 ^ (g.fractionBits + 1)) : Rep g s (g.write (f.read x)) a := by
  obtain ⟨n, mg, p, e, h1, h2⟩ := hx
  exact write_rep hg hs ⟨n, mg, p, e, by omega, h2⟩ hm

theorem Rep.order {f : Format} {s x y : Nat} {a b : Int} (hx : Rep f s x a) (hy : Rep f s y b) :
    f.order x y = some (compare a b) := by
  obtain ⟨sx, mx, i, e1, hi, hvx⟩ := hx
  obtain ⟨sy, my, j, e2, hj, hvy⟩ := hy
  unfold Format.order
  rw [e1, e2]
  unfold Datum.order
  simp only [signed_eq]
  congr 1
  have hx' : sg sx mx * 2 ^ (i - min i j).toNat * 2 ^ (min i j + 4000).toNat = a * 2 ^ (4000 - s) := by
    rw [Int.mul_assoc, ← Int.pow_add, ← hvx]; congr 2; omega
  have hy' : sg sy my * 2 ^ (j - min i j).toNat * 2 ^ (min i j + 4000).toNat = b * 2 ^ (4000 - s) := by
    rw [Int.mul_assoc, ← Int.pow_add, ← hvy]; congr 2; omega
  generalize sg sx mx * 2 ^ (i - min i j).toNat = u at hx'
  generalize sg sy my * 2 ^ (j - min i j).toNat = v at hy'
  have p1 : (0 : Int) < 2 ^ (min i j + 4000).toNat := Int.pow_pos (by omega)
  have p2 : (0 : Int) < 2 ^ (4000 - s) := Int.pow_pos (by omega)
  generalize (2 : Int) ^ (min i j + 4000).toNat = P at *
  generalize (2 : Int) ^ (4000 - s) = Q at *
  have hlt : u < v ↔ a < b := by
    rw [← Int.mul_lt_mul_right p1, hx', hy', Int.mul_lt_mul_right p2]
  have hgt : v < u ↔ b < a := by
    rw [← Int.mul_lt_mul_right p1, hx', hy', Int.mul_lt_mul_right p2]
  rcases Int.lt_trichotomy a b with h | h | h
  · have := hlt.2 h
    rw [Int.compare_eq_lt.2 h, Int.compare_eq_lt.2 this]
  · have h1 : ¬ u < v := fun c => by have := hlt.1 c; omega
    have h2 : ¬ v < u := fun c => by have := hgt.1 c; omega
    have h3 : u = v := by omega
    rw [Int.compare_eq_eq.2 h, Int.compare_eq_eq.2 h3]
  · have := hgt.2 h
    rw [Int.compare_eq_gt.2 h, Int.compare_eq_gt.2 this]

theorem read_mag {f : Format} {b : Nat} {neg : Bool} {mag : Nat} {place : Int} (h : f.read b = .number neg mag place) : mag < 2 ^ (f.fractionBits + 1) := by
  have hB : 0 < f.binade := Nat.two_pow_pos _
  have e : 2 ^ (f.fractionBits + 1) = 2 * f.binade := by rw [Nat.pow_succ, Nat.mul_comm]; rfl
  unfold Format.read at h
  simp only at h
  split at h
  · cases h; omega
  · split at h
    · cases h
      have := Nat.mod_lt (b % f.signWeight) hB
      omega
    · split at h <;> cases h

theorem DRep.coarser {lo : Int} {s : Nat} {x : Datum} {a : Int} (t : Nat) (hst : s + t ≤ 4000) (hx : DRep lo (s + t) x (a * 2 ^ t)) : DRep lo s x a := by
  obtain ⟨sx, mx, i, rfl, hi, hvx⟩ := hx
  refine ⟨_, _, _, rfl, hi, ?_⟩
  rw [hvx, Int.mul_assoc, ← Int.pow_add]
  congr 2
  omega

theorem Rep.finer {f : Format} {s x : Nat} {a : Int} (t : Nat) (hst : s + t ≤ 4000) (hx : Rep f s x a) : Rep f (s + t) x (a * 2 ^ t) := DRep.finer t hst hx

theorem Rep.unique {f : Format} {s x : Nat} {a b : Int} (hx : Rep f s x a) (hy : Rep f s x b) : a = b := DRep.unique hx hy

/-- a quotient by a power of two -/
theorem Rep.divPow {s x y j : Nat} {a : Int} (hs : s + j ≤ 100) (hx : Rep single s x (a * 2 ^ j)) (hy : single.read y = .number false (2 ^ 23) ((j : Int) - 23))
    (hm : a.natAbs < 2 ^ 24) : ∃ r, single.div x y = some r ∧ Rep single s r a := by
  obtain ⟨n, mg, p, e, h1, h2⟩ := hx
  have hmg := read_mag e
  have hlog : mg.log2 ≤ 24 := by
    by_cases h : mg = 0
    · subst h; decide
    · have := (Nat.log2_lt h).2 (show mg < 2 ^ 24 from hmg); omega
  have hd : (single.read x).quotient (single.fractionBits + 2) (single.read y) =
      some (.number n (mg * 2 ^ (single.fractionBits + 2 + 23 - mg.log2 - 22)) (p - ((j : Int) - 23) - (single.fractionBits + 2 + 23 - mg.log2 : Nat) - 1)) := by
    rw [e, hy]
    have hf : single.fractionBits = 23 := rfl
    have e0 : (2 ^ 23 : Nat).log2 = 23 := by decide
    have e1 : (2 ^ 23 : Nat) ≠ 0 := by decide
    have hmore : ∃ k, 23 + 2 + 23 - mg.log2 = k + 23 ∧ 1 ≤ k := ⟨25 - mg.log2, by omega, by omega⟩
    obtain ⟨k, hk, hk1⟩ := hmore
    unfold Datum.quotient
    simp only [hf, e0, if_neg e1, hk, Bool.xor_false]
    have e2 : mg <<< (k + 23) = mg * 2 ^ k * 2 ^ 23 := by rw [Nat.shiftLeft_eq, Nat.pow_add, Nat.mul_assoc]
    rw [e2, Nat.mul_div_cancel _ (by decide), Nat.mul_mod_left]
    have e3 : 2 * (mg * 2 ^ k) + ((0 : Nat) != 0).toNat = mg * 2 ^ (k + 23 - 22) := by
      have : k + 23 - 22 = k + 1 := by omega
      rw [this, Nat.pow_succ]
      simp only [bne_self_eq_false, Bool.toNat_false, Nat.add_zero]
      rw [Nat.mul_comm 2, Nat.mul_assoc]
    rw [e3]
  refine ⟨_, by unfold Format.div; rw [hd]; rfl, ?_⟩
  refine write_rep good_single (by omega) ?_ hm
  have hf : single.fractionBits = 23 := rfl
  rw [hf]
  refine ⟨_, _, _, rfl, by omega, ?_⟩
  have e4 : sg n (mg * 2 ^ (23 + 2 + 23 - mg.log2 - 22)) = sg n mg * 2 ^ (23 + 2 + 23 - mg.log2 - 22) := by
    unfold sg; cases n <;> simp [Int.neg_mul]
  have hp : (0 : Int) < 2 ^ j := Int.pow_pos (by omega)
  apply Int.eq_of_mul_eq_mul_right (Int.ne_of_gt hp)
  rw [e4, Int.mul_assoc, Int.mul_assoc, ← Int.pow_add, ← Int.pow_add, Int.mul_assoc a, Int.mul_comm (2 ^ (4000 - s)), ← Int.mul_assoc a, ← h2]
  congr 2
  omega

end Fl
