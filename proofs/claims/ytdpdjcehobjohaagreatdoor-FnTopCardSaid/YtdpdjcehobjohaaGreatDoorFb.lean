/- impl.forth and impl.back on sides of at most 4. -/
import Derived.Test.YtdpdjcehobjohaaGreatDoorLb
import Derived.Test.YtdpdjcehobjohaaGreatDoorLc
namespace Go.Proofs.YtdpdjcehobjohaaGreatDoor
open Go Go.RowKit Go.BigFrame Fl

/-- the side of 2 ^ d -/
abbrev sd (d : Nat) : Int := ((2 ^ d : Nat) : Int)
abbrev nn (d : Nat) : Nat := 2 ^ d * 2 ^ d
def LinOk (ok : CB → CB → Prop) (mul : CB → CB → CB) (ph : Nat → CB) (s : Int) (d : Nat) (c : Bool) (z : Nat → CB) : Prop := ∀ a, a < 2 ^ d → TrOk ok mul ph s d (cut c (2 ^ d) z a)

theorem lines_c (d : Nat) (hd : d ≤ 2) (s : Int) (hs : s = 1 ∨ s = -1) (c : Bool) (z : Nat → CB) (hz : LinOk MulOk mulC qp s d c z) (w : World) :
    Calls Tryz.prog 90 #[.agg (cellsV (sd d) z), .int .i64 s, .bool c] w fun e w' => e = .returned (.agg (cellsV (sd d) (part (lin mulC qp s d c z) (nn d)))) ∧ Below w.heap.size w w' := by
  obtain rfl | rfl | rfl : d = 0 ∨ d = 1 ∨ d = 2 := by omega
  · cases c
    · exact lines1false_c s hs z hz w
    · exact lines1true_c s hs z hz w
  · cases c
    · exact lines2false_c s hs z hz w
    · exact lines2true_c s hs z hz w
  · cases c
    · exact lines4false_c s hs z hz w
    · exact lines4true_c s hs z hz w

/-- both passes -/
def two (mul : CB → CB → CB) (ph : Nat → CB) (s : Int) (d : Nat) (z : Nat → CB) : Nat → CB := lin mul ph s d true (part (lin mul ph s d false z) (nn d))
def TwoOk (ok : CB → CB → Prop) (mul : CB → CB → CB) (ph : Nat → CB) (s : Int) (d : Nat) (z : Nat → CB) : Prop :=
  LinOk ok mul ph s d false z ∧ LinOk ok mul ph s d true (part (lin mul ph s d false z) (nn d))

set_option maxHeartbeats 400000 in
theorem forth_c (d : Nat) (hd : d ≤ 2) (z : Nat → CB) (hz : TwoOk MulOk mulC qp (-1) d z) (w : World) :
    Calls Tryz.prog 59 #[.agg (cellsV (sd d) z)] w fun e w' => e = .returned (.agg (cellsV (sd d) (part (two mulC qp (-1) d z) (nn d)))) ∧ Below w.heap.size w w' := by
  obtain ⟨n, hn⟩ : ∃ n, n = sd d := ⟨_, rfl⟩
  have LC : Hid (∀ (c : Bool) (z : Nat → CB), LinOk MulOk mulC qp (-1) d c z → ∀ w : World,
    Calls Tryz.prog 90 #[.agg (cellsV n z), .int .i64 (-1), .bool c] w fun e w' => e = .returned (.agg (cellsV n (part (lin mulC qp (-1) d c z) (nn d)))) ∧ Below w.heap.size w w') :=
    Lib.hid fun c z hz w => by rw [hn]; exact lines_c d hd (-1) (.inr rfl) c z hz w
  have H1 := Lib.hid hz.1
  have H2 := Lib.hid hz.2
  rw [← hn]
  clear hz hn
  go_enter Tryz.func59, Tryz.ntmps59
  go_wp2_with (first
    | (refine ld31 rfl _ rfl w.heap.size rfl (al_old _ (al_new (Obj.cells (cellsV n z) 31 (0, 0)) rfl)) ?_)
    | (go_at_call 90
       ((with_reducible refine (LC.out false z H1.out _).mono ?_))
       rintro e w1 ⟨rfl, hb1⟩
       have K1 := Lib.hid (bnext (bal2 w _ _) hb1)
       have K2 := Lib.hid (below_heap' hb1 (al_new (Obj.cells (cellsV 0 zW) 31 (0, 0)) (by simp : w.heap.size + 1 = _)))
       clear hb1)
    | (go_at_call 90
       ((with_reducible refine (LC.out true _ H2.out _).mono ?_))
       rintro e w2 ⟨rfl, hb2⟩
       have K3 := Lib.hid (bnext K1.out hb2)
       have K4 := Lib.hid (below_heap' hb2 K2.out)
       clear hb2)
    | (refine st31 rfl _ _ rfl (w.heap.size + 1) rfl rfl K4.out ?_))
  exact bodyPost_ret (v := .agg _) (results_cell_row rfl _ _ (w.heap.size + 1) 31 _ (0, 0) _ rfl (heap_setRow_same K4.out) Tryz.underlying31 rfl (size31c _ _)) rfl ⟨rfl, below_setRow K3.out (by omega) _⟩

/-- the bits of 1, 4 and 16 -/
def allB (d : Nat) : Nat := if d = 0 then 1065353216 else if d = 1 then 1082130432 else 1098907648
def divC (z : CB) (a : Nat) : CB := (q32 z.1 a, q32 z.2 a)


theorem conv_all (d : Nat) (hd : d ≤ 2) : ∀ W : World, (convert 2 40 (.int .i64 (sd d * sd d))).run Tryz.prog W = .ok (.float .f32 (allB d)) W := by
  obtain rfl | rfl | rfl : d = 0 ∨ d = 1 ∨ d = 2 := by omega
  · intro W; kernel_rfl
  · intro W; kernel_rfl
  · intro W; kernel_rfl

theorem back1_c (z : CB) (a b : Nat) (w : World) (h1 : floatBits .quo .f32 z.1 a = some (q32 z.1 a)) (h2 : floatBits .quo .f32 z.2 a = some (q32 z.2 a)) (ha : At w b (.float .f32 a) 40) :
    Calls Tryz.prog 95 #[cv z, .pointer (some ⟨b, 0, none⟩)] w fun e w' => e = .returned (cv (divC z a)) ∧ w = w' := by
  have k1 := fb h1
  have k2 := fb h2
  have hc := cell_of_heap (j := 0) ha rfl
  clear h1 h2 ha
  go_enter Tryz.func95, Tryz.ntmps95
  go_wp2_with fail
  go_ret; exact ⟨rfl, rfl⟩

set_option maxHeartbeats 400000 in
theorem back_c (d : Nat) (hd : d ≤ 2) (z : Nat → CB) (hz : TwoOk MulOk mulC qp 1 d z)
    (hq : ∀ i, i < nn d → floatBits .quo .f32 (part (two mulC qp 1 d z) (nn d) i).1 (allB d) = some (q32 (part (two mulC qp 1 d z) (nn d) i).1 (allB d)) ∧
      floatBits .quo .f32 (part (two mulC qp 1 d z) (nn d) i).2 (allB d) = some (q32 (part (two mulC qp 1 d z) (nn d) i).2 (allB d))) (w : World) :
    Calls Tryz.prog 63 #[.agg (cellsV (sd d) z)] w fun e w' => e = .returned (.agg (cellsV (sd d) (part (fun i => divC (part (two mulC qp 1 d z) (nn d) i) (allB d)) (nn d)))) ∧ Below w.heap.size w w' := by
  have hcv := conv_all d hd
  have hn3 : sd d = 1 ∨ sd d = 2 ∨ sd d = 4 := by
    obtain rfl | rfl | rfl : d = 0 ∨ d = 1 ∨ d = 2 := by omega
    · exact .inl rfl
    · exact .inr (.inl rfl)
    · exact .inr (.inr rfl)
  have hmm : (sd d * sd d).toNat = nn d := by
    obtain rfl | rfl | rfl : d = 0 ∨ d = 1 ∨ d = 2 := by omega
    · rfl
    · rfl
    · rfl
  obtain ⟨n, hn⟩ : ∃ n, n = sd d := ⟨_, rfl⟩
  have LC : Hid (∀ (c : Bool) (z : Nat → CB), LinOk MulOk mulC qp 1 d c z → ∀ w : World,
    Calls Tryz.prog 90 #[.agg (cellsV n z), .int .i64 1, .bool c] w fun e w' => e = .returned (.agg (cellsV n (part (lin mulC qp 1 d c z) (nn d)))) ∧ Below w.heap.size w w') :=
    Lib.hid fun c z hz w => by rw [hn]; exact lines_c d hd 1 (.inl rfl) c z hz w
  rw [← hn] at hcv hn3 hmm ⊢
  have EC : Hid (∀ (y g : Nat → CB) (caps : Array Value) (w : World)
      (_ : ∀ i : Nat, i < nn d → ∀ w1, Below w.heap.size w w1 → Calls Tryz.prog 95 (#[cv (y i)] ++ caps) w1 fun e w2 => e = .returned (cv (g i)) ∧ Below w1.heap.size w1 w2),
      Calls Tryz.prog 94 #[.agg (cellsV n y), .func (.func 95) #[] caps] w fun e w' => e = .returned (.agg (cellsV n (part g (nn d)))) ∧ Below w.heap.size w w') :=
    Lib.hid fun y g caps w hf => by rw [← hmm]; exact each_c n hn3 y g 95 caps w isFn95 (fun i hi w1 hb => hf i (by rw [← hmm]; omega) w1 hb)
  have H1 := Lib.hid hz.1
  have H2 := Lib.hid hz.2
  have HQ := Lib.hid hq
  have b1 : 1 ≤ n * n ∧ n * n ≤ 16 := by rcases hn3 with rfl | rfl | rfl <;> omega
  clear hz hn hq hmm
  go_enter Tryz.func63, Tryz.ntmps63
  go_wp2_with (first
    | (refine ld31 rfl _ rfl w.heap.size rfl (al_old _ (al_old _ (al_new (Obj.cells (cellsV n z) 31 (0, 0)) rfl))) ?_)
    | (go_at_call 90
       ((with_reducible refine (LC.out false z H1.out _).mono ?_))
       rintro e w1 ⟨rfl, hb1⟩
       have K1 := Lib.hid (bnext (bal3 w _ _ _) hb1)
       have K2 := Lib.hid (below_heap' hb1 (al_old _ (al_new (Obj.cells (cellsV 0 zW) 31 (0, 0)) (by simp : w.heap.size + 1 = _))))
       have K5 := Lib.hid (below_heap' hb1 (al_new (Obj.cells #[.float .f32 (allB d)] 40 (0, 0)) (by simp : w.heap.size + 1 + 1 = _)))
       clear hb1)
    | (go_at_call 90
       ((with_reducible refine (LC.out true _ H2.out _).mono ?_))
       rintro e w2 ⟨rfl, hb2⟩
       have K3 := Lib.hid (bnext K1.out hb2)
       have K4 := Lib.hid (below_heap' hb2 K2.out)
       have K6 := Lib.hid (below_heap' hb2 K5.out)
       clear hb2)
    | (go_at_call 94
       ((with_reducible refine (EC.out _ (fun i => divC (part (two mulC qp 1 d z) (nn d) i) (allB d)) _ _ ?_).mono ?_))
       · intro i hi w3 hb
         exact (back1_c _ _ _ _ (HQ.out i hi).1 (HQ.out i hi).2 (below_heap' hb K6.out)).mono fun _ _ ⟨h1, h2⟩ => ⟨h1, h2 ▸ Below.refl _ _⟩
       rintro e w3 ⟨rfl, hb3⟩
       have K7 := Lib.hid (bnext K3.out hb3)
       have K8 := Lib.hid (below_heap' hb3 K4.out)
       clear hb3)
    | (refine st31 rfl _ _ rfl (w.heap.size + 1) rfl rfl K8.out ?_))
  exact bodyPost_ret (v := .agg _) (results_cell_row rfl _ _ (w.heap.size + 1) 31 _ (0, 0) _ rfl (heap_setRow_same K8.out) Tryz.underlying31 rfl (size31c _ _)) rfl ⟨rfl, below_setRow K7.out (by omega) _⟩
end Go.Proofs.YtdpdjcehobjohaaGreatDoor
