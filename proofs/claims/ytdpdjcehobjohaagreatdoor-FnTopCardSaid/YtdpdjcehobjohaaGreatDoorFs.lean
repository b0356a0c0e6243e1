/- Rows of float32; impl.areNumbers, impl.finite, slices.Clone, impl.listCode and laws.lists9 on them. -/
import Derived.Test.YtdpdjcehobjohaaGreatDoorWr
namespace Go.Proofs.YtdpdjcehobjohaaGreatDoor
open Go Go.RowKit Go.BigFrame Fl

abbrev fv (x : Nat) : Value := .float .f32 x
def fvs (m : Nat) (f : Nat → Nat) : List Value := (List.range m).map fun i => fv (f i)
theorem fvs_length (m : Nat) (f : Nat → Nat) : (fvs m f).length = m := by simp [fvs]
theorem fvs_at (m : Nat) (f : Nat → Nat) (i : Nat) (h : i < m) : (fvs m f)[i]? = some (fv (f i)) := by simp [fvs, h]
theorem fvs_succ (m : Nat) (f : Nat → Nat) : fvs m f ++ [fv (f m)] = fvs (m + 1) f := by simp [fvs, List.range_succ]
theorem fvs_ext {m : Nat} {f g : Nat → Nat} (h : ∀ i, i < m → f i = g i) : fvs m f = fvs m g := by
  unfold fvs; apply List.map_congr_left; intro i hi; rw [h i (List.mem_range.1 hi)]
def updF (f : Nat → Nat) (i v : Nat) : Nat → Nat := fun j => if j = i then v else f j

/-- A slice of m float32 in a block from B on. -/
def RowF (w : World) (B : Nat) (v : Value) (m : Nat) (f : Nat → Nat) : Prop :=
  ∃ b o cap, v = .slice (some ⟨b, o, none⟩) m cap ∧ B ≤ b ∧ m ≤ cap ∧ ∀ i, i < m → w.cell? ⟨b, o + i, none⟩ = some (fv (f i))
theorem RowF.below {w w' : World} {B C m : Nat} {v : Value} {f : Nat → Nat} (h : RowF w B v m f) (hb : Below C w w') (hC : w.heap.size ≤ C) : RowF w' B v m f := by
  obtain ⟨b, o, cap, rfl, h1, h2, h3⟩ := h
  refine ⟨b, o, cap, rfl, h1, h2, fun i hi => ?_⟩
  have := h3 i hi
  rw [hb.cell (p := ⟨b, o + i, none⟩) (Nat.lt_of_lt_of_le (block_lt_of_cell this) hC)]; exact this
theorem RowF.weak {w : World} {B C m : Nat} {v : Value} {f : Nat → Nat} (h : RowF w B v m f) (hC : C ≤ B) : RowF w C v m f := by
  obtain ⟨b, o, cap, rfl, h1, h2⟩ := h
  exact ⟨b, o, cap, rfl, by omega, h2⟩
theorem RowF.of_own {w : World} {B m : Nat} {v : Value} {f : Nat → Nat} (h : w.ownsRow B 40 1 v m (fvs m f)) (hm : 0 < m) : RowF w B v m f := by
  rcases h.2 with ⟨_, rfl⟩ | ⟨g, cap, cur, rfl, hb, hg, hnc, _, hcs, htake⟩
  · omega
  · refine ⟨g, 0, cap, rfl, hb, hnc, fun i hi => ?_⟩
    have := h.cells (g := g) rfl i (fv (f i)) (fvs_at m f i hi)
    have hadd : (⟨g, 0, none⟩ : Addr).add i = ⟨g, 0 + i, none⟩ := by unfold Addr.add; split <;> simp_all
    rw [hadd] at this
    exact this
/-- An owned row that is not empty, laid open. -/
theorem own_open {w : World} {B m : Nat} {v : Value} {f : Nat → Nat} (h : w.ownsRow B 40 1 v m (fvs m f)) (hm : 0 < m) :
    ∃ g cap cur, v = .slice (some ⟨g, 0, none⟩) m cap ∧ B ≤ g ∧ w.heap[g]? = some (.cells cur 40 (0, 0)) ∧ m ≤ cap ∧ cap ≤ maxLen ∧ cur.size = cap ∧ ∀ i, i < m → cur[i]? = some (fv (f i)) := by
  rcases h.2 with ⟨_, rfl⟩ | ⟨g, cap, cur, rfl, hb, hg, hnc, hm', hcs, htake⟩
  · omega
  · refine ⟨g, cap, cur, rfl, hb, hg, hnc, hm', by simpa using hcs, fun i hi => ?_⟩
    have h1 := fvs_at m f i hi
    rw [← htake, List.getElem?_take] at h1
    rw [if_pos (by omega)] at h1
    simpa using h1
theorem own_shut {w : World} {B m g cap : Nat} {cur : Array Value} {f : Nat → Nat} (hB : B ≤ g) (hg : w.heap[g]? = some (.cells cur 40 (0, 0))) (hc : m ≤ cap) (hm : cap ≤ maxLen) (hs : cur.size = cap)
    (h : ∀ i, i < m → cur[i]? = some (fv (f i))) : w.ownsRow B 40 1 (.slice (some ⟨g, 0, none⟩) m cap) m (fvs m f) := by
  refine ⟨by simp [fvs_length], .inr ⟨g, cap, cur, rfl, hB, hg, hc, hm, by simpa using hs, ?_⟩⟩
  apply List.ext_getElem?
  intro i
  rw [List.getElem?_take]
  by_cases hi : i < m
  · rw [if_pos (by omega), fvs_at m f i hi]; simpa using h i hi
  · rw [if_neg (by omega)]; symm; rw [List.getElem?_eq_none_iff, fvs_length]; omega
/-- A cell of an owned row is written. -/
theorem own_set {w : World} {B m g cap : Nat} {f : Nat → Nat} (h : w.ownsRow B 40 1 (.slice (some ⟨g, 0, none⟩) m cap) m (fvs m f)) (i x : Nat) (hi : i < m) :
    (w.setCell ⟨g, i, none⟩ (fv x)).ownsRow B 40 1 (.slice (some ⟨g, 0, none⟩) m cap) m (fvs m (updF f i x)) := by
  obtain ⟨g', cap', cur, hv, hb, hg, hc, hm, hs, hcell⟩ := own_open h (by omega)
  injection hv with e1 e2 e3
  injection e1 with e1
  injection e1 with e1
  subst e1; subst e3
  refine own_shut hb (heap_setCell_same w g i _ _ (fv x) hg) hc hm (by simpa using hs) fun j hj => ?_
  rw [Array.getElem?_setIfInBounds]
  by_cases e : i = j
  · subst e; rw [if_pos rfl, if_pos (by omega)]; simp [updF]
  · rw [if_neg e, hcell j hj]
    have : ¬ j = i := fun q => e q.symm
    simp [updF, this]

theorem eq_bne {o : Option Ordering} (h : o = some .eq) : (o != some .eq) = false := by rw [h]; rfl
theorem isFn127 : IsFn 127 := fun _ _ => by kernel_rfl
theorem isFn67 : IsFn 67 := fun _ _ => by kernel_rfl

theorem areNumbers1_c (x : Nat) (w : World) (h : FinOk x) :
    Calls Tryz.prog 127 #[fv x] w fun e w' => e = .returned (.bool false) ∧ w = w' := by
  go_enter Tryz.func127, Tryz.ntmps127
  go_wp2_with (go_at_call 71; ((with_reducible refine (isNumber_t x _ h).mono ?_)); rintro e w1 ⟨rfl, rfl⟩)
  go_ret; exact ⟨rfl, rfl⟩

set_option maxHeartbeats 400000 in
theorem indexFunc_c (v : Value) (m : Nat) (hm : m ≤ 1000) (f : Nat → Nat) (w : World) (hv : RowF w 0 v m f) (hf : ∀ i, i < m → FinOk (f i)) :
    Calls Tryz.prog 153 #[v, .func (.func 127) #[] #[]] w fun e w' => e = .returned (.int .i64 (-1)) ∧ w = w' := by
  obtain ⟨b, o, cap, rfl, -, -, hc⟩ := hv
  have HF := Lib.hid hf
  have HC := Lib.hid hc
  have K := isFn127
  clear hf hc
  go_enter Tryz.func153, Tryz.ntmps153
  go_wp2_with fail
  go_loopw [8] (fun c wr => ∃ j : Nat, j ≤ m ∧ c = .int .i64 j ∧ w = wr) (fun c _ => (m - intOf c).toNat)
  case atStart => exact ⟨0, by omega, rfl, rfl⟩
  case round =>
    obtain ⟨j, hj, rfl, rfl⟩ := hrel
    by_cases hlt : j < m
    · have hc0 := HC.out j hlt
      go_wp2_with (first | ((with_reducible refine (areNumbers1_c _ _ (HF.out j hlt)).mono ?_); rintro e w1 ⟨rfl, rfl⟩))
      exact ⟨⟨j + 1, by omega, by go_num, trivial⟩, by simp [intOf]; omega⟩
    · go_wp2_with fail
      go_ret; exact ⟨rfl, rfl⟩
theorem containsFunc_c (v : Value) (m : Nat) (hm : m ≤ 1000) (f : Nat → Nat) (w : World) (hv : RowF w 0 v m f) (hf : ∀ i, i < m → FinOk (f i)) :
    Calls Tryz.prog 126 #[v, .func (.func 127) #[] #[]] w fun e w' => e = .returned (.bool false) ∧ w = w' := by
  go_enter Tryz.func126, Tryz.ntmps126
  go_wp2_with (go_at_call 153; ((with_reducible refine (indexFunc_c v m hm f _ hv hf).mono ?_)); rintro e w1 ⟨rfl, rfl⟩)
  go_ret; exact ⟨rfl, rfl⟩
theorem areNumbers_c (v : Value) (m : Nat) (hm : m ≤ 1000) (f : Nat → Nat) (w : World) (hv : RowF w 0 v m f) (hf : ∀ i, i < m → FinOk (f i)) :
    Calls Tryz.prog 99 #[v] w fun e w' => e = .returned (.bool true) ∧ w = w' := by
  go_enter Tryz.func99, Tryz.ntmps99
  go_wp2_with (go_at_call 126; ((with_reducible refine (containsFunc_c v m hm f _ hv hf).mono ?_)); rintro e w1 ⟨rfl, rfl⟩)
  go_ret; exact ⟨rfl, rfl⟩
theorem finite_c (v : Value) (m : Nat) (hm : m ≤ 1000) (f : Nat → Nat) (w : World) (hv : RowF w 0 v m f) (hf : ∀ i, i < m → FinOk (f i)) :
    Calls Tryz.prog 68 #[v] w fun e w' => e = .returned (.tuple #[v, .int .i64 0]) ∧ w = w' := by
  go_enter Tryz.func68, Tryz.ntmps68
  go_wp2_with (go_at_call 99; ((with_reducible refine (areNumbers_c v m hm f _ hv hf).mono ?_)); rintro e w1 ⟨rfl, rfl⟩)
  go_ret2; exact ⟨rfl, rfl⟩
set_option maxHeartbeats 400000 in
theorem listCode_c (v : Value) (m : Nat) (hm : m = 1 ∨ m = 4 ∨ m = 16) (f : Nat → Nat) (w : World) (hv : RowF w 0 v m f) (hf : ∀ i, i < m → FinOk (f i)) :
    Calls Tryz.prog 66 #[v, .func (.func 67) #[] #[]] w fun e w' => e = .returned (.int .i64 0) ∧ w = w' := by
  have K := isFn67
  have HV := Lib.hid hv
  have HF := Lib.hid hf
  obtain ⟨b, o, cap, rfl, -, -, -⟩ := hv
  clear hf
  go_enter Tryz.func66, Tryz.ntmps66
  go_wp2_with (first
    | (go_at_call 99; ((with_reducible refine (areNumbers_c _ m (by omega) f _ HV.out HF.out).mono ?_)); rintro e w1 ⟨rfl, rfl⟩)
    | ((with_reducible refine (isLength_t m _ (by omega)).mono ?_); rintro e w1 ⟨rfl, rfl⟩))
  go_ret; exact ⟨rfl, rfl⟩
set_option maxRecDepth 100000 in
set_option maxHeartbeats 1000000 in
theorem cloneF_c (v : Value) (m : Nat) (hm : 0 < m ∧ m ≤ 1000) (f : Nat → Nat) (w : World) (hv : RowF w 0 v m f) :
    Calls Tryz.prog 101 #[v] w fun e w' => (∃ v', e = .returned v' ∧ w'.ownsRow w.heap.size 40 1 v' m (fvs m f)) ∧ Below w.heap.size w w' := by
  obtain ⟨i0, hi, hz0, hz1, hz2⟩ := info_parts info40
  have H0 : (w.alloc (.cells #[] 40 (0, 0))).ownsRow w.heap.size 40 1 (.slice (some ⟨w.heap.size, 0, none⟩) 0 0) 0 [] := World.ownsRow_made w #[] 0 (by omega) (by decide) rfl
  obtain ⟨b, o, cap, rfl, -, -, hc⟩ := hv
  have HC : Hid (∀ j u, (fvs m f)[j]? = some u → (w.alloc (.cells #[] 40 (0, 0))).cell? ((⟨b, o, none⟩ : Addr).add j) = some u) := Lib.hid fun j u hj => by
    have hjm : j < m := by have := (List.getElem?_eq_some_iff.1 hj).1; rwa [fvs_length] at this
    rw [fvs_at m f j hjm] at hj
    injection hj with hj
    subst hj
    have hadd : (⟨b, o, none⟩ : Addr).add j = ⟨b, o + j, none⟩ := by unfold Addr.add; split <;> simp_all
    rw [hadd]; exact cell_al _ (hc j hjm)
  clear hc
  go_enter Tryz.func101, Tryz.ntmps101
  go_wp2_with (at_builtin; refine wpList_append_own _ rfl (.tmp 5) (.tmp 6) 41 rfl w.heap.size 40 i0 (.float .f32 0) 1 4 Tryz.underlying41 hi hz0 hz1 hz2 rfl (by decide) _ 0 [] rfl H0 ⟨b, o, none⟩ m cap (fvs m f) rfl (by simp [fvs_length]) HC.out (by intro u hu; simp only [fvs, List.mem_map] at hu; obtain ⟨i, -, rfl⟩ := hu; rfl) (by simp only [maxLen]; omega) (by omega) (by simp) ?_; intro v' w' h1 h2 _)
  go_ret
  exact ⟨⟨v', rfl, by simpa using h1⟩, (bal1 w _).trans (grown_below h2 (fun k hk => (H0.lt k hk).1) (by simp))⟩
set_option maxHeartbeats 400000 in
theorem lists9_c (v u : Value) (m : Nat) (hm : m ≤ 1000) (f g : Nat → Nat) (w : World) (hv : RowF w 0 v m f) (hu : RowF w 0 u m g) (hq : ∀ i, i < m → Ieee.single.order (f i) (g i) = some Ordering.eq) :
    Calls Tryz.prog 19 #[v, u] w fun e w' => e = .returned (.bool true) ∧ Below w.heap.size w w' := by
  obtain ⟨b1, o1, c1, rfl, -, -, hc1⟩ := hv
  obtain ⟨b2, o2, c2, rfl, -, -, hc2⟩ := hu
  have HQ := Lib.hid hq
  have HC1 := Lib.hid hc1
  have HC2 := Lib.hid hc2
  clear hq hc1 hc2
  go_enter Tryz.func19, Tryz.ntmps19
  go_wp2_with fail
  go_loopw [5] (fun c wr => ∃ j : Nat, j ≤ m ∧ c = .int .i64 j ∧ Below w.heap.size w wr) (fun c _ => (m - intOf c).toNat)
  case atStart => exact ⟨0, by omega, rfl, Below.refl _ _⟩
  case round =>
    obtain ⟨j, hj, rfl, hb⟩ := hrel
    by_cases hlt : j < m
    · have a1 : ∀ x : Under wr, x.1.cell? ⟨b1, o1 + j, none⟩ = some (fv (f j)) := fun x => x.cell ((hb.cell (p := ⟨b1, o1 + j, none⟩) (block_lt_of_cell (HC1.out j hlt))).trans (HC1.out j hlt))
      have a2 : ∀ x : Under wr, x.1.cell? ⟨b2, o2 + j, none⟩ = some (fv (g j)) := fun x => x.cell ((hb.cell (p := ⟨b2, o2 + j, none⟩) (block_lt_of_cell (HC2.out j hlt))).trans (HC2.out j hlt))
      have q := eq_bne (o := FloatKind.f32.format.order (f j) (g j)) (HQ.out j hlt)
      have HB := Lib.hid hb
      clear hb
      go_wp2_with fail
      refine wp_region_quietC (UC wr) (by kernel_rfl) (by kernel_rfl) (UC.drew wr) ?_
      repeat (go_big_quiet_step (fail))
      refine wpQuiet_nil ?_
      rintro _ ⟨x, rfl⟩
      clear a1 a2
      go_wp2_with fail
      exact ⟨⟨j + 1, by omega, by go_num, under_below HB.out x⟩, by simp [intOf]; omega⟩
    · go_wp2_with fail
      go_ret; exact ⟨rfl, hb⟩
end Go.Proofs.YtdpdjcehobjohaaGreatDoor
