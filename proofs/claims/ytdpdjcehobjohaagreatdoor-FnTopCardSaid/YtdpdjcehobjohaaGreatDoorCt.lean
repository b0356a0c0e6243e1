/- The texts of waves of small whole numbers, as impl.WaveText writes them. -/
import Derived.Test.YtdpdjcehobjohaaGreatDoorPt
import Derived.Test.YtdpdjcehobjohaaGreatDoorSh
namespace Go.Proofs.YtdpdjcehobjohaaGreatDoor
open Go Go.RowKit Go.BigFrame Fl

def decT (n : Int) : ByteArray := ⟨#[48 + UInt8.ofNat n.toNat]⟩
theorem decT_size (n : Int) : (decT n).size = 1 := rfl
theorem decimal_c (n : Int) (hn : n = 1 ∨ n = 2 ∨ n = 4) (w : World) : Calls Tryz.prog 21 #[.int .i64 n] w fun e w' => e = .returned (.string (decT n)) ∧ w = w' := by
  have F : ∀ w, Calls Tryz.prog 72 #[.int .i64 n, .int .i64 10] w fun e w' => e = .returned (.string (decT n)) ∧ w = w' := by
    intro w
    have b : 0 ≤ n ∧ n < 100 := by omega
    go_enter Tryz.func72, Tryz.ntmps72
    go_wp2_with (go_at_call 102; ((with_reducible refine (small_c n hn _).mono ?_)); rintro e w' ⟨rfl, rfl⟩)
    go_ret; exact ⟨rfl, rfl⟩
  have G : Hid (∀ w, Calls Tryz.prog 38 #[.int .i64 n, .int .i64 10] w fun e w' => e = .returned (.string (decT n)) ∧ w = w') := Lib.hid (by
    intro w
    have FF := Lib.hid F
    clear F
    go_enter Tryz.func38, Tryz.ntmps38
    go_wp2_with (go_at_call 72; ((with_reducible refine (FF.out _).mono ?_)); rintro e w' ⟨rfl, rfl⟩)
    go_ret; exact ⟨rfl, rfl⟩)
  clear F
  go_enter Tryz.func21, Tryz.ntmps21
  go_wp2_with (go_at_call 38; ((with_reducible refine (G.out _).mono ?_)); rintro e w' ⟨rfl, rfl⟩)
  go_ret; exact ⟨rfl, rfl⟩

theorem hexT_size (m : Int) : (hexT m).size ≤ 9 := by
  unfold hexT; repeat (first | (show ByteArray.size _ ≤ 9; decide) | split)
abbrev fbC (a b : Int) : CB := (fbB a, fbB b)
def wordT (a b : Int) : ByteArray := hexT a ++ ⟨#[44]⟩ ++ hexT b
theorem wordT_size (a b : Int) : (wordT a b).size ≤ 19 := by
  unfold wordT
  have := hexT_size a
  have := hexT_size b
  simp only [ByteArray.size_append]
  show _ + 1 + _ ≤ 19
  omega
set_option maxHeartbeats 400000 in
theorem complexText_c (a b : Int) (ha : -4 ≤ a ∧ a ≤ 4) (hb : -4 ≤ b ∧ b ≤ 4) (w : World) (ht : Tab w) :
    Calls Tryz.prog 39 #[cv (fbC a b)] w fun e w' => e = .returned (.string (wordT a b)) ∧ Below w.heap.size w w' := by
  have s1 := hexT_size a
  have s2 := hexT_size b
  have H1 := Lib.hid (placeText_c a ha w ht)
  have H2 : Hid (∀ w1, Below w.heap.size w w1 → Calls Tryz.prog 73 #[fv (fbB b)] w1 fun e w' => e = .returned (.string (hexT b)) ∧ Below w1.heap.size w1 w') := Lib.hid fun w1 h1 => placeText_c b hb w1 (ht.below h1)
  clear ht
  go_enter Tryz.func39, Tryz.ntmps39
  go_wp2_with (first
    | (go_at_call 73; ((with_reducible refine (H1.out).mono ?_)); rintro e w1 ⟨rfl, hb1⟩; have HB1 := Lib.hid hb1; clear hb1)
    | (go_at_call 73; ((with_reducible refine (H2.out _ HB1.out).mono ?_)); rintro e w2 ⟨rfl, hb2⟩))
  go_ret; exact ⟨rfl, bnext HB1.out hb2⟩

def wl (m : Nat) (A B : Nat → Int) : List ByteArray := (List.range m).map fun i => wordT (A i) (B i)
theorem wl_length (m : Nat) (A B : Nat → Int) : (wl m A B).length = m := by simp [wl]
theorem wl_at (m : Nat) (A B : Nat → Int) (i : Nat) (h : i < m) : (wl m A B)[i]? = some (wordT (A i) (B i)) := by simp [wl, h]
def wvs (m : Nat) (A B : Nat → Int) : List Value := (wl m A B).map Value.string
theorem wvs_succ (m : Nat) (A B : Nat → Int) : wvs m A B ++ [.string (wordT (A m) (B m))] = wvs (m + 1) A B := by simp [wvs, wl, List.range_succ]
theorem wvs_length (m : Nat) (A B : Nat → Int) : (wvs m A B).length = m := by simp [wvs, wl]
/-- the words with blanks between them -/
def joinT (m : Nat) (A B : Nat → Int) : ByteArray := ⟨(Lib.join ((wl m A B).map (·.data.toList)) [32]).toArray⟩
theorem lens_le (xs : List ByteArray) (h : ∀ x ∈ xs, x.size ≤ 19) : Lib.lens (xs.map (·.data.toList)) ≤ 19 * xs.length := by
  induction xs with
  | nil => simp [Lib.lens]
  | cons x r ih =>
    have h1 := ih (fun y hy => h y (by simp [hy]))
    have h2 : x.data.toList.length ≤ 19 := by have := h x (by simp); simpa using this
    simp only [Lib.lens, List.map_cons, List.sum_cons, List.length_cons] at h1 ⊢
    omega
theorem join_le (xs : List ByteArray) (h : ∀ x ∈ xs, x.size ≤ 19) : (Lib.join (xs.map (·.data.toList)) [32]).length ≤ 20 * xs.length := by
  cases xs with
  | nil => simp [Lib.join_nil]
  | cons x r =>
    have h1 := lens_le r (fun y hy => h y (by simp [hy]))
    have h2 : x.data.toList.length ≤ 19 := by have := h x (by simp); simpa using this
    simp only [List.map_cons, Lib.join_cons, List.length_append, Lib.joinTail_length, List.length_map, List.length_cons, List.length_nil]
    omega
theorem wl_le (m : Nat) (A B : Nat → Int) : ∀ x ∈ wl m A B, x.size ≤ 19 := by
  intro x hx
  simp only [wl, List.mem_map] at hx
  obtain ⟨i, -, rfl⟩ := hx
  exact wordT_size _ _
theorem joinT_size (m : Nat) (A B : Nat → Int) : (joinT m A B).size ≤ 20 * m := by
  have := join_le (wl m A B) (wl_le m A B)
  rw [wl_length] at this
  simpa [joinT, ByteArray.size] using this
theorem info9 : (Tryz.prog.info? 9).map (fun i => (i.zero, i.size, i.bytes)) = some (some (.string ⟨#[]⟩), 1, 16) := by kernel_rfl
def Small (m : Nat) (A B : Nat → Int) : Prop := ∀ i, i < m → (-4 ≤ A i ∧ A i ≤ 4) ∧ (-4 ≤ B i ∧ B i ≤ 4)

set_option maxRecDepth 100000 in
set_option maxHeartbeats 1000000 in
theorem cellsText_c (m : Nat) (hm : 0 < m ∧ m ≤ 16) (A B : Nat → Int) (hs : Small m A B) (v : Value) (w : World) (ht : Tab w) (hv : Row w 0 v m (fun i => fbC (A i) (B i))) :
    Calls Tryz.prog 22 #[v] w fun e w' => e = .returned (.string (joinT m A B)) ∧ Below w.heap.size w w' := by
  obtain ⟨i0, hi, hz0, hz1, hz2⟩ := info_parts info9
  obtain ⟨b, o, cap, rfl, -, -, hc⟩ := hv
  have HT := Lib.hid ht
  have HC := Lib.hid hc
  have HS : Hid (∀ i, i < m → (-4 ≤ A i ∧ A i ≤ 4) ∧ (-4 ≤ B i ∧ B i ≤ 4)) := Lib.hid hs
  clear ht hc hs
  go_enter Tryz.func22, Tryz.ntmps22
  go_wp2_with fail
  go_loopw [9, 3] (fun c u wr => ∃ j : Nat, j ≤ m ∧ c = .int .i64 j ∧ Below w.heap.size w wr ∧ wr.ownsRow w.heap.size 9 1 u j (wvs j A B)) (fun c _ _ => (m - intOf c).toNat)
  case atStart => exact ⟨0, by omega, rfl, bal1 _ _, World.ownsRow_made w #[] 0 (by omega) (by decide) rfl⟩
  case round =>
    obtain ⟨j, hj, rfl, hb, ho⟩ := hrel
    by_cases hlt : j < m
    · have hc0 : wr.cell? ⟨b, o + j, none⟩ = some (cv (fbC (A j) (B j))) := (hb.cell (p := ⟨b, o + j, none⟩) (block_lt_of_cell (HC.out j hlt))).trans (HC.out j hlt)
      have HB := Lib.hid hb
      have HO := Lib.hid ho
      clear hb ho
      go_wp2_with (first
        | (go_at_call 39
           ((with_reducible refine (complexText_c _ _ (HS.out j hlt).1 (HS.out j hlt).2 _ (HT.out.below HB.out)).mono ?_))
           rintro e w1 ⟨rfl, hb1⟩
           have HO1 := Lib.hid (own_below (t := 9) HO.out hb1 (Nat.le_refl _))
           have HB1 := Lib.hid (bnext HB.out hb1)
           clear hb1)
        | (at_builtin; refine wpList_app1 _ rfl (.tmp 13) (.tmp 16) 58 rfl w.heap.size 9 i0 (.string ⟨#[]⟩) 16 Tryz.underlying58 hi hz0 hz1 hz2 rfl _ _ _ rfl (HO1.out.alloc _) ⟨w1.heap.size, 0, none⟩ 1 (.string (wordT (A j) (B j))) rfl (by simp) rfl (by omega) (by omega) (by have := HB1.out.size; simp; omega) ?_; intro v' w2 h1 h2 _; have T : Hid (w2.ownsRow w.heap.size 9 1 v' (j + 1) (wvs (j + 1) A B)) := Lib.hid (by rw [← wvs_succ]; exact h1); have HB2 := Lib.hid (HB1.out.trans (((bal1 w1 _).mono HB1.out.size).trans (grown_below h2 (fun k hk => (HO1.out.lt k hk).1) (by have := HB1.out.size; simp; omega)))); clear h1 h2))
      exact ⟨⟨j + 1, by omega, by go_num, HB2.out, T.out⟩, by simp [intOf]; omega⟩
    · have hjm : j = m := by omega
      subst hjm
      have HB := Lib.hid hb
      rcases ho.2 with ⟨_, hz⟩ | ⟨g, cp, cur, rfl, hbg, hg, hnc, -⟩
      · omega
      · have HW : Hid (∀ (k : Nat) (x : ByteArray), (wl j A B)[k]? = some x → wr.cell? ⟨g, 0 + k, none⟩ = some (.string x)) := Lib.hid fun k x hk => by
          have hq : (wvs j A B)[k]? = some (.string x) := by simp [wvs, hk]
          have := ho.cells (g := g) rfl k _ hq
          have hadd : (⟨g, 0, none⟩ : Addr).add k = ⟨g, 0 + k, none⟩ := by unfold Addr.add; split <;> simp_all
          rw [hadd] at this; exact this
        have JC : Hid (Calls Tryz.prog 40 #[.slice (some ⟨g, 0, none⟩) j cp, .string ⟨#[32]⟩] wr fun e w' => e = .returned (.string (joinT j A B)) ∧ Below wr.heap.size wr w') := Lib.hid (by
          have := Tryz.strings_Join g 0 cp (wl j A B) ⟨#[32]⟩ wr HW.out (lt_of_block hg) (by rw [wl_length]; omega) (by rw [wl_length]; exact hnc) (by have := join_le (wl j A B) (wl_le j A B); rw [wl_length] at this; show (Lib.join _ [32]).length ≤ _; omega)
          rw [wl_length] at this
          exact this)
        clear ho hg hb
        go_wp2_with (go_at_call 40; ((with_reducible refine (JC.out).mono ?_)); rintro e w1 ⟨rfl, hb1⟩)
        go_ret; exact ⟨rfl, bnext HB.out hb1⟩

/-- the text of a wave -/
def waveT (n : Int) (m : Nat) (A B : Nat → Int) : ByteArray := decT n ++ ⟨#[58]⟩ ++ joinT m A B

set_option maxRecDepth 100000 in
set_option maxHeartbeats 1000000 in
theorem waveText1_c (A B : Nat → Int) (hs : Small 1 A B) (z : Nat → CB) (hz : ∀ i, i < 1 → z i = fbC (A i) (B i)) (hf : Fine 1 z) (w : World) (ht : Tab w) :
    Calls Tryz.prog 8 #[.agg (cellsV 1 z)] w fun e w' => e = .returned (.tuple #[.string (waveT 1 1 A B), .int .i64 0]) ∧ Below w.heap.size w w' := by
  have sj := joinT_size 1 A B
  have sd1 := decT_size 1
  have HT := Lib.hid ht
  have HZ := Lib.hid hz
  have HS := Lib.hid hs
  clear ht hz hs
  go_enter Tryz.func8, Tryz.ntmps8
  go_wp2_with (first
    | (refine ld31 rfl _ rfl w.heap.size rfl (al_new (Obj.cells (cellsV 1 z) 31 (0, 0)) rfl) ?_)
    | (go_at_call 20
       ((with_reducible refine (isWave_t 1 (by omega) z hf _).mono ?_))
       rintro e w1 ⟨rfl, hb1⟩
       have H0 := Lib.hid (below_heap' hb1 (al_new (Obj.cells (cellsV 1 z) 31 (0, 0)) rfl))
       have HB := Lib.hid (bnext (bal1 w _) hb1)
       clear hb1))
  have f0 : ∀ x : Under w1, x.1.cell? ⟨w.heap.size, 0, none⟩ = some (.int .i64 1) := fun x => x.cell (cell_of_heap H0.out (cellsV_zero 1 z))
  have RW : Hid (∀ x : Under w1, Row x.1 0 (.slice (some ⟨w.heap.size, 1, none⟩) 1 64) 1 (fun i => fbC (A i) (B i))) := Lib.hid fun x =>
    ⟨w.heap.size, 1, 64, rfl, Nat.zero_le _, by omega, fun i hi => (x.cell (cell_of_heap H0.out (cellsV_at 1 z i (by omega)))).trans (congrArg (fun q => some (cv q)) (HZ.out i hi))⟩
  refine wp_region_quietC (UC w1) (by kernel_rfl) (by kernel_rfl) (UC.drew w1) ?_
  repeat (go_big_quiet_step (first | (with_reducible exact under_same (decimal_c 1 (by omega) _)) | (with_reducible exact under_call (cellsText_c 1 (by omega) A B HS.out _ _ (HT.out.below (under_below HB.out _)) (RW.out _)))))
  refine wpQuiet_nil ?_
  rintro _ ⟨x, rfl⟩
  clear f0
  go_wp2_with fail
  go_ret2; exact ⟨rfl, under_below HB.out x⟩


set_option maxRecDepth 100000 in
set_option maxHeartbeats 1000000 in
theorem waveText2_c (A B : Nat → Int) (hs : Small 4 A B) (z : Nat → CB) (hz : ∀ i, i < 4 → z i = fbC (A i) (B i)) (hf : Fine 2 z) (w : World) (ht : Tab w) :
    Calls Tryz.prog 8 #[.agg (cellsV 2 z)] w fun e w' => e = .returned (.tuple #[.string (waveT 2 4 A B), .int .i64 0]) ∧ Below w.heap.size w w' := by
  have sj := joinT_size 4 A B
  have sd1 := decT_size 2
  have HT := Lib.hid ht
  have HZ := Lib.hid hz
  have HS := Lib.hid hs
  clear ht hz hs
  go_enter Tryz.func8, Tryz.ntmps8
  go_wp2_with (first
    | (refine ld31 rfl _ rfl w.heap.size rfl (al_new (Obj.cells (cellsV 2 z) 31 (0, 0)) rfl) ?_)
    | (go_at_call 20
       ((with_reducible refine (isWave_t 2 (by omega) z hf _).mono ?_))
       rintro e w1 ⟨rfl, hb1⟩
       have H0 := Lib.hid (below_heap' hb1 (al_new (Obj.cells (cellsV 2 z) 31 (0, 0)) rfl))
       have HB := Lib.hid (bnext (bal1 w _) hb1)
       clear hb1))
  have f0 : ∀ x : Under w1, x.1.cell? ⟨w.heap.size, 0, none⟩ = some (.int .i64 2) := fun x => x.cell (cell_of_heap H0.out (cellsV_zero 2 z))
  have RW : Hid (∀ x : Under w1, Row x.1 0 (.slice (some ⟨w.heap.size, 1, none⟩) 4 64) 4 (fun i => fbC (A i) (B i))) := Lib.hid fun x =>
    ⟨w.heap.size, 1, 64, rfl, Nat.zero_le _, by omega, fun i hi => (x.cell (cell_of_heap H0.out (cellsV_at 2 z i (by omega)))).trans (congrArg (fun q => some (cv q)) (HZ.out i hi))⟩
  refine wp_region_quietC (UC w1) (by kernel_rfl) (by kernel_rfl) (UC.drew w1) ?_
  repeat (go_big_quiet_step (first | (with_reducible exact under_same (decimal_c 2 (by omega) _)) | (with_reducible exact under_call (cellsText_c 4 (by omega) A B HS.out _ _ (HT.out.below (under_below HB.out _)) (RW.out _)))))
  refine wpQuiet_nil ?_
  rintro _ ⟨x, rfl⟩
  clear f0
  go_wp2_with fail
  go_ret2; exact ⟨rfl, under_below HB.out x⟩


set_option maxRecDepth 100000 in
set_option maxHeartbeats 1000000 in
theorem waveText4_c (A B : Nat → Int) (hs : Small 16 A B) (z : Nat → CB) (hz : ∀ i, i < 16 → z i = fbC (A i) (B i)) (hf : Fine 4 z) (w : World) (ht : Tab w) :
    Calls Tryz.prog 8 #[.agg (cellsV 4 z)] w fun e w' => e = .returned (.tuple #[.string (waveT 4 16 A B), .int .i64 0]) ∧ Below w.heap.size w w' := by
  have sj := joinT_size 16 A B
  have sd1 := decT_size 4
  have HT := Lib.hid ht
  have HZ := Lib.hid hz
  have HS := Lib.hid hs
  clear ht hz hs
  go_enter Tryz.func8, Tryz.ntmps8
  go_wp2_with (first
    | (refine ld31 rfl _ rfl w.heap.size rfl (al_new (Obj.cells (cellsV 4 z) 31 (0, 0)) rfl) ?_)
    | (go_at_call 20
       ((with_reducible refine (isWave_t 4 (by omega) z hf _).mono ?_))
       rintro e w1 ⟨rfl, hb1⟩
       have H0 := Lib.hid (below_heap' hb1 (al_new (Obj.cells (cellsV 4 z) 31 (0, 0)) rfl))
       have HB := Lib.hid (bnext (bal1 w _) hb1)
       clear hb1))
  have f0 : ∀ x : Under w1, x.1.cell? ⟨w.heap.size, 0, none⟩ = some (.int .i64 4) := fun x => x.cell (cell_of_heap H0.out (cellsV_zero 4 z))
  have RW : Hid (∀ x : Under w1, Row x.1 0 (.slice (some ⟨w.heap.size, 1, none⟩) 16 64) 16 (fun i => fbC (A i) (B i))) := Lib.hid fun x =>
    ⟨w.heap.size, 1, 64, rfl, Nat.zero_le _, by omega, fun i hi => (x.cell (cell_of_heap H0.out (cellsV_at 4 z i (by omega)))).trans (congrArg (fun q => some (cv q)) (HZ.out i hi))⟩
  refine wp_region_quietC (UC w1) (by kernel_rfl) (by kernel_rfl) (UC.drew w1) ?_
  repeat (go_big_quiet_step (first | (with_reducible exact under_same (decimal_c 4 (by omega) _)) | (with_reducible exact under_call (cellsText_c 16 (by omega) A B HS.out _ _ (HT.out.below (under_below HB.out _)) (RW.out _)))))
  refine wpQuiet_nil ?_
  rintro _ ⟨x, rfl⟩
  clear f0
  go_wp2_with fail
  go_ret2; exact ⟨rfl, under_below HB.out x⟩

end Go.Proofs.YtdpdjcehobjohaaGreatDoor
