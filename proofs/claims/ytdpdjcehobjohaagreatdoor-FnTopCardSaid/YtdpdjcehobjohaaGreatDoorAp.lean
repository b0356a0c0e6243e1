/- Append of one element to a row that the call itself made, with word of where the new row lies; rows of complex numbers. -/
import Derived.Test.YtdpdjcehobjohaaGreatDoorPw
import Derived.OwnWalk
namespace Go.Proofs.YtdpdjcehobjohaaGreatDoor
open Go Go.RowKit Go.BigFrame Fl

theorem run_app1 {P : Program} (w : World) (base : Nat) (t ty e : TypeId) (i : TypeInfo) (z : Value) (bytes : Nat) (ht : P.underlying t = some (.slice e)) (hi : P.info? e = some i) (hz : i.zero = some z)
    (hsize : i.size = 1) (hby : i.bytes = bytes) (hzs : z.cells.size = 1)
    (v : Value) (n : Nat) (xs : List Value) (hown : w.ownsRow base e 1 v n xs)
    (a : Addr) (c : Nat) (u : Value) (hu : w.cell? a = some u) (h1 : u.oneCell' = true)
    (hn : n ≤ 1000000) (hb : bytes ≤ 100) (hbase : base ≤ w.heap.size) :
    ∃ v' w', (Builtin.append_ #[t, t] ty #[v, .slice (some a) 1 c]).run P w = .ok v' w' ∧ w'.ownsRow base e 1 v' (n + 1) (xs ++ [u]) ∧ w.grownBy w' v.ownBlock ∧
      (v'.ownBlock = v.ownBlock ∨ v'.ownBlock = some w.heap.size) := by
  have hcell : ∀ j x, [u][j]? = some x → w.cell? (a.add j) = some x := by
    intro j x hj
    rcases j with _ | j
    · simp at hj; subst hj; simpa [Addr.add] using hu
    · simp at hj
  have hone : ∀ x ∈ [u], x.oneCell' = true := by simpa using h1
  have hbb : (n + 1) * bytes ≤ 140737488355328 := by
    have : (n + 1) * bytes ≤ 1000001 * 100 := Nat.mul_le_mul (by omega) hb
    omega
  obtain ⟨v', w', hr, k1, k2, -⟩ := run_append_own (P := P) w base t ty e i z 1 bytes ht hi hz hsize hby hzs (by decide) v n xs hown a 1 c [u] rfl hcell hone (by simp only [maxLen]; omega) hbb hbase
  refine ⟨v', w', hr, k1, k2, ?_⟩
  rcases hown.2 with ⟨rfl, rfl⟩ | ⟨g, cap, cur, rfl, hbg, hg, hnc, hcm, hcs, htake⟩
  · have := run_append_nil (P := P) w t ty e i z ht hi hz a 1 c [u] (by rw [hsize]; rfl) hcell (by omega) (by omega) (by rw [hby]; omega)
    rw [hr] at this
    injection this with q1 q2
    subst q1; right; rfl
  · by_cases hroom : n + 1 ≤ cap
    · have := run_append_room (P := P) w t ty e i ht hi g n cap cur hg a 1 c [u] (by rw [hsize]; rfl) hcell hone hroom (by rw [hsize]; simp; omega)
      rw [hr] at this
      injection this with q1 q2
      subst q1; left; rfl
    · have hcap : n = cap := by omega
      have := run_append_grow (P := P) w t ty e i z ht hi hz ⟨g, 0, none⟩ n cap xs (by rw [hsize]; exact hown.1) (hown.cells (g := g) rfl) a 1 c [u] (by rw [hsize]; rfl) hcell (by omega) (by omega)
        (by rw [hby]; exact growslice_fits (by omega) hbb)
      rw [hr] at this
      injection this with q1 q2
      subst q1; right; rfl

theorem wpList_app1 {P : Program} (w : World) {ops : Array Oper} {rest : List Oper} {o : Oper} {act : Act} {Q : Exit → Act → World → Prop} (hgd : o.guard = none) (s x : Operand) (t : TypeId)
    (ho : o.op = .call { callee := .builtin .append, args := #[s, x], argTypes := #[t, t] })
    (base : Nat) (e : TypeId) (i : TypeInfo) (z : Value) (bytes : Nat) (ht : P.underlying t = some (.slice e)) (hi : P.info? e = some i) (hz : i.zero = some z)
    (hsize : i.size = 1) (hby : i.bytes = bytes) (hzs : z.cells.size = 1)
    (v : Value) (n : Nat) (xs : List Value) (hs : act.eval s = v) (hown : w.ownsRow base e 1 v n xs)
    (a : Addr) (c : Nat) (u : Value) (hx : act.eval x = .slice (some a) 1 c) (hu : w.cell? a = some u) (h1 : u.oneCell' = true)
    (hn : n ≤ 1000000) (hb : bytes ≤ 100) (hbase : base ≤ w.heap.size)
    (h : ∀ v' w', w'.ownsRow base e 1 v' (n + 1) (xs ++ [u]) → w.grownBy w' v.ownBlock → (v'.ownBlock = v.ownBlock ∨ v'.ownBlock = some w.heap.size) → wpList P ops Q rest (act.put o.dst v') w') :
    wpList P ops Q (o :: rest) act w := by
  refine wpList_plain hgd fun K hK => ?_
  obtain ⟨v', w', hr, k1, k2, k3⟩ := run_app1 (P := P) w base t o.type e i z bytes ht hi hz hsize hby hzs v n xs hown a c u hu h1 hn hb hbase
  unfold Oper.wp execOp
  simp only [ho, resolve, invoke, builtin, Sem.run_bind, Sem.run_pure, Result.andThen_ok, List.map_toArray, List.map_cons, List.map_nil, hs, hx, hr]
  exact hK _ _ (h v' w' k1 k2 k3)

/-- the cells of m complex numbers -/
def cvs (m : Nat) (f : Nat → CB) : List Value := (List.range m).map fun i => cv (f i)
@[irreducible] def cvsA (m : Nat) (f : Nat → CB) : Array Value := (cvs m f).toArray
theorem cvsA_eq (m : Nat) (f : Nat → CB) : cvsA m f = (cvs m f).toArray := by unfold cvsA; rfl
theorem cvs_length (m : Nat) (f : Nat → CB) : (cvs m f).length = m := by simp [cvs]
theorem cvs_at (m : Nat) (f : Nat → CB) (i : Nat) (h : i < m) : (cvs m f)[i]? = some (cv (f i)) := by simp [cvs, h]
theorem cvs_succ (m : Nat) (f : Nat → CB) : cvs m f ++ [cv (f m)] = cvs (m + 1) f := by simp [cvs, List.range_succ]
theorem cvs_ext {m : Nat} {f g : Nat → CB} (h : ∀ i, i < m → f i = g i) : cvs m f = cvs m g := by
  unfold cvs; apply List.map_congr_left; intro i hi; rw [h i (List.mem_range.1 hi)]
@[simp, go_sem] theorem cvsA_size (m : Nat) (f : Nat → CB) : (cvsA m f).size = m := by rw [cvsA_eq]; simp [cvs_length]
theorem cvsA_at (m : Nat) (f : Nat → CB) (i : Nat) (h : i < m) : (cvsA m f)[i]? = some (cv (f i)) := by rw [cvsA_eq]; simpa using cvs_at m f i h
theorem cvsA_set (m : Nat) (f : Nat → CB) (i : Nat) (v : CB) (h : i < m) : (cvsA m f).setIfInBounds i (cv v) = cvsA m (upd f i v) := by
  rw [cvsA_eq, cvsA_eq]
  apply Array.ext_getElem?
  intro j
  rw [Array.getElem?_setIfInBounds]
  simp only [List.size_toArray, cvs_length, List.getElem?_toArray]
  by_cases hj : j < m
  · rw [cvs_at _ _ _ hj, cvs_at _ _ _ hj]
    by_cases e : i = j
    · subst e; simp [upd, h]
    · have e2 : ¬ j = i := fun q => e q.symm
      simp [e, upd, e2]
  · have h1 : (cvs m f)[j]? = none := by simp [cvs_length]; omega
    have h2 : (cvs m (upd f i v))[j]? = none := by simp [cvs_length]; omega
    have e : ¬ i = j := by omega
    rw [if_neg e, h1, h2]

/-- A slice of m complex numbers in a block from B on. -/
def Row (w : World) (B : Nat) (v : Value) (m : Nat) (f : Nat → CB) : Prop :=
  ∃ b o cap, v = .slice (some ⟨b, o, none⟩) m cap ∧ B ≤ b ∧ m ≤ cap ∧ ∀ i, i < m → w.cell? ⟨b, o + i, none⟩ = some (cv (f i))

theorem Row.below {w w' : World} {B C m : Nat} {v : Value} {f : Nat → CB} (h : Row w B v m f) (hb : Below C w w') (hC : w.heap.size ≤ C) : Row w' B v m f := by
  obtain ⟨b, o, cap, rfl, h1, h2, h3⟩ := h
  refine ⟨b, o, cap, rfl, h1, h2, fun i hi => ?_⟩
  have := h3 i hi
  rw [hb.cell (p := ⟨b, o + i, none⟩) (Nat.lt_of_lt_of_le (block_lt_of_cell this) hC)]; exact this
theorem Row.weak {w : World} {B C m : Nat} {v : Value} {f : Nat → CB} (h : Row w B v m f) (hC : C ≤ B) : Row w C v m f := by
  obtain ⟨b, o, cap, rfl, h1, h2⟩ := h
  exact ⟨b, o, cap, rfl, by omega, h2⟩
theorem Row.of_own {w : World} {B m : Nat} {v : Value} {f : Nat → CB} (h : w.ownsRow B 28 1 v m (cvs m f)) (hm : 0 < m) : Row w B v m f := by
  rcases h.2 with ⟨_, rfl⟩ | ⟨g, cap, cur, rfl, hb, hg, hnc, _, hcs, htake⟩
  · omega
  · refine ⟨g, 0, cap, rfl, hb, hnc, fun i hi => ?_⟩
    have := h.cells (g := g) rfl i (cv (f i)) (cvs_at m f i hi)
    have hadd : (⟨g, 0, none⟩ : Addr).add i = ⟨g, 0 + i, none⟩ := by unfold Addr.add; split <;> simp_all
    rw [hadd] at this
    exact this
theorem Row.of_heap {w : World} {B g m : Nat} {f : Nat → CB} (hB : B ≤ g) (h : w.heap[g]? = some (.cells (cvsA m f) 28 (0, 0))) : Row w B (.slice (some ⟨g, 0, none⟩) m m) m f :=
  ⟨g, 0, m, rfl, hB, by omega, fun i hi => by rw [Nat.zero_add]; exact cell_of_heap h (cvsA_at m f i hi)⟩
theorem Row.ext {w : World} {B m : Nat} {v : Value} {f g : Nat → CB} (h : Row w B v m f) (he : ∀ i, i < m → f i = g i) : Row w B v m g := by
  obtain ⟨b, o, cap, rfl, h1, h2, h3⟩ := h
  exact ⟨b, o, cap, rfl, h1, h2, fun i hi => by rw [← he i hi]; exact h3 i hi⟩

theorem made_heap {w : World} {B g m : Nat} (z : Value) (hz : z = cv (0, 0)) (h : w.ownsRow B 28 1 (.slice (some ⟨g, 0, none⟩) m m) m (madeCells z.cells (m * 1)).toList) :
    w.heap[g]? = some (.cells (cvsA m fun _ => (0, 0)) 28 (0, 0)) := by
  rcases h.2 with ⟨h, _⟩ | ⟨g', cap, cur, hv, hb, hg, hnc, _, hcs, htake⟩
  · cases h
  · injection hv with e1 e2 e3
    injection e1 with e1
    injection e1 with e1
    subst e1; subst e3
    rw [hg]
    congr 2
    apply Array.toList_inj.1
    rw [List.take_of_length_le (by simp [hcs])] at htake
    rw [htake, cvsA_eq]
    subst hz
    simp only [madeCells, Value.cells, Nat.mul_one, Array.toList_map, Array.toList_range, cvs]
    apply List.map_congr_left
    intro i _
    simp [Nat.mod_one]

/-- Two rows that lie apart. -/
structure Two (w : World) (B : Nat) (ve vo : Value) (m k : Nat) (e o : Nat → CB) : Prop where
  e : w.ownsRow B 28 1 ve m (cvs m e)
  o : w.ownsRow B 28 1 vo k (cvs k o)
  ne : ve.ownBlock = none ∨ vo.ownBlock = none ∨ ve.ownBlock ≠ vo.ownBlock

theorem grown_below {w w' : World} {B : Nat} {row : Option Nat} (h : w.grownBy w' row) (hr : ∀ k, row = some k → B ≤ k) (hB : B ≤ w.heap.size) : Below B w w' :=
  ⟨h.os, h.tape, h.output, h.size, fun k hk => h.block k (by omega) (fun e => by have := hr k e.symm; omega)⟩

theorem Two.even {w w' : World} {B : Nat} {ve vo v' : Value} {m k : Nat} {e o : Nat → CB} (h : Two w B ve vo m k e o)
    (h1 : w'.ownsRow B 28 1 v' (m + 1) (cvs m e ++ [cv (e m)])) (h2 : w.grownBy w' ve.ownBlock) (h3 : v'.ownBlock = ve.ownBlock ∨ v'.ownBlock = some w.heap.size) : Two w' B v' vo (m + 1) k e o := by
  refine ⟨by rw [← cvs_succ]; exact h1, h.o.kept h2 ?_, ?_⟩
  · rcases hv : vo.ownBlock with _ | b
    · left; rfl
    · right
      rcases h.ne with q | q | q
      · rw [q]; simp
      · rw [q] at hv; cases hv
      · rw [← hv]; exact fun x => q x.symm
  · rcases h3 with q | q
    · rw [q]; exact h.ne
    · right
      rcases hv : vo.ownBlock with _ | b
      · left; rfl
      · right; rw [q]; have := (h.o.lt b hv).2; intro x; injection x with x; omega
theorem Two.odd {w w' : World} {B : Nat} {ve vo v' : Value} {m k : Nat} {e o : Nat → CB} (h : Two w B ve vo m k e o)
    (h1 : w'.ownsRow B 28 1 v' (k + 1) (cvs k o ++ [cv (o k)])) (h2 : w.grownBy w' vo.ownBlock) (h3 : v'.ownBlock = vo.ownBlock ∨ v'.ownBlock = some w.heap.size) : Two w' B ve v' m (k + 1) e o := by
  have : Two w B vo ve k m o e := ⟨h.o, h.e, by rcases h.ne with q | q | q <;> simp [q]; exact .inr (.inr fun x => q x.symm)⟩
  have := this.even h1 h2 h3
  exact ⟨this.o, this.e, by rcases this.ne with q | q | q <;> simp [q]; exact .inr (.inr fun x => q x.symm)⟩
theorem Two.alloc {w : World} {B : Nat} {ve vo : Value} {m k : Nat} {e o : Nat → CB} (h : Two w B ve vo m k e o) (O : Obj) : Two (w.alloc O) B ve vo m k e o :=
  ⟨h.e.alloc O, h.o.alloc O, h.ne⟩
theorem own_lt {w : World} {B : Nat} {v : Value} {m : Nat} {xs : List Value} (h : w.ownsRow B 28 1 v m xs) : ∀ k, v.ownBlock = some k → B ≤ k := fun k hk => (h.lt k hk).1
theorem own_below {w w' : World} {B C : Nat} {t : TypeId} {v : Value} {m : Nat} {xs : List Value} (h : w.ownsRow B t 1 v m xs) (hb : Below C w w') (hC : w.heap.size ≤ C) : w'.ownsRow B t 1 v m xs := by
  refine ⟨h.1, ?_⟩
  rcases h.2 with q | ⟨g, cap, cur, rfl, h1, h2, h3⟩
  · exact .inl q
  · exact .inr ⟨g, cap, cur, rfl, h1, by rw [hb.block g (Nat.lt_of_lt_of_le (lt_of_block h2) hC)]; exact h2, h3⟩
theorem info28 : (Tryz.prog.info? 28).map (fun i => (i.zero, i.size, i.bytes)) = some (some (cv (0, 0)), 1, 8) := by kernel_rfl
theorem info40 : (Tryz.prog.info? 40).map (fun i => (i.zero, i.size, i.bytes)) = some (some (.float .f32 0), 1, 4) := by kernel_rfl
@[go_sem] theorem run_eql_nil50 (A : Addr) (n c : Nat) (w : World) : (binOp .eql 50 (.slice (some A) n c) (.slice none 0 0)).run Tryz.prog w = .ok (.bool false) w := by kernel_rfl
@[go_sem] theorem run_eql_nil41 (A : Addr) (n c : Nat) (w : World) : (binOp .eql 41 (.slice (some A) n c) (.slice none 0 0)).run Tryz.prog w = .ok (.bool false) w := by kernel_rfl
theorem cell_al {w : World} {p : Addr} {v : Value} (O : Obj) (h : w.cell? p = some v) : (w.alloc O).cell? p = some v := by
  rw [(bal1 w O).cell (block_lt_of_cell h)]; exact h
set_option maxRecDepth 100000 in
set_option maxHeartbeats 1000000 in
theorem clone1_c (b o cap : Nat) (z : CB) (w : World) (hz : w.cell? ⟨b, o, none⟩ = some (cv z)) :
    Calls Tryz.prog 142 #[.slice (some ⟨b, o, none⟩) 1 cap] w fun e w' => (∃ v, e = .returned v ∧ Row w' w.heap.size v 1 (fun _ => z)) ∧ Below w.heap.size w w' := by
  obtain ⟨i0, hi, hz0, hz1, hz2⟩ := info_parts info28
  have H0 : (w.alloc (.cells #[] 28 (0, 0))).ownsRow w.heap.size 28 1 (.slice (some ⟨w.heap.size, 0, none⟩) 0 0) 0 [] := World.ownsRow_made w #[] 0 (by omega) (by decide) rfl
  have HZ := Lib.hid (cell_al (.cells #[] 28 (0, 0)) hz)
  clear hz
  go_enter Tryz.func142, Tryz.ntmps142
  go_wp2_with (at_builtin; refine wpList_app1 _ rfl (.tmp 5) (.tmp 6) 50 rfl w.heap.size 28 i0 (cv (0, 0)) 8 Tryz.underlying50 hi hz0 hz1 hz2 rfl _ 0 [] rfl H0 ⟨b, o, none⟩ cap (cv z) rfl HZ.out rfl (by omega) (by omega) (by simp) ?_; intro v' w' h1 h2 _)
  go_ret
  exact ⟨⟨v', rfl, Row.of_own h1 (by omega)⟩, (bal1 w _).trans (grown_below h2 (own_lt H0) (by simp))⟩
end Go.Proofs.YtdpdjcehobjohaaGreatDoor
