/- Cutting texts at a byte that the words do not hold. Plain lemmas. -/
import Derived.Test.YtdpdjcehobjohaaGreatDoorSx
namespace Go.Proofs.YtdpdjcehobjohaaGreatDoor
open Go Go.RowKit Go.BigFrame Fl

theorem index_mid (c : UInt8) (l r : List UInt8) (h : c ∉ l) : Lib.index (l ++ c :: r) [c] = l.length := by
  induction l with
  | nil => simp [Lib.index]
  | cons b l ih =>
    have hb : ¬ c = b := fun e => h (by simp [e])
    have hl : c ∉ l := fun e => h (by simp [e])
    have := ih hl
    rw [List.cons_append, Lib.index]
    rw [if_neg (by simp [hb]), this, if_neg (by simp)]
    simp
theorem index_none (c : UInt8) (l : List UInt8) (h : c ∉ l) : Lib.index l [c] = -1 := by
  induction l with
  | nil => simp [Lib.index]
  | cons b l ih =>
    have hb : ¬ c = b := fun e => h (by simp [e])
    have hl : c ∉ l := fun e => h (by simp [e])
    rw [Lib.index, if_neg (by simp [hb]), ih hl]; rfl
theorem cut_mid (c : UInt8) (l r : List UInt8) (h : c ∉ l) : Lib.cut (l ++ c :: r) [c] = (l, r, true) := by
  unfold Lib.cut
  rw [index_mid c l r h, if_pos (by omega)]
  simp
theorem join_two (c : UInt8) (x y : List UInt8) (r : List (List UInt8)) : Lib.join (x :: y :: r) [c] = x ++ c :: Lib.join (y :: r) [c] := by
  rw [Lib.join_cons, Lib.join_cons]; simp [Lib.joinTail]
theorem countFrom_join (c : UInt8) : ∀ (xs : List (List UInt8)) (fuel : Nat), xs ≠ [] → (∀ x ∈ xs, c ∉ x) → (Lib.join xs [c]).length < fuel → Lib.countFrom [c] fuel (Lib.join xs [c]) = xs.length - 1
  | [], _, h, _, _ => absurd rfl h
  | [x], 0, _, _, hf => by omega
  | [x], fuel + 1, _, hx, _ => by
    rw [Lib.join_one, Lib.countFrom, index_none c x (hx x (by simp))]; rfl
  | x :: y :: r, 0, _, _, hf => by omega
  | x :: y :: r, fuel + 1, _, hx, hf => by
    rw [join_two] at hf ⊢
    rw [Lib.countFrom, index_mid c x _ (hx x (by simp)), if_neg (by simp)]
    have e : (x ++ c :: Lib.join (y :: r) [c]).drop ((x.length : Int).toNat + [c].length) = Lib.join (y :: r) [c] := by simp
    rw [e, countFrom_join c (y :: r) fuel (by simp) (fun z hz => hx z (by simp [hz])) (by simp at hf; omega)]
    simp; omega
theorem splitK_join (c : UInt8) : ∀ (xs : List (List UInt8)), xs ≠ [] → (∀ x ∈ xs, c ∉ x) → Lib.splitK [c] 0 (xs.length - 1) (Lib.join xs [c]) = xs
  | [], h, _ => absurd rfl h
  | [x], _, _ => by rw [Lib.join_one]; rfl
  | x :: y :: r, _, hx => by
    rw [join_two, show (x :: y :: r).length - 1 = ((y :: r).length - 1) + 1 by simp]
    rw [Lib.splitK, index_mid c x _ (hx x (by simp)), if_neg (by simp)]
    have e : (x ++ c :: Lib.join (y :: r) [c]).drop ((x.length : Int).toNat + [c].length) = Lib.join (y :: r) [c] := by simp
    rw [e, splitK_join c (y :: r) (by simp) (fun z hz => hx z (by simp [hz]))]
    simp
theorem hexT_no (m : Int) (c : UInt8) (h : c = 32 ∨ c = 44) : c ∉ (hexT m).data.toList := by
  unfold hexT
  rcases h with rfl | rfl <;> repeat (first | (split) | (show _ ∉ _; decide))
theorem wordT_data (a b : Int) : (wordT a b).data.toList = (hexT a).data.toList ++ 44 :: (hexT b).data.toList := by
  unfold wordT; simp [ByteArray.data_append]
theorem wordT_no (a b : Int) : (32 : UInt8) ∉ (wordT a b).data.toList := by
  rw [wordT_data]
  intro h
  rcases List.mem_append.1 h with h | h
  · exact hexT_no a 32 (.inl rfl) h
  · rcases List.mem_cons.1 h with h | h
    · exact absurd h (by decide)
    · exact hexT_no b 32 (.inl rfl) h
theorem mk_data (s : ByteArray) : (⟨s.data.toList.toArray⟩ : ByteArray) = s := by
  apply ByteArray.ext; simp
theorem wl_no (m : Nat) (A B : Nat → Int) : ∀ x ∈ (wl m A B).map (·.data.toList), (32 : UInt8) ∉ x := by
  intro x hx
  simp only [wl, List.map_map, List.mem_map] at hx
  obtain ⟨i, -, rfl⟩ := hx
  exact wordT_no _ _
theorem wl_ne (m : Nat) (hm : 0 < m) (A B : Nat → Int) : (wl m A B).map (·.data.toList) ≠ [] := by
  intro h; have := congrArg List.length h; simp [wl_length] at this; omega
theorem joinT_data (m : Nat) (A B : Nat → Int) : (joinT m A B).data.toList = Lib.join ((wl m A B).map (·.data.toList)) [32] := by simp [joinT]
theorem count_joinT (m : Nat) (hm : 0 < m) (A B : Nat → Int) : Lib.countB (joinT m A B) ⟨#[32]⟩ = m - 1 := by
  show Lib.countFrom [32] ((joinT m A B).data.toList.length + 1) (joinT m A B).data.toList = _
  rw [joinT_data, countFrom_join 32 _ _ (wl_ne m hm A B) (wl_no m A B) (by omega)]
  simp [wl_length]
theorem split_joinT (m : Nat) (hm : 0 < m) (A B : Nat → Int) : Lib.splitB ⟨#[32]⟩ 0 (m - 1) (joinT m A B) = wl m A B := by
  have h1 := Lib.splitB_data ⟨#[32]⟩ 0 (m - 1) (joinT m A B)
  have h2 := splitK_join 32 ((wl m A B).map (·.data.toList)) (wl_ne m hm A B) (wl_no m A B)
  rw [List.length_map, wl_length] at h2
  rw [joinT_data, h2] at h1
  have inj : ∀ {a b : List ByteArray}, a.map (·.data.toList) = b.map (·.data.toList) → a = b := by
    intro a b h
    have := congrArg (List.map (fun l : List UInt8 => (⟨l.toArray⟩ : ByteArray))) h
    simpa [List.map_map, Function.comp_def, mk_data] using this
  exact inj h1
end Go.Proofs.YtdpdjcehobjohaaGreatDoor
