/- Facts on the blocks of a heap. No program in sight. -/
import Derived.Test.YtoifalgkeegklaaWalkPlain
namespace Go.Proofs.Ytoifalgkeegklaa

theorem chain_drop {ws : List Nat} : ∀ {l : List Blk} {a i : Nat}, Chain ws a l → i ≤ l.length → Chain ws (posn a l i) (l.drop i)
  | [], _, i, h, hi => by
    obtain rfl : i = 0 := by simpa using hi
    exact h
  | b :: l, a, 0, h, _ => h
  | b :: l, a, i + 1, h, hi => chain_drop (l := l) h.2.2 (by simpa using hi)
theorem chain_next {ws : List Nat} {l : List Blk} {a i : Nat} (h : Chain ws a l) (hi : i + 1 < l.length) : l[i].at_ + l[i].size = l[i + 1].at_ := by
  have h1 := chain_at h (i := i) (by omega)
  have h2 := chain_posn h (i := i) (by omega)
  have h3 := chain_posn h hi
  have := good_size (stands_some h1.1).1
  rw [h3, h1.2.2.1, h2]; omega
theorem chain_inc {ws : List Nat} {l : List Blk} {a : Nat} (h : Chain ws a l) : ∀ (j i : Nat) (hj : j < l.length) (hi : i < j), l[i].at_ + l[i].size ≤ l[j].at_
  | 0, _, _, hi => absurd hi (by omega)
  | j + 1, i, hj, hi => by
    have h1 := chain_next h hj
    have := good_size (stands_some (chain_at h (i := j) (by omega)).1).1
    rcases Nat.lt_or_ge i j with hl | hl
    · have := chain_inc h j i (by omega) hl
      omega
    · obtain rfl : i = j := by omega
      omega
theorem chain_ne {ws : List Nat} {l : List Blk} {a : Nat} (h : Chain ws a l) {i j : Nat} (hi : i < l.length) (hj : j < l.length) (hne : i ≠ j) : l[i].at_ ≠ l[j].at_ := by
  have g1 := good_size (stands_some (chain_at h hi).1).1
  have g2 := good_size (stands_some (chain_at h hj).1).1
  rcases Nat.lt_or_gt_of_ne hne with hl | hl
  · have := chain_inc h j i hj hl; omega
  · have := chain_inc h i j hi hl; omega
theorem chain_even {ws : List Nat} : ∀ {l : List Blk} {a i : Nat}, Chain ws a l → a % 2 = 0 → posn a l i % 2 = 0
  | [], _, _, _, ha => by simpa [posn] using ha
  | _ :: _, _, 0, _, ha => ha
  | b :: l, a, i + 1, h, ha => chain_even (l := l) h.2.2 (by have := good_size (stands_some h.2.1).1; omega)
theorem findL_none {l : List Blk} {a : Int} (h : ∀ j (hj : j < l.length), l[j].at_ ≠ a) : findL l a = none := by
  unfold findL
  rw [List.find?_eq_none]
  intro b hb
  obtain ⟨i, hi, rfl⟩ := List.getElem_of_mem hb
  simpa using h i hi
theorem findL_some {ws : List Nat} {l : List Blk} {p : Nat} (h : Chain ws p l) {i : Nat} (hi : i < l.length) : findL l l[i].at_ = some l[i] := by
  unfold findL
  rw [List.find?_eq_some_iff_append]
  refine ⟨by simp, l.take i, l.drop (i + 1), by rw [← List.drop_eq_getElem_cons hi, List.take_append_drop], fun b hb => ?_⟩
  obtain ⟨j, hj, rfl⟩ := List.getElem_of_mem hb
  have hj2 : j < i := by simp at hj; omega
  rw [List.getElem_take]
  have := chain_ne h (i := j) (j := i) (by omega) hi (by omega)
  simpa using this
theorem fromR_at {ws : List Nat} (hi : imgOk ws.length) {l : List Blk} (h : Chain ws 128 l) {i : Nat} (hl : i < l.length) : fromR ws l[i].at_ = (l.drop i, 0) := by
  have h1 := chain_at h hl
  have h2 := chain_posn h hl
  have h3 := chain_even (i := i) h rfl
  unfold fromR
  rw [if_neg (by simpa using hi), if_neg (by rw [h2]; omega), h2, Int.toNat_natCast, parse_of_chain ws _ _ (chain_drop h (by omega))]
/-- How far the search has come: the place of the last one that was found. -/
def Found (l : List Blk) (a : Int) (k : Nat) (f : Int) : Prop := (f = -1 ∧ ∀ j (hj : j < l.length), j < k → l[j].at_ ≠ a) ∨ ∃ (i : Nat) (hi : i < l.length), i < k ∧ f = i ∧ l[i].at_ = a
theorem found_zero (l : List Blk) (a : Int) : Found l a 0 (-1) := .inl ⟨rfl, fun _ _ h => absurd h (by omega)⟩
theorem found_yes {l : List Blk} {a : Int} {k : Nat} (hk : k < l.length) (h : l[k].at_ = a) : Found l a (k + 1) k := .inr ⟨k, hk, by omega, rfl, h⟩
theorem found_no {l : List Blk} {a f : Int} {k : Nat} (hk : k < l.length) (h : l[k].at_ ≠ a) (hf : Found l a k f) : Found l a (k + 1) f := by
  rcases hf with ⟨h1, h2⟩ | ⟨i, hi, h1, h2, h3⟩
  · refine .inl ⟨h1, fun j hj hjk => ?_⟩
    rcases Nat.lt_or_ge j k with hl | hl
    · exact h2 j hj hl
    · obtain rfl : j = k := by omega
      exact h
  · exact .inr ⟨i, hi, by omega, h2, h3⟩
end Go.Proofs.Ytoifalgkeegklaa
