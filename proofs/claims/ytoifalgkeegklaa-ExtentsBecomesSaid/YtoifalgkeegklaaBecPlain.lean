/- A heap with what an object becomes in its place. No program in sight. -/
import Derived.Test.YtoifalgkeegklaaSegPlain
namespace Go.Proofs.Ytoifalgkeegklaa

theorem lastFree_take {l : List Blk} {lo : Nat} (hlo : lo ≤ l.length) (h : LastFree (l.take lo)) : ∃ (m : Nat) (hm : m < l.length), lo = m + 1 ∧ l[m].kind = 2 := by
  obtain ⟨x, h1, h2⟩ := h
  rcases lo with _ | m
  · simp at h1
  · refine ⟨m, by omega, rfl, ?_⟩
    rw [List.take_succ_eq_append_getElem (show m < l.length by omega), List.getLast?_append] at h1
    simp at h1
    rw [h1]; exact h2
theorem headFree_drop {l : List Blk} {hi : Nat} (h : HeadFree (l.drop hi)) : ∃ hm : hi < l.length, l[hi].kind = 2 := by
  obtain ⟨x, h1, h2⟩ := h
  rcases Nat.lt_or_ge hi l.length with hl | hl
  · refine ⟨hl, ?_⟩
    rw [List.drop_eq_getElem_cons hl] at h1
    injection h1 with h1
    rw [h1]; exact h2
  · rw [List.drop_eq_nil_of_le hl] at h1; cases h1
theorem seg_cut {ws : List Nat} {l : List Blk} {a b lo hi : Nat} (h : Seg ws a l b) (h1 : lo ≤ hi) : ∃ p q, Seg ws a (l.take lo) p ∧ Seg ws p ((l.take hi).drop lo) q ∧ Seg ws q (l.drop hi) b := by
  have e : l = l.take hi ++ l.drop hi := (List.take_append_drop hi l).symm
  rw [e] at h
  obtain ⟨q, h2, h3⟩ := seg_split h
  have e2 : l.take hi = l.take lo ++ (l.take hi).drop lo := by
    conv => lhs; rw [← List.take_append_drop lo (l.take hi)]
    rw [List.take_take, Nat.min_eq_left h1]
  rw [e2] at h2
  obtain ⟨p, h4, h5⟩ := seg_split h2
  exact ⟨p, q, h4, h5, h3⟩
theorem list_cut (l : List Blk) {lo hi : Nat} (h1 : lo ≤ hi) : l = l.take lo ++ ((l.take hi).drop lo ++ l.drop hi) := by
  rw [← List.append_assoc]
  conv => lhs; rw [← List.take_append_drop hi l]
  congr 1
  conv => lhs; rw [← List.take_append_drop lo (l.take hi)]
  rw [List.take_take, Nat.min_eq_left h1]
/-- The words of the blocks of a list. -/
def sumL : List Blk → Int
  | [] => 0
  | b :: l => b.size + sumL l
theorem sumL_append (l m : List Blk) : sumL (l ++ m) = sumL l + sumL m := by
  induction l with
  | nil => simp [sumL]
  | cons b l ih => simp only [List.cons_append, sumL, ih]; omega
theorem sumF_take (l : List Blk) : ∀ k, k ≤ l.length → sumF l k = sumL (l.take k)
  | 0, _ => rfl
  | k + 1, h => by
    rw [sumF_step (by omega), sumF_take l k (by omega), List.take_succ_eq_append_getElem (by omega), sumL_append]
    simp [sumL]
theorem sumF_all (l : List Blk) : sumF l l.length = sumL l := by rw [sumF_take l _ (Nat.le_refl _), List.take_length]
theorem maxF_ge (l : List Blk) : ∀ k, k ≤ l.length → ∀ j (hj : j < l.length), j < k → l[j].size ≤ maxF l k
  | 0, _, _, _, h => absurd h (by omega)
  | k + 1, hk, j, hj, hjk => by
    rw [maxF_step (by omega)]
    rcases Nat.lt_or_ge j k with hl | hl
    · have := maxF_ge l k (by omega) j hj hl; omega
    · obtain rfl : j = k := by omega
      omega
theorem maxF_mem {l : List Blk} {b : Blk} (h : b ∈ l) : b.size ≤ maxF l l.length := by
  obtain ⟨i, hi, rfl⟩ := List.getElem_of_mem h
  exact maxF_ge l _ (Nat.le_refl _) i hi hi
def one01 (b : Bool) : Nat := if b then 1 else 0

/-- Where what an object becomes stands, and what it stands for. -/
structure Cut (ws : List Nat) (l : List Blk) (i : Nat) (o x : Blk) (lo hi p q : Nat) : Prop where
  lo_ : lo ≤ i
  hi_ : i < hi
  len : hi ≤ l.length
  three : hi ≤ lo + 3
  pre : Seg ws 128 (l.take lo) p
  post : Seg ws q (l.drop hi) ws.length
  at_ : x.at_ = p
  size : x.size = (q : Int) - p
  pq : p + 2 ≤ q
  even : (q - p) % 2 = 0
  left : (p : Int) ≤ o.at_
  right : o.at_ + o.size ≤ q
  apart : Apart (l.take lo ++ x :: l.drop hi)
  sum : sumL (freeL ((l.take hi).drop lo)) + o.size = x.size
  near : (freeL ((l.take hi).drop lo)).length = one01 (decide ((p : Int) < o.at_)) + one01 (decide (o.at_ + o.size < q))

theorem apart_take {l : List Blk} (h : Apart l) (k : Nat) : Apart (l.take k) := by rw [← List.take_append_drop k l] at h; exact (apart_split h).1
theorem apart_drop {l : List Blk} (h : Apart l) (k : Nat) : Apart (l.drop k) := by rw [← List.take_append_drop k l] at h; exact (apart_split h).2
theorem apart_put {l : List Blk} (ha : Apart l) {lo hi : Nat} (hlo : lo ≤ l.length) (x : Blk)
    (h1 : ∀ m (hm : m < l.length), lo = m + 1 → l[m].kind ≠ 2) (h2 : ∀ hm : hi < l.length, l[hi].kind ≠ 2) : Apart (l.take lo ++ x :: l.drop hi) := by
  refine apart_free (apart_take ha _) (apart_drop ha _) ?_ ?_
  · intro h
    obtain ⟨m, hm, e, hk⟩ := lastFree_take hlo h
    exact h1 m hm e hk
  · intro h
    obtain ⟨hm, hk⟩ := headFree_drop h
    exact h2 hm hk

theorem cut_ex {ws : List Nat} {l : List Blk} {i : Nat} (hc : Seg ws 128 l ws.length) (ha : Apart l) (hi : i < l.length) (hk : l[i].kind = 1) : ∃ lo hi p q, Cut ws l i l[i] (becomes l i) lo hi p q := by
  have AP := (apart_iff l).1 ha
  have hat : atAt l i = l[i].at_ := atAt_get hi
  have hsz : sizeAt l i = l[i].size := sizeAt_get hi
  have frO : ∀ m, freeL (l[i] :: m) = freeL m := fun m => by unfold freeL; rw [List.filter_cons]; simp [hk]
  cases hL : leftF l i with
  | false =>
    have hL1 : ∀ m (hm : m < l.length), i = m + 1 → l[m].kind ≠ 2 := by
      rintro m hm rfl e
      rw [leftF_succ hm, e] at hL; cases hL
    cases hR : rightF l i with
    | false =>
      have hR1 : ∀ hm : i + 1 < l.length, l[i + 1].kind ≠ 2 := by
        intro hm e
        rw [rightF_in hm, e] at hR; cases hR
      obtain ⟨p, q, h1, h2, h3⟩ := seg_cut (lo := i) (hi := i + 1) hc (by omega)
      rw [sub1 hi] at h2
      obtain ⟨s1, e1⟩ := h2
      have e1 : p + l[i].size.toNat = q := e1
      obtain ⟨g1, _, a1, _⟩ := stands_some s1
      have z1 := good_size g1
      refine ⟨i, i + 1, p, q, Nat.le_refl _, by omega, by omega, by omega, h1, h3, ?_, ?_, by omega, by omega, by omega, by omega, apart_put ha (by omega) _ hL1 hR1, ?_, ?_⟩
      · unfold becomes; rw [hL]; simp [hat, a1]
      · unfold becomes; rw [hL, hR]; simp [hsz]; omega
      · rw [sub1 hi, frO]; unfold becomes; rw [hL, hR]; simp [hsz, sumL, freeL]
      · rw [sub1 hi, frO, decide_eq_false (by omega), decide_eq_false (by omega)]; rfl
    | true =>
      have hm : i + 1 < l.length := by
        rcases Nat.lt_or_ge (i + 1) l.length with h | h
        · exact h
        · rw [rightF_end h] at hR; cases hR
      have hR1 : l[i + 1].kind = 2 := by rw [rightF_in hm] at hR; simpa using hR
      have hR2 : ∀ hm2 : i + 2 < l.length, l[i + 2].kind ≠ 2 := fun hm2 e => AP (i + 1) hm2 ⟨hR1, e⟩
      obtain ⟨p, q, h1, h2, h3⟩ := seg_cut (lo := i) (hi := i + 2) hc (by omega)
      rw [sub2 hm] at h2
      obtain ⟨s1, s2, e1⟩ := h2
      have e1 : p + l[i].size.toNat + l[i + 1].size.toNat = q := e1
      obtain ⟨g1, _, a1, _⟩ := stands_some s1
      obtain ⟨g2, _, a2, _⟩ := stands_some s2
      have z1 := good_size g1
      have z2 := good_size g2
      have fr2 : freeL [l[i + 1]] = [l[i + 1]] := by unfold freeL; rw [List.filter_cons]; simp [hR1]
      refine ⟨i, i + 2, p, q, Nat.le_refl _, by omega, by omega, by omega, h1, h3, ?_, ?_, by omega, by omega, by omega, by omega, apart_put ha (by omega) _ hL1 hR2, ?_, ?_⟩
      · unfold becomes; rw [hL]; simp [hat, a1]
      · unfold becomes; rw [hL, hR]; simp [hsz, sizeAt_get hm]; omega
      · rw [sub2 hm, frO, fr2]; unfold becomes; rw [hL, hR]; simp [hsz, sizeAt_get hm, sumL]; omega
      · rw [sub2 hm, frO, fr2, decide_eq_false (by omega), decide_eq_true (by omega)]; rfl
  | true =>
    obtain ⟨j, rfl⟩ : ∃ j, i = j + 1 := by
      rcases i with _ | j
      · rw [leftF_zero] at hL; cases hL
      · exact ⟨j, rfl⟩
    have hj : j < l.length := by omega
    have hL1 : l[j].kind = 2 := by rw [leftF_succ hj] at hL; simpa using hL
    have hL2 : ∀ m (hm : m < l.length), j = m + 1 → l[m].kind ≠ 2 := by
      rintro m hm rfl e
      exact AP m (by omega) ⟨e, hL1⟩
    have fr1 : ∀ m, freeL (l[j] :: m) = l[j] :: freeL m := fun m => by unfold freeL; rw [List.filter_cons]; simp [hL1]
    have haj : atAt l j = l[j].at_ := atAt_get hj
    have hzj : sizeAt l j = l[j].size := sizeAt_get hj
    cases hR : rightF l (j + 1) with
    | false =>
      have hR1 : ∀ hm : j + 2 < l.length, l[j + 2].kind ≠ 2 := by
        intro hm e
        rw [rightF_in hm, e] at hR; cases hR
      obtain ⟨p, q, h1, h2, h3⟩ := seg_cut (lo := j) (hi := j + 2) hc (by omega)
      rw [sub2 hi] at h2
      obtain ⟨s1, s2, e1⟩ := h2
      have e1 : p + l[j].size.toNat + l[j + 1].size.toNat = q := e1
      obtain ⟨g1, _, a1, _⟩ := stands_some s1
      obtain ⟨g2, _, a2, _⟩ := stands_some s2
      have z1 := good_size g1
      have z2 := good_size g2
      refine ⟨j, j + 2, p, q, by omega, by omega, by omega, by omega, h1, h3, ?_, ?_, by omega, by omega, by omega, by omega, apart_put ha (by omega) _ hL2 hR1, ?_, ?_⟩
      · unfold becomes; rw [hL]; simp [haj, a1]
      · unfold becomes; rw [hL, hR]; simp [hsz, hzj]; omega
      · rw [sub2 hi, fr1, frO]; unfold becomes; rw [hL, hR]; simp [hsz, hzj, sumL, freeL]; omega
      · rw [sub2 hi, fr1, frO, decide_eq_true (by omega), decide_eq_false (by omega)]; rfl
    | true =>
      have hm : j + 2 < l.length := by
        rcases Nat.lt_or_ge (j + 2) l.length with h | h
        · exact h
        · rw [rightF_end h] at hR; cases hR
      have hR1 : l[j + 2].kind = 2 := by rw [rightF_in hm] at hR; simpa using hR
      have hR2 : ∀ hm2 : j + 3 < l.length, l[j + 3].kind ≠ 2 := fun hm2 e => AP (j + 2) hm2 ⟨hR1, e⟩
      obtain ⟨p, q, h1, h2, h3⟩ := seg_cut (lo := j) (hi := j + 3) hc (by omega)
      rw [sub3 hm] at h2
      obtain ⟨s1, s2, s3, e1⟩ := h2
      have e1 : p + l[j].size.toNat + l[j + 1].size.toNat + l[j + 2].size.toNat = q := e1
      obtain ⟨g1, _, a1, _⟩ := stands_some s1
      obtain ⟨g2, _, a2, _⟩ := stands_some s2
      obtain ⟨g3, _, a3, _⟩ := stands_some s3
      have z1 := good_size g1
      have z2 := good_size g2
      have z3 := good_size g3
      have fr2 : freeL [l[j + 2]] = [l[j + 2]] := by unfold freeL; rw [List.filter_cons]; simp [hR1]
      have hz2 : sizeAt l (j + 1 + 1) = l[j + 2].size := sizeAt_get hm
      refine ⟨j, j + 3, p, q, by omega, by omega, by omega, by omega, h1, h3, ?_, ?_, by omega, by omega, by omega, by omega, apart_put ha (by omega) _ hL2 hR2, ?_, ?_⟩
      · unfold becomes; rw [hL]; simp [haj, a1]
      · unfold becomes; rw [hL, hR]; simp [hsz, hzj, hz2]; omega
      · rw [sub3 hm, fr1, frO, fr2]; unfold becomes; rw [hL, hR]; simp [hsz, hzj, hz2, sumL]; omega
      · rw [sub3 hm, fr1, frO, fr2, decide_eq_true (by omega), decide_eq_true (by omega)]; rfl
end Go.Proofs.Ytoifalgkeegklaa
