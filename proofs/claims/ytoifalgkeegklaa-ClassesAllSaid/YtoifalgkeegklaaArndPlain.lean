/- What an object becomes. No program in sight. -/
import Derived.Test.YtoifalgkeegklaaExtPlain
namespace Go.Proofs.Ytoifalgkeegklaa

def atAt (l : List Blk) (i : Nat) : Int := (l.getD i zeroB).at_
theorem atAt_get {l : List Blk} {i : Nat} (h : i < l.length) : atAt l i = l[i].at_ := by unfold atAt; simp [List.getD, h]
def leftF (l : List Blk) (i : Nat) : Bool := decide (0 < i) && kindAt l (i - 1) == 2
def rightF (l : List Blk) (i : Nat) : Bool := decide (i + 1 < l.length) && kindAt l (i + 1) == 2
def becomes (l : List Blk) (i : Nat) : Blk :=
  ⟨if leftF l i then atAt l (i - 1) else atAt l i, sizeAt l i + (if leftF l i then sizeAt l (i - 1) else 0) + (if rightF l i then sizeAt l (i + 1) else 0), 2, 0, false, 0⟩
/-- The object of a list that begins at an address, from a place on. -/
def seek (l : List Blk) (a : Int) : Nat → Nat → Option Nat
  | 0, _ => none
  | f + 1, k => if atAt l k = a ∧ kindAt l k = 1 then some k else seek l a f (k + 1)
def aroundO (l : List Blk) : Option Nat → Blk × Int
  | none => (zeroB, 6)
  | some i => (becomes l i, 0)
def aroundR (ws : List Nat) (a : Int) : Blk × Int := if (allR ws).2 ≠ 0 then (zeroB, (allR ws).2) else aroundO (allR ws).1 (seek (allR ws).1 a (allR ws).1.length 0)
theorem seek_yes {l : List Blk} {a : Int} {k : Nat} (h : k < l.length) (h1 : l[k].at_ = a) (h2 : l[k].kind = 1) : seek l a (l.length - k) k = some k := by
  rw [show l.length - k = (l.length - k - 1) + 1 by omega]
  unfold seek
  rw [atAt_get h, kindAt_get h, if_pos ⟨h1, h2⟩]
theorem seek_no {l : List Blk} {a : Int} {k : Nat} (h : k < l.length) (h1 : ¬ (l[k].at_ = a ∧ l[k].kind = 1)) : seek l a (l.length - k) k = seek l a (l.length - (k + 1)) (k + 1) := by
  rw [show l.length - k = (l.length - (k + 1)) + 1 by omega]
  conv => lhs; unfold seek
  rw [atAt_get h, kindAt_get h, if_neg h1]
theorem seek_end (l : List Blk) (a : Int) : seek l a (l.length - l.length) l.length = none := by rw [Nat.sub_self]; rfl
theorem seek_some {l : List Blk} {a : Int} : ∀ (f k i : Nat), seek l a f k = some i → k ≤ i ∧ i < k + f ∧ atAt l i = a ∧ kindAt l i = 1
  | 0, _, _, h => by cases h
  | f + 1, k, i, h => by
    unfold seek at h
    split at h
    · rename_i hc
      injection h with h; subst h
      exact ⟨Nat.le_refl _, by omega, hc.1, hc.2⟩
    · have := seek_some f (k + 1) i h
      exact ⟨by omega, by omega, this.2.2⟩
theorem seek_none {l : List Blk} {a : Int} : ∀ (f k : Nat), seek l a f k = none → ∀ i, k ≤ i → i < k + f → ¬ (atAt l i = a ∧ kindAt l i = 1)
  | 0, _, _, i, h1, h2 => absurd h2 (by omega)
  | f + 1, k, h, i, h1, h2 => by
    unfold seek at h
    split at h
    · cases h
    · rename_i hc
      rcases Nat.lt_or_ge k i with hl | hl
      · exact seek_none f (k + 1) h i (by omega) (by omega)
      · obtain rfl : i = k := by omega
        exact hc
theorem sub1 {l : List Blk} {i : Nat} (h : i < l.length) : (l.take (i + 1)).drop i = [l[i]] := by
  rw [List.drop_take, List.drop_eq_getElem_cons h, show i + 1 - i = 1 by omega]; rfl
theorem sub2 {l : List Blk} {i : Nat} (h : i + 1 < l.length) : (l.take (i + 2)).drop i = [l[i], l[i + 1]] := by
  rw [List.drop_take, List.drop_eq_getElem_cons (show i < l.length by omega), List.drop_eq_getElem_cons h, show i + 2 - i = 2 by omega]; rfl
theorem sub3 {l : List Blk} {i : Nat} (h : i + 2 < l.length) : (l.take (i + 3)).drop i = [l[i], l[i + 1], l[i + 2]] := by
  rw [List.drop_take, List.drop_eq_getElem_cons (show i < l.length by omega), List.drop_eq_getElem_cons (show i + 1 < l.length by omega), List.drop_eq_getElem_cons h, show i + 3 - i = 3 by omega]; rfl
theorem leftF_zero (l : List Blk) : leftF l 0 = false := rfl
theorem leftF_succ {l : List Blk} {j : Nat} (h : j < l.length) : leftF l (j + 1) = (l[j].kind == 2) := by
  unfold leftF
  rw [show j + 1 - 1 = j by omega, kindAt_get h]; simp
theorem rightF_end {l : List Blk} {i : Nat} (h : l.length ≤ i + 1) : rightF l i = false := by
  unfold rightF
  rw [decide_eq_false (by omega)]; rfl
theorem rightF_in {l : List Blk} {i : Nat} (h : i + 1 < l.length) : rightF l i = (l[i + 1].kind == 2) := by
  unfold rightF
  rw [kindAt_get h, decide_eq_true h]; rfl
theorem sum1 (x : Blk) : sumF [x] 1 = x.size := by simp [sumF, sizeAt]
theorem sum2 (x y : Blk) : sumF [x, y] 2 = x.size + y.size := by simp [sumF, sizeAt]
theorem sum3 (x y z : Blk) : sumF [x, y, z] 3 = x.size + y.size + z.size := by simp [sumF, sizeAt]
theorem Blk.eq_ {b : Blk} {a s : Int} (h1 : b.at_ = a) (h2 : b.size = s) (h3 : b.kind = 2) (h4 : b.typ = 0) (h5 : b.mark = false) (h6 : b.next = 0) : b = ⟨a, s, 2, 0, false, 0⟩ := Blk.eq h1 h2 h3 h4 h5 h6
theorem bec_zz {l : List Blk} (hi : 0 < l.length) (hr : l.length ≤ 1) : becomes l 0 = ⟨l[0].at_, l[0].size, 2, 0, false, 0⟩ := by
  have hl : leftF l 0 = false := leftF_zero l
  have hq : rightF l 0 = false := rightF_end hr
  refine Blk.eq_ ?_ ?_ rfl rfl rfl rfl
  · unfold becomes
    simp only [hl, Bool.false_eq_true, if_false]
    exact atAt_get hi
  · unfold becomes
    simp only [hl, hq, Bool.false_eq_true, if_false]
    rw [sizeAt_get hi]
    omega
theorem bec_zn {l : List Blk} (hi : 0 < l.length) (hr : 1 < l.length) (hy : l[1].kind ≠ 2) : becomes l 0 = ⟨l[0].at_, l[0].size, 2, 0, false, 0⟩ := by
  have hl : leftF l 0 = false := leftF_zero l
  have hq : rightF l 0 = false := (rightF_in hr).trans (by simpa using hy)
  refine Blk.eq_ ?_ ?_ rfl rfl rfl rfl
  · unfold becomes
    simp only [hl, Bool.false_eq_true, if_false]
    exact atAt_get hi
  · unfold becomes
    simp only [hl, hq, Bool.false_eq_true, if_false]
    rw [sizeAt_get hi]
    omega
theorem bec_zf {l : List Blk} (hi : 0 < l.length) (hr : 1 < l.length) (hy : l[1].kind = 2) : becomes l 0 = ⟨l[0].at_, l[0].size + l[1].size, 2, 0, false, 0⟩ := by
  have hl : leftF l 0 = false := leftF_zero l
  have hq : rightF l 0 = true := (rightF_in hr).trans (by simpa using hy)
  refine Blk.eq_ ?_ ?_ rfl rfl rfl rfl
  · unfold becomes
    simp only [hl, Bool.false_eq_true, if_false]
    exact atAt_get hi
  · unfold becomes
    simp only [hl, hq, if_true, Bool.false_eq_true, if_false]
    rw [sizeAt_get hi, sizeAt_get hr]
    omega
theorem bec_nz {l : List Blk} (j : Nat) (hi : (j + 1) < l.length) (hx : l[j].kind ≠ 2) (hr : l.length ≤ (j + 2)) : becomes l (j + 1) = ⟨l[(j + 1)].at_, l[(j + 1)].size, 2, 0, false, 0⟩ := by
  have hl : leftF l (j + 1) = false := (leftF_succ (show j < l.length by omega)).trans (by simpa using hx)
  have hq : rightF l (j + 1) = false := rightF_end hr
  refine Blk.eq_ ?_ ?_ rfl rfl rfl rfl
  · unfold becomes
    simp only [hl, Bool.false_eq_true, if_false]
    exact atAt_get hi
  · unfold becomes
    simp only [hl, hq, Bool.false_eq_true, if_false]
    rw [sizeAt_get hi]
    omega
theorem bec_nn {l : List Blk} (j : Nat) (hi : (j + 1) < l.length) (hx : l[j].kind ≠ 2) (hr : (j + 2) < l.length) (hy : l[(j + 2)].kind ≠ 2) : becomes l (j + 1) = ⟨l[(j + 1)].at_, l[(j + 1)].size, 2, 0, false, 0⟩ := by
  have hl : leftF l (j + 1) = false := (leftF_succ (show j < l.length by omega)).trans (by simpa using hx)
  have hq : rightF l (j + 1) = false := (rightF_in hr).trans (by simpa using hy)
  refine Blk.eq_ ?_ ?_ rfl rfl rfl rfl
  · unfold becomes
    simp only [hl, Bool.false_eq_true, if_false]
    exact atAt_get hi
  · unfold becomes
    simp only [hl, hq, Bool.false_eq_true, if_false]
    rw [sizeAt_get hi]
    omega
theorem bec_nf {l : List Blk} (j : Nat) (hi : (j + 1) < l.length) (hx : l[j].kind ≠ 2) (hr : (j + 2) < l.length) (hy : l[(j + 2)].kind = 2) : becomes l (j + 1) = ⟨l[(j + 1)].at_, l[(j + 1)].size + l[(j + 2)].size, 2, 0, false, 0⟩ := by
  have hl : leftF l (j + 1) = false := (leftF_succ (show j < l.length by omega)).trans (by simpa using hx)
  have hq : rightF l (j + 1) = true := (rightF_in hr).trans (by simpa using hy)
  refine Blk.eq_ ?_ ?_ rfl rfl rfl rfl
  · unfold becomes
    simp only [hl, Bool.false_eq_true, if_false]
    exact atAt_get hi
  · unfold becomes
    simp only [hl, hq, if_true, Bool.false_eq_true, if_false]
    rw [sizeAt_get hi, sizeAt_get hr]
    omega
theorem bec_fz {l : List Blk} (j : Nat) (hi : (j + 1) < l.length) (hx : l[j].kind = 2) (hr : l.length ≤ (j + 2)) : becomes l (j + 1) = ⟨l[j].at_, l[(j + 1)].size + l[j].size, 2, 0, false, 0⟩ := by
  have hl : leftF l (j + 1) = true := (leftF_succ (show j < l.length by omega)).trans (by simpa using hx)
  have hq : rightF l (j + 1) = false := rightF_end hr
  refine Blk.eq_ ?_ ?_ rfl rfl rfl rfl
  · unfold becomes
    simp only [hl, if_true]
    exact atAt_get (show j < l.length by omega)
  · unfold becomes
    simp only [hl, hq, if_true, Bool.false_eq_true, if_false]
    rw [sizeAt_get hi, show j + 1 - 1 = j by omega, sizeAt_get (show j < l.length by omega)]
    omega
theorem bec_fn {l : List Blk} (j : Nat) (hi : (j + 1) < l.length) (hx : l[j].kind = 2) (hr : (j + 2) < l.length) (hy : l[(j + 2)].kind ≠ 2) : becomes l (j + 1) = ⟨l[j].at_, l[(j + 1)].size + l[j].size, 2, 0, false, 0⟩ := by
  have hl : leftF l (j + 1) = true := (leftF_succ (show j < l.length by omega)).trans (by simpa using hx)
  have hq : rightF l (j + 1) = false := (rightF_in hr).trans (by simpa using hy)
  refine Blk.eq_ ?_ ?_ rfl rfl rfl rfl
  · unfold becomes
    simp only [hl, if_true]
    exact atAt_get (show j < l.length by omega)
  · unfold becomes
    simp only [hl, hq, if_true, Bool.false_eq_true, if_false]
    rw [sizeAt_get hi, show j + 1 - 1 = j by omega, sizeAt_get (show j < l.length by omega)]
    omega
theorem bec_ff {l : List Blk} (j : Nat) (hi : (j + 1) < l.length) (hx : l[j].kind = 2) (hr : (j + 2) < l.length) (hy : l[(j + 2)].kind = 2) : becomes l (j + 1) = ⟨l[j].at_, l[(j + 1)].size + l[j].size + l[(j + 2)].size, 2, 0, false, 0⟩ := by
  have hl : leftF l (j + 1) = true := (leftF_succ (show j < l.length by omega)).trans (by simpa using hx)
  have hq : rightF l (j + 1) = true := (rightF_in hr).trans (by simpa using hy)
  refine Blk.eq_ ?_ ?_ rfl rfl rfl rfl
  · unfold becomes
    simp only [hl, if_true]
    exact atAt_get (show j < l.length by omega)
  · unfold becomes
    simp only [hl, hq, if_true]
    rw [sizeAt_get hi, show j + 1 - 1 = j by omega, sizeAt_get (show j < l.length by omega), sizeAt_get hr]end Go.Proofs.Ytoifalgkeegklaa
