/- Blocks that are written one behind the other. No program in sight. -/
import Derived.Test.YthdccahggcjogaaSpoiltPlain
namespace Go.Proofs.Ythdccahggcjogaa

structure Wr (n : Nat) (ws : List Nat) (l : List Blk) (p : Nat) : Prop where
  len : ws.length = n
  seg : Seg ws 128 l p
  even : p % 2 = 0
  le : p ≤ n
  zero : ∀ j, p ≤ j → ws.getD j 0 = 0
  lt : ∀ x ∈ ws, x < 18446744073709551616
theorem wr_zero {n : Nat} (h : 128 ≤ n) : Wr n (List.replicate n 0) [] 128 := by
  refine ⟨by simp, rfl, rfl, h, fun j _ => ?_, fun x hx => ?_⟩
  · simp only [List.getD_eq_getElem?_getD, List.getElem?_replicate]
    split <;> rfl
  · have := (List.mem_replicate.1 hx).2; omega
theorem set_lt {ws : List Nat} {i v : Nat} (h : ∀ x ∈ ws, x < 18446744073709551616) (hv : v < 18446744073709551616) : ∀ x ∈ ws.set i v, x < 18446744073709551616 := fun x hx => by
  rcases List.mem_or_eq_of_mem_set hx with hx | rfl
  · exact h x hx
  · exact hv
theorem stands_put {ys : List Nat} {p : Nat} {b : Blk} (hg : b.good) (h0 : ys.getD p 0 = b.hdr) (h1 : ys.getD (p + 1) 0 = b.next) (hs : b.size ≤ (ys.length : Int) - p) : stands ys p = some { b with at_ := p } := by
  unfold stands
  rw [h0, split_hdr hg]
  simp only
  rw [if_neg (by omega), h1]
theorem wr_put {n : Nat} {ws : List Nat} {l : List Blk} {p : Nat} {b : Blk} (h : Wr n ws l p) (hg : b.good) (hs : b.size ≤ (n : Int) - p) (hx : b.next < 18446744073709551616) :
    Wr n ((ws.set p b.hdr).set (p + 1) b.next) (l ++ [{ b with at_ := p }]) (p + b.size.toNat) := by
  have hz := good_size hg
  have hev := h.even
  have hl := h.len
  refine ⟨by simpa using hl, ?_, by omega, by omega, fun j hj => ?_, set_lt (set_lt h.lt (hdr_lt hg)) hx⟩
  · refine seg_append (c := p) (seg_same (by simp) (fun j _ hj => by rw [getD_set_ne (by omega), getD_set_ne (by omega)]) h.seg) ⟨?_, rfl⟩
    exact stands_put hg (by rw [getD_set_ne (by omega), getD_set_eq (by omega)]) (getD_set_eq (by simp; omega)) (by simp; omega)
  · rw [getD_set_ne (by omega), getD_set_ne (by omega)]; exact h.zero j (by omega)
theorem wr_last {n : Nat} {ws : List Nat} {l : List Blk} {p : Nat} (h : Wr n ws l p) (hp : p < n) (hn : n % 2 = 0) (hn2 : n ≤ 2048) (h128 : 128 ≤ p) :
    Blk.good ⟨p, (n : Int) - p, 2, 0, false, 0⟩ ∧ Wr n (ws.set p (Blk.hdr ⟨p, (n : Int) - p, 2, 0, false, 0⟩)) (l ++ [⟨p, (n : Int) - p, 2, 0, false, 0⟩]) n := by
  have hev := h.even
  have hl := h.len
  have hg : Blk.good ⟨p, (n : Int) - p, 2, 0, false, 0⟩ := ⟨by show 2 ≤ (n : Int) - p; omega, by show ((n : Int) - p) % 2 = 0; omega, .inr ⟨rfl, rfl, rfl, by show (n : Int) - p ≤ 1920; omega⟩⟩
  refine ⟨hg, by simpa using hl, ?_, hn, Nat.le_refl _, fun j hj => ?_, set_lt h.lt (hdr_lt hg)⟩
  · have hs := stands_put (ys := ws.set p (Blk.hdr ⟨p, (n : Int) - p, 2, 0, false, 0⟩)) (p := p) hg (getD_set_eq (by omega)) (by rw [getD_set_ne (by omega)]; exact h.zero _ (by omega)) (by simp; omega)
    refine seg_append (c := p) (seg_same (by simp) (fun j _ hj => by rw [getD_set_ne (by omega)]) h.seg) ⟨hs, ?_⟩
    show p + ((n : Int) - p).toNat = n
    omega
  · rw [getD_set_ne (by omega)]; exact h.zero j (by omega)
theorem wr_end {n : Nat} {ws : List Nat} {l : List Blk} (h : Wr n ws l n) (hi : imgOk n) : fromR ws 128 = (l, 0) ∧ allR ws = if side l then ([], 50) else (l, 0) := by
  have hl := h.len
  have hs := h.seg
  rw [← hl] at hs hi
  have hp := parse_of_chain ws l 128 (chain_of_seg hs)
  constructor
  · unfold fromR
    rw [if_neg (by simpa using hi), if_neg (by have := hi.1; omega)]
    rw [show (128 : Int).toNat = 128 from rfl, hp]
  · unfold allR heap
    rw [if_neg (by simpa using hi), hp]
    cases hsd : side l <;> simp [hsd]
theorem wr_le {n : Nat} {ws : List Nat} {l : List Blk} {p : Nat} (h : Wr n ws l p) : 128 + 2 * l.length ≤ p := seg_le h.seg

theorem kindAt_snoc {l : List Blk} {b : Blk} {i : Nat} (h : i < l.length) : kindAt (l ++ [b]) i = kindAt l i := by
  rw [kindAt_get h, kindAt_get (by simp; omega), List.getElem_append_left h]
theorem sideF_snoc {l : List Blk} {b : Blk} : ∀ k, k ≤ l.length → sideF (l ++ [b]) k = sideF l k
  | 0, _ => rfl
  | k + 1, h => by
    unfold sideF
    rw [sideF_snoc k (by omega), kindAt_snoc (by omega), kindAt_snoc (by omega)]
theorem side_snoc (l : List Blk) (b : Blk) : side (l ++ [b]) = (side l || (decide (0 < l.length) && (kindAt l (l.length - 1) == 2 && b.kind == 2))) := by
  unfold side
  rw [List.length_append, List.length_singleton]
  conv => lhs; unfold sideF
  rw [sideF_snoc _ (Nat.le_refl _)]
  congr 1
  by_cases h : 0 < l.length
  · rw [kindAt_snoc (by omega), kindAt_get (l := l ++ [b]) (i := l.length) (by simp)]
    simp
  · simp [h]
end Go.Proofs.Ythdccahggcjogaa
