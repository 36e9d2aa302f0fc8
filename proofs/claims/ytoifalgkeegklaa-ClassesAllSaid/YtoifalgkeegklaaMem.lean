/- Lists of words in memory. -/
import Derived.Below
import Derived.ChangeShapes
import Derived.WalkKit
import Derived.Deep.Draws
namespace Go.Proofs.Ytoifalgkeegklaa
open Go.RowKit

/-- A slice that reads as a list of words. -/
structure Words (w : World) (A : Option Addr) (n c : Nat) (ws : List Nat) : Prop where
  len : ws.length = n
  cap : n ≤ c
  most : c ≤ 9223372036854775807
  none_ : A = none → c = 0
  lt : ∀ x ∈ ws, x < 18446744073709551616
  cell : 0 < n → ∃ b o, A = some ⟨b, o, none⟩ ∧ b < w.heap.size ∧ ∀ j (h : j < ws.length), w.cell? ⟨b, o + j, none⟩ = some (.int .u64 (ws[j] : Nat))

theorem Words.nil {w : World} : Words w none 0 0 [] := ⟨rfl, Nat.le_refl _, by omega, fun _ => rfl, by simp, fun h => absurd h (by omega)⟩

theorem lt_of_cell {w : World} {a : Addr} {v : Value} (h : w.cell? a = some v) : a.block < w.heap.size := by
  rcases Nat.lt_or_ge a.block w.heap.size with hl | hl
  · exact hl
  · have : w.heap[a.block]? = none := Array.getElem?_eq_none hl
    simp [World.cell?, this] at h

theorem Words.of_ints {w : World} {x : Addr} {l c : Nat} {zs : List Int} (hl : l ≤ c) (hm : c ≤ maxLen) (hz : zs.length = c)
    (hcell : ∀ i, i < zs.length → w.cell? (x.add i) = some (.int .u64 (zs.getD i 0))) (hwz : ∀ z ∈ zs, ∃ n : Nat, z = n ∧ n < 18446744073709551616) :
    Words w (some x) l c ((zs.take l).map Int.toNat) := by
  refine ⟨by simp; omega, hl, by unfold maxLen at hm; omega, by simp, ?_, ?_⟩
  · intro y hy
    obtain ⟨z, hz1, rfl⟩ := List.mem_map.1 hy
    obtain ⟨n, rfl, hn⟩ := hwz z (List.mem_of_mem_take hz1)
    simpa using hn
  · intro hpos
    obtain ⟨b, o, s⟩ := x
    have h0 := hcell 0 (by omega)
    have hs : s = none := by simpa [Addr.add] using World.cell?_spot h0
    subst hs
    refine ⟨b, o, rfl, ?_, fun j hj => ?_⟩
    · have := lt_of_cell h0
      simpa [Addr.add] using this
    · have hj' : j < l := by simp at hj; omega
      have h1 := hcell j (by omega)
      obtain ⟨n, hn, _⟩ := hwz (zs[j]'(by omega)) (List.getElem_mem _)
      have e : zs.getD j 0 = zs[j]'(by omega) := by simp [List.getD, List.getElem?_eq_getElem (show j < zs.length by omega)]
      rw [e] at h1
      have h2 : (⟨b, o, none⟩ : Addr).add j = ⟨b, o + j, none⟩ := by
        unfold Addr.add; by_cases h : j = 0 <;> simp [h]
      rw [h2] at h1
      rw [h1]
      simp [hn]

theorem Words.below {w w' : World} {A : Option Addr} {n c : Nat} {ws : List Nat} (h : Words w A n c ws) (hb : Below w.heap.size w w') : Words w' A n c ws :=
  ⟨h.len, h.cap, h.most, h.none_, h.lt, fun hn => by
    obtain ⟨b, o, e, hl, hc⟩ := h.cell hn
    exact ⟨b, o, e, Nat.lt_of_lt_of_le hl hb.size, fun j hj => (hb.cell (p := ⟨b, o + j, none⟩) hl).trans (hc j hj)⟩⟩

/-- A new slice of one word. -/
theorem Words.one (w : World) (x : Nat) (t : TypeId) (hx : x < 18446744073709551616) : Words (w.alloc (.cells #[.int .u64 (x : Int)] t)) (some ⟨w.heap.size, 0, none⟩) 1 1 [x] := by
  refine ⟨rfl, Nat.le_refl _, by omega, by simp, by simpa using hx, fun _ => ⟨w.heap.size, 0, rfl, by simp, fun j hj => ?_⟩⟩
  have : j = 0 := by simpa using hj
  subst this
  simp [go_sem]

/-- Block g is just these cells, none frozen. -/
def Cells (w : World) (g : Nat) (t : TypeId) (cs : Array Value) : Prop := w.heap[g]? = some (.cells cs t (0, 0))
section
variable {w w' : World} {g : Nat} {t : TypeId} {cs : Array Value}
theorem Cells.lt (h : Cells w g t cs) : g < w.heap.size := by
  rcases Nat.lt_or_ge g w.heap.size with hl | hl
  · exact hl
  · unfold Cells at h; rw [Array.getElem?_eq_none hl] at h; cases h
theorem Cells.cell (h : Cells w g t cs) (i : Nat) : w.cell? ⟨g, i, none⟩ = cs[i]? := cell_of_row w g i cs t (0, 0) h
theorem Cells.frozen (h : Cells w g t cs) (i : Nat) : w.frozen? ⟨g, i, none⟩ = false := by
  unfold Cells at h
  simp [World.frozen?, h]
theorem Cells.new (w : World) (t : TypeId) (cs : Array Value) : Cells (w.alloc (.cells cs t)) w.heap.size t cs := heap_alloc_new w _
theorem Cells.at_ (w : World) (t : TypeId) (cs : Array Value) {n : Nat} (h : n = w.heap.size) : Cells (w.alloc (.cells cs t)) n t cs := by subst h; exact Cells.new w t cs
theorem Cells.drew (h : Cells w g t cs) : Cells w.drew g t cs := h
theorem Cells.alloc (h : Cells w g t cs) (o : Obj) : Cells (w.alloc o) g t cs := (Below.heap_alloc w o g h.lt).trans h
theorem Cells.set_ (h : Cells w g t cs) (i : Nat) (u : Value) : Cells (w.setCell ⟨g, i, none⟩ u) g t (cs.setIfInBounds i u) := by
  unfold Cells at h ⊢
  simp [World.setCell, Array.getElem?_modify, h]
theorem Cells.far (h : Cells w g t cs) {p : Addr} (hp : g ≠ p.block) (u : Value) : Cells (w.setCell p u) g t cs := (Below.heap_setCell w p u g hp).trans h
theorem Cells.below {B : Nat} (h : Cells w g t cs) (hb : Below B w w') (hg : g < B) : Cells w' g t cs := (hb.block g hg).trans h
theorem Cells.kept (h : Cells w g t cs) (hb : Below w.heap.size w w') : Cells w' g t cs := h.below hb h.lt
theorem Cells.six {c0 c1 c2 c3 c4 c5 : Value} (h : Cells w g t #[c0, c1, c2, c3, c4, c5]) :
    w.cell? ⟨g, 0, none⟩ = some c0 ∧ w.cell? ⟨g, 1, none⟩ = some c1 ∧ w.cell? ⟨g, 2, none⟩ = some c2 ∧ w.cell? ⟨g, 3, none⟩ = some c3 ∧ w.cell? ⟨g, 4, none⟩ = some c4 ∧ w.cell? ⟨g, 5, none⟩ = some c5 :=
  ⟨h.cell 0, h.cell 1, h.cell 2, h.cell 3, h.cell 4, h.cell 5⟩
theorem Cells.free6 {c0 c1 c2 c3 c4 c5 : Value} (h : Cells w g t #[c0, c1, c2, c3, c4, c5]) :
    w.frozen? ⟨g, 0, none⟩ = false ∧ w.frozen? ⟨g, 1, none⟩ = false ∧ w.frozen? ⟨g, 2, none⟩ = false ∧ w.frozen? ⟨g, 3, none⟩ = false ∧ w.frozen? ⟨g, 4, none⟩ = false ∧ w.frozen? ⟨g, 5, none⟩ = false :=
  ⟨h.frozen 0, h.frozen 1, h.frozen 2, h.frozen 3, h.frozen 4, h.frozen 5⟩
end
theorem Cells.put6 {w : World} {g : Nat} {t : TypeId} {c0 c1 c2 c3 c4 c5 : Value} (h : Cells w g t #[c0, c1, c2, c3, c4, c5]) (d0 d1 d2 d3 d4 d5 : Value) :
    Cells ((((((w.setCell ⟨g, 0, none⟩ d0).setCell ⟨g, 1, none⟩ d1).setCell ⟨g, 2, none⟩ d2).setCell ⟨g, 3, none⟩ d3).setCell ⟨g, 4, none⟩ d4).setCell ⟨g, 5, none⟩ d5) g t #[d0, d1, d2, d3, d4, d5] := by
  have := (((((h.set_ 0 d0).set_ 1 d1).set_ 2 d2).set_ 3 d3).set_ 4 d4).set_ 5 d5
  simpa using this
theorem below_put6 {B : Nat} {a w : World} {g : Nat} (h : Below B a w) (hg : B ≤ g) (d0 d1 d2 d3 d4 d5 : Value) : Below B a ((((((w.setCell ⟨g, 0, none⟩ d0).setCell ⟨g, 1, none⟩ d1).setCell ⟨g, 2, none⟩ d2).setCell ⟨g, 3, none⟩ d3).setCell ⟨g, 4, none⟩ d4).setCell ⟨g, 5, none⟩ d5) :=
  (((((h.setCell (p := ⟨g, 0, none⟩) hg d0).setCell (p := ⟨g, 1, none⟩) hg d1).setCell (p := ⟨g, 2, none⟩) hg d2).setCell (p := ⟨g, 3, none⟩) hg d3).setCell (p := ⟨g, 4, none⟩) hg d4).setCell (p := ⟨g, 5, none⟩) hg d5
/-! Steps of the macros of fill.py: nothing below the heap's first size has changed. -/
def Since (a b : World) : Prop := Below a.heap.size a b
theorem Since.refl (a : World) : Since a a := Below.refl _ _
theorem Since.size {a b : World} (h : Since a b) : a.heap.size ≤ b.heap.size := by unfold Since at h; exact h.size
theorem Since.via {a b c : World} (h : Since a b) (k : Below b.heap.size b c) : Since a c := Below.trans h (k.mono h.size)
theorem Since.trans {a b c : World} (h : Since a b) (k : Since b c) : Since a c := h.via k
theorem Since.alloc {a b : World} (h : Since a b) (o : Obj) : Since a (b.alloc o) := Below.alloc h h.size o
theorem Since.drew {a b : World} (h : Since a b) : Since a b.drew := Below.drew h
theorem Since.drewN {a b : World} (h : Since a b) (n : Nat) : Since a (b.drewN n) := by unfold Since at h ⊢; exact ⟨h.os, h.tape, h.output, h.size, h.block⟩
theorem Since.setCell {a b : World} (h : Since a b) {g i : Nat} (hg : a.heap.size ≤ g) (u : Value) : Since a (b.setCell ⟨g, i, none⟩ u) := Below.setCell h hg u
theorem Since.grown {a b c : World} (h : Since a b) {row : Option Nat} (hg : b.grownBy c row) (hr : ∀ k, row = some k → a.heap.size ≤ k) : Since a c := Below.grown h hg h.size hr
theorem Since.out {a b : World} (h : Since a b) : Below a.heap.size a b := h
theorem Cells.far' {w : World} {g : Nat} {t : TypeId} {cs : Array Value} (h : Cells w g t cs) {k i : Nat} (hp : g ≠ k) (u : Value) : Cells (w.setCell ⟨k, i, none⟩ u) g t cs := h.far hp u
theorem Cells.drewN {w : World} {g : Nat} {t : TypeId} {cs : Array Value} (h : Cells w g t cs) (n : Nat) : Cells (w.drewN n) g t cs := h
theorem Cells.grown {w w' : World} {g : Nat} {t : TypeId} {cs : Array Value} (h : Cells w g t cs) {row : Option Nat} (hg : w.grownBy w' row) (hr : row ≠ some g) : Cells w' g t cs := (hg.block g h.lt (fun e => hr e.symm)).trans h
end Go.Proofs.Ytoifalgkeegklaa
