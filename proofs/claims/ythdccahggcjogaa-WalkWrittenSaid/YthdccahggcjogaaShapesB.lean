/- How a block argument reads. -/
import Derived.Test.YthdccahggcjogaaShapes
import Derived.Test.YthdccahggcjogaaHead
import Derived.Test.YthdccahggcjogaaBlocks
import Derived.Deep.Slices
import Derived.Lib.SmallJoins
import Derived.Deep.Fields
import Derived.ChangeSame
namespace Go.Proofs.Ythdccahggcjogaa
open Go.Joins Go.ChangeShapes Go.WideShapes Go.RowKit Go.Deep

section
variable {H : Type} {enc : TypeId × Value → H} {P : Program} {w : World} {base : Nat} {spare : Nat → Bool} {held : Bool}
/-- A struct of six fields of one cell each, by value. -/
theorem agg_six {r : Reach} {b0 : Nat} {t : TypeId} {f0 f1 f2 f3 f4 f5 : Field} {v : Value} {d : DataW H} {p : List MemPlace} (hs : P.underlying t = some (.struct #[f0, f1, f2, f3, f4, f5])) (hone : oneCellFields P #[f0, f1, f2, f3, f4, f5] = true) (hC : P.cellsOf t = 6)
    (hv : Value.okWide P w r b0 t v) (h : DataW.Trod enc P w base spare held t v d p) :
    ∃ (v0 v1 v2 v3 v4 v5 : Value) (y0 y1 y2 y3 y4 y5 : DataW H × List MemPlace) (n : Nat), v = .agg #[v0, v1, v2, v3, v4, v5] ∧
      DataW.trod enc P w base spare held n f0.type [v0] = some y0 ∧ DataW.trod enc P w base spare held n f1.type [v1] = some y1 ∧ DataW.trod enc P w base spare held n f2.type [v2] = some y2 ∧ DataW.trod enc P w base spare held n f3.type [v3] = some y3 ∧ DataW.trod enc P w base spare held n f4.type [v4] = some y4 ∧ DataW.trod enc P w base spare held n f5.type [v5] = some y5 := by
  obtain ⟨cs, rfl, hsz⟩ := okWide_struct hs hv
  obtain ⟨l⟩ := cs
  match l, hsz.trans hC with
  | [c0, c1, c2, c3, c4, c5], _ =>
    obtain ⟨fuel, hf⟩ := h
    obtain ⟨xs, n, _, hx, _, hlen, hg⟩ := DataW.trod_struct hs hf
    obtain ⟨o0, k0⟩ := hone_of hone 0 f0 rfl
    obtain ⟨o1, k1⟩ := hone_of hone 1 f1 rfl
    obtain ⟨o2, k2⟩ := hone_of hone 2 f2 rfl
    obtain ⟨o3, k3⟩ := hone_of hone 3 f3 rfl
    obtain ⟨o4, k4⟩ := hone_of hone 4 f4 rfl
    obtain ⟨o5, k5⟩ := hone_of hone 5 f5 rfl
    match xs, hlen with
    | [y0, y1, y2, y3, y4, y5], _ =>
      exact ⟨c0, c1, c2, c3, c4, c5, y0, y1, y2, y3, y4, y5, n, rfl, by simpa [Value.cells, o0, k0] using hg 0 f0 rfl, by simpa [Value.cells, o1, k1] using hg 1 f1 rfl, by simpa [Value.cells, o2, k2] using hg 2 f2 rfl, by simpa [Value.cells, o3, k3] using hg 3 f3 rfl, by simpa [Value.cells, o4, k4] using hg 4 f4 rfl, by simpa [Value.cells, o5, k5] using hg 5 f5 rfl⟩
end

section
variable {H : Type} {enc : TypeId × Value → H} {W : World} {r : Reach} {b0 : Nat} {d : DataW H} {p : List MemPlace} {v : Value}
set_option maxRecDepth 100000 in
theorem open_block (hv : Value.okWide Try.prog W r b0 24 v) (h : DataW.Trod enc Try.prog W 0 (fun _ => true) true 24 v d p) :
    ∃ b : Blk, v = b.val ∧ b.Fit := by
  obtain ⟨v0, v1, v2, v3, v4, v5, y0, y1, y2, y3, y4, y5, n, rfl, h0, h1, h2, h3, h4, h5⟩ := agg_six Try.underlying24 (by kernel_rfl) (by kernel_rfl) hv h
  obtain ⟨a, e0, _, w0⟩ := DataW.trod_int Try.underlying3 h0
  obtain ⟨s, e1, _, w1⟩ := DataW.trod_int Try.underlying3 h1
  obtain ⟨k, e2, _, w2⟩ := DataW.trod_int Try.underlying3 h2
  obtain ⟨t, e3, _, w3⟩ := DataW.trod_int Try.underlying3 h3
  obtain ⟨m, e4, _⟩ := DataW.trod_bool Try.underlying4 h4
  obtain ⟨x, e5, _, w5⟩ := DataW.trod_int Try.underlying22 h5
  obtain ⟨n, rfl, hn⟩ := nat_u64 w5
  simp at e0 e1 e2 e3 e4 e5
  subst e0 e1 e2 e3 e4 e5
  exact ⟨⟨a, s, k, t, m, n⟩, rfl, bd_i64 w0, bd_i64 w1, bd_i64 w2, bd_i64 w3, hn⟩

instance : Inhabited Blk := ⟨zeroB⟩
/-- A slice of blocks that came in. -/
def BlksIn (w : World) (A : Option Addr) (n c : Nat) (l : List Blk) : Prop := Blks w A n c l ∧ ∀ b ∈ l, b.Fit
theorem addr_add (g o j : Nat) : (⟨g, o, none⟩ : Addr).add j = ⟨g, o + j, none⟩ := by unfold Addr.add; by_cases h : j = 0 <;> simp [h]
theorem cells_six {P : Program} {w : World} {base n g o : Nat} {spare : Nat → Bool} {held : Bool} {t : TypeId} {f0 f1 f2 f3 f4 f5 : Field} {cs : List Value} {x : DataW H × List MemPlace} (hs : P.underlying t = some (.struct #[f0, f1, f2, f3, f4, f5])) (hone : oneCellFields P #[f0, f1, f2, f3, f4, f5] = true)
    (hc : w.cells? base ⟨g, o, none⟩ 6 = some cs) (h : DataW.trod enc P w base spare held n t cs = some x) :
    ∃ (v0 v1 v2 v3 v4 v5 : Value) (y0 y1 y2 y3 y4 y5 : DataW H × List MemPlace) (m : Nat),
      (w.cell? ⟨g, o, none⟩ = some v0 ∧ w.cell? ⟨g, o + 1, none⟩ = some v1 ∧ w.cell? ⟨g, o + 2, none⟩ = some v2 ∧ w.cell? ⟨g, o + 3, none⟩ = some v3 ∧ w.cell? ⟨g, o + 4, none⟩ = some v4 ∧ w.cell? ⟨g, o + 5, none⟩ = some v5) ∧
      DataW.trod enc P w base spare held m f0.type [v0] = some y0 ∧ DataW.trod enc P w base spare held m f1.type [v1] = some y1 ∧ DataW.trod enc P w base spare held m f2.type [v2] = some y2 ∧ DataW.trod enc P w base spare held m f3.type [v3] = some y3 ∧ DataW.trod enc P w base spare held m f4.type [v4] = some y4 ∧ DataW.trod enc P w base spare held m f5.type [v5] = some y5 := by
  obtain ⟨_, hcl, hat⟩ := World.cells?_some hc
  match cs, hcl with
  | [c0, c1, c2, c3, c4, c5], _ =>
    obtain ⟨xs, m, _, _, _, hlen, hg⟩ := DataW.trod_struct hs h
    obtain ⟨o0, k0⟩ := hone_of hone 0 f0 rfl
    obtain ⟨o1, k1⟩ := hone_of hone 1 f1 rfl
    obtain ⟨o2, k2⟩ := hone_of hone 2 f2 rfl
    obtain ⟨o3, k3⟩ := hone_of hone 3 f3 rfl
    obtain ⟨o4, k4⟩ := hone_of hone 4 f4 rfl
    obtain ⟨o5, k5⟩ := hone_of hone 5 f5 rfl
    simp only [addr_add] at hat
    match xs, hlen with
    | [y0, y1, y2, y3, y4, y5], _ =>
      exact ⟨c0, c1, c2, c3, c4, c5, y0, y1, y2, y3, y4, y5, m, ⟨hat 0 (by omega), hat 1 (by omega), hat 2 (by omega), hat 3 (by omega), hat 4 (by omega), hat 5 (by omega)⟩, by simpa [o0, k0] using hg 0 f0 rfl, by simpa [o1, k1] using hg 1 f1 rfl, by simpa [o2, k2] using hg 2 f2 rfl, by simpa [o3, k3] using hg 3 f3 rfl, by simpa [o4, k4] using hg 4 f4 rfl, by simpa [o5, k5] using hg 5 f5 rfl⟩
/-- Six cells that read as a block. -/
theorem cells_block {base g o : Nat} {n : Nat} {cs : List Value} {y : DataW H × List MemPlace} (hc : W.cells? base ⟨g, o, none⟩ 6 = some cs) (ht : DataW.trod enc Try.prog W base (fun _ => true) true n 24 cs = some y) :
    ∃ b : Blk, BlkAt W g o b ∧ b.Fit := by
  obtain ⟨v0, v1, v2, v3, v4, v5, y0, y1, y2, y3, y4, y5, m, ⟨k0, k1, k2, k3, k4, k5⟩, h0, h1, h2, h3, h4, h5⟩ := cells_six Try.underlying24 (by kernel_rfl) hc ht
  obtain ⟨a, e0, _, w0⟩ := DataW.trod_int Try.underlying3 h0
  obtain ⟨s, e1, _, w1⟩ := DataW.trod_int Try.underlying3 h1
  obtain ⟨k, e2, _, w2⟩ := DataW.trod_int Try.underlying3 h2
  obtain ⟨t, e3, _, w3⟩ := DataW.trod_int Try.underlying3 h3
  obtain ⟨m, e4, _⟩ := DataW.trod_bool Try.underlying4 h4
  obtain ⟨x, e5, _, w5⟩ := DataW.trod_int Try.underlying22 h5
  obtain ⟨n, rfl, hn⟩ := nat_u64 w5
  simp at e0 e1 e2 e3 e4 e5
  subst e0 e1 e2 e3 e4 e5
  exact ⟨⟨a, s, k, t, m, n⟩, ⟨k0, k1, k2, k3, k4, k5⟩, bd_i64 w0, bd_i64 w1, bd_i64 w2, bd_i64 w3, hn⟩
set_option maxRecDepth 100000 in
theorem open_blocks (hv : Value.okWide Try.prog W r b0 50 v) (h : DataW.Trod enc Try.prog W 0 (fun _ => true) true 50 v d p) :
    ∃ A n c l, v = .slice A n c ∧ BlksIn W A n c l := by
  obtain ⟨A, n, c, rfl⟩ := okWide_slice Try.underlying50 hv
  obtain ⟨fuel, hf⟩ := h
  rcases open_slice Try.underlying50 hf with ⟨hcs, _⟩ | ⟨x, l, k, m, n', D, Pl, hcs, _, hl, hm, hmm, _, hi⟩
  · simp [Value.cells] at hcs
    obtain ⟨rfl, rfl, rfl⟩ := hcs
    exact ⟨none, 0, 0, [], rfl, .nil, by simp⟩
  · simp [Value.cells] at hcs
    obtain ⟨rfl, rfl, rfl⟩ := hcs
    have h6 : Try.prog.cellsOf 24 = 6 := by kernel_rfl
    rw [h6] at hi
    simp only [if_true] at hmm
    subst hmm
    rcases Nat.eq_zero_or_pos n with h0 | hpos
    · subst h0
      exact ⟨_, _, _, [], rfl, ⟨rfl, hl, by unfold maxLen at hm; omega, by simp, fun h => absurd h (by omega)⟩, by simp⟩
    · obtain ⟨g, o, s⟩ := x
      obtain ⟨cs0, hc0, ht0⟩ := hi 0 (by omega)
      have hs : s = none := by
        obtain ⟨_, hcl, hat⟩ := World.cells?_some hc0
        have h0 := hat 0 (by omega)
        rw [List.getElem?_eq_getElem (by omega)] at h0
        simpa [Addr.add] using World.cell?_spot h0
      subst hs
      have hex : ∀ i, i < n → ∃ b : Blk, BlkAt W g (o + i * 6) b ∧ b.Fit := by
        intro i hin
        obtain ⟨cs', hc', ht'⟩ := hi i (by omega)
        rw [addr_add] at hc'
        exact cells_block hc' ht'
      obtain ⟨f, hf⟩ := choose_lt hex
      refine ⟨_, _, _, (List.range n).map f, rfl, ⟨by simp, hl, by unfold maxLen at hm; omega, by simp, fun _ => ⟨g, o, rfl, ?_, fun j hj => ?_⟩⟩, ?_⟩
      · have := lt_of_cell (hf 0 hpos).1.1
        exact this
      · simp at hj
        rw [List.getElem_map, List.getElem_range]
        exact (hf j hj).1
      · intro b hb
        obtain ⟨i, hi, rfl⟩ := List.mem_map.1 hb
        exact (hf i (by simpa using hi)).2
end
end Go.Proofs.Ythdccahggcjogaa
