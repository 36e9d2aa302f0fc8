/- Words that the call has copied, and stores into them. -/
import Derived.Test.YtoifalgkeegklaaWalk
import Derived.Test.YtoifalgkeegklaaTwin
import Derived.Test.YtoifalgkeegklaaLaid
namespace Go.Proofs.Ytoifalgkeegklaa
open Go.RowKit

/-- A slice of words in a block of the call's own. -/
def OwnW (w : World) (base g n c : Nat) (ws : List Nat) : Prop := w.ownsRow base 22 1 (.slice (some ⟨g, 0, none⟩) n c) n (ws.map wv)
section
variable {w w' : World} {base g n c : Nat} {ws : List Nat}
theorem OwnW.len (h : OwnW w base g n c ws) : ws.length = n := by have := h.1; simpa using this
theorem OwnW.cell (h : OwnW w base g n c ws) {j : Nat} (hj : j < n) : w.cell? ⟨g, j, none⟩ = some (.int .u64 (ws.getD j 0 : Nat)) := by
  have hl := h.len
  have hj' : j < ws.length := by omega
  rw [World.ownsRow.cellAt h j (by omega), List.getElem?_map, List.getElem?_eq_getElem hj']
  simp [List.getD, hj', wv]
theorem OwnW.frozen (h : OwnW w base g n c ws) (j : Nat) : w.frozen? ⟨g, j, none⟩ = false := World.ownsRow.frozenAt h j
theorem OwnW.set_ (h : OwnW w base g n c ws) (j x : Nat) : OwnW (w.setCell ⟨g, j, none⟩ (.int .u64 (x : Int))) base g n c (ws.set j x) := by
  have := (World.ownsRow.stored h j (.int .u64 (x : Int))).1
  unfold OwnW
  rw [List.map_set]
  exact this
theorem OwnW.kept (h : OwnW w base g n c ws) (hb : Below w.heap.size w w') : OwnW w' base g n c ws :=
  World.ownsRow.kept (row := none) h ⟨hb.os, hb.tape, hb.output, hb.size, fun k hk _ => hb.block k hk⟩ (by generalize (Value.slice (some ⟨g, 0, none⟩) n c).ownBlock = q; cases q <;> simp)
theorem OwnW.far (h : OwnW w base g n c ws) {k i : Nat} (hk : g ≠ k) (u : Value) : OwnW (w.setCell ⟨k, i, none⟩ u) base g n c ws :=
  World.ownsRow.kept (row := some k) h ⟨rfl, rfl, rfl, by simp, fun q _ hq => Below.heap_setCell w ⟨k, i, none⟩ u q (fun e => hq (by rw [e]))⟩ (.inr (by simp [Value.ownBlock]; exact hk))
theorem OwnW.drew (h : OwnW w base g n c ws) : OwnW w.drew base g n c ws := World.ownsRow.drew h
theorem OwnW.alloc (h : OwnW w base g n c ws) (o : Obj) : OwnW (w.alloc o) base g n c ws := World.ownsRow.alloc h o
theorem OwnW.words (h : OwnW w base g n c ws) (hw : ∀ x ∈ ws, x < 18446744073709551616) : Words w (some ⟨g, 0, none⟩) n c ws := Words.own h hw
theorem OwnW.at_ (h : OwnW w base g n c ws) : base ≤ g ∧ g < w.heap.size := World.ownsRow.lt h g rfl
end
theorem words_set {ws : List Nat} {i v : Nat} (h : ∀ x ∈ ws, x < 18446744073709551616) (hv : v < 18446744073709551616) : ∀ x ∈ ws.set i v, x < 18446744073709551616 := fun x hx => by
  rcases List.mem_or_eq_of_mem_set hx with hx | rfl
  · exact h x hx
  · exact hv
theorem twin_own (A : Option Addr) (n c : Nat) (ws : List Nat) (w : World) (h : Words w A n c ws) (h1 : 1 ≤ n) (hn : n ≤ 1000000) :
    Calls Try.prog 31 #[.slice A n c] w fun e w' => ∃ g c', e = .returned (.slice (some ⟨g, 0, none⟩) n c') ∧ OwnW w' w.heap.size g n c' ws ∧ Below w.heap.size w w' :=
  (twin_any A n c ws w h hn).mono fun _ _ ⟨A', c', e, hown, hb⟩ => by
    obtain ⟨g, cap, hv, _⟩ := hown.form (by omega)
    simp only [Value.slice.injEq, true_and] at hv
    obtain ⟨rfl, rfl⟩ := hv
    exact ⟨g, c', e, hown, hb⟩
theorem rsame_m (n : Nat) (A : Option Addr) (c : Nat) (A' : Option Addr) (c' : Nat) (l : List Blk) (w : World) (h : Blks w A n c l) (h' : Blks w A' n c' l) :
    Calls Try.prog 35 #[.slice A n c, .slice A' n c'] w fun e w' => e = .returned (.bool true) ∧ Below w.heap.size w w' := by
  obtain rfl := h.len
  exact rsame_yes A c A' c' l w h h'
end Go.Proofs.Ytoifalgkeegklaa
