/- Free extents of a heap. No program in sight. -/
import Derived.Test.YtoifalgkeegklaaLaw15Plain
namespace Go.Proofs.Ytoifalgkeegklaa

def freeL (l : List Blk) : List Blk := l.filter (fun b => b.kind == 2)
theorem freeL_yes {l : List Blk} {k : Nat} (h : k < l.length) (hk : l[k].kind = 2) : freeL (l.take (k + 1)) = freeL (l.take k) ++ [l[k]] := by
  unfold freeL
  rw [List.take_succ_eq_append_getElem h, List.filter_append]
  simp [hk]
theorem freeL_no {l : List Blk} {k : Nat} (h : k < l.length) (hk : l[k].kind ≠ 2) : freeL (l.take (k + 1)) = freeL (l.take k) := by
  unfold freeL
  rw [List.take_succ_eq_append_getElem h, List.filter_append]
  simp [hk]
theorem freeL_len (l : List Blk) : (freeL l).length ≤ l.length := List.length_filter_le _ _
theorem freeL_mem {l : List Blk} {b : Blk} (h : b ∈ freeL l) : b ∈ l ∧ b.kind = 2 := by
  have := List.mem_filter.1 h
  exact ⟨this.1, by simpa using this.2⟩
/-- What All of package extents returns. -/
def extR (ws : List Nat) : List Blk × Int := (freeL (allR ws).1, (allR ws).2)

def sizeAt (l : List Blk) (i : Nat) : Int := (l.getD i zeroB).size
theorem sizeAt_get {l : List Blk} {i : Nat} (h : i < l.length) : sizeAt l i = l[i].size := by unfold sizeAt; simp [List.getD, h]
/-- The words of the first blocks, and of the greatest one of them. -/
def sumF (l : List Blk) : Nat → Int
  | 0 => 0
  | k + 1 => sumF l k + sizeAt l k
def maxF (l : List Blk) : Nat → Int
  | 0 => 0
  | k + 1 => max (maxF l k) (sizeAt l k)
/-- Sizes that are those of blocks. -/
def Sized (l : List Blk) : Prop := ∀ b ∈ l, 2 ≤ b.size ∧ b.size ≤ 1920
theorem Sized.get {l : List Blk} (h : Sized l) {i : Nat} (hi : i < l.length) : 2 ≤ l[i].size ∧ l[i].size ≤ 1920 := h _ (List.getElem_mem hi)
theorem Sized.free {l : List Blk} (h : Sized l) : Sized (freeL l) := fun b hb => h b (freeL_mem hb).1
theorem sumF_bd {l : List Blk} (h : Sized l) : ∀ k, k ≤ l.length → 0 ≤ sumF l k ∧ sumF l k ≤ 1920 * k
  | 0, _ => ⟨Int.le_refl _, Int.le_refl _⟩
  | k + 1, hk => by
    have := sumF_bd h k (by omega)
    have := h.get (i := k) (by omega)
    unfold sumF
    rw [sizeAt_get (by omega)]
    omega
theorem maxF_bd {l : List Blk} (h : Sized l) : ∀ k, k ≤ l.length → 0 ≤ maxF l k ∧ maxF l k ≤ 1920
  | 0, _ => ⟨Int.le_refl _, by show (0 : Int) ≤ 1920; decide⟩
  | k + 1, hk => by
    have := maxF_bd h k (by omega)
    have := h.get (i := k) (by omega)
    unfold maxF
    rw [sizeAt_get (by omega)]
    omega
theorem sumF_step {l : List Blk} {k : Nat} (h : k < l.length) : sumF l (k + 1) = sumF l k + l[k].size := by rw [← sizeAt_get h]; rfl
theorem maxF_step {l : List Blk} {k : Nat} (h : k < l.length) : maxF l (k + 1) = max (maxF l k) l[k].size := by rw [← sizeAt_get h]; rfl
theorem chain_sized {ws : List Nat} {l : List Blk} {a : Nat} (h : Chain ws a l) : Sized l := fun b hb => by
  have := good_size (chain_mem h hb).2.1
  omega
theorem allR_sized (ws : List Nat) : Sized (allR ws).1 := by
  rcases allR_cases ws with ⟨_, e⟩ | ⟨_, _, e⟩ | ⟨l, _, _, _, e⟩ | ⟨l, _, _, _, h, _, e⟩ <;> rw [e]
  · intro b hb; cases hb
  · intro b hb; cases hb
  · intro b hb; cases hb
  · exact chain_sized h
theorem allR_le (ws : List Nat) : (allR ws).1.length ≤ 1000000 := by
  rcases allR_cases ws with ⟨_, e⟩ | ⟨_, _, e⟩ | ⟨l, _, _, _, e⟩ | ⟨l, h1, _, _, hc, _, e⟩ <;> rw [e] <;> simp
  have := chain_le hc
  have := h1.2.1
  omega
end Go.Proofs.Ytoifalgkeegklaa
