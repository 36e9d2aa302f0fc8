/- Free extents, a list for each class. No program in sight. -/
import Derived.Test.YtoifalgkeegklaaArndPlain
namespace Go.Proofs.Ytoifalgkeegklaa

def cls (b : Blk) : Nat := Nat.log2 b.size.toNat
def clsL (k : Nat) (l : List Blk) : List Int := (l.filter (fun b => cls b == k)).map (·.at_)
def lists (l : List Blk) : List (List Int) := (List.range 11).map (fun k => clsL k l)
/-- What Lists returns. -/
def listsR (ws : List Nat) : List (List Int) × Int := if (allR ws).2 ≠ 0 then ([], (allR ws).2) else (lists (freeL (allR ws).1), 0)
theorem cls_range {l : List Blk} (h : Sized l) {k : Nat} (hk : k < l.length) : 1 ≤ cls l[k] ∧ cls l[k] ≤ 10 := by
  obtain ⟨h1, h2⟩ := h.get hk
  unfold cls
  have h3 : l[k].size.toNat ≠ 0 := by omega
  have h4 := (Nat.log2_lt (n := l[k].size.toNat) (k := 11) h3).2 (by omega)
  have h5 : 1 ≤ Nat.log2 l[k].size.toNat := by rw [Nat.le_log2 h3]; omega
  omega
theorem clsL_yes {c k : Nat} {l : List Blk} (h : k < l.length) (hc : cls l[k] = c) : clsL c (l.take (k + 1)) = clsL c (l.take k) ++ [l[k].at_] := by
  unfold clsL
  rw [List.take_succ_eq_append_getElem h, List.filter_append, List.map_append]
  simp [hc]
theorem clsL_no {c k : Nat} {l : List Blk} (h : k < l.length) (hc : cls l[k] ≠ c) : clsL c (l.take (k + 1)) = clsL c (l.take k) := by
  unfold clsL
  rw [List.take_succ_eq_append_getElem h, List.filter_append, List.map_append]
  simp [hc]
theorem clsL_len (c : Nat) (l : List Blk) : (clsL c l).length ≤ l.length := by unfold clsL; rw [List.length_map]; exact List.length_filter_le _ _
theorem lists_len (l : List Blk) : (lists l).length = 11 := by simp [lists]
theorem lists_get (l : List Blk) {k : Nat} (h : k < (lists l).length) : (lists l)[k] = clsL k l := by simp [lists]
theorem lists_nil : lists [] = List.replicate 11 [] := by decide
theorem lists_step {l : List Blk} {k : Nat} (h : k < l.length) : lists (l.take (k + 1)) = (lists (l.take k)).set (cls l[k]) (clsL (cls l[k]) (l.take k) ++ [l[k].at_]) := by
  apply List.ext_getElem
  · simp [lists]
  · intro i h1 h2
    rw [lists_get, List.getElem_set]
    by_cases e : cls l[k] = i
    · rw [if_pos e, ← e, clsL_yes h rfl]
    · rw [if_neg e, lists_get, clsL_no h e]
end Go.Proofs.Ytoifalgkeegklaa
