/- Free extents, a list for each class (2). No program in sight. -/
import Derived.Test.YtoifalgkeegklaaListsPlain
import Derived.Test.YtoifalgkeegklaaSegPlain
namespace Go.Proofs.Ytoifalgkeegklaa

theorem clsL_append (k : Nat) (l m : List Blk) : clsL k (l ++ m) = clsL k l ++ clsL k m := by unfold clsL; rw [List.filter_append, List.map_append]
/-- The place of a block in the list of its class. -/
theorem clsL_at {l : List Blk} {i k : Nat} (h : i < l.length) (hk : cls l[i] = k) : ∃ hn : (clsL k (l.take i)).length < (clsL k l).length, (clsL k l)[(clsL k (l.take i)).length] = l[i].at_ := by
  have e : clsL k l = clsL k (l.take i) ++ (l[i].at_ :: clsL k (l.drop (i + 1))) := by
    conv => lhs; rw [← List.take_append_drop i l, List.drop_eq_getElem_cons h, clsL_append]
    congr 1
    unfold clsL
    rw [List.filter_cons]
    simp [hk]
  have hn : (clsL k (l.take i)).length < (clsL k l).length := by rw [e]; simp
  refine ⟨hn, ?_⟩
  have : (clsL k l)[(clsL k (l.take i)).length]? = some l[i].at_ := by
    rw [e, List.getElem?_append_right (Nat.le_refl _), Nat.sub_self]; rfl
  rw [List.getElem?_eq_getElem hn] at this
  injection this
theorem clsL_mem {l : List Blk} {j k : Nat} (h : j < (clsL k l).length) : ∃ b ∈ l, b.at_ = (clsL k l)[j] := by
  have := List.getElem_mem h
  generalize (clsL k l)[j] = y at *
  unfold clsL at this
  obtain ⟨b, hb, e⟩ := List.mem_map.1 this
  exact ⟨b, (List.mem_filter.1 hb).1, e⟩
theorem clsL_zero {l : List Blk} (h : Sized l) : clsL 0 l = [] := by
  unfold clsL
  rw [List.map_eq_nil_iff, List.filter_eq_nil_iff]
  intro b hb
  obtain ⟨i, hi, rfl⟩ := List.getElem_of_mem hb
  have := cls_range h hi
  simp; omega
theorem seg_inc {ws : List Nat} {l : List Blk} (h : Seg ws 128 l ws.length) : l.Pairwise (fun a b => a.at_ < b.at_) := by
  rw [List.pairwise_iff_getElem]
  intro i j hi hj hij
  have hc := chain_of_seg h
  have h1 := chain_inc hc j i hj hij
  have h2 := good_size (chain_mem hc (List.getElem_mem hi)).2.1
  omega
theorem clsL_inc {ws : List Nat} {l : List Blk} (h : Seg ws 128 l ws.length) (k : Nat) {j : Nat} (hj : j + 1 < (clsL k (freeL l)).length) : (clsL k (freeL l))[j] < (clsL k (freeL l))[j + 1] := by
  have h1 : (clsL k (freeL l)).Pairwise (fun a b => a < b) := by
    unfold clsL freeL
    exact List.Pairwise.map _ (fun _ _ h => h) (((seg_inc h).filter _).filter _)
  rw [List.pairwise_iff_getElem] at h1
  exact h1 j (j + 1) (by omega) hj (by omega)
/-- What Find returns at an address of a list. -/
theorem find_cls {ws : List Nat} {l : List Blk} (h : Seg ws 128 l ws.length) (e : allR ws = (l, 0)) {k j : Nat} (hj : j < (clsL k (freeL l)).length) : ∃ b : Blk, findR ws (clsL k (freeL l))[j] = (b, 0) ∧ b.kind = 2 := by
  obtain ⟨b, hb, ea⟩ := clsL_mem hj
  obtain ⟨h1, h2⟩ := freeL_mem hb
  obtain ⟨i, hi, rfl⟩ := List.getElem_of_mem h1
  have hf := findL_some (chain_of_seg h) hi
  refine ⟨l[i], ?_, h2⟩
  rw [← ea]
  unfold findR
  rw [if_neg (by rw [e]; simp), e, hf]
/-- How many of each class there are among the first ones. -/
def cnts (l : List Blk) (i : Nat) : List Int := (List.range 11).map (fun k => ((clsL k (l.take i)).length : Int))
theorem cnts_len (l : List Blk) (i : Nat) : (cnts l i).length = 11 := by simp [cnts]
theorem cnts_get (l : List Blk) (i : Nat) {k : Nat} (h : k < 11) : (cnts l i)[k]? = some ((clsL k (l.take i)).length : Int) := by simp [cnts, h]
theorem cnts_step {l : List Blk} {i : Nat} (h : i < l.length) : cnts l (i + 1) = (cnts l i).set (cls l[i]) (((clsL (cls l[i]) (l.take i)).length : Int) + 1) := by
  apply List.ext_getElem?
  intro k
  rw [List.getElem?_set]
  by_cases hk : k < 11
  · rw [cnts_get _ _ hk, cnts_get _ _ hk]
    by_cases e : cls l[i] = k
    · rw [if_pos e, if_pos (by rw [cnts_len]; omega), e, clsL_yes h e]
      simp
    · rw [if_neg e, clsL_no h e]
  · rw [List.getElem?_eq_none (by rw [cnts_len]; omega)]
    by_cases e : cls l[i] = k
    · rw [if_pos e, if_neg (by rw [cnts_len]; omega)]
    · rw [if_neg e, List.getElem?_eq_none (by rw [cnts_len]; omega)]
theorem cnts_zero (l : List Blk) : cnts l 0 = List.replicate 11 0 := by
  unfold cnts
  simp only [List.take_zero]
  decide
end Go.Proofs.Ytoifalgkeegklaa
