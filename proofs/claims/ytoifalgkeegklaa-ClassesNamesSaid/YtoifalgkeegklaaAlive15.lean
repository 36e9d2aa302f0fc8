/- The chapter's examples of package walk, walked. -/
import Derived.Test.YtoifalgkeegklaaLaid
import Derived.Test.YtoifalgkeegklaaAlivePlain
namespace Go.Proofs.Ytoifalgkeegklaa
open Go.RowKit

theorem Blks.lit {w : World} {g : Nat} {l : List Blk} (h : Cells w g 24 (flat l).toArray) (hl : l.length ≤ 1000000) : Blks w (some ⟨g, 0, none⟩) l.length l.length l := by
  refine ⟨rfl, Nat.le_refl _, by omega, by simp, fun _ => ⟨g, 0, rfl, h.lt, fun j hj => BlkAt.of_cs fun f u hu => ?_⟩⟩
  have hf : f < 6 := by
    rcases Nat.lt_or_ge f 6 with hf | hf
    · exact hf
    · rw [List.getElem?_eq_none (by simp [Blk.cs]; exact hf)] at hu; cases hu
  have h1 := h.cell (j * 6 + f)
  rw [List.getElem?_toArray, flat_at l j f hj hf, hu] at h1
  rw [show 0 + j * 6 + f = j * 6 + f by omega]
  exact h1
theorem good_free {z : Int} (h1 : 2 ≤ z) (h2 : z % 2 = 0) (h3 : z ≤ 1920) : (freeB z).good := ⟨h1, h2, .inr ⟨rfl, rfl, rfl, h3⟩⟩
theorem good_obj {z : Int} (h1 : 2 ≤ z) (h2 : z % 2 = 0) (h3 : z ≤ 10) : (objB z).good := ⟨h1, h2, .inl ⟨rfl, by show (0 : Int) ≤ 0; decide, by show (0 : Int) < 8; decide, h3⟩⟩

end Go.Proofs.Ytoifalgkeegklaa
