/- The chapter's examples of package walk, walked. -/
import Derived.Test.YthdccahggcjogaaLaid
import Derived.Test.YthdccahggcjogaaAlivePlain
namespace Go.Proofs.Ythdccahggcjogaa
open Go.RowKit

theorem Blks.lit {w : World} {g : Nat} {l : List Blk} (h : Cells w g 24 (flat l).toArray) (hl : l.length ≤ 1000000) : Blks w (some ⟨g, 0, none⟩) l.length l.length l := by
  refine ⟨rfl, Nat.le_refl _, by omega, by simp, fun _ => ⟨g, 0, rfl, h.lt, fun j hj => BlkAt.of_cs fun f u hu => ?_⟩⟩
  have hf : f < 6 := by
    rcases Nat.lt_or_ge f 6 with hf | hf
    · exact hf
    · rw [List.getElem?_eq_none (by simp [Blk.cs]; exact hf)] at hu; cases hu
  have h1 := h.cell (j * 6 + f)
  rw [List.getElem?_toArray, flat_at l j f hj hf, hu] at h1
  rw [show 0 + j * 6 + f = j * 6 + f by omega]
  exact h1
theorem good_free {z : Int} (h1 : 2 ≤ z) (h2 : z % 2 = 0) (h3 : z ≤ 1920) : (freeB z).good := ⟨h1, h2, .inr ⟨rfl, rfl, rfl, h3⟩⟩
theorem good_obj {z : Int} (h1 : 2 ≤ z) (h2 : z % 2 = 0) (h3 : z ≤ 10) : (objB z).good := ⟨h1, h2, .inl ⟨rfl, by show (0 : Int) ≤ 0; decide, by show (0 : Int) < 8; decide, h3⟩⟩

theorem free15 (z : Int) (w : World) : Calls Try.prog 44 #[.int .i64 z] w fun e w' => e = .returned (.agg #[.int .i64 0, .int .i64 z, .int .i64 2, .int .i64 0, .bool false, .int .u64 0]) ∧ Below w.heap.size w w' := by
  go_enter Try.func44, Try.ntmps44
  go_wp2
  exact bodyPost_ret (v := .agg #[.int .i64 0, .int .i64 z, .int .i64 2, .int .i64 0, .bool false, .int .u64 0])
    (by simp [results, Try.results44, go_sem]) rfl ⟨rfl, (Below.refl _ _).alloc (Nat.le_refl _) _⟩
theorem obj15 (z : Int) (w : World) : Calls Try.prog 43 #[.int .i64 z] w fun e w' => e = .returned (.agg #[.int .i64 0, .int .i64 z, .int .i64 1, .int .i64 0, .bool false, .int .u64 0]) ∧ Below w.heap.size w w' := by
  go_enter Try.func43, Try.ntmps43
  go_wp2
  exact bodyPost_ret (v := .agg #[.int .i64 0, .int .i64 z, .int .i64 1, .int .i64 0, .bool false, .int .u64 0])
    (by simp [results, Try.results43, go_sem]) rfl ⟨rfl, (Below.refl _ _).alloc (Nat.le_refl _) _⟩

set_option maxRecDepth 100000 in
theorem alive15 (w : World) : Calls Try.prog 30 #[] w fun e w' => e = .returned (.bool true) ∧ Below w.heap.size w w' := by
  have L1 := Lib.hid fun W g (h : Cells W g 24 #[.int .i64 0, .int .i64 128, .int .i64 2, .int .i64 0, .bool false, .int .u64 0]) => laid_ex 256 (some ⟨g, 0, none⟩) 1 [freeB 128] W (by omega) (by omega) (Blks.lit h (by decide)) (by decide) (by simp; exact good_free (by decide) (by decide) (by decide)) (by simp [freeB])
  have L2 := Lib.hid fun W g (h : Cells W g 24 #[.int .i64 0, .int .i64 4, .int .i64 1, .int .i64 0, .bool false, .int .u64 0, .int .i64 0, .int .i64 24, .int .i64 2, .int .i64 0, .bool false, .int .u64 0, .int .i64 0, .int .i64 100, .int .i64 2, .int .i64 0, .bool false, .int .u64 0]) => laid_ex 256 (some ⟨g, 0, none⟩) 3 [objB 4, freeB 24, freeB 100] W (by omega) (by omega) (Blks.lit h (by decide)) (by decide) (by simp; exact ⟨good_obj (by decide) (by decide) (by decide), good_free (by decide) (by decide) (by decide), good_free (by decide) (by decide) (by decide)⟩) (by simp [freeB, objB])
  have P1 := Lib.hid fun W A h => all_any A 256 256 (laid 256 [freeB 128]) W h
  have P2 := Lib.hid fun W A h => all_any A 256 256 (laid 256 [objB 4, freeB 24, freeB 100]) W h
  have P3 := Lib.hid fun W A h => from_any A 256 256 (laid 256 [objB 4, freeB 24, freeB 100]) 128 W h
  rw [ex_one] at P1
  rw [ex_side] at P2
  rw [ex_three] at P3
  generalize laid 256 [freeB 128] = x1 at *
  generalize laid 256 [objB 4, freeB 24, freeB 100] = x2 at *
  have A0 := Lib.hid (Since.refl w)
  go_enter Try.func30, Try.ntmps30
  go_wp2_with fail
  refine (free15 _ _).mono ?_
  rintro e w1 ⟨rfl, hb1⟩
  have A1 := Lib.hid (show Since w w1 from Since.via (by repeat (first | with_reducible exact A0.out | with_reducible exact Since.refl _ | with_reducible refine Since.alloc ?_ _ | with_reducible refine Since.setCell ?_ (by first | omega | (simp; done) | (simp; omega)) _ | with_reducible refine Since.drew ?_ | with_reducible refine Since.drewN ?_ _)) hb1)
  have s1 := A1.out.size
  clear hb1
  go_wp2_with fail
  refine (L1.out _ _ (Cells.new _ _ _)).mono ?_
  rintro e w2 ⟨D1, rfl, hT, hb2⟩
  have A2 := Lib.hid (show Since w w2 from Since.via (by repeat (first | with_reducible exact A1.out | with_reducible exact Since.refl _ | with_reducible refine Since.alloc ?_ _ | with_reducible refine Since.setCell ?_ (by first | omega | (simp; done) | (simp; omega)) _ | with_reducible refine Since.drew ?_ | with_reducible refine Since.drewN ?_ _)) hb2)
  have s2 := A2.out.size
  have T2 := Lib.hid hT
  clear hT
  clear hb2
  go_wp2_with fail
  refine (P1.out _ _ (T2.out.below (Since.out (by repeat (first | with_reducible exact Since.refl _ | with_reducible refine Since.alloc ?_ _ | with_reducible refine Since.setCell ?_ (by first | omega | (simp; done) | (simp; omega)) _ | with_reducible refine Since.drew ?_ | with_reducible refine Since.drewN ?_ _))))).mono ?_
  rintro e w3 ⟨B1, d1, rfl, hB, hb3⟩
  have A3 := Lib.hid (show Since w w3 from Since.via (by repeat (first | with_reducible exact A2.out | with_reducible exact Since.refl _ | with_reducible refine Since.alloc ?_ _ | with_reducible refine Since.setCell ?_ (by first | omega | (simp; done) | (simp; omega)) _ | with_reducible refine Since.drew ?_ | with_reducible refine Since.drewN ?_ _)) hb3)
  have s3 := A3.out.size
  have L3 := Lib.hid hB
  clear hB
  clear hb3
  simp only [List.length_cons, List.length_nil] at L3
  go_wp2_with fail
  refine (obj15 _ _).mono ?_
  rintro e w4 ⟨rfl, hb4⟩
  have A4 := Lib.hid (show Since w w4 from Since.via (by repeat (first | with_reducible exact A3.out | with_reducible exact Since.refl _ | with_reducible refine Since.alloc ?_ _ | with_reducible refine Since.setCell ?_ (by first | omega | (simp; done) | (simp; omega)) _ | with_reducible refine Since.drew ?_ | with_reducible refine Since.drewN ?_ _)) hb4)
  have s4 := A4.out.size
  have B4 := Lib.hid (show Since w3 w4 from Since.via (by repeat (first | with_reducible exact Since.refl _ | with_reducible refine Since.alloc ?_ _ | with_reducible refine Since.setCell ?_ (by first | omega | (simp; done) | (simp; omega)) _ | with_reducible refine Since.drew ?_ | with_reducible refine Since.drewN ?_ _)) hb4)
  have L4 := Lib.hid (L3.out.below B4.out)
  clear hb4
  go_wp2_with fail
  refine (free15 _ _).mono ?_
  rintro e w5 ⟨rfl, hb5⟩
  have A5 := Lib.hid (show Since w w5 from Since.via (by repeat (first | with_reducible exact A4.out | with_reducible exact Since.refl _ | with_reducible refine Since.alloc ?_ _ | with_reducible refine Since.setCell ?_ (by first | omega | (simp; done) | (simp; omega)) _ | with_reducible refine Since.drew ?_ | with_reducible refine Since.drewN ?_ _)) hb5)
  have s5 := A5.out.size
  have B5 := Lib.hid (show Since w4 w5 from Since.via (by repeat (first | with_reducible exact Since.refl _ | with_reducible refine Since.alloc ?_ _ | with_reducible refine Since.setCell ?_ (by first | omega | (simp; done) | (simp; omega)) _ | with_reducible refine Since.drew ?_ | with_reducible refine Since.drewN ?_ _)) hb5)
  have L5 := Lib.hid (L4.out.below B5.out)
  clear hb5
  go_wp2_with fail
  refine (free15 _ _).mono ?_
  rintro e w6 ⟨rfl, hb6⟩
  have A6 := Lib.hid (show Since w w6 from Since.via (by repeat (first | with_reducible exact A5.out | with_reducible exact Since.refl _ | with_reducible refine Since.alloc ?_ _ | with_reducible refine Since.setCell ?_ (by first | omega | (simp; done) | (simp; omega)) _ | with_reducible refine Since.drew ?_ | with_reducible refine Since.drewN ?_ _)) hb6)
  have s6 := A6.out.size
  have B6 := Lib.hid (show Since w5 w6 from Since.via (by repeat (first | with_reducible exact Since.refl _ | with_reducible refine Since.alloc ?_ _ | with_reducible refine Since.setCell ?_ (by first | omega | (simp; done) | (simp; omega)) _ | with_reducible refine Since.drew ?_ | with_reducible refine Since.drewN ?_ _)) hb6)
  have L6 := Lib.hid (L5.out.below B6.out)
  clear hb6
  go_wp2_with fail
  refine (L2.out _ _ (Cells.new _ _ _)).mono ?_
  rintro e w7 ⟨D2, rfl, hT, hb7⟩
  have A7 := Lib.hid (show Since w w7 from Since.via (by repeat (first | with_reducible exact A6.out | with_reducible exact Since.refl _ | with_reducible refine Since.alloc ?_ _ | with_reducible refine Since.setCell ?_ (by first | omega | (simp; done) | (simp; omega)) _ | with_reducible refine Since.drew ?_ | with_reducible refine Since.drewN ?_ _)) hb7)
  have s7 := A7.out.size
  have B7 := Lib.hid (show Since w6 w7 from Since.via (by repeat (first | with_reducible exact Since.refl _ | with_reducible refine Since.alloc ?_ _ | with_reducible refine Since.setCell ?_ (by first | omega | (simp; done) | (simp; omega)) _ | with_reducible refine Since.drew ?_ | with_reducible refine Since.drewN ?_ _)) hb7)
  have L7 := Lib.hid (L6.out.below B7.out)
  have T7 := Lib.hid hT
  clear hT
  clear hb7
  go_wp2_with fail
  refine (P2.out _ _ (T7.out.below (Since.out (by repeat (first | with_reducible exact Since.refl _ | with_reducible refine Since.alloc ?_ _ | with_reducible refine Since.setCell ?_ (by first | omega | (simp; done) | (simp; omega)) _ | with_reducible refine Since.drew ?_ | with_reducible refine Since.drewN ?_ _))))).mono ?_
  rintro e w8 ⟨B2, d2, rfl, hB, hb8⟩
  have A8 := Lib.hid (show Since w w8 from Since.via (by repeat (first | with_reducible exact A7.out | with_reducible exact Since.refl _ | with_reducible refine Since.alloc ?_ _ | with_reducible refine Since.setCell ?_ (by first | omega | (simp; done) | (simp; omega)) _ | with_reducible refine Since.drew ?_ | with_reducible refine Since.drewN ?_ _)) hb8)
  have s8 := A8.out.size
  have B8 := Lib.hid (show Since w7 w8 from Since.via (by repeat (first | with_reducible exact Since.refl _ | with_reducible refine Since.alloc ?_ _ | with_reducible refine Since.setCell ?_ (by first | omega | (simp; done) | (simp; omega)) _ | with_reducible refine Since.drew ?_ | with_reducible refine Since.drewN ?_ _)) hb8)
  have L8 := Lib.hid (L7.out.below B8.out)
  have T8 := Lib.hid (T7.out.below B8.out)
  clear hb8
  go_wp2_with fail
  refine (P3.out _ _ (T8.out.below (Since.out (by repeat (first | with_reducible exact Since.refl _ | with_reducible refine Since.alloc ?_ _ | with_reducible refine Since.setCell ?_ (by first | omega | (simp; done) | (simp; omega)) _ | with_reducible refine Since.drew ?_ | with_reducible refine Since.drewN ?_ _))))).mono ?_
  rintro e w9 ⟨B3, d3, rfl, hB, hb9⟩
  have A9 := Lib.hid (show Since w w9 from Since.via (by repeat (first | with_reducible exact A8.out | with_reducible exact Since.refl _ | with_reducible refine Since.alloc ?_ _ | with_reducible refine Since.setCell ?_ (by first | omega | (simp; done) | (simp; omega)) _ | with_reducible refine Since.drew ?_ | with_reducible refine Since.drewN ?_ _)) hb9)
  have s9 := A9.out.size
  have B9 := Lib.hid (show Since w8 w9 from Since.via (by repeat (first | with_reducible exact Since.refl _ | with_reducible refine Since.alloc ?_ _ | with_reducible refine Since.setCell ?_ (by first | omega | (simp; done) | (simp; omega)) _ | with_reducible refine Since.drew ?_ | with_reducible refine Since.drewN ?_ _)) hb9)
  have L9 := Lib.hid (L8.out.below B9.out)
  have M9 := Lib.hid hB
  clear hB
  clear hb9
  obtain ⟨g, o, rfl, hg⟩ := L9.out.at_ (by decide)
  obtain ⟨g', o', rfl, hg'⟩ := M9.out.at_ (by decide)
  obtain ⟨c0, c1, c2, c3, c4, c5⟩ := L9.out.same (j := 0) (by decide)
  obtain ⟨e0, _⟩ := M9.out.same (j := 2) (by decide)
  simp at c0 c1 c2 c3 c4 c5 e0
  have m1 := L9.out.cap
  have m2 := L9.out.most
  have m3 := M9.out.cap
  have m4 := M9.out.most
  simp at m1 m3
  go_wp2
  go_ret
  exact ⟨rfl, (Since.out (by repeat (first | with_reducible exact A9.out | with_reducible exact Since.refl _ | with_reducible refine Since.alloc ?_ _ | with_reducible refine Since.setCell ?_ (by first | omega | (simp; done) | (simp; omega)) _ | with_reducible refine Since.drew ?_ | with_reducible refine Since.drewN ?_ _)))⟩
end Go.Proofs.Ythdccahggcjogaa
