/- The chapter's examples of package extents, walked. -/
import Derived.Test.YtoifalgkeegklaaRefArnd
import Derived.Test.YtoifalgkeegklaaAlive15
namespace Go.Proofs.Ytoifalgkeegklaa
open Go.RowKit

def exE : List Nat := laid 256 [objB 4, freeB 20, objB 6, freeB 98]
theorem exE1 : aroundR exE 152 = (⟨132, 124, 2, 0, false, 0⟩, 0) := by decide +kernel
theorem exE2 : aroundR exE 128 = (⟨128, 24, 2, 0, false, 0⟩, 0) := by decide +kernel
theorem exE3 : extR exE = ([⟨132, 20, 2, 0, false, 0⟩, ⟨158, 98, 2, 0, false, 0⟩], 0) := by decide +kernel

theorem free16 (z : Int) (w : World) : Calls Try.prog 39 #[.int .i64 z] w fun e w' => e = .returned (.agg #[.int .i64 0, .int .i64 z, .int .i64 2, .int .i64 0, .bool false, .int .u64 0]) ∧ Below w.heap.size w w' := by
  go_enter Try.func39, Try.ntmps39
  go_wp2
  exact bodyPost_ret (v := .agg #[.int .i64 0, .int .i64 z, .int .i64 2, .int .i64 0, .bool false, .int .u64 0])
    (by simp [results, Try.results39, go_sem]) rfl ⟨rfl, (Below.refl _ _).alloc (Nat.le_refl _) _⟩
theorem obj16 (z : Int) (w : World) : Calls Try.prog 37 #[.int .i64 z] w fun e w' => e = .returned (.agg #[.int .i64 0, .int .i64 z, .int .i64 1, .int .i64 0, .bool false, .int .u64 0]) ∧ Below w.heap.size w w' := by
  go_enter Try.func37, Try.ntmps37
  go_wp2
  exact bodyPost_ret (v := .agg #[.int .i64 0, .int .i64 z, .int .i64 1, .int .i64 0, .bool false, .int .u64 0])
    (by simp [results, Try.results37, go_sem]) rfl ⟨rfl, (Below.refl _ _).alloc (Nat.le_refl _) _⟩
set_option maxRecDepth 100000 in
theorem example16 (w : World) : Calls Try.prog 40 #[] w fun e w' => ∃ B, e = .returned (.slice B 256 256) ∧ Words w' B 256 256 exE ∧ Below w.heap.size w w' := by
  have L1 := Lib.hid fun W g (h : Cells W g 24 #[.int .i64 0, .int .i64 4, .int .i64 1, .int .i64 0, .bool false, .int .u64 0, .int .i64 0, .int .i64 20, .int .i64 2, .int .i64 0, .bool false, .int .u64 0, .int .i64 0, .int .i64 6, .int .i64 1, .int .i64 0, .bool false, .int .u64 0, .int .i64 0, .int .i64 98, .int .i64 2, .int .i64 0, .bool false, .int .u64 0]) =>
    laid_ex 256 (some ⟨g, 0, none⟩) 4 [objB 4, freeB 20, objB 6, freeB 98] W (by omega) (by omega) (Blks.lit h (by decide)) (by decide) (by decide) (by decide)
  have A0 := Lib.hid (Since.refl w)
  go_enter Try.func40, Try.ntmps40
  go_wp2_with fail
  refine (obj16 _ _).mono ?_
  rintro e w1 ⟨rfl, hb1⟩
  have A1 := Lib.hid (show Since w w1 from Since.via (by repeat (first | with_reducible exact A0.out | with_reducible exact Since.refl _ | with_reducible refine Since.alloc ?_ _ | with_reducible refine Since.setCell ?_ (by first | omega | (simp; done) | (simp; omega)) _ | with_reducible refine Since.drew ?_ | with_reducible refine Since.drewN ?_ _)) hb1)
  have s1 := A1.out.size
  clear hb1
  go_wp2_with fail
  refine (free16 _ _).mono ?_
  rintro e w2 ⟨rfl, hb2⟩
  have A2 := Lib.hid (show Since w w2 from Since.via (by repeat (first | with_reducible exact A1.out | with_reducible exact Since.refl _ | with_reducible refine Since.alloc ?_ _ | with_reducible refine Since.setCell ?_ (by first | omega | (simp; done) | (simp; omega)) _ | with_reducible refine Since.drew ?_ | with_reducible refine Since.drewN ?_ _)) hb2)
  have s2 := A2.out.size
  clear hb2
  go_wp2_with fail
  refine (obj16 _ _).mono ?_
  rintro e w3 ⟨rfl, hb3⟩
  have A3 := Lib.hid (show Since w w3 from Since.via (by repeat (first | with_reducible exact A2.out | with_reducible exact Since.refl _ | with_reducible refine Since.alloc ?_ _ | with_reducible refine Since.setCell ?_ (by first | omega | (simp; done) | (simp; omega)) _ | with_reducible refine Since.drew ?_ | with_reducible refine Since.drewN ?_ _)) hb3)
  have s3 := A3.out.size
  clear hb3
  go_wp2_with fail
  refine (free16 _ _).mono ?_
  rintro e w4 ⟨rfl, hb4⟩
  have A4 := Lib.hid (show Since w w4 from Since.via (by repeat (first | with_reducible exact A3.out | with_reducible exact Since.refl _ | with_reducible refine Since.alloc ?_ _ | with_reducible refine Since.setCell ?_ (by first | omega | (simp; done) | (simp; omega)) _ | with_reducible refine Since.drew ?_ | with_reducible refine Since.drewN ?_ _)) hb4)
  have s4 := A4.out.size
  clear hb4
  go_wp2_with fail
  refine (L1.out _ _ (Cells.new _ _ _)).mono ?_
  rintro e w5 ⟨D, rfl, hT, hb5⟩
  have A5 := Lib.hid (show Since w w5 from Since.via (by repeat (first | with_reducible exact A4.out | with_reducible exact Since.refl _ | with_reducible refine Since.alloc ?_ _ | with_reducible refine Since.setCell ?_ (by first | omega | (simp; done) | (simp; omega)) _ | with_reducible refine Since.drew ?_ | with_reducible refine Since.drewN ?_ _)) hb5)
  have s5 := A5.out.size
  have T5 := Lib.hid hT
  clear hT
  clear hb5
  go_wp2
  go_ret
  exact ⟨D, rfl, T5.out, (Since.out (by repeat (first | with_reducible exact A5.out | with_reducible exact Since.refl _ | with_reducible refine Since.alloc ?_ _ | with_reducible refine Since.setCell ?_ (by first | omega | (simp; done) | (simp; omega)) _ | with_reducible refine Since.drew ?_ | with_reducible refine Since.drewN ?_ _)))⟩

set_option maxRecDepth 100000 in
theorem alive16 (w : World) : Calls Try.prog 27 #[] w fun e w' => e = .returned (.bool true) ∧ Below w.heap.size w w' := by
  have F1 := Lib.hid fun W A h => parnd_any A 256 256 exE 152 W h
  have F2 := Lib.hid fun W A h => parnd_any A 256 256 exE 128 W h
  have F3 := Lib.hid fun W A h => ext_any A 256 256 exE W h
  rw [exE1] at F1
  rw [exE2] at F2
  rw [exE3] at F3
  have A0 := Lib.hid (Since.refl w)
  go_enter Try.func27, Try.ntmps27
  go_wp2_with fail
  refine (example16 _).mono ?_
  rintro e w1 ⟨D1, rfl, hT, hb1⟩
  have A1 := Lib.hid (show Since w w1 from Since.via (by repeat (first | with_reducible exact A0.out | with_reducible exact Since.refl _ | with_reducible refine Since.alloc ?_ _ | with_reducible refine Since.setCell ?_ (by first | omega | (simp; done) | (simp; omega)) _ | with_reducible refine Since.drew ?_ | with_reducible refine Since.drewN ?_ _)) hb1)
  have s1 := A1.out.size
  have T1 := Lib.hid hT
  clear hT
  clear hb1
  go_wp2_with fail
  refine (F1.out _ _ (T1.out.below (Since.out (by repeat (first | with_reducible exact Since.refl _ | with_reducible refine Since.alloc ?_ _ | with_reducible refine Since.setCell ?_ (by first | omega | (simp; done) | (simp; omega)) _ | with_reducible refine Since.drew ?_ | with_reducible refine Since.drewN ?_ _))))).mono ?_
  rintro e w2 ⟨rfl, hb2⟩
  have A2 := Lib.hid (show Since w w2 from Since.via (by repeat (first | with_reducible exact A1.out | with_reducible exact Since.refl _ | with_reducible refine Since.alloc ?_ _ | with_reducible refine Since.setCell ?_ (by first | omega | (simp; done) | (simp; omega)) _ | with_reducible refine Since.drew ?_ | with_reducible refine Since.drewN ?_ _)) hb2)
  have s2 := A2.out.size
  clear hb2
  go_wp2_with fail
  refine (example16 _).mono ?_
  rintro e w3 ⟨D2, rfl, hT, hb3⟩
  have A3 := Lib.hid (show Since w w3 from Since.via (by repeat (first | with_reducible exact A2.out | with_reducible exact Since.refl _ | with_reducible refine Since.alloc ?_ _ | with_reducible refine Since.setCell ?_ (by first | omega | (simp; done) | (simp; omega)) _ | with_reducible refine Since.drew ?_ | with_reducible refine Since.drewN ?_ _)) hb3)
  have s3 := A3.out.size
  have T3 := Lib.hid hT
  clear hT
  have X3 := Lib.hid (show Cells w3 (w2.heap.size) 24 (#[.int .i64 132, .int .i64 124, .int .i64 2, .int .i64 0, .bool false, .int .u64 0]) from Cells.kept (by repeat (first | with_reducible exact X2.out | with_reducible exact Cells.at_ _ _ _ (by first | omega | (simp; done) | (simp; omega)) | with_reducible refine Cells.alloc ?_ _ | with_reducible refine Cells.far' ?_ (by first | omega | (simp; done) | (simp; omega)) _ | with_reducible refine Cells.drew ?_ | with_reducible refine Cells.drewN ?_ _)) hb3)
  have Xz3 := X3.out.lt
  clear hb3
  go_wp2_with fail
  refine (F2.out _ _ (T3.out.below (Since.out (by repeat (first | with_reducible exact Since.refl _ | with_reducible refine Since.alloc ?_ _ | with_reducible refine Since.setCell ?_ (by first | omega | (simp; done) | (simp; omega)) _ | with_reducible refine Since.drew ?_ | with_reducible refine Since.drewN ?_ _))))).mono ?_
  rintro e w4 ⟨rfl, hb4⟩
  have A4 := Lib.hid (show Since w w4 from Since.via (by repeat (first | with_reducible exact A3.out | with_reducible exact Since.refl _ | with_reducible refine Since.alloc ?_ _ | with_reducible refine Since.setCell ?_ (by first | omega | (simp; done) | (simp; omega)) _ | with_reducible refine Since.drew ?_ | with_reducible refine Since.drewN ?_ _)) hb4)
  have s4 := A4.out.size
  have X4 := Lib.hid (show Cells w4 (w2.heap.size) 24 (#[.int .i64 132, .int .i64 124, .int .i64 2, .int .i64 0, .bool false, .int .u64 0]) from Cells.kept (by repeat (first | with_reducible exact X3.out | with_reducible exact Cells.at_ _ _ _ (by first | omega | (simp; done) | (simp; omega)) | with_reducible refine Cells.alloc ?_ _ | with_reducible refine Cells.far' ?_ (by first | omega | (simp; done) | (simp; omega)) _ | with_reducible refine Cells.drew ?_ | with_reducible refine Cells.drewN ?_ _)) hb4)
  have Xz4 := X4.out.lt
  clear hb4
  go_wp2_with fail
  refine (example16 _).mono ?_
  rintro e w5 ⟨D3, rfl, hT, hb5⟩
  have A5 := Lib.hid (show Since w w5 from Since.via (by repeat (first | with_reducible exact A4.out | with_reducible exact Since.refl _ | with_reducible refine Since.alloc ?_ _ | with_reducible refine Since.setCell ?_ (by first | omega | (simp; done) | (simp; omega)) _ | with_reducible refine Since.drew ?_ | with_reducible refine Since.drewN ?_ _)) hb5)
  have s5 := A5.out.size
  have T5 := Lib.hid hT
  clear hT
  have X5 := Lib.hid (show Cells w5 (w2.heap.size) 24 (#[.int .i64 132, .int .i64 124, .int .i64 2, .int .i64 0, .bool false, .int .u64 0]) from Cells.kept (by repeat (first | with_reducible exact X4.out | with_reducible exact Cells.at_ _ _ _ (by first | omega | (simp; done) | (simp; omega)) | with_reducible refine Cells.alloc ?_ _ | with_reducible refine Cells.far' ?_ (by first | omega | (simp; done) | (simp; omega)) _ | with_reducible refine Cells.drew ?_ | with_reducible refine Cells.drewN ?_ _)) hb5)
  have Xz5 := X5.out.lt
  have Y5 := Lib.hid (show Cells w5 (w4.heap.size) 24 (#[.int .i64 128, .int .i64 24, .int .i64 2, .int .i64 0, .bool false, .int .u64 0]) from Cells.kept (by repeat (first | with_reducible exact Y4.out | with_reducible exact Cells.at_ _ _ _ (by first | omega | (simp; done) | (simp; omega)) | with_reducible refine Cells.alloc ?_ _ | with_reducible refine Cells.far' ?_ (by first | omega | (simp; done) | (simp; omega)) _ | with_reducible refine Cells.drew ?_ | with_reducible refine Cells.drewN ?_ _)) hb5)
  have Yz5 := Y5.out.lt
  clear hb5
  go_wp2_with fail
  refine (F3.out _ _ (T5.out.below (Since.out (by repeat (first | with_reducible exact Since.refl _ | with_reducible refine Since.alloc ?_ _ | with_reducible refine Since.setCell ?_ (by first | omega | (simp; done) | (simp; omega)) _ | with_reducible refine Since.drew ?_ | with_reducible refine Since.drewN ?_ _))))).mono ?_
  rintro e w6 ⟨B1, d1, rfl, hB, hb6⟩
  have A6 := Lib.hid (show Since w w6 from Since.via (by repeat (first | with_reducible exact A5.out | with_reducible exact Since.refl _ | with_reducible refine Since.alloc ?_ _ | with_reducible refine Since.setCell ?_ (by first | omega | (simp; done) | (simp; omega)) _ | with_reducible refine Since.drew ?_ | with_reducible refine Since.drewN ?_ _)) hb6)
  have s6 := A6.out.size
  have L6 := Lib.hid hB
  clear hB
  have X6 := Lib.hid (show Cells w6 (w2.heap.size) 24 (#[.int .i64 132, .int .i64 124, .int .i64 2, .int .i64 0, .bool false, .int .u64 0]) from Cells.kept (by repeat (first | with_reducible exact X5.out | with_reducible exact Cells.at_ _ _ _ (by first | omega | (simp; done) | (simp; omega)) | with_reducible refine Cells.alloc ?_ _ | with_reducible refine Cells.far' ?_ (by first | omega | (simp; done) | (simp; omega)) _ | with_reducible refine Cells.drew ?_ | with_reducible refine Cells.drewN ?_ _)) hb6)
  have Xz6 := X6.out.lt
  have Y6 := Lib.hid (show Cells w6 (w4.heap.size) 24 (#[.int .i64 128, .int .i64 24, .int .i64 2, .int .i64 0, .bool false, .int .u64 0]) from Cells.kept (by repeat (first | with_reducible exact Y5.out | with_reducible exact Cells.at_ _ _ _ (by first | omega | (simp; done) | (simp; omega)) | with_reducible refine Cells.alloc ?_ _ | with_reducible refine Cells.far' ?_ (by first | omega | (simp; done) | (simp; omega)) _ | with_reducible refine Cells.drew ?_ | with_reducible refine Cells.drewN ?_ _)) hb6)
  have Yz6 := Y6.out.lt
  clear hb6
  obtain ⟨g, o, rfl, hg⟩ := L6.out.at_ (by decide)
  obtain ⟨c0, _⟩ := L6.out.same (j := 1) (by decide)
  simp at c0
  have m1 := L6.out.cap
  have m2 := L6.out.most
  simp at m1
  obtain ⟨Xq0, Xq1, Xq2, Xq3, Xq4, Xq5⟩ := X6.out.six
  have Xlt := X6.out.lt
  obtain ⟨Yq0, Yq1, Yq2, Yq3, Yq4, Yq5⟩ := Y6.out.six
  have Ylt := Y6.out.lt
  go_wp2
  go_ret
  exact ⟨rfl, (Since.out (by repeat (first | with_reducible exact A6.out | with_reducible exact Since.refl _ | with_reducible refine Since.alloc ?_ _ | with_reducible refine Since.setCell ?_ (by first | omega | (simp; done) | (simp; omega)) _ | with_reducible refine Since.drew ?_ | with_reducible refine Since.drewN ?_ _)))⟩
end Go.Proofs.Ytoifalgkeegklaa
