/- The law on limits and errors of package walk, walked. -/
import Derived.Test.YthdccahggcjogaaAlive15
import Derived.Test.YthdccahggcjogaaOwn
namespace Go.Proofs.Ythdccahggcjogaa
open Go.RowKit

def exN15 : List Nat := laid 256 [objB 4, freeB 24, objB 2, freeB 98]
def exL15 : List Nat := (laid 256 [objB 4, freeB 122]).set 254 (objB 4).hdr
theorem wn1 : fromR (List.replicate 255 0) 0 = ([], 8) := by decide +kernel
theorem wn2 : allR [] = ([], 8) := by decide +kernel
theorem wn3 : findR (List.replicate 255 0) 128 = (zeroB, 8) := by decide +kernel
theorem wn4 : fromR exN15 127 = ([], 2) := by decide +kernel
theorem wn5 : fromR exN15 126 = ([], 2) := by decide +kernel
theorem wn6 : fromR exN15 129 = ([], 2) := by decide +kernel
theorem wn7 : fromR exN15 258 = ([], 2) := by decide +kernel
theorem wn8 : fromR exN15 256 = ([], 0) := by decide +kernel
theorem wn9 : fromR exN15 130 = ([], 50) := by decide +kernel
theorem wn10 : fromR exN15 158 = ([⟨158, 98, 2, 0, false, 0⟩], 0) := by decide +kernel
theorem wn11 : findR exN15 132 = (⟨132, 24, 2, 0, false, 0⟩, 0) := by decide +kernel
theorem wn12 : findR exN15 130 = (zeroB, 6) := by decide +kernel
theorem wn13 : findR exN15 256 = (zeroB, 6) := by decide +kernel
theorem wn14 : findR exN15 (-1) = (zeroB, 6) := by decide +kernel
theorem wn15 : allR exL15 = ([], 50) := by decide +kernel
theorem wn16 : fromR exL15 254 = ([], 50) := by decide +kernel
theorem mkn255 (W : World) : (Instr.makeSlice 47 (.int .i64 255) (.int .i64 255)).run Try.prog W = .ok (.slice (some ⟨W.heap.size, 0, none⟩) 255 255) (W.alloc (.cells (madeCells #[.int .u64 0] 255) 22)) := mk_words 255 (by omega) W
theorem zeros_of {w : World} {g n : Nat} {t : TypeId} (h : Cells w g t (madeCells #[.int .u64 0] n)) (hn : n ≤ 9223372036854775807) : Words w (some ⟨g, 0, none⟩) n n (List.replicate n 0) := by
  rw [wv_zeros] at h
  exact Words.of_cells h (fun x hx => by have := (List.mem_replicate.1 hx).2; omega) (by simp) hn

set_option maxRecDepth 100000 in
set_option maxHeartbeats 16000000 in
theorem walkWalkNames (w : World) : Calls Try.prog 13 #[] w fun e w' => e = .returned (.bool true) ∧ Below w.heap.size w w' := by
  have L1 := Lib.hid fun W g (h : Cells W g 24 #[.int .i64 0, .int .i64 4, .int .i64 1, .int .i64 0, .bool false, .int .u64 0, .int .i64 0, .int .i64 24, .int .i64 2, .int .i64 0, .bool false, .int .u64 0, .int .i64 0, .int .i64 2, .int .i64 1, .int .i64 0, .bool false, .int .u64 0, .int .i64 0, .int .i64 98, .int .i64 2, .int .i64 0, .bool false, .int .u64 0]) => laid_ex 256 (some ⟨g, 0, none⟩) 4 [objB 4, freeB 24, objB 2, freeB 98] W (by omega) (by omega) (Blks.lit h (by decide)) (by decide) (by decide) (by decide)
  have L2 := Lib.hid fun W g (h : Cells W g 24 #[.int .i64 0, .int .i64 4, .int .i64 1, .int .i64 0, .bool false, .int .u64 0, .int .i64 0, .int .i64 122, .int .i64 2, .int .i64 0, .bool false, .int .u64 0]) => laid_own 256 (some ⟨g, 0, none⟩) 2 [objB 4, freeB 122] W (by omega) (by omega) (Blks.lit h (by decide)) (by decide) (by decide) (by decide)
  have O1 := Lib.hid fun W => rof_ok 0 4 1 0 false 0 W (good_obj (z := 4) (by decide) (by decide) (by decide))
  rw [show Blk.hdr ⟨0, 4, 1, 0, false, 0⟩ = (objB 4).hdr from rfl] at O1
  have HO := Lib.hid (hdr_lt (good_obj (z := 4) (by decide) (by decide) (by decide)))
  have HX := Lib.hid (show (laid 256 [objB 4, freeB 122]).set 254 (objB 4).hdr = exL15 from rfl)
  have V254 := Lib.hid fun (h : (laid 256 [objB 4, freeB 122]).length = 256) => (show ∃ v, (((laid 256 [objB 4, freeB 122]).map wv).toArray)[254]? = some v from ⟨_, Array.getElem?_eq_getElem (by simp [h])⟩)
  have F1 := Lib.hid fun W A h => from_any A 255 255 (List.replicate 255 0) 0 W h
  have F2 := Lib.hid fun W => all_any none 0 0 [] W Words.nil
  have F3 := Lib.hid fun W A h => pfind_any A 255 255 (List.replicate 255 0) 128 W h
  have F4 := Lib.hid fun W A h => from_any A 256 256 exN15 127 W h
  have F5 := Lib.hid fun W A h => from_any A 256 256 exN15 126 W h
  have F6 := Lib.hid fun W A h => from_any A 256 256 exN15 129 W h
  have F7 := Lib.hid fun W A h => from_any A 256 256 exN15 258 W h
  have F8 := Lib.hid fun W A h => from_any A 256 256 exN15 256 W h
  have F9 := Lib.hid fun W A h => from_any A 256 256 exN15 130 W h
  have F10 := Lib.hid fun W A h => from_any A 256 256 exN15 158 W h
  have F11 := Lib.hid fun W A h => pfind_any A 256 256 exN15 132 W h
  have F12 := Lib.hid fun W A h => pfind_any A 256 256 exN15 130 W h
  have F13 := Lib.hid fun W A h => pfind_any A 256 256 exN15 256 W h
  have F14 := Lib.hid fun W A h => pfind_any A 256 256 exN15 (-1) W h
  have F15 := Lib.hid fun W A h => all_any A 256 256 exL15 W h
  have F16 := Lib.hid fun W A h => from_any A 256 256 exL15 254 W h
  rw [wn1] at F1
  rw [wn2] at F2
  rw [wn3] at F3
  rw [wn4] at F4
  rw [wn5] at F5
  rw [wn6] at F6
  rw [wn7] at F7
  rw [wn8] at F8
  rw [wn9] at F9
  rw [wn10] at F10
  rw [wn11] at F11
  rw [wn12] at F12
  rw [wn13] at F13
  rw [wn14] at F14
  rw [wn15] at F15
  rw [wn16] at F16
  rw [show laid 256 [objB 4, freeB 24, objB 2, freeB 98] = exN15 from rfl] at L1
  generalize (objB 4).hdr = hd at *
  generalize laid 256 [objB 4, freeB 122] = yl at *
  generalize exN15 = xn at *
  generalize exL15 = xl at *
  have m255 := mkn255
  have A0 := Lib.hid (Since.refl w)
  go_enter Try.func13, Try.ntmps13
  go_wp2_with fail
  refine (obj15 _ _).mono ?_
  rintro e w1 ⟨rfl, hb1⟩
  have A1 := Lib.hid (show Since w w1 from Since.via (by repeat (first | with_reducible exact A0.out | with_reducible exact Since.refl _ | with_reducible refine Since.alloc ?_ _ | with_reducible refine Since.setCell ?_ (by first | omega | (simp; done) | (simp; omega)) _ | with_reducible refine Since.drew ?_ | with_reducible refine Since.drewN ?_ _)) hb1)
  have s1 := A1.out.size
  clear hb1
  go_wp2_with fail
  refine (free15 _ _).mono ?_
  rintro e w2 ⟨rfl, hb2⟩
  have A2 := Lib.hid (show Since w w2 from Since.via (by repeat (first | with_reducible exact A1.out | with_reducible exact Since.refl _ | with_reducible refine Since.alloc ?_ _ | with_reducible refine Since.setCell ?_ (by first | omega | (simp; done) | (simp; omega)) _ | with_reducible refine Since.drew ?_ | with_reducible refine Since.drewN ?_ _)) hb2)
  have s2 := A2.out.size
  clear hb2
  go_wp2_with fail
  refine (obj15 _ _).mono ?_
  rintro e w3 ⟨rfl, hb3⟩
  have A3 := Lib.hid (show Since w w3 from Since.via (by repeat (first | with_reducible exact A2.out | with_reducible exact Since.refl _ | with_reducible refine Since.alloc ?_ _ | with_reducible refine Since.setCell ?_ (by first | omega | (simp; done) | (simp; omega)) _ | with_reducible refine Since.drew ?_ | with_reducible refine Since.drewN ?_ _)) hb3)
  have s3 := A3.out.size
  clear hb3
  go_wp2_with fail
  refine (free15 _ _).mono ?_
  rintro e w4 ⟨rfl, hb4⟩
  have A4 := Lib.hid (show Since w w4 from Since.via (by repeat (first | with_reducible exact A3.out | with_reducible exact Since.refl _ | with_reducible refine Since.alloc ?_ _ | with_reducible refine Since.setCell ?_ (by first | omega | (simp; done) | (simp; omega)) _ | with_reducible refine Since.drew ?_ | with_reducible refine Since.drewN ?_ _)) hb4)
  have s4 := A4.out.size
  clear hb4
  go_wp2_with fail
  refine (L1.out _ _ (Cells.new _ _ _)).mono ?_
  rintro e w5 ⟨D1, rfl, hT, hb5⟩
  have A5 := Lib.hid (show Since w w5 from Since.via (by repeat (first | with_reducible exact A4.out | with_reducible exact Since.refl _ | with_reducible refine Since.alloc ?_ _ | with_reducible refine Since.setCell ?_ (by first | omega | (simp; done) | (simp; omega)) _ | with_reducible refine Since.drew ?_ | with_reducible refine Since.drewN ?_ _)) hb5)
  have s5 := A5.out.size
  have T5 := Lib.hid hT
  clear hT
  clear hb5
  go_wp2_with fail
  refine (F1.out _ _ (zeros_of (Cells.new _ _ _) (by omega))).mono ?_
  rintro e w6 ⟨B1, d1, rfl, hB1, hb6⟩
  have A6 := Lib.hid (show Since w w6 from Since.via (by repeat (first | with_reducible exact A5.out | with_reducible exact Since.refl _ | with_reducible refine Since.alloc ?_ _ | with_reducible refine Since.setCell ?_ (by first | omega | (simp; done) | (simp; omega)) _ | with_reducible refine Since.drew ?_ | with_reducible refine Since.drewN ?_ _)) hb6)
  have s6 := A6.out.size
  have B6 := Lib.hid (show Since w5 w6 from Since.via (by repeat (first | with_reducible exact Since.refl _ | with_reducible refine Since.alloc ?_ _ | with_reducible refine Since.setCell ?_ (by first | omega | (simp; done) | (simp; omega)) _ | with_reducible refine Since.drew ?_ | with_reducible refine Since.drewN ?_ _)) hb6)
  have T6 := Lib.hid (T5.out.below B6.out)
  have Z6 := Lib.hid (show Cells w6 (w5.heap.size) 22 (madeCells #[.int .u64 0] 255) from Cells.kept (by repeat (first | with_reducible exact Z5.out | with_reducible exact Cells.at_ _ _ _ (by first | omega | (simp; done) | (simp; omega)) | with_reducible refine Cells.alloc ?_ _ | with_reducible refine Cells.far' ?_ (by first | omega | (simp; done) | (simp; omega)) _ | with_reducible refine Cells.drew ?_ | with_reducible refine Cells.drewN ?_ _)) hb6)
  have Zz6 := Z6.out.lt
  clear hb6
  go_wp2_with fail
  refine (F2.out _).mono ?_
  rintro e w7 ⟨B2, d2, rfl, hB2, hb7⟩
  have A7 := Lib.hid (show Since w w7 from Since.via (by repeat (first | with_reducible exact A6.out | with_reducible exact Since.refl _ | with_reducible refine Since.alloc ?_ _ | with_reducible refine Since.setCell ?_ (by first | omega | (simp; done) | (simp; omega)) _ | with_reducible refine Since.drew ?_ | with_reducible refine Since.drewN ?_ _)) hb7)
  have s7 := A7.out.size
  have B7 := Lib.hid (show Since w6 w7 from Since.via (by repeat (first | with_reducible exact Since.refl _ | with_reducible refine Since.alloc ?_ _ | with_reducible refine Since.setCell ?_ (by first | omega | (simp; done) | (simp; omega)) _ | with_reducible refine Since.drew ?_ | with_reducible refine Since.drewN ?_ _)) hb7)
  have T7 := Lib.hid (T6.out.below B7.out)
  have Z7 := Lib.hid (show Cells w7 (w5.heap.size) 22 (madeCells #[.int .u64 0] 255) from Cells.kept (by repeat (first | with_reducible exact Z6.out | with_reducible exact Cells.at_ _ _ _ (by first | omega | (simp; done) | (simp; omega)) | with_reducible refine Cells.alloc ?_ _ | with_reducible refine Cells.far' ?_ (by first | omega | (simp; done) | (simp; omega)) _ | with_reducible refine Cells.drew ?_ | with_reducible refine Cells.drewN ?_ _)) hb7)
  have Zz7 := Z7.out.lt
  clear hb7
  go_wp2_with fail
  refine (F3.out _ _ (zeros_of Z7.out (by omega))).mono ?_
  rintro e w8 ⟨rfl, hb8⟩
  have A8 := Lib.hid (show Since w w8 from Since.via (by repeat (first | with_reducible exact A7.out | with_reducible exact Since.refl _ | with_reducible refine Since.alloc ?_ _ | with_reducible refine Since.setCell ?_ (by first | omega | (simp; done) | (simp; omega)) _ | with_reducible refine Since.drew ?_ | with_reducible refine Since.drewN ?_ _)) hb8)
  have s8 := A8.out.size
  have B8 := Lib.hid (show Since w7 w8 from Since.via (by repeat (first | with_reducible exact Since.refl _ | with_reducible refine Since.alloc ?_ _ | with_reducible refine Since.setCell ?_ (by first | omega | (simp; done) | (simp; omega)) _ | with_reducible refine Since.drew ?_ | with_reducible refine Since.drewN ?_ _)) hb8)
  have T8 := Lib.hid (T7.out.below B8.out)
  clear hb8
  go_wp2_with fail
  refine (F4.out _ _ (T8.out.below (Since.out (by repeat (first | with_reducible exact Since.refl _ | with_reducible refine Since.alloc ?_ _ | with_reducible refine Since.setCell ?_ (by first | omega | (simp; done) | (simp; omega)) _ | with_reducible refine Since.drew ?_ | with_reducible refine Since.drewN ?_ _))))).mono ?_
  rintro e w9 ⟨B4, d4, rfl, hB4, hb9⟩
  have A9 := Lib.hid (show Since w w9 from Since.via (by repeat (first | with_reducible exact A8.out | with_reducible exact Since.refl _ | with_reducible refine Since.alloc ?_ _ | with_reducible refine Since.setCell ?_ (by first | omega | (simp; done) | (simp; omega)) _ | with_reducible refine Since.drew ?_ | with_reducible refine Since.drewN ?_ _)) hb9)
  have s9 := A9.out.size
  have B9 := Lib.hid (show Since w8 w9 from Since.via (by repeat (first | with_reducible exact Since.refl _ | with_reducible refine Since.alloc ?_ _ | with_reducible refine Since.setCell ?_ (by first | omega | (simp; done) | (simp; omega)) _ | with_reducible refine Since.drew ?_ | with_reducible refine Since.drewN ?_ _)) hb9)
  have T9 := Lib.hid (T8.out.below B9.out)
  clear hb9
  go_wp2_with fail
  refine (F5.out _ _ (T9.out.below (Since.out (by repeat (first | with_reducible exact Since.refl _ | with_reducible refine Since.alloc ?_ _ | with_reducible refine Since.setCell ?_ (by first | omega | (simp; done) | (simp; omega)) _ | with_reducible refine Since.drew ?_ | with_reducible refine Since.drewN ?_ _))))).mono ?_
  rintro e w10 ⟨B5, d5, rfl, hB5, hb10⟩
  have A10 := Lib.hid (show Since w w10 from Since.via (by repeat (first | with_reducible exact A9.out | with_reducible exact Since.refl _ | with_reducible refine Since.alloc ?_ _ | with_reducible refine Since.setCell ?_ (by first | omega | (simp; done) | (simp; omega)) _ | with_reducible refine Since.drew ?_ | with_reducible refine Since.drewN ?_ _)) hb10)
  have s10 := A10.out.size
  have B10 := Lib.hid (show Since w9 w10 from Since.via (by repeat (first | with_reducible exact Since.refl _ | with_reducible refine Since.alloc ?_ _ | with_reducible refine Since.setCell ?_ (by first | omega | (simp; done) | (simp; omega)) _ | with_reducible refine Since.drew ?_ | with_reducible refine Since.drewN ?_ _)) hb10)
  have T10 := Lib.hid (T9.out.below B10.out)
  clear hb10
  go_wp2_with fail
  refine (F6.out _ _ (T10.out.below (Since.out (by repeat (first | with_reducible exact Since.refl _ | with_reducible refine Since.alloc ?_ _ | with_reducible refine Since.setCell ?_ (by first | omega | (simp; done) | (simp; omega)) _ | with_reducible refine Since.drew ?_ | with_reducible refine Since.drewN ?_ _))))).mono ?_
  rintro e w11 ⟨B6, d6, rfl, hB6, hb11⟩
  have A11 := Lib.hid (show Since w w11 from Since.via (by repeat (first | with_reducible exact A10.out | with_reducible exact Since.refl _ | with_reducible refine Since.alloc ?_ _ | with_reducible refine Since.setCell ?_ (by first | omega | (simp; done) | (simp; omega)) _ | with_reducible refine Since.drew ?_ | with_reducible refine Since.drewN ?_ _)) hb11)
  have s11 := A11.out.size
  have B11 := Lib.hid (show Since w10 w11 from Since.via (by repeat (first | with_reducible exact Since.refl _ | with_reducible refine Since.alloc ?_ _ | with_reducible refine Since.setCell ?_ (by first | omega | (simp; done) | (simp; omega)) _ | with_reducible refine Since.drew ?_ | with_reducible refine Since.drewN ?_ _)) hb11)
  have T11 := Lib.hid (T10.out.below B11.out)
  clear hb11
  go_wp2_with fail
  refine (F7.out _ _ (T11.out.below (Since.out (by repeat (first | with_reducible exact Since.refl _ | with_reducible refine Since.alloc ?_ _ | with_reducible refine Since.setCell ?_ (by first | omega | (simp; done) | (simp; omega)) _ | with_reducible refine Since.drew ?_ | with_reducible refine Since.drewN ?_ _))))).mono ?_
  rintro e w12 ⟨B7, d7, rfl, hB7, hb12⟩
  have A12 := Lib.hid (show Since w w12 from Since.via (by repeat (first | with_reducible exact A11.out | with_reducible exact Since.refl _ | with_reducible refine Since.alloc ?_ _ | with_reducible refine Since.setCell ?_ (by first | omega | (simp; done) | (simp; omega)) _ | with_reducible refine Since.drew ?_ | with_reducible refine Since.drewN ?_ _)) hb12)
  have s12 := A12.out.size
  have B12 := Lib.hid (show Since w11 w12 from Since.via (by repeat (first | with_reducible exact Since.refl _ | with_reducible refine Since.alloc ?_ _ | with_reducible refine Since.setCell ?_ (by first | omega | (simp; done) | (simp; omega)) _ | with_reducible refine Since.drew ?_ | with_reducible refine Since.drewN ?_ _)) hb12)
  have T12 := Lib.hid (T11.out.below B12.out)
  clear hb12
  go_wp2_with fail
  refine (F8.out _ _ (T12.out.below (Since.out (by repeat (first | with_reducible exact Since.refl _ | with_reducible refine Since.alloc ?_ _ | with_reducible refine Since.setCell ?_ (by first | omega | (simp; done) | (simp; omega)) _ | with_reducible refine Since.drew ?_ | with_reducible refine Since.drewN ?_ _))))).mono ?_
  rintro e w13 ⟨B8, d8, rfl, hB8, hb13⟩
  have A13 := Lib.hid (show Since w w13 from Since.via (by repeat (first | with_reducible exact A12.out | with_reducible exact Since.refl _ | with_reducible refine Since.alloc ?_ _ | with_reducible refine Since.setCell ?_ (by first | omega | (simp; done) | (simp; omega)) _ | with_reducible refine Since.drew ?_ | with_reducible refine Since.drewN ?_ _)) hb13)
  have s13 := A13.out.size
  have B13 := Lib.hid (show Since w12 w13 from Since.via (by repeat (first | with_reducible exact Since.refl _ | with_reducible refine Since.alloc ?_ _ | with_reducible refine Since.setCell ?_ (by first | omega | (simp; done) | (simp; omega)) _ | with_reducible refine Since.drew ?_ | with_reducible refine Since.drewN ?_ _)) hb13)
  have T13 := Lib.hid (T12.out.below B13.out)
  clear hb13
  go_wp2_with fail
  refine (F9.out _ _ (T13.out.below (Since.out (by repeat (first | with_reducible exact Since.refl _ | with_reducible refine Since.alloc ?_ _ | with_reducible refine Since.setCell ?_ (by first | omega | (simp; done) | (simp; omega)) _ | with_reducible refine Since.drew ?_ | with_reducible refine Since.drewN ?_ _))))).mono ?_
  rintro e w14 ⟨B9, d9, rfl, hB9, hb14⟩
  have A14 := Lib.hid (show Since w w14 from Since.via (by repeat (first | with_reducible exact A13.out | with_reducible exact Since.refl _ | with_reducible refine Since.alloc ?_ _ | with_reducible refine Since.setCell ?_ (by first | omega | (simp; done) | (simp; omega)) _ | with_reducible refine Since.drew ?_ | with_reducible refine Since.drewN ?_ _)) hb14)
  have s14 := A14.out.size
  have B14 := Lib.hid (show Since w13 w14 from Since.via (by repeat (first | with_reducible exact Since.refl _ | with_reducible refine Since.alloc ?_ _ | with_reducible refine Since.setCell ?_ (by first | omega | (simp; done) | (simp; omega)) _ | with_reducible refine Since.drew ?_ | with_reducible refine Since.drewN ?_ _)) hb14)
  have T14 := Lib.hid (T13.out.below B14.out)
  clear hb14
  go_wp2_with fail
  refine (F10.out _ _ (T14.out.below (Since.out (by repeat (first | with_reducible exact Since.refl _ | with_reducible refine Since.alloc ?_ _ | with_reducible refine Since.setCell ?_ (by first | omega | (simp; done) | (simp; omega)) _ | with_reducible refine Since.drew ?_ | with_reducible refine Since.drewN ?_ _))))).mono ?_
  rintro e w15 ⟨B10, d10, rfl, hB10, hb15⟩
  have A15 := Lib.hid (show Since w w15 from Since.via (by repeat (first | with_reducible exact A14.out | with_reducible exact Since.refl _ | with_reducible refine Since.alloc ?_ _ | with_reducible refine Since.setCell ?_ (by first | omega | (simp; done) | (simp; omega)) _ | with_reducible refine Since.drew ?_ | with_reducible refine Since.drewN ?_ _)) hb15)
  have s15 := A15.out.size
  have B15 := Lib.hid (show Since w14 w15 from Since.via (by repeat (first | with_reducible exact Since.refl _ | with_reducible refine Since.alloc ?_ _ | with_reducible refine Since.setCell ?_ (by first | omega | (simp; done) | (simp; omega)) _ | with_reducible refine Since.drew ?_ | with_reducible refine Since.drewN ?_ _)) hb15)
  have T15 := Lib.hid (T14.out.below B15.out)
  have M15 := Lib.hid hB10
  clear hB10
  clear hb15
  go_wp2_with fail
  refine (F11.out _ _ (T15.out.below (Since.out (by repeat (first | with_reducible exact Since.refl _ | with_reducible refine Since.alloc ?_ _ | with_reducible refine Since.setCell ?_ (by first | omega | (simp; done) | (simp; omega)) _ | with_reducible refine Since.drew ?_ | with_reducible refine Since.drewN ?_ _))))).mono ?_
  rintro e w16 ⟨rfl, hb16⟩
  have A16 := Lib.hid (show Since w w16 from Since.via (by repeat (first | with_reducible exact A15.out | with_reducible exact Since.refl _ | with_reducible refine Since.alloc ?_ _ | with_reducible refine Since.setCell ?_ (by first | omega | (simp; done) | (simp; omega)) _ | with_reducible refine Since.drew ?_ | with_reducible refine Since.drewN ?_ _)) hb16)
  have s16 := A16.out.size
  have B16 := Lib.hid (show Since w15 w16 from Since.via (by repeat (first | with_reducible exact Since.refl _ | with_reducible refine Since.alloc ?_ _ | with_reducible refine Since.setCell ?_ (by first | omega | (simp; done) | (simp; omega)) _ | with_reducible refine Since.drew ?_ | with_reducible refine Since.drewN ?_ _)) hb16)
  have T16 := Lib.hid (T15.out.below B16.out)
  have M16 := Lib.hid (M15.out.below B16.out)
  clear hb16
  go_wp2_with fail
  refine (F12.out _ _ (T16.out.below (Since.out (by repeat (first | with_reducible exact Since.refl _ | with_reducible refine Since.alloc ?_ _ | with_reducible refine Since.setCell ?_ (by first | omega | (simp; done) | (simp; omega)) _ | with_reducible refine Since.drew ?_ | with_reducible refine Since.drewN ?_ _))))).mono ?_
  rintro e w17 ⟨rfl, hb17⟩
  have A17 := Lib.hid (show Since w w17 from Since.via (by repeat (first | with_reducible exact A16.out | with_reducible exact Since.refl _ | with_reducible refine Since.alloc ?_ _ | with_reducible refine Since.setCell ?_ (by first | omega | (simp; done) | (simp; omega)) _ | with_reducible refine Since.drew ?_ | with_reducible refine Since.drewN ?_ _)) hb17)
  have s17 := A17.out.size
  have B17 := Lib.hid (show Since w16 w17 from Since.via (by repeat (first | with_reducible exact Since.refl _ | with_reducible refine Since.alloc ?_ _ | with_reducible refine Since.setCell ?_ (by first | omega | (simp; done) | (simp; omega)) _ | with_reducible refine Since.drew ?_ | with_reducible refine Since.drewN ?_ _)) hb17)
  have T17 := Lib.hid (T16.out.below B17.out)
  have M17 := Lib.hid (M16.out.below B17.out)
  have X17 := Lib.hid (show Cells w17 (w16.heap.size) 24 (#[.int .i64 132, .int .i64 24, .int .i64 2, .int .i64 0, .bool false, .int .u64 0]) from Cells.kept (by repeat (first | with_reducible exact X16.out | with_reducible exact Cells.at_ _ _ _ (by first | omega | (simp; done) | (simp; omega)) | with_reducible refine Cells.alloc ?_ _ | with_reducible refine Cells.far' ?_ (by first | omega | (simp; done) | (simp; omega)) _ | with_reducible refine Cells.drew ?_ | with_reducible refine Cells.drewN ?_ _)) hb17)
  have Xz17 := X17.out.lt
  clear hb17
  go_wp2_with fail
  refine (F13.out _ _ (T17.out.below (Since.out (by repeat (first | with_reducible exact Since.refl _ | with_reducible refine Since.alloc ?_ _ | with_reducible refine Since.setCell ?_ (by first | omega | (simp; done) | (simp; omega)) _ | with_reducible refine Since.drew ?_ | with_reducible refine Since.drewN ?_ _))))).mono ?_
  rintro e w18 ⟨rfl, hb18⟩
  have A18 := Lib.hid (show Since w w18 from Since.via (by repeat (first | with_reducible exact A17.out | with_reducible exact Since.refl _ | with_reducible refine Since.alloc ?_ _ | with_reducible refine Since.setCell ?_ (by first | omega | (simp; done) | (simp; omega)) _ | with_reducible refine Since.drew ?_ | with_reducible refine Since.drewN ?_ _)) hb18)
  have s18 := A18.out.size
  have B18 := Lib.hid (show Since w17 w18 from Since.via (by repeat (first | with_reducible exact Since.refl _ | with_reducible refine Since.alloc ?_ _ | with_reducible refine Since.setCell ?_ (by first | omega | (simp; done) | (simp; omega)) _ | with_reducible refine Since.drew ?_ | with_reducible refine Since.drewN ?_ _)) hb18)
  have T18 := Lib.hid (T17.out.below B18.out)
  have M18 := Lib.hid (M17.out.below B18.out)
  have X18 := Lib.hid (show Cells w18 (w16.heap.size) 24 (#[.int .i64 132, .int .i64 24, .int .i64 2, .int .i64 0, .bool false, .int .u64 0]) from Cells.kept (by repeat (first | with_reducible exact X17.out | with_reducible exact Cells.at_ _ _ _ (by first | omega | (simp; done) | (simp; omega)) | with_reducible refine Cells.alloc ?_ _ | with_reducible refine Cells.far' ?_ (by first | omega | (simp; done) | (simp; omega)) _ | with_reducible refine Cells.drew ?_ | with_reducible refine Cells.drewN ?_ _)) hb18)
  have Xz18 := X18.out.lt
  clear hb18
  go_wp2_with fail
  refine (F14.out _ _ (T18.out.below (Since.out (by repeat (first | with_reducible exact Since.refl _ | with_reducible refine Since.alloc ?_ _ | with_reducible refine Since.setCell ?_ (by first | omega | (simp; done) | (simp; omega)) _ | with_reducible refine Since.drew ?_ | with_reducible refine Since.drewN ?_ _))))).mono ?_
  rintro e w19 ⟨rfl, hb19⟩
  have A19 := Lib.hid (show Since w w19 from Since.via (by repeat (first | with_reducible exact A18.out | with_reducible exact Since.refl _ | with_reducible refine Since.alloc ?_ _ | with_reducible refine Since.setCell ?_ (by first | omega | (simp; done) | (simp; omega)) _ | with_reducible refine Since.drew ?_ | with_reducible refine Since.drewN ?_ _)) hb19)
  have s19 := A19.out.size
  have B19 := Lib.hid (show Since w18 w19 from Since.via (by repeat (first | with_reducible exact Since.refl _ | with_reducible refine Since.alloc ?_ _ | with_reducible refine Since.setCell ?_ (by first | omega | (simp; done) | (simp; omega)) _ | with_reducible refine Since.drew ?_ | with_reducible refine Since.drewN ?_ _)) hb19)
  have M19 := Lib.hid (M18.out.below B19.out)
  have X19 := Lib.hid (show Cells w19 (w16.heap.size) 24 (#[.int .i64 132, .int .i64 24, .int .i64 2, .int .i64 0, .bool false, .int .u64 0]) from Cells.kept (by repeat (first | with_reducible exact X18.out | with_reducible exact Cells.at_ _ _ _ (by first | omega | (simp; done) | (simp; omega)) | with_reducible refine Cells.alloc ?_ _ | with_reducible refine Cells.far' ?_ (by first | omega | (simp; done) | (simp; omega)) _ | with_reducible refine Cells.drew ?_ | with_reducible refine Cells.drewN ?_ _)) hb19)
  have Xz19 := X19.out.lt
  clear hb19
  go_wp2_with fail
  refine (obj15 _ _).mono ?_
  rintro e w20 ⟨rfl, hb20⟩
  have A20 := Lib.hid (show Since w w20 from Since.via (by repeat (first | with_reducible exact A19.out | with_reducible exact Since.refl _ | with_reducible refine Since.alloc ?_ _ | with_reducible refine Since.setCell ?_ (by first | omega | (simp; done) | (simp; omega)) _ | with_reducible refine Since.drew ?_ | with_reducible refine Since.drewN ?_ _)) hb20)
  have s20 := A20.out.size
  have B20 := Lib.hid (show Since w19 w20 from Since.via (by repeat (first | with_reducible exact Since.refl _ | with_reducible refine Since.alloc ?_ _ | with_reducible refine Since.setCell ?_ (by first | omega | (simp; done) | (simp; omega)) _ | with_reducible refine Since.drew ?_ | with_reducible refine Since.drewN ?_ _)) hb20)
  have M20 := Lib.hid (M19.out.below B20.out)
  have X20 := Lib.hid (show Cells w20 (w16.heap.size) 24 (#[.int .i64 132, .int .i64 24, .int .i64 2, .int .i64 0, .bool false, .int .u64 0]) from Cells.kept (by repeat (first | with_reducible exact X19.out | with_reducible exact Cells.at_ _ _ _ (by first | omega | (simp; done) | (simp; omega)) | with_reducible refine Cells.alloc ?_ _ | with_reducible refine Cells.far' ?_ (by first | omega | (simp; done) | (simp; omega)) _ | with_reducible refine Cells.drew ?_ | with_reducible refine Cells.drewN ?_ _)) hb20)
  have Xz20 := X20.out.lt
  clear hb20
  go_wp2_with fail
  refine (free15 _ _).mono ?_
  rintro e w21 ⟨rfl, hb21⟩
  have A21 := Lib.hid (show Since w w21 from Since.via (by repeat (first | with_reducible exact A20.out | with_reducible exact Since.refl _ | with_reducible refine Since.alloc ?_ _ | with_reducible refine Since.setCell ?_ (by first | omega | (simp; done) | (simp; omega)) _ | with_reducible refine Since.drew ?_ | with_reducible refine Since.drewN ?_ _)) hb21)
  have s21 := A21.out.size
  have B21 := Lib.hid (show Since w20 w21 from Since.via (by repeat (first | with_reducible exact Since.refl _ | with_reducible refine Since.alloc ?_ _ | with_reducible refine Since.setCell ?_ (by first | omega | (simp; done) | (simp; omega)) _ | with_reducible refine Since.drew ?_ | with_reducible refine Since.drewN ?_ _)) hb21)
  have M21 := Lib.hid (M20.out.below B21.out)
  have X21 := Lib.hid (show Cells w21 (w16.heap.size) 24 (#[.int .i64 132, .int .i64 24, .int .i64 2, .int .i64 0, .bool false, .int .u64 0]) from Cells.kept (by repeat (first | with_reducible exact X20.out | with_reducible exact Cells.at_ _ _ _ (by first | omega | (simp; done) | (simp; omega)) | with_reducible refine Cells.alloc ?_ _ | with_reducible refine Cells.far' ?_ (by first | omega | (simp; done) | (simp; omega)) _ | with_reducible refine Cells.drew ?_ | with_reducible refine Cells.drewN ?_ _)) hb21)
  have Xz21 := X21.out.lt
  clear hb21
  go_wp2_with fail
  refine (L2.out _ _ (Cells.new _ _ _)).mono ?_
  rintro e w22 ⟨gk, rfl, hK, hKl, hKq, hgk, hb22⟩
  have A22 := Lib.hid (show Since w w22 from Since.via (by repeat (first | with_reducible exact A21.out | with_reducible exact Since.refl _ | with_reducible refine Since.alloc ?_ _ | with_reducible refine Since.setCell ?_ (by first | omega | (simp; done) | (simp; omega)) _ | with_reducible refine Since.drew ?_ | with_reducible refine Since.drewN ?_ _)) hb22)
  have s22 := A22.out.size
  have B22 := Lib.hid (show Since w21 w22 from Since.via (by repeat (first | with_reducible exact Since.refl _ | with_reducible refine Since.alloc ?_ _ | with_reducible refine Since.setCell ?_ (by first | omega | (simp; done) | (simp; omega)) _ | with_reducible refine Since.drew ?_ | with_reducible refine Since.drewN ?_ _)) hb22)
  have M22 := Lib.hid (M21.out.below B22.out)
  have K22 := Lib.hid hK
  clear hK
  have X22 := Lib.hid (show Cells w22 (w16.heap.size) 24 (#[.int .i64 132, .int .i64 24, .int .i64 2, .int .i64 0, .bool false, .int .u64 0]) from Cells.kept (by repeat (first | with_reducible exact X21.out | with_reducible exact Cells.at_ _ _ _ (by first | omega | (simp; done) | (simp; omega)) | with_reducible refine Cells.alloc ?_ _ | with_reducible refine Cells.far' ?_ (by first | omega | (simp; done) | (simp; omega)) _ | with_reducible refine Cells.drew ?_ | with_reducible refine Cells.drewN ?_ _)) hb22)
  have Xz22 := X22.out.lt
  clear hb22
  simp only [World.size_alloc] at hgk
  have q15 : w15.heap.size ≤ gk := by have := Since.size (show Since w15 w21 from Since.trans B16.out (Since.trans B17.out (Since.trans B18.out (Since.trans B19.out (Since.trans B20.out B21.out))))); omega
  have hgw : w.heap.size ≤ gk := by omega
  have HKL := Lib.hid hKl
  have HKQ := Lib.hid hKq
  clear hKl hKq
  have Kz22 := K22.out.lt
  go_wp2_with fail
  refine (obj15 _ _).mono ?_
  rintro e w23 ⟨rfl, hb23⟩
  have A23 := Lib.hid (show Since w w23 from Since.via (by repeat (first | with_reducible exact A22.out | with_reducible exact Since.refl _ | with_reducible refine Since.alloc ?_ _ | with_reducible refine Since.setCell ?_ (by first | omega | (simp; done) | (simp; omega)) _ | with_reducible refine Since.drew ?_ | with_reducible refine Since.drewN ?_ _)) hb23)
  have s23 := A23.out.size
  have B23 := Lib.hid (show Since w22 w23 from Since.via (by repeat (first | with_reducible exact Since.refl _ | with_reducible refine Since.alloc ?_ _ | with_reducible refine Since.setCell ?_ (by first | omega | (simp; done) | (simp; omega)) _ | with_reducible refine Since.drew ?_ | with_reducible refine Since.drewN ?_ _)) hb23)
  have M23 := Lib.hid (M22.out.below B23.out)
  have X23 := Lib.hid (show Cells w23 (w16.heap.size) 24 (#[.int .i64 132, .int .i64 24, .int .i64 2, .int .i64 0, .bool false, .int .u64 0]) from Cells.kept (by repeat (first | with_reducible exact X22.out | with_reducible exact Cells.at_ _ _ _ (by first | omega | (simp; done) | (simp; omega)) | with_reducible refine Cells.alloc ?_ _ | with_reducible refine Cells.far' ?_ (by first | omega | (simp; done) | (simp; omega)) _ | with_reducible refine Cells.drew ?_ | with_reducible refine Cells.drewN ?_ _)) hb23)
  have Xz23 := X23.out.lt
  have K23 := Lib.hid (show Cells w23 (gk) 22 (((yl.map wv).toArray)) from Cells.kept (by repeat (first | with_reducible exact K22.out | with_reducible exact Cells.at_ _ _ _ (by first | omega | (simp; done) | (simp; omega)) | with_reducible refine Cells.alloc ?_ _ | with_reducible refine Cells.far' ?_ (by first | omega | (simp; done) | (simp; omega)) _ | with_reducible refine Cells.drew ?_ | with_reducible refine Cells.drewN ?_ _)) hb23)
  have Kz23 := K23.out.lt
  clear hb23
  go_wp2_with fail
  refine (O1.out _).mono ?_
  rintro e w24 ⟨rfl, hb24⟩
  have A24 := Lib.hid (show Since w w24 from Since.via (by repeat (first | with_reducible exact A23.out | with_reducible exact Since.refl _ | with_reducible refine Since.alloc ?_ _ | with_reducible refine Since.setCell ?_ (by first | omega | (simp; done) | (simp; omega)) _ | with_reducible refine Since.drew ?_ | with_reducible refine Since.drewN ?_ _)) hb24)
  have s24 := A24.out.size
  have B24 := Lib.hid (show Since w23 w24 from Since.via (by repeat (first | with_reducible exact Since.refl _ | with_reducible refine Since.alloc ?_ _ | with_reducible refine Since.setCell ?_ (by first | omega | (simp; done) | (simp; omega)) _ | with_reducible refine Since.drew ?_ | with_reducible refine Since.drewN ?_ _)) hb24)
  have M24 := Lib.hid (M23.out.below B24.out)
  have X24 := Lib.hid (show Cells w24 (w16.heap.size) 24 (#[.int .i64 132, .int .i64 24, .int .i64 2, .int .i64 0, .bool false, .int .u64 0]) from Cells.kept (by repeat (first | with_reducible exact X23.out | with_reducible exact Cells.at_ _ _ _ (by first | omega | (simp; done) | (simp; omega)) | with_reducible refine Cells.alloc ?_ _ | with_reducible refine Cells.far' ?_ (by first | omega | (simp; done) | (simp; omega)) _ | with_reducible refine Cells.drew ?_ | with_reducible refine Cells.drewN ?_ _)) hb24)
  have Xz24 := X24.out.lt
  have K24 := Lib.hid (show Cells w24 (gk) 22 (((yl.map wv).toArray)) from Cells.kept (by repeat (first | with_reducible exact K23.out | with_reducible exact Cells.at_ _ _ _ (by first | omega | (simp; done) | (simp; omega)) | with_reducible refine Cells.alloc ?_ _ | with_reducible refine Cells.far' ?_ (by first | omega | (simp; done) | (simp; omega)) _ | with_reducible refine Cells.drew ?_ | with_reducible refine Cells.drewN ?_ _)) hb24)
  have Kz24 := K24.out.lt
  clear hb24
  obtain ⟨v0, hv0⟩ := V254.out HKL.out
  have k254 : w24.cell? ⟨gk, 254, none⟩ = some v0 := (K24.out.cell 254).trans hv0
  have f254 := K24.out.frozen 254
  clear hv0
  have K25 := Lib.hid (show Words (w24.setCell ⟨gk, 254, none⟩ (.int .u64 (hd : Int))) (some ⟨gk, 0, none⟩) 256 256 xl from by
    have h1 := K24.out.set_ 254 (.int .u64 (hd : Int))
    rw [wv_set] at h1
    have h2 := Words.of_cells h1 (fun x hx => by
      rcases List.mem_or_eq_of_mem_set hx with hx | rfl
      · exact HKQ.out x hx
      · exact HO.out) (n := 256) (by rw [List.length_set]; exact HKL.out) (by omega)
    rw [← HX.out]; exact h2)
  go_wp2_with fail
  refine (F15.out _ _ K25.out).mono ?_
  rintro e w25 ⟨B25, d25, rfl, hB25, hb25⟩
  have A25 := Lib.hid (show Since w w25 from Since.via (by repeat (first | with_reducible exact A24.out | with_reducible exact Since.refl _ | with_reducible refine Since.alloc ?_ _ | with_reducible refine Since.setCell ?_ (by first | omega | (simp; done) | (simp; omega)) _ | with_reducible refine Since.drew ?_ | with_reducible refine Since.drewN ?_ _)) hb25)
  have K26 := Lib.hid (K25.out.below hb25)
  have S15 := Lib.hid (show Since w15 w24 from Since.trans B16.out (Since.trans B17.out (Since.trans B18.out (Since.trans B19.out (Since.trans B20.out (Since.trans B21.out (Since.trans B22.out (Since.trans B23.out B24.out))))))))
  have M25 := Lib.hid (M15.out.below (Since.via (Since.setCell S15.out q15 _) hb25).out)
  have X25 := Lib.hid (show Cells w25 w16.heap.size 24 #[.int .i64 132, .int .i64 24, .int .i64 2, .int .i64 0, .bool false, .int .u64 0] from ((X24.out.far' (by omega) _).kept hb25))
  clear hb25 k254 f254
  have s25 := A25.out.size
  go_wp2_with fail
  refine (F16.out _ _ (K26.out.below (Since.out (by repeat (first | with_reducible exact Since.refl _ | with_reducible refine Since.alloc ?_ _ | with_reducible refine Since.setCell ?_ (by first | omega | (simp; done) | (simp; omega)) _ | with_reducible refine Since.drew ?_ | with_reducible refine Since.drewN ?_ _))))).mono ?_
  rintro e w26 ⟨B26, d26, rfl, hB26, hb26⟩
  have A26 := Lib.hid (show Since w w26 from Since.via (by repeat (first | with_reducible exact A25.out | with_reducible exact Since.refl _ | with_reducible refine Since.alloc ?_ _ | with_reducible refine Since.setCell ?_ (by first | omega | (simp; done) | (simp; omega)) _ | with_reducible refine Since.drew ?_ | with_reducible refine Since.drewN ?_ _)) hb26)
  have s26 := A26.out.size
  have B26 := Lib.hid (show Since w25 w26 from Since.via (by repeat (first | with_reducible exact Since.refl _ | with_reducible refine Since.alloc ?_ _ | with_reducible refine Since.setCell ?_ (by first | omega | (simp; done) | (simp; omega)) _ | with_reducible refine Since.drew ?_ | with_reducible refine Since.drewN ?_ _)) hb26)
  have M26 := Lib.hid (M25.out.below B26.out)
  have X26 := Lib.hid (show Cells w26 (w16.heap.size) 24 (#[.int .i64 132, .int .i64 24, .int .i64 2, .int .i64 0, .bool false, .int .u64 0]) from Cells.kept (by repeat (first | with_reducible exact X25.out | with_reducible exact Cells.at_ _ _ _ (by first | omega | (simp; done) | (simp; omega)) | with_reducible refine Cells.alloc ?_ _ | with_reducible refine Cells.far' ?_ (by first | omega | (simp; done) | (simp; omega)) _ | with_reducible refine Cells.drew ?_ | with_reducible refine Cells.drewN ?_ _)) hb26)
  have Xz26 := X26.out.lt
  clear hb26
  go_wp2_with fail
  refine (alive15 _).mono ?_
  rintro e w27 ⟨rfl, hb27⟩
  have A27 := Lib.hid (show Since w w27 from Since.via (by repeat (first | with_reducible exact A26.out | with_reducible exact Since.refl _ | with_reducible refine Since.alloc ?_ _ | with_reducible refine Since.setCell ?_ (by first | omega | (simp; done) | (simp; omega)) _ | with_reducible refine Since.drew ?_ | with_reducible refine Since.drewN ?_ _)) hb27)
  have s27 := A27.out.size
  have B27 := Lib.hid (show Since w26 w27 from Since.via (by repeat (first | with_reducible exact Since.refl _ | with_reducible refine Since.alloc ?_ _ | with_reducible refine Since.setCell ?_ (by first | omega | (simp; done) | (simp; omega)) _ | with_reducible refine Since.drew ?_ | with_reducible refine Since.drewN ?_ _)) hb27)
  have M27 := Lib.hid (M26.out.below B27.out)
  have X27 := Lib.hid (show Cells w27 (w16.heap.size) 24 (#[.int .i64 132, .int .i64 24, .int .i64 2, .int .i64 0, .bool false, .int .u64 0]) from Cells.kept (by repeat (first | with_reducible exact X26.out | with_reducible exact Cells.at_ _ _ _ (by first | omega | (simp; done) | (simp; omega)) | with_reducible refine Cells.alloc ?_ _ | with_reducible refine Cells.far' ?_ (by first | omega | (simp; done) | (simp; omega)) _ | with_reducible refine Cells.drew ?_ | with_reducible refine Cells.drewN ?_ _)) hb27)
  have Xz27 := X27.out.lt
  clear hb27
  obtain ⟨g, o, rfl, hg⟩ := M27.out.at_ (by decide)
  obtain ⟨c0, c1, c2, c3, c4, c5⟩ := M27.out.same (j := 0) (by decide)
  simp at c0 c1 c2 c3 c4 c5
  have m1 := M27.out.cap
  have m2 := M27.out.most
  simp at m1
  obtain ⟨Xq0, Xq1, Xq2, Xq3, Xq4, Xq5⟩ := X27.out.six
  have Xlt := X27.out.lt
  go_wp2
  go_ret
  exact ⟨rfl, (Since.out (by repeat (first | with_reducible exact A27.out | with_reducible exact Since.refl _ | with_reducible refine Since.alloc ?_ _ | with_reducible refine Since.setCell ?_ (by first | omega | (simp; done) | (simp; omega)) _ | with_reducible refine Since.drew ?_ | with_reducible refine Since.drewN ?_ _)))⟩
end Go.Proofs.Ythdccahggcjogaa
