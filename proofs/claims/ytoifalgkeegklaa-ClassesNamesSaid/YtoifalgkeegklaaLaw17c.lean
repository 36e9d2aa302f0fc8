/- The law on limits and errors of package classes, walked. -/
import Derived.Test.YtoifalgkeegklaaLaw17b
import Derived.Test.YtoifalgkeegklaaAlive15
namespace Go.Proofs.Ytoifalgkeegklaa
open Go.RowKit

def exC : List Nat := laid 256 [freeB 2, objB 4, freeB 122]
def exCL : List (List Int) := [[], [128], [], [], [], [], [134], [], [], [], []]
theorem cn1 : listsR exC = (exCL, 0) := by decide +kernel
theorem cn2 : listsR (List.replicate 256 0) = ([], 50) := by decide +kernel
theorem cn3 : listsR [] = ([], 8) := by decide +kernel
theorem mkc256 (W : World) : (Instr.makeSlice 33 (.int .i64 256) (.int .i64 256)).run Try.prog W = .ok (.slice (some ⟨W.heap.size, 0, none⟩) 256 256) (W.alloc (.cells (madeCells #[.int .u64 0] 256) 22)) := mk_words 256 (by omega) W
theorem mkc11 (W : World) : (Instr.makeSlice 60 (.int .i64 11) (.int .i64 11)).run Try.prog W = .ok (.slice (some ⟨W.heap.size, 0, none⟩) 11 11) (W.alloc (.cells #[.slice none 0 0, .slice none 0 0, .slice none 0 0, .slice none 0 0, .slice none 0 0, .slice none 0 0, .slice none 0 0, .slice none 0 0, .slice none 0 0, .slice none 0 0, .slice none 0 0] 69)) := by
  have e : madeCells #[Value.slice none 0 0] 11 = #[.slice none 0 0, .slice none 0 0, .slice none 0 0, .slice none 0 0, .slice none 0 0, .slice none 0 0, .slice none 0 0, .slice none 0 0, .slice none 0 0, .slice none 0 0, .slice none 0 0] := by
    apply Array.toList_inj.1
    rw [toList_madeCells_one]
    rfl
  have := mk_rows W
  rw [e] at this
  exact this
theorem good_free17 {z : Int} (h1 : 2 ≤ z) (h2 : z % 2 = 0) (h3 : z ≤ 1920) : (freeB z).good := ⟨h1, h2, .inr ⟨rfl, rfl, rfl, h3⟩⟩

theorem ints_one {w : World} {g : Nat} {t : TypeId} {z : Int} (h : Cells w g t #[.int .i64 z]) : RowVal w (.slice (some ⟨g, 0, none⟩) 1 1) [z] := by
  refine ⟨_, 1, rfl, rfl, Nat.le_refl _, by omega, by simp, fun _ => ⟨g, 0, rfl, h.lt, fun j hj => ?_⟩⟩
  have : j = 0 := by simpa using hj
  subst this
  exact h.cell 0
theorem nil_row (w : World) : RowVal w (.slice none 0 0) [] := ⟨none, 0, rfl, Ints.nil⟩
theorem want_rows {w : World} {g g1 g2 : Nat} (h : Cells w g 69 #[.slice none 0 0, .slice (some ⟨g1, 0, none⟩) 1 1, .slice none 0 0, .slice none 0 0, .slice none 0 0, .slice none 0 0, .slice (some ⟨g2, 0, none⟩) 1 1, .slice none 0 0, .slice none 0 0, .slice none 0 0, .slice none 0 0]) (h1 : Cells w g1 3 #[.int .i64 128]) (h2 : Cells w g2 3 #[.int .i64 134]) :
    Rows2 w (some ⟨g, 0, none⟩) 11 11 exCL := by
  refine ⟨rfl, Nat.le_refl _, by omega, by simp, fun _ => ⟨g, 0, rfl, h.lt, fun j hj => ?_⟩⟩
  have hj' : j < 11 := hj
  have hc := h.cell j
  rw [Nat.zero_add]
  have : j = 0 ∨ j = 1 ∨ j = 2 ∨ j = 3 ∨ j = 4 ∨ j = 5 ∨ j = 6 ∨ j = 7 ∨ j = 8 ∨ j = 9 ∨ j = 10 := by omega
  rcases this with rfl | rfl | rfl | rfl | rfl | rfl | rfl | rfl | rfl | rfl | rfl
  · exact ⟨_, hc, nil_row w⟩
  · exact ⟨_, hc, ints_one h1⟩
  · exact ⟨_, hc, nil_row w⟩
  · exact ⟨_, hc, nil_row w⟩
  · exact ⟨_, hc, nil_row w⟩
  · exact ⟨_, hc, nil_row w⟩
  · exact ⟨_, hc, ints_one h2⟩
  · exact ⟨_, hc, nil_row w⟩
  · exact ⟨_, hc, nil_row w⟩
  · exact ⟨_, hc, nil_row w⟩
  · exact ⟨_, hc, nil_row w⟩

set_option maxRecDepth 100000 in
set_option maxHeartbeats 8000000 in
theorem walkClassesNames (w : World) : Calls Try.prog 13 #[] w fun e w' => e = .returned (.bool true) ∧ Below w.heap.size w w' := by
  have L1 := Lib.hid fun W g (h : Cells W g 24 #[.int .i64 0, .int .i64 2, .int .i64 2, .int .i64 0, .bool false, .int .u64 0, .int .i64 0, .int .i64 4, .int .i64 1, .int .i64 0, .bool false, .int .u64 0, .int .i64 0, .int .i64 122, .int .i64 2, .int .i64 0, .bool false, .int .u64 0]) => laid_ex 256 (some ⟨g, 0, none⟩) 3 [freeB 2, objB 4, freeB 122] W (by omega) (by omega) (Blks.lit h (by decide)) (by decide) (by decide) (by decide)
  rw [show laid 256 [freeB 2, objB 4, freeB 122] = exC from rfl] at L1
  have K1 := Lib.hid fun W => class_bad 1 W (by decide)
  have K2 := Lib.hid fun W => class_bad 1921 W (by decide)
  have K3 := Lib.hid fun W => class_bad (-4) W (by decide)
  have K4 := Lib.hid fun W => class_bad 4611686018427387904 W (by decide)
  have D1 := Lib.hid fun W => bounds_bad 0 W (by decide)
  have D2 := Lib.hid fun W => bounds_bad 11 W (by decide)
  have D3 := Lib.hid fun W => bounds_bad (-1) W (by decide)
  have D4 : ∀ W, Calls Try.prog 47 #[.int .i64 10] W fun e w' => e = .returned (.tuple #[.int .i64 1024, .int .i64 1920, .int .i64 0]) ∧ Below W.heap.size W w' := fun W => bounds_ok 10 W (by decide) (by decide)
  have D5 : ∀ W, Calls Try.prog 47 #[.int .i64 1] W fun e w' => e = .returned (.tuple #[.int .i64 2, .int .i64 3, .int .i64 0]) ∧ Below W.heap.size W w' := fun W => bounds_ok 1 W (by decide) (by decide)
  have HD4 := Lib.hid D4
  have HD5 := Lib.hid D5
  clear D4 D5
  have F1 := Lib.hid fun W A h => lists_any A 256 256 exC W h
  have F2 := Lib.hid fun W A h => lists_any A 256 256 (List.replicate 256 0) W h
  have F3 := Lib.hid fun W => lists_any none 0 0 [] W Words.nil
  rw [cn1] at F1
  rw [cn2] at F2
  rw [cn3] at F3
  generalize exC = xc at *
  have m256 := mkc256
  have m11 := mkc11
  have A0 := Lib.hid (Since.refl w)
  go_enter Try.func13, Try.ntmps13
  go_wp2_with fail
  refine (K1.out _).mono ?_
  rintro e wd ⟨rfl, rfl⟩
  go_wp2_with fail
  refine (K2.out _).mono ?_
  rintro e wd ⟨rfl, rfl⟩
  go_wp2_with fail
  refine (K3.out _).mono ?_
  rintro e wd ⟨rfl, rfl⟩
  go_wp2_with fail
  refine (K4.out _).mono ?_
  rintro e wd ⟨rfl, rfl⟩
  go_wp2_with fail
  refine (D1.out _).mono ?_
  rintro e w1 ⟨rfl, hb1⟩
  have A1 := Lib.hid (show Since w w1 from Since.via (by repeat (first | with_reducible exact A0.out | with_reducible exact Since.refl _ | with_reducible refine Since.alloc ?_ _ | with_reducible refine Since.setCell ?_ (by first | omega | (simp; done) | (simp; omega)) _ | with_reducible refine Since.drew ?_ | with_reducible refine Since.drewN ?_ _)) hb1)
  have s1 := A1.out.size
  clear hb1
  go_wp2_with fail
  refine (D2.out _).mono ?_
  rintro e w2 ⟨rfl, hb2⟩
  have A2 := Lib.hid (show Since w w2 from Since.via (by repeat (first | with_reducible exact A1.out | with_reducible exact Since.refl _ | with_reducible refine Since.alloc ?_ _ | with_reducible refine Since.setCell ?_ (by first | omega | (simp; done) | (simp; omega)) _ | with_reducible refine Since.drew ?_ | with_reducible refine Since.drewN ?_ _)) hb2)
  have s2 := A2.out.size
  clear hb2
  go_wp2_with fail
  refine (D3.out _).mono ?_
  rintro e w3 ⟨rfl, hb3⟩
  have A3 := Lib.hid (show Since w w3 from Since.via (by repeat (first | with_reducible exact A2.out | with_reducible exact Since.refl _ | with_reducible refine Since.alloc ?_ _ | with_reducible refine Since.setCell ?_ (by first | omega | (simp; done) | (simp; omega)) _ | with_reducible refine Since.drew ?_ | with_reducible refine Since.drewN ?_ _)) hb3)
  have s3 := A3.out.size
  clear hb3
  go_wp2_with fail
  refine (HD4.out _).mono ?_
  rintro e w4 ⟨rfl, hb4⟩
  have A4 := Lib.hid (show Since w w4 from Since.via (by repeat (first | with_reducible exact A3.out | with_reducible exact Since.refl _ | with_reducible refine Since.alloc ?_ _ | with_reducible refine Since.setCell ?_ (by first | omega | (simp; done) | (simp; omega)) _ | with_reducible refine Since.drew ?_ | with_reducible refine Since.drewN ?_ _)) hb4)
  have s4 := A4.out.size
  clear hb4
  go_wp2_with fail
  refine (HD5.out _).mono ?_
  rintro e w5 ⟨rfl, hb5⟩
  have A5 := Lib.hid (show Since w w5 from Since.via (by repeat (first | with_reducible exact A4.out | with_reducible exact Since.refl _ | with_reducible refine Since.alloc ?_ _ | with_reducible refine Since.setCell ?_ (by first | omega | (simp; done) | (simp; omega)) _ | with_reducible refine Since.drew ?_ | with_reducible refine Since.drewN ?_ _)) hb5)
  have s5 := A5.out.size
  clear hb5
  go_wp2_with fail
  refine (L1.out _ _ (Cells.new _ _ _)).mono ?_
  rintro e w6 ⟨E1, rfl, hT, hb6⟩
  have A6 := Lib.hid (show Since w w6 from Since.via (by repeat (first | with_reducible exact A5.out | with_reducible exact Since.refl _ | with_reducible refine Since.alloc ?_ _ | with_reducible refine Since.setCell ?_ (by first | omega | (simp; done) | (simp; omega)) _ | with_reducible refine Since.drew ?_ | with_reducible refine Since.drewN ?_ _)) hb6)
  have s6 := A6.out.size
  have T6 := Lib.hid hT
  clear hT
  clear hb6
  go_wp2_with fail
  refine (F1.out _ _ (T6.out.below (Since.out (by repeat (first | with_reducible exact Since.refl _ | with_reducible refine Since.alloc ?_ _ | with_reducible refine Since.setCell ?_ (by first | omega | (simp; done) | (simp; omega)) _ | with_reducible refine Since.drew ?_ | with_reducible refine Since.drewN ?_ _))))).mono ?_
  rintro e w7 ⟨B1, d1, rfl, hB, hb7⟩
  have A7 := Lib.hid (show Since w w7 from Since.via (by repeat (first | with_reducible exact A6.out | with_reducible exact Since.refl _ | with_reducible refine Since.alloc ?_ _ | with_reducible refine Since.setCell ?_ (by first | omega | (simp; done) | (simp; omega)) _ | with_reducible refine Since.drew ?_ | with_reducible refine Since.drewN ?_ _)) hb7)
  have s7 := A7.out.size
  have Q7 := Lib.hid hB
  clear hB
  clear hb7
  go_wp2_with fail
  refine (F2.out _ _ (Words.zeros _ 256 _ (by omega))).mono ?_
  rintro e w8 ⟨B2, d2, rfl, hB2, hb8⟩
  have A8 := Lib.hid (show Since w w8 from Since.via (by repeat (first | with_reducible exact A7.out | with_reducible exact Since.refl _ | with_reducible refine Since.alloc ?_ _ | with_reducible refine Since.setCell ?_ (by first | omega | (simp; done) | (simp; omega)) _ | with_reducible refine Since.drew ?_ | with_reducible refine Since.drewN ?_ _)) hb8)
  have s8 := A8.out.size
  have B8 := Lib.hid (show Since w7 w8 from Since.via (by repeat (first | with_reducible exact Since.refl _ | with_reducible refine Since.alloc ?_ _ | with_reducible refine Since.setCell ?_ (by first | omega | (simp; done) | (simp; omega)) _ | with_reducible refine Since.drew ?_ | with_reducible refine Since.drewN ?_ _)) hb8)
  have Q8 := Lib.hid (Q7.out.below B8.out)
  clear hb8
  go_wp2_with fail
  refine (F3.out _).mono ?_
  rintro e w9 ⟨B3, d3, rfl, hB3, hb9⟩
  have A9 := Lib.hid (show Since w w9 from Since.via (by repeat (first | with_reducible exact A8.out | with_reducible exact Since.refl _ | with_reducible refine Since.alloc ?_ _ | with_reducible refine Since.setCell ?_ (by first | omega | (simp; done) | (simp; omega)) _ | with_reducible refine Since.drew ?_ | with_reducible refine Since.drewN ?_ _)) hb9)
  have s9 := A9.out.size
  have B9 := Lib.hid (show Since w8 w9 from Since.via (by repeat (first | with_reducible exact Since.refl _ | with_reducible refine Since.alloc ?_ _ | with_reducible refine Since.setCell ?_ (by first | omega | (simp; done) | (simp; omega)) _ | with_reducible refine Since.drew ?_ | with_reducible refine Since.drewN ?_ _)) hb9)
  have Q9 := Lib.hid (Q8.out.below B9.out)
  clear hb9
  go_wp2_with fail
  refine (alive17 _).mono ?_
  rintro e wd ⟨rfl, rfl⟩
  go_wp2_with fail
  have hsz : (w9.alloc (.cells #[.slice none 0 0, .slice (some ⟨w9.heap.size + 1, 0, none⟩) 1 1, .slice none 0 0, .slice none 0 0, .slice none 0 0, .slice none 0 0, .slice (some ⟨w9.heap.size + 1 + 1, 0, none⟩) 1 1, .slice none 0 0, .slice none 0 0, .slice none 0 0, .slice none 0 0] 69)).heap.size = w9.heap.size + 1 := by simp
  refine (rows_same 11 _ _ _ _ _ _ (Q9.out.below (Since.out (by repeat (first | with_reducible exact Since.refl _ | with_reducible refine Since.alloc ?_ _ | with_reducible refine Since.setCell ?_ (by first | omega | (simp; done) | (simp; omega)) _ | with_reducible refine Since.drew ?_ | with_reducible refine Since.drewN ?_ _)))) (want_rows (((Cells.new w9 69 _).alloc _).alloc _) ((Cells.at_ _ _ _ hsz.symm).alloc _) (Cells.at_ _ _ _ (by simp)))).mono ?_
  rintro e w10 ⟨rfl, hb10⟩
  have A10 := Lib.hid (show Since w w10 from Since.via (by repeat (first | with_reducible exact A9.out | with_reducible exact Since.refl _ | with_reducible refine Since.alloc ?_ _ | with_reducible refine Since.setCell ?_ (by first | omega | (simp; done) | (simp; omega)) _ | with_reducible refine Since.drew ?_ | with_reducible refine Since.drewN ?_ _)) hb10)
  clear hb10 hsz
  go_wp2
  go_ret
  exact ⟨rfl, (Since.out (by repeat (first | with_reducible exact A10.out | with_reducible exact Since.refl _ | with_reducible refine Since.alloc ?_ _ | with_reducible refine Since.setCell ?_ (by first | omega | (simp; done) | (simp; omega)) _ | with_reducible refine Since.drew ?_ | with_reducible refine Since.drewN ?_ _)))⟩
end Go.Proofs.Ytoifalgkeegklaa
