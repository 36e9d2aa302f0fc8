/- The law on full and empty heaps and on errors, walked. -/
import Derived.Test.YtoifalgkeegklaaAlive16
import Derived.Test.YtoifalgkeegklaaOwn
namespace Go.Proofs.Ytoifalgkeegklaa
open Go.RowKit

def exF : List Nat := laid 256 (List.replicate 16 (objB 8))
def exO : List Nat := laid 256 [freeB 128]
theorem exF1 : extR exF = ([], 0) := by decide +kernel
theorem exF2 : wordsR exF = (0, 0) ∧ (allR exF).2 = 0 := by decide +kernel
theorem exF3 : aroundR exF 136 = (⟨136, 8, 2, 0, false, 0⟩, 0) := by decide +kernel
theorem exO1 : wordsR exO = (128, 128) ∧ (allR exO).2 = 0 := by decide +kernel
theorem exO2 : aroundR exO 128 = (zeroB, 6) := by decide +kernel
theorem exE4 : aroundR exE 132 = (zeroB, 6) := by decide +kernel
theorem exE5 : aroundR exE 130 = (zeroB, 6) := by decide +kernel
theorem exE6 : wordsR exE = (118, 98) ∧ (allR exE).2 = 0 := by decide +kernel
theorem exZ1 : extR (List.replicate 255 0) = ([], 8) := by decide +kernel
theorem exZ2 : wordsR (List.replicate 256 0) = (0, 0) ∧ (allR (List.replicate 256 0)).2 = 50 := by decide +kernel
theorem exZ3 : aroundR (List.replicate 256 0) 128 = (zeroB, 50) := by decide +kernel
theorem mk255 (W : World) : (Instr.makeSlice 33 (.int .i64 255) (.int .i64 255)).run Try.prog W = .ok (.slice (some ⟨W.heap.size, 0, none⟩) 255 255) (W.alloc (.cells (madeCells #[.int .u64 0] 255) 22)) := mk_words 255 (by omega) W
theorem mk256 (W : World) : (Instr.makeSlice 33 (.int .i64 256) (.int .i64 256)).run Try.prog W = .ok (.slice (some ⟨W.heap.size, 0, none⟩) 256 256) (W.alloc (.cells (madeCells #[.int .u64 0] 256) 22)) := mk_words 256 (by omega) W
theorem full_good : ∀ b ∈ List.replicate 16 (objB 8), b.good := by decide
theorem full_next : ∀ b ∈ List.replicate 16 (objB 8), b.next < 18446744073709551616 := by decide

set_option maxRecDepth 100000 in
set_option maxHeartbeats 8000000 in
theorem walkExtentsNames (w : World) : Calls Try.prog 8 #[] w fun e w' => e = .returned (.bool true) ∧ Below w.heap.size w w' := by
  have LF := Lib.hid fun W A c (h : Blks W A (List.replicate 16 (objB 8)).length c (List.replicate 16 (objB 8))) => laid_ex 256 A c (List.replicate 16 (objB 8)) W (by omega) (by omega) h (by decide) full_good full_next
  have LO := Lib.hid fun W g (h : Cells W g 24 #[.int .i64 0, .int .i64 128, .int .i64 2, .int .i64 0, .bool false, .int .u64 0]) => laid_ex 256 (some ⟨g, 0, none⟩) 1 [freeB 128] W (by omega) (by omega) (Blks.lit h (by decide)) (by decide) (by decide) (by decide)
  have F1 := Lib.hid fun W A h => ext_any A 256 256 exF W h
  have F2 := Lib.hid fun W A h => words_any A 256 256 exF W h
  have F3 := Lib.hid fun W A h => parnd_any A 256 256 exF 136 W h
  have F4 := Lib.hid fun W A h => words_any A 256 256 exO W h
  have F5 := Lib.hid fun W A h => parnd_any A 256 256 exO 128 W h
  have F6 := Lib.hid fun W A h => parnd_any A 256 256 exE 132 W h
  have F7 := Lib.hid fun W A h => parnd_any A 256 256 exE 130 W h
  have F8 := Lib.hid fun W A h => words_any A 256 256 exE W h
  have F9 := Lib.hid fun W A h => ext_any A 255 255 (List.replicate 255 0) W h
  have Fa := Lib.hid fun W A h => words_any A 256 256 (List.replicate 256 0) W h
  have Fb := Lib.hid fun W A h => parnd_any A 256 256 (List.replicate 256 0) 128 W h
  rw [exF1] at F1
  rw [exF2.1, exF2.2] at F2
  rw [exF3] at F3
  rw [exO1.1, exO1.2] at F4
  rw [exO2] at F5
  rw [exE4] at F6
  rw [exE5] at F7
  rw [exE6.1, exE6.2] at F8
  rw [exZ1] at F9
  rw [exZ2.1, exZ2.2] at Fa
  rw [exZ3] at Fb
  rw [show laid 256 (List.replicate 16 (objB 8)) = exF from rfl] at LF
  rw [show laid 256 [freeB 128] = exO from rfl] at LO
  have m255 := mk255
  have m256 := mk256
  have HR := Lib.hid fun k => (show List.replicate k (objB 8) ++ [objB 8] = List.replicate (k + 1) (objB 8) from List.replicate_succ'.symm)
  have A0 := Lib.hid (Since.refl w)
  go_enter Try.func8, Try.ntmps8
  go_wp2
  go_loopw [1, 2] (fun v t wr => ∃ (k : Nat) (B : Option Addr) (d : Nat), t = .int .i64 k ∧ v = .slice B k d ∧ k ≤ 16 ∧ OwnB wr w.heap.size (.slice B k d) (List.replicate k (objB 8)) ∧ Since w wr) (fun _ t _ => 16 - (intOf t).toNat)
  case atStart => exact ⟨0, none, 0, rfl, rfl, by omega, OwnB.nil _ _, Since.refl _⟩
  case round =>
    obtain ⟨k, B, d, rfl, rfl, hk, hown, hnx⟩ := hrel
    obtain ⟨w1, hw1⟩ : ∃ x, x = wr := ⟨_, rfl⟩
    subst hw1
    have A1 := Lib.hid hnx
    have OW := Lib.hid hown
    have s1 := A1.out.size
    clear hnx hown
    by_cases hlt : k < 16
    · go_wp2_with fail
      refine (obj16 _ _).mono ?_
      rintro e w2 ⟨rfl, hb2⟩
      have A2 := Lib.hid (Since.via A1.out hb2)
      have OW2 := Lib.hid (OW.out.kept hb2)
      have s2 := A2.out.size
      have hL := OW2.out.lt
      have HL := Lib.hid hL
      have hlen : (List.replicate k (objB 8)).length ≤ 1000000 := by simp; omega
      clear hb2 hL
      go_wp2_with (at_builtin; refine wpList_append_blk rfl (.tmp 35) (.tmp 37) rfl w.heap.size (.slice B k d) (List.replicate k (objB 8)) rfl OW2.out (objB 8) _ rfl ?k1 hlen ?k2 ?_)
      any_goals (first | omega | rfl | (simp; done) | (simp; omega))
      intro v' w3 hown' hgrow hat
      rw [HR.out] at hown'
      have OW3 := Lib.hid hown'
      have A3 := Lib.hid (Since.grown (Since.alloc A2.out _) hgrow (fun q hq => (HL.out q hq).1))
      obtain ⟨D', d', rfl, _⟩ := OW3.out.form
      rw [List.length_replicate] at OW3
      clear hown' hgrow hat
      go_wp2
      go_roundw
      case rel => exact ⟨k + 1, D', d', by go_num, by rw [List.length_replicate], by omega, OW3.out, A3.out⟩
      case measure => simp [intOf]; omega
    · obtain rfl : k = 16 := by omega
      obtain ⟨D', d', e, hB⟩ := OW.out.form
      have e2 : D' = B ∧ d' = d := by
        injection e with e1 e2 e3
        exact ⟨e1.symm, e3.symm⟩
      obtain ⟨rfl, rfl⟩ := e2
      have HB := Lib.hid hB
      clear hB e
      go_wp2_with fail
      refine (LF.out _ _ _ (HB.out.below (Since.out (by repeat (first | with_reducible exact Since.refl _ | with_reducible refine Since.alloc ?_ _ | with_reducible refine Since.setCell ?_ (by first | omega | (simp; done) | (simp; omega)) _ | with_reducible refine Since.drew ?_ | with_reducible refine Since.drewN ?_ _))))).mono ?_
      rintro e w4 ⟨E1, rfl, hT, hb4⟩
      have A4 := Lib.hid (show Since w w4 from Since.via (by repeat (first | with_reducible exact A1.out | with_reducible exact Since.refl _ | with_reducible refine Since.alloc ?_ _ | with_reducible refine Since.setCell ?_ (by first | omega | (simp; done) | (simp; omega)) _ | with_reducible refine Since.drew ?_ | with_reducible refine Since.drewN ?_ _)) hb4)
      have s4 := A4.out.size
      have T4 := Lib.hid hT
      clear hT
      clear hb4
      go_wp2_with fail
      refine (free16 _ _).mono ?_
      rintro e w5 ⟨rfl, hb5⟩
      have A5 := Lib.hid (show Since w w5 from Since.via (by repeat (first | with_reducible exact A4.out | with_reducible exact Since.refl _ | with_reducible refine Since.alloc ?_ _ | with_reducible refine Since.setCell ?_ (by first | omega | (simp; done) | (simp; omega)) _ | with_reducible refine Since.drew ?_ | with_reducible refine Since.drewN ?_ _)) hb5)
      have s5 := A5.out.size
      have B5 := Lib.hid (show Since w4 w5 from Since.via (by repeat (first | with_reducible exact Since.refl _ | with_reducible refine Since.alloc ?_ _ | with_reducible refine Since.setCell ?_ (by first | omega | (simp; done) | (simp; omega)) _ | with_reducible refine Since.drew ?_ | with_reducible refine Since.drewN ?_ _)) hb5)
      have T5 := Lib.hid (T4.out.below B5.out)
      clear hb5
      go_wp2_with fail
      refine (LO.out _ _ (Cells.new _ _ _)).mono ?_
      rintro e w6 ⟨E2, rfl, hT, hb6⟩
      have A6 := Lib.hid (show Since w w6 from Since.via (by repeat (first | with_reducible exact A5.out | with_reducible exact Since.refl _ | with_reducible refine Since.alloc ?_ _ | with_reducible refine Since.setCell ?_ (by first | omega | (simp; done) | (simp; omega)) _ | with_reducible refine Since.drew ?_ | with_reducible refine Since.drewN ?_ _)) hb6)
      have s6 := A6.out.size
      have B6 := Lib.hid (show Since w5 w6 from Since.via (by repeat (first | with_reducible exact Since.refl _ | with_reducible refine Since.alloc ?_ _ | with_reducible refine Since.setCell ?_ (by first | omega | (simp; done) | (simp; omega)) _ | with_reducible refine Since.drew ?_ | with_reducible refine Since.drewN ?_ _)) hb6)
      have T6 := Lib.hid (T5.out.below B6.out)
      have U6 := Lib.hid hT
      clear hT
      clear hb6
      go_wp2_with fail
      refine (F1.out _ _ (T6.out.below (Since.out (by repeat (first | with_reducible exact Since.refl _ | with_reducible refine Since.alloc ?_ _ | with_reducible refine Since.setCell ?_ (by first | omega | (simp; done) | (simp; omega)) _ | with_reducible refine Since.drew ?_ | with_reducible refine Since.drewN ?_ _))))).mono ?_
      rintro e w7 ⟨B1, d1, rfl, hQ, hb7⟩
      have A7 := Lib.hid (show Since w w7 from Since.via (by repeat (first | with_reducible exact A6.out | with_reducible exact Since.refl _ | with_reducible refine Since.alloc ?_ _ | with_reducible refine Since.setCell ?_ (by first | omega | (simp; done) | (simp; omega)) _ | with_reducible refine Since.drew ?_ | with_reducible refine Since.drewN ?_ _)) hb7)
      have s7 := A7.out.size
      have B7 := Lib.hid (show Since w6 w7 from Since.via (by repeat (first | with_reducible exact Since.refl _ | with_reducible refine Since.alloc ?_ _ | with_reducible refine Since.setCell ?_ (by first | omega | (simp; done) | (simp; omega)) _ | with_reducible refine Since.drew ?_ | with_reducible refine Since.drewN ?_ _)) hb7)
      have T7 := Lib.hid (T6.out.below B7.out)
      have U7 := Lib.hid (U6.out.below B7.out)
      have Q7 := Lib.hid hQ
      clear hQ
      clear hb7
      go_wp2_with fail
      refine (F2.out _ _ (T7.out.below (Since.out (by repeat (first | with_reducible exact Since.refl _ | with_reducible refine Since.alloc ?_ _ | with_reducible refine Since.setCell ?_ (by first | omega | (simp; done) | (simp; omega)) _ | with_reducible refine Since.drew ?_ | with_reducible refine Since.drewN ?_ _))))).mono ?_
      rintro e w8 ⟨rfl, hb8⟩
      have A8 := Lib.hid (show Since w w8 from Since.via (by repeat (first | with_reducible exact A7.out | with_reducible exact Since.refl _ | with_reducible refine Since.alloc ?_ _ | with_reducible refine Since.setCell ?_ (by first | omega | (simp; done) | (simp; omega)) _ | with_reducible refine Since.drew ?_ | with_reducible refine Since.drewN ?_ _)) hb8)
      have s8 := A8.out.size
      have B8 := Lib.hid (show Since w7 w8 from Since.via (by repeat (first | with_reducible exact Since.refl _ | with_reducible refine Since.alloc ?_ _ | with_reducible refine Since.setCell ?_ (by first | omega | (simp; done) | (simp; omega)) _ | with_reducible refine Since.drew ?_ | with_reducible refine Since.drewN ?_ _)) hb8)
      have T8 := Lib.hid (T7.out.below B8.out)
      have U8 := Lib.hid (U7.out.below B8.out)
      clear hb8
      go_wp2_with fail
      refine (F3.out _ _ (T8.out.below (Since.out (by repeat (first | with_reducible exact Since.refl _ | with_reducible refine Since.alloc ?_ _ | with_reducible refine Since.setCell ?_ (by first | omega | (simp; done) | (simp; omega)) _ | with_reducible refine Since.drew ?_ | with_reducible refine Since.drewN ?_ _))))).mono ?_
      rintro e w9 ⟨rfl, hb9⟩
      have A9 := Lib.hid (show Since w w9 from Since.via (by repeat (first | with_reducible exact A8.out | with_reducible exact Since.refl _ | with_reducible refine Since.alloc ?_ _ | with_reducible refine Since.setCell ?_ (by first | omega | (simp; done) | (simp; omega)) _ | with_reducible refine Since.drew ?_ | with_reducible refine Since.drewN ?_ _)) hb9)
      have s9 := A9.out.size
      have B9 := Lib.hid (show Since w8 w9 from Since.via (by repeat (first | with_reducible exact Since.refl _ | with_reducible refine Since.alloc ?_ _ | with_reducible refine Since.setCell ?_ (by first | omega | (simp; done) | (simp; omega)) _ | with_reducible refine Since.drew ?_ | with_reducible refine Since.drewN ?_ _)) hb9)
      have U9 := Lib.hid (U8.out.below B9.out)
      clear hb9
      go_wp2_with fail
      refine (F4.out _ _ (U9.out.below (Since.out (by repeat (first | with_reducible exact Since.refl _ | with_reducible refine Since.alloc ?_ _ | with_reducible refine Since.setCell ?_ (by first | omega | (simp; done) | (simp; omega)) _ | with_reducible refine Since.drew ?_ | with_reducible refine Since.drewN ?_ _))))).mono ?_
      rintro e w10 ⟨rfl, hb10⟩
      have A10 := Lib.hid (show Since w w10 from Since.via (by repeat (first | with_reducible exact A9.out | with_reducible exact Since.refl _ | with_reducible refine Since.alloc ?_ _ | with_reducible refine Since.setCell ?_ (by first | omega | (simp; done) | (simp; omega)) _ | with_reducible refine Since.drew ?_ | with_reducible refine Since.drewN ?_ _)) hb10)
      have s10 := A10.out.size
      have B10 := Lib.hid (show Since w9 w10 from Since.via (by repeat (first | with_reducible exact Since.refl _ | with_reducible refine Since.alloc ?_ _ | with_reducible refine Since.setCell ?_ (by first | omega | (simp; done) | (simp; omega)) _ | with_reducible refine Since.drew ?_ | with_reducible refine Since.drewN ?_ _)) hb10)
      have U10 := Lib.hid (U9.out.below B10.out)
      have X10 := Lib.hid (show Cells w10 (w9.heap.size) 24 (#[.int .i64 136, .int .i64 8, .int .i64 2, .int .i64 0, .bool false, .int .u64 0]) from Cells.kept (by repeat (first | with_reducible exact X9.out | with_reducible exact Cells.at_ _ _ _ (by first | omega | (simp; done) | (simp; omega)) | with_reducible refine Cells.alloc ?_ _ | with_reducible refine Cells.far' ?_ (by first | omega | (simp; done) | (simp; omega)) _ | with_reducible refine Cells.drew ?_ | with_reducible refine Cells.drewN ?_ _)) hb10)
      have Xz10 := X10.out.lt
      clear hb10
      go_wp2_with fail
      refine (F5.out _ _ (U10.out.below (Since.out (by repeat (first | with_reducible exact Since.refl _ | with_reducible refine Since.alloc ?_ _ | with_reducible refine Since.setCell ?_ (by first | omega | (simp; done) | (simp; omega)) _ | with_reducible refine Since.drew ?_ | with_reducible refine Since.drewN ?_ _))))).mono ?_
      rintro e w11 ⟨rfl, hb11⟩
      have A11 := Lib.hid (show Since w w11 from Since.via (by repeat (first | with_reducible exact A10.out | with_reducible exact Since.refl _ | with_reducible refine Since.alloc ?_ _ | with_reducible refine Since.setCell ?_ (by first | omega | (simp; done) | (simp; omega)) _ | with_reducible refine Since.drew ?_ | with_reducible refine Since.drewN ?_ _)) hb11)
      have s11 := A11.out.size
      have X11 := Lib.hid (show Cells w11 (w9.heap.size) 24 (#[.int .i64 136, .int .i64 8, .int .i64 2, .int .i64 0, .bool false, .int .u64 0]) from Cells.kept (by repeat (first | with_reducible exact X10.out | with_reducible exact Cells.at_ _ _ _ (by first | omega | (simp; done) | (simp; omega)) | with_reducible refine Cells.alloc ?_ _ | with_reducible refine Cells.far' ?_ (by first | omega | (simp; done) | (simp; omega)) _ | with_reducible refine Cells.drew ?_ | with_reducible refine Cells.drewN ?_ _)) hb11)
      have Xz11 := X11.out.lt
      clear hb11
      go_wp2_with fail
      refine (example16 _).mono ?_
      rintro e w12 ⟨E3, rfl, hT, hb12⟩
      have A12 := Lib.hid (show Since w w12 from Since.via (by repeat (first | with_reducible exact A11.out | with_reducible exact Since.refl _ | with_reducible refine Since.alloc ?_ _ | with_reducible refine Since.setCell ?_ (by first | omega | (simp; done) | (simp; omega)) _ | with_reducible refine Since.drew ?_ | with_reducible refine Since.drewN ?_ _)) hb12)
      have s12 := A12.out.size
      have V12 := Lib.hid hT
      clear hT
      have X12 := Lib.hid (show Cells w12 (w9.heap.size) 24 (#[.int .i64 136, .int .i64 8, .int .i64 2, .int .i64 0, .bool false, .int .u64 0]) from Cells.kept (by repeat (first | with_reducible exact X11.out | with_reducible exact Cells.at_ _ _ _ (by first | omega | (simp; done) | (simp; omega)) | with_reducible refine Cells.alloc ?_ _ | with_reducible refine Cells.far' ?_ (by first | omega | (simp; done) | (simp; omega)) _ | with_reducible refine Cells.drew ?_ | with_reducible refine Cells.drewN ?_ _)) hb12)
      have Xz12 := X12.out.lt
      clear hb12
      go_wp2_with fail
      refine (F6.out _ _ (V12.out.below (Since.out (by repeat (first | with_reducible exact Since.refl _ | with_reducible refine Since.alloc ?_ _ | with_reducible refine Since.setCell ?_ (by first | omega | (simp; done) | (simp; omega)) _ | with_reducible refine Since.drew ?_ | with_reducible refine Since.drewN ?_ _))))).mono ?_
      rintro e w13 ⟨rfl, hb13⟩
      have A13 := Lib.hid (show Since w w13 from Since.via (by repeat (first | with_reducible exact A12.out | with_reducible exact Since.refl _ | with_reducible refine Since.alloc ?_ _ | with_reducible refine Since.setCell ?_ (by first | omega | (simp; done) | (simp; omega)) _ | with_reducible refine Since.drew ?_ | with_reducible refine Since.drewN ?_ _)) hb13)
      have s13 := A13.out.size
      have X13 := Lib.hid (show Cells w13 (w9.heap.size) 24 (#[.int .i64 136, .int .i64 8, .int .i64 2, .int .i64 0, .bool false, .int .u64 0]) from Cells.kept (by repeat (first | with_reducible exact X12.out | with_reducible exact Cells.at_ _ _ _ (by first | omega | (simp; done) | (simp; omega)) | with_reducible refine Cells.alloc ?_ _ | with_reducible refine Cells.far' ?_ (by first | omega | (simp; done) | (simp; omega)) _ | with_reducible refine Cells.drew ?_ | with_reducible refine Cells.drewN ?_ _)) hb13)
      have Xz13 := X13.out.lt
      clear hb13
      go_wp2_with fail
      refine (example16 _).mono ?_
      rintro e w14 ⟨E4, rfl, hT, hb14⟩
      have A14 := Lib.hid (show Since w w14 from Since.via (by repeat (first | with_reducible exact A13.out | with_reducible exact Since.refl _ | with_reducible refine Since.alloc ?_ _ | with_reducible refine Since.setCell ?_ (by first | omega | (simp; done) | (simp; omega)) _ | with_reducible refine Since.drew ?_ | with_reducible refine Since.drewN ?_ _)) hb14)
      have s14 := A14.out.size
      have V14 := Lib.hid hT
      clear hT
      have X14 := Lib.hid (show Cells w14 (w9.heap.size) 24 (#[.int .i64 136, .int .i64 8, .int .i64 2, .int .i64 0, .bool false, .int .u64 0]) from Cells.kept (by repeat (first | with_reducible exact X13.out | with_reducible exact Cells.at_ _ _ _ (by first | omega | (simp; done) | (simp; omega)) | with_reducible refine Cells.alloc ?_ _ | with_reducible refine Cells.far' ?_ (by first | omega | (simp; done) | (simp; omega)) _ | with_reducible refine Cells.drew ?_ | with_reducible refine Cells.drewN ?_ _)) hb14)
      have Xz14 := X14.out.lt
      clear hb14
      go_wp2_with fail
      refine (F7.out _ _ (V14.out.below (Since.out (by repeat (first | with_reducible exact Since.refl _ | with_reducible refine Since.alloc ?_ _ | with_reducible refine Since.setCell ?_ (by first | omega | (simp; done) | (simp; omega)) _ | with_reducible refine Since.drew ?_ | with_reducible refine Since.drewN ?_ _))))).mono ?_
      rintro e w15 ⟨rfl, hb15⟩
      have A15 := Lib.hid (show Since w w15 from Since.via (by repeat (first | with_reducible exact A14.out | with_reducible exact Since.refl _ | with_reducible refine Since.alloc ?_ _ | with_reducible refine Since.setCell ?_ (by first | omega | (simp; done) | (simp; omega)) _ | with_reducible refine Since.drew ?_ | with_reducible refine Since.drewN ?_ _)) hb15)
      have s15 := A15.out.size
      have X15 := Lib.hid (show Cells w15 (w9.heap.size) 24 (#[.int .i64 136, .int .i64 8, .int .i64 2, .int .i64 0, .bool false, .int .u64 0]) from Cells.kept (by repeat (first | with_reducible exact X14.out | with_reducible exact Cells.at_ _ _ _ (by first | omega | (simp; done) | (simp; omega)) | with_reducible refine Cells.alloc ?_ _ | with_reducible refine Cells.far' ?_ (by first | omega | (simp; done) | (simp; omega)) _ | with_reducible refine Cells.drew ?_ | with_reducible refine Cells.drewN ?_ _)) hb15)
      have Xz15 := X15.out.lt
      clear hb15
      go_wp2_with fail
      refine (example16 _).mono ?_
      rintro e w16 ⟨E5, rfl, hT, hb16⟩
      have A16 := Lib.hid (show Since w w16 from Since.via (by repeat (first | with_reducible exact A15.out | with_reducible exact Since.refl _ | with_reducible refine Since.alloc ?_ _ | with_reducible refine Since.setCell ?_ (by first | omega | (simp; done) | (simp; omega)) _ | with_reducible refine Since.drew ?_ | with_reducible refine Since.drewN ?_ _)) hb16)
      have s16 := A16.out.size
      have V16 := Lib.hid hT
      clear hT
      have X16 := Lib.hid (show Cells w16 (w9.heap.size) 24 (#[.int .i64 136, .int .i64 8, .int .i64 2, .int .i64 0, .bool false, .int .u64 0]) from Cells.kept (by repeat (first | with_reducible exact X15.out | with_reducible exact Cells.at_ _ _ _ (by first | omega | (simp; done) | (simp; omega)) | with_reducible refine Cells.alloc ?_ _ | with_reducible refine Cells.far' ?_ (by first | omega | (simp; done) | (simp; omega)) _ | with_reducible refine Cells.drew ?_ | with_reducible refine Cells.drewN ?_ _)) hb16)
      have Xz16 := X16.out.lt
      clear hb16
      go_wp2_with fail
      refine (F8.out _ _ (V16.out.below (Since.out (by repeat (first | with_reducible exact Since.refl _ | with_reducible refine Since.alloc ?_ _ | with_reducible refine Since.setCell ?_ (by first | omega | (simp; done) | (simp; omega)) _ | with_reducible refine Since.drew ?_ | with_reducible refine Since.drewN ?_ _))))).mono ?_
      rintro e w17 ⟨rfl, hb17⟩
      have A17 := Lib.hid (show Since w w17 from Since.via (by repeat (first | with_reducible exact A16.out | with_reducible exact Since.refl _ | with_reducible refine Since.alloc ?_ _ | with_reducible refine Since.setCell ?_ (by first | omega | (simp; done) | (simp; omega)) _ | with_reducible refine Since.drew ?_ | with_reducible refine Since.drewN ?_ _)) hb17)
      have s17 := A17.out.size
      have X17 := Lib.hid (show Cells w17 (w9.heap.size) 24 (#[.int .i64 136, .int .i64 8, .int .i64 2, .int .i64 0, .bool false, .int .u64 0]) from Cells.kept (by repeat (first | with_reducible exact X16.out | with_reducible exact Cells.at_ _ _ _ (by first | omega | (simp; done) | (simp; omega)) | with_reducible refine Cells.alloc ?_ _ | with_reducible refine Cells.far' ?_ (by first | omega | (simp; done) | (simp; omega)) _ | with_reducible refine Cells.drew ?_ | with_reducible refine Cells.drewN ?_ _)) hb17)
      have Xz17 := X17.out.lt
      clear hb17
      go_wp2_with fail
      refine (F9.out _ _ (Words.zeros _ 255 _ (by omega))).mono ?_
      rintro e w18 ⟨B2, d2, rfl, hQ2, hb18⟩
      have A18 := Lib.hid (show Since w w18 from Since.via (by repeat (first | with_reducible exact A17.out | with_reducible exact Since.refl _ | with_reducible refine Since.alloc ?_ _ | with_reducible refine Since.setCell ?_ (by first | omega | (simp; done) | (simp; omega)) _ | with_reducible refine Since.drew ?_ | with_reducible refine Since.drewN ?_ _)) hb18)
      have s18 := A18.out.size
      have X18 := Lib.hid (show Cells w18 (w9.heap.size) 24 (#[.int .i64 136, .int .i64 8, .int .i64 2, .int .i64 0, .bool false, .int .u64 0]) from Cells.kept (by repeat (first | with_reducible exact X17.out | with_reducible exact Cells.at_ _ _ _ (by first | omega | (simp; done) | (simp; omega)) | with_reducible refine Cells.alloc ?_ _ | with_reducible refine Cells.far' ?_ (by first | omega | (simp; done) | (simp; omega)) _ | with_reducible refine Cells.drew ?_ | with_reducible refine Cells.drewN ?_ _)) hb18)
      have Xz18 := X18.out.lt
      clear hb18
      go_wp2_with fail
      refine (Fa.out _ _ (Words.zeros _ 256 _ (by omega))).mono ?_
      rintro e w19 ⟨rfl, hb19⟩
      have A19 := Lib.hid (show Since w w19 from Since.via (by repeat (first | with_reducible exact A18.out | with_reducible exact Since.refl _ | with_reducible refine Since.alloc ?_ _ | with_reducible refine Since.setCell ?_ (by first | omega | (simp; done) | (simp; omega)) _ | with_reducible refine Since.drew ?_ | with_reducible refine Since.drewN ?_ _)) hb19)
      have s19 := A19.out.size
      have X19 := Lib.hid (show Cells w19 (w9.heap.size) 24 (#[.int .i64 136, .int .i64 8, .int .i64 2, .int .i64 0, .bool false, .int .u64 0]) from Cells.kept (by repeat (first | with_reducible exact X18.out | with_reducible exact Cells.at_ _ _ _ (by first | omega | (simp; done) | (simp; omega)) | with_reducible refine Cells.alloc ?_ _ | with_reducible refine Cells.far' ?_ (by first | omega | (simp; done) | (simp; omega)) _ | with_reducible refine Cells.drew ?_ | with_reducible refine Cells.drewN ?_ _)) hb19)
      have Xz19 := X19.out.lt
      clear hb19
      go_wp2_with fail
      refine (Fb.out _ _ (Words.zeros _ 256 _ (by omega))).mono ?_
      rintro e w20 ⟨rfl, hb20⟩
      have A20 := Lib.hid (show Since w w20 from Since.via (by repeat (first | with_reducible exact A19.out | with_reducible exact Since.refl _ | with_reducible refine Since.alloc ?_ _ | with_reducible refine Since.setCell ?_ (by first | omega | (simp; done) | (simp; omega)) _ | with_reducible refine Since.drew ?_ | with_reducible refine Since.drewN ?_ _)) hb20)
      have s20 := A20.out.size
      have X20 := Lib.hid (show Cells w20 (w9.heap.size) 24 (#[.int .i64 136, .int .i64 8, .int .i64 2, .int .i64 0, .bool false, .int .u64 0]) from Cells.kept (by repeat (first | with_reducible exact X19.out | with_reducible exact Cells.at_ _ _ _ (by first | omega | (simp; done) | (simp; omega)) | with_reducible refine Cells.alloc ?_ _ | with_reducible refine Cells.far' ?_ (by first | omega | (simp; done) | (simp; omega)) _ | with_reducible refine Cells.drew ?_ | with_reducible refine Cells.drewN ?_ _)) hb20)
      have Xz20 := X20.out.lt
      clear hb20
      go_wp2_with fail
      refine (alive16 _).mono ?_
      rintro e w21 ⟨rfl, hb21⟩
      have A21 := Lib.hid (show Since w w21 from Since.via (by repeat (first | with_reducible exact A20.out | with_reducible exact Since.refl _ | with_reducible refine Since.alloc ?_ _ | with_reducible refine Since.setCell ?_ (by first | omega | (simp; done) | (simp; omega)) _ | with_reducible refine Since.drew ?_ | with_reducible refine Since.drewN ?_ _)) hb21)
      have s21 := A21.out.size
      have X21 := Lib.hid (show Cells w21 (w9.heap.size) 24 (#[.int .i64 136, .int .i64 8, .int .i64 2, .int .i64 0, .bool false, .int .u64 0]) from Cells.kept (by repeat (first | with_reducible exact X20.out | with_reducible exact Cells.at_ _ _ _ (by first | omega | (simp; done) | (simp; omega)) | with_reducible refine Cells.alloc ?_ _ | with_reducible refine Cells.far' ?_ (by first | omega | (simp; done) | (simp; omega)) _ | with_reducible refine Cells.drew ?_ | with_reducible refine Cells.drewN ?_ _)) hb21)
      have Xz21 := X21.out.lt
      clear hb21
      obtain ⟨Xq0, Xq1, Xq2, Xq3, Xq4, Xq5⟩ := X21.out.six
      have Xlt := X21.out.lt
      go_wp2
      go_ret
      exact ⟨rfl, (Since.out (by repeat (first | with_reducible exact A21.out | with_reducible exact Since.refl _ | with_reducible refine Since.alloc ?_ _ | with_reducible refine Since.setCell ?_ (by first | omega | (simp; done) | (simp; omega)) _ | with_reducible refine Since.drew ?_ | with_reducible refine Since.drewN ?_ _)))⟩
end Go.Proofs.Ytoifalgkeegklaa
