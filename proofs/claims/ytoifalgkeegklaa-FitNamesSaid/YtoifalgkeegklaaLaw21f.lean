/- The law on limits and errors of package fit, walked. -/
import Derived.Test.YtoifalgkeegklaaAlive21
import Derived.Test.YtoifalgkeegklaaOwn
namespace Go.Proofs.Ytoifalgkeegklaa
open Go.RowKit

def exF21 : List Nat := laid 256 (List.replicate 16 (objB 8))
theorem fitN1 : fitR exW 0 = (zeroB, 2) := by decide +kernel
theorem fitN2 : fitR exW 12 = (zeroB, 2) := by decide +kernel
theorem fitN3 : fitR exW 5 = (zeroB, 2) := by decide +kernel
theorem fitN4 : fitR exW (-2) = (zeroB, 2) := by decide +kernel
theorem fitN5 : fitR (List.replicate 256 0) 3 = (zeroB, 50) := by decide +kernel
theorem fitN6 : fitR [] 3 = (zeroB, 8) := by decide +kernel
theorem fitN7 : fitR exF21 2 = (zeroB, 20) := by decide +kernel
theorem mkf256 (W : World) : (Instr.makeSlice 33 (.int .i64 256) (.int .i64 256)).run Try.prog W = .ok (.slice (some ⟨W.heap.size, 0, none⟩) 256 256) (W.alloc (.cells (madeCells #[.int .u64 0] 256) 22)) := mk_words 256 (by omega) W
theorem full21_good : ∀ b ∈ List.replicate 16 (objB 8), b.good := by decide
theorem full21_next : ∀ b ∈ List.replicate 16 (objB 8), b.next < 18446744073709551616 := by decide

theorem zeros_at (w : World) (n : Nat) (t : TypeId) (g : Nat) (hg : g = w.heap.size) (hn : n ≤ 9223372036854775807) : Words (w.alloc (.cells (madeCells #[.int .u64 0] n) t)) (some ⟨g, 0, none⟩) n n (List.replicate n 0) := by
  subst hg; exact Words.zeros w n t hn

set_option maxRecDepth 100000 in
set_option maxHeartbeats 16000000 in
theorem walkFitNames (w : World) : Calls Try.prog 16 #[] w fun e w' => e = .returned (.bool true) ∧ Below w.heap.size w w' := by
  have LF := Lib.hid fun W A c (h : Blks W A (List.replicate 16 (objB 8)).length c (List.replicate 16 (objB 8))) => laid_ex 256 A c (List.replicate 16 (objB 8)) W (by omega) (by omega) h (by decide) full21_good full21_next
  have F1 := Lib.hid fun W A h => find_any A 256 256 exW 0 W h
  have F2 := Lib.hid fun W A h => find_any A 256 256 exW 12 W h
  have F3 := Lib.hid fun W A h => find_any A 256 256 exW 5 W h
  have F4 := Lib.hid fun W A h => find_any A 256 256 exW (-2) W h
  have F5 := Lib.hid fun W A h => find_any A 256 256 (List.replicate 256 0) 3 W h
  have F6 := Lib.hid fun W => find_any none 0 0 [] 3 W Words.nil
  have F7 := Lib.hid fun W A h => find_any A 256 256 exF21 2 W h
  rw [fitN1] at F1
  rw [fitN2] at F2
  rw [fitN3] at F3
  rw [fitN4] at F4
  rw [fitN5] at F5
  rw [fitN6] at F6
  rw [fitN7] at F7
  rw [show laid 256 (List.replicate 16 (objB 8)) = exF21 from rfl] at LF
  have G1 := Lib.hid fun W => fleft_all 200 6 2 0 false 5 6 W (by decide) rfl (by decide) rfl
  have G20 := fun W => fleft_rest 200 6 2 0 false 5 4 W (by decide) rfl (by decide) (by decide)
  simp only [show wrap64 (200 + 4) = 204 from by unfold wrap64; omega, show (6 : Int) - 4 = 2 from by omega] at G20
  have G2 := Lib.hid G20
  have G3 := Lib.hid fun W => fleft_more 200 6 2 0 false 5 8 W (by decide) rfl (by decide) (by decide)
  have G4 := Lib.hid fun W => fleft_size 200 6 2 0 false 5 3 W (by decide) rfl (by decide)
  have G5 := Lib.hid fun W => fleft_obj 200 6 1 0 false 0 4 W (by decide) (by decide)
  have G6 := Lib.hid fun W => fleft_bad 0 5 2 0 false 0 4 W (by decide)
  clear G20
  have m256 := mkf256
  have HR := Lib.hid fun k => (show List.replicate k (objB 8) ++ [objB 8] = List.replicate (k + 1) (objB 8) from List.replicate_succ'.symm)
  have A0 := Lib.hid (Since.refl w)
  go_enter Try.func16, Try.ntmps16
  go_wp2_with fail
  refine (example21 _).mono ?_
  rintro e w1 ⟨E1, rfl, hT, hb1⟩
  have A1 := Lib.hid (show Since w w1 from Since.via (by repeat (first | with_reducible exact A0.out | with_reducible exact Since.refl _ | with_reducible refine Since.alloc ?_ _ | with_reducible refine Since.setCell ?_ (by first | omega | (simp; done) | (simp; omega)) _ | with_reducible refine Since.drew ?_ | with_reducible refine Since.drewN ?_ _)) hb1)
  have s1 := A1.out.size
  have T1 := Lib.hid hT
  clear hT
  clear hb1
  go_wp2_with fail
  refine (F1.out _ _ (T1.out.below (Since.out (by repeat (first | with_reducible exact Since.refl _ | with_reducible refine Since.alloc ?_ _ | with_reducible refine Since.setCell ?_ (by first | omega | (simp; done) | (simp; omega)) _ | with_reducible refine Since.drew ?_ | with_reducible refine Since.drewN ?_ _))))).mono ?_
  rintro e w2 ⟨rfl, hb2⟩
  have A2 := Lib.hid (show Since w w2 from Since.via (by repeat (first | with_reducible exact A1.out | with_reducible exact Since.refl _ | with_reducible refine Since.alloc ?_ _ | with_reducible refine Since.setCell ?_ (by first | omega | (simp; done) | (simp; omega)) _ | with_reducible refine Since.drew ?_ | with_reducible refine Since.drewN ?_ _)) hb2)
  have s2 := A2.out.size
  have B2 := Lib.hid (show Since w1 w2 from Since.via (by repeat (first | with_reducible exact Since.refl _ | with_reducible refine Since.alloc ?_ _ | with_reducible refine Since.setCell ?_ (by first | omega | (simp; done) | (simp; omega)) _ | with_reducible refine Since.drew ?_ | with_reducible refine Since.drewN ?_ _)) hb2)
  have T2 := Lib.hid (T1.out.below B2.out)
  clear hb2
  go_wp2_with fail
  refine (F2.out _ _ (T2.out.below (Since.out (by repeat (first | with_reducible exact Since.refl _ | with_reducible refine Since.alloc ?_ _ | with_reducible refine Since.setCell ?_ (by first | omega | (simp; done) | (simp; omega)) _ | with_reducible refine Since.drew ?_ | with_reducible refine Since.drewN ?_ _))))).mono ?_
  rintro e w3 ⟨rfl, hb3⟩
  have A3 := Lib.hid (show Since w w3 from Since.via (by repeat (first | with_reducible exact A2.out | with_reducible exact Since.refl _ | with_reducible refine Since.alloc ?_ _ | with_reducible refine Since.setCell ?_ (by first | omega | (simp; done) | (simp; omega)) _ | with_reducible refine Since.drew ?_ | with_reducible refine Since.drewN ?_ _)) hb3)
  have s3 := A3.out.size
  have B3 := Lib.hid (show Since w2 w3 from Since.via (by repeat (first | with_reducible exact Since.refl _ | with_reducible refine Since.alloc ?_ _ | with_reducible refine Since.setCell ?_ (by first | omega | (simp; done) | (simp; omega)) _ | with_reducible refine Since.drew ?_ | with_reducible refine Since.drewN ?_ _)) hb3)
  have T3 := Lib.hid (T2.out.below B3.out)
  clear hb3
  go_wp2_with fail
  refine (F3.out _ _ (T3.out.below (Since.out (by repeat (first | with_reducible exact Since.refl _ | with_reducible refine Since.alloc ?_ _ | with_reducible refine Since.setCell ?_ (by first | omega | (simp; done) | (simp; omega)) _ | with_reducible refine Since.drew ?_ | with_reducible refine Since.drewN ?_ _))))).mono ?_
  rintro e w4 ⟨rfl, hb4⟩
  have A4 := Lib.hid (show Since w w4 from Since.via (by repeat (first | with_reducible exact A3.out | with_reducible exact Since.refl _ | with_reducible refine Since.alloc ?_ _ | with_reducible refine Since.setCell ?_ (by first | omega | (simp; done) | (simp; omega)) _ | with_reducible refine Since.drew ?_ | with_reducible refine Since.drewN ?_ _)) hb4)
  have s4 := A4.out.size
  have B4 := Lib.hid (show Since w3 w4 from Since.via (by repeat (first | with_reducible exact Since.refl _ | with_reducible refine Since.alloc ?_ _ | with_reducible refine Since.setCell ?_ (by first | omega | (simp; done) | (simp; omega)) _ | with_reducible refine Since.drew ?_ | with_reducible refine Since.drewN ?_ _)) hb4)
  have T4 := Lib.hid (T3.out.below B4.out)
  clear hb4
  go_wp2_with fail
  refine (F4.out _ _ (T4.out.below (Since.out (by repeat (first | with_reducible exact Since.refl _ | with_reducible refine Since.alloc ?_ _ | with_reducible refine Since.setCell ?_ (by first | omega | (simp; done) | (simp; omega)) _ | with_reducible refine Since.drew ?_ | with_reducible refine Since.drewN ?_ _))))).mono ?_
  rintro e w5 ⟨rfl, hb5⟩
  have A5 := Lib.hid (show Since w w5 from Since.via (by repeat (first | with_reducible exact A4.out | with_reducible exact Since.refl _ | with_reducible refine Since.alloc ?_ _ | with_reducible refine Since.setCell ?_ (by first | omega | (simp; done) | (simp; omega)) _ | with_reducible refine Since.drew ?_ | with_reducible refine Since.drewN ?_ _)) hb5)
  have s5 := A5.out.size
  clear hb5
  go_wp2_with fail
  refine (F5.out _ _ (zeros_at _ 256 _ _ (by simp) (by omega))).mono ?_
  rintro e w6 ⟨rfl, hb6⟩
  have A6 := Lib.hid (show Since w w6 from Since.via (by repeat (first | with_reducible exact A5.out | with_reducible exact Since.refl _ | with_reducible refine Since.alloc ?_ _ | with_reducible refine Since.setCell ?_ (by first | omega | (simp; done) | (simp; omega)) _ | with_reducible refine Since.drew ?_ | with_reducible refine Since.drewN ?_ _)) hb6)
  have s6 := A6.out.size
  clear hb6
  go_wp2_with fail
  refine (F6.out _).mono ?_
  rintro e w7 ⟨rfl, hb7⟩
  have A7 := Lib.hid (show Since w w7 from Since.via (by repeat (first | with_reducible exact A6.out | with_reducible exact Since.refl _ | with_reducible refine Since.alloc ?_ _ | with_reducible refine Since.setCell ?_ (by first | omega | (simp; done) | (simp; omega)) _ | with_reducible refine Since.drew ?_ | with_reducible refine Since.drewN ?_ _)) hb7)
  have s7 := A7.out.size
  clear hb7
  go_wp2
  go_loopw [14, 15] (fun v t wr => ∃ (k : Nat) (B : Option Addr) (d : Nat), t = .int .i64 k ∧ v = .slice B k d ∧ k ≤ 16 ∧ OwnB wr w.heap.size (.slice B k d) (List.replicate k (objB 8)) ∧ Since w wr) (fun _ t _ => 16 - (intOf t).toNat)
  case atStart => exact ⟨0, none, 0, rfl, rfl, by omega, OwnB.nil _ _, (by repeat (first | with_reducible exact A7.out | with_reducible exact Since.refl _ | with_reducible refine Since.alloc ?_ _ | with_reducible refine Since.setCell ?_ (by first | omega | (simp; done) | (simp; omega)) _ | with_reducible refine Since.drew ?_ | with_reducible refine Since.drewN ?_ _))⟩
  case round =>
    obtain ⟨k, B, d, rfl, rfl, hk, hown, hnx⟩ := hrel
    obtain ⟨w8, hw8⟩ : ∃ x, x = wr := ⟨_, rfl⟩
    subst hw8
    have A8 := Lib.hid hnx
    have OW := Lib.hid hown
    have s8 := A8.out.size
    clear hnx hown
    by_cases hlt : k < 16
    · have hL := OW.out.lt
      have HL := Lib.hid hL
      have hlen : (List.replicate k (objB 8)).length ≤ 1000000 := by simp; omega
      clear hL
      go_wp2_with (at_builtin; refine wpList_append_blk rfl (.tmp 71) (.tmp 73) rfl w.heap.size (.slice B k d) (List.replicate k (objB 8)) rfl OW.out (objB 8) _ rfl ?k1 hlen ?k2 ?_)
      any_goals (first | omega | rfl | (simp; done) | (simp; omega))
      intro v' w9 hown' hgrow hat
      rw [HR.out] at hown'
      have OW9 := Lib.hid hown'
      have A9 := Lib.hid (Since.grown (Since.alloc A8.out _) hgrow (fun q hq => (HL.out q hq).1))
      obtain ⟨D', d', rfl, _⟩ := OW9.out.form
      rw [List.length_replicate] at OW9
      clear hown' hgrow hat
      go_wp2
      go_roundw
      case rel => exact ⟨k + 1, D', d', by go_num, by rw [List.length_replicate], by omega, OW9.out, A9.out⟩
      case measure => simp [intOf]; omega
    · obtain rfl : k = 16 := by omega
      obtain ⟨D', d', e, hB⟩ := OW.out.form
      have e2 : D' = B ∧ d' = d := by
        injection e with e1 e2 e3
        exact ⟨e1.symm, e3.symm⟩
      obtain ⟨rfl, rfl⟩ := e2
      have HB := Lib.hid hB
      clear hB e
      go_wp2_with fail
      refine (LF.out _ _ _ (HB.out.below (Since.out (by repeat (first | with_reducible exact Since.refl _ | with_reducible refine Since.alloc ?_ _ | with_reducible refine Since.setCell ?_ (by first | omega | (simp; done) | (simp; omega)) _ | with_reducible refine Since.drew ?_ | with_reducible refine Since.drewN ?_ _))))).mono ?_
      rintro e w9 ⟨E2, rfl, hT, hb9⟩
      have A9 := Lib.hid (show Since w w9 from Since.via (by repeat (first | with_reducible exact A8.out | with_reducible exact Since.refl _ | with_reducible refine Since.alloc ?_ _ | with_reducible refine Since.setCell ?_ (by first | omega | (simp; done) | (simp; omega)) _ | with_reducible refine Since.drew ?_ | with_reducible refine Since.drewN ?_ _)) hb9)
      have s9 := A9.out.size
      have T9 := Lib.hid hT
      clear hT
      clear hb9
      go_wp2_with fail
      refine (F7.out _ _ (T9.out.below (Since.out (by repeat (first | with_reducible exact Since.refl _ | with_reducible refine Since.alloc ?_ _ | with_reducible refine Since.setCell ?_ (by first | omega | (simp; done) | (simp; omega)) _ | with_reducible refine Since.drew ?_ | with_reducible refine Since.drewN ?_ _))))).mono ?_
      rintro e w10 ⟨rfl, hb10⟩
      have A10 := Lib.hid (show Since w w10 from Since.via (by repeat (first | with_reducible exact A9.out | with_reducible exact Since.refl _ | with_reducible refine Since.alloc ?_ _ | with_reducible refine Since.setCell ?_ (by first | omega | (simp; done) | (simp; omega)) _ | with_reducible refine Since.drew ?_ | with_reducible refine Since.drewN ?_ _)) hb10)
      have s10 := A10.out.size
      clear hb10
      go_wp2_with fail
      refine (G1.out _).mono ?_
      rintro e w11 ⟨rfl, hb11⟩
      have A11 := Lib.hid (show Since w w11 from Since.via (by repeat (first | with_reducible exact A10.out | with_reducible exact Since.refl _ | with_reducible refine Since.alloc ?_ _ | with_reducible refine Since.setCell ?_ (by first | omega | (simp; done) | (simp; omega)) _ | with_reducible refine Since.drew ?_ | with_reducible refine Since.drewN ?_ _)) hb11)
      have s11 := A11.out.size
      have F11 := Lib.hid (show Cells w11 (w10.heap.size + 1) 24 (#[.int .i64 200, .int .i64 6, .int .i64 2, .int .i64 0, .bool false, .int .u64 5]) from Cells.kept (by repeat (first | with_reducible exact F10.out | with_reducible exact Cells.at_ _ _ _ (by first | omega | (simp; done) | (simp; omega)) | with_reducible refine Cells.alloc ?_ _ | with_reducible refine Cells.far' ?_ (by first | omega | (simp; done) | (simp; omega)) _ | with_reducible refine Cells.drew ?_ | with_reducible refine Cells.drewN ?_ _)) hb11)
      have Fz11 := F11.out.lt
      clear hb11
      obtain ⟨Fq0, Fq1, Fq2, Fq3, Fq4, Fq5⟩ := F11.out.six
      have Flt := F11.out.lt
      go_wp2_with fail
      refine (G2.out _).mono ?_
      rintro e w12 ⟨rfl, hb12⟩
      have A12 := Lib.hid (show Since w w12 from Since.via (by repeat (first | with_reducible exact A11.out | with_reducible exact Since.refl _ | with_reducible refine Since.alloc ?_ _ | with_reducible refine Since.setCell ?_ (by first | omega | (simp; done) | (simp; omega)) _ | with_reducible refine Since.drew ?_ | with_reducible refine Since.drewN ?_ _)) hb12)
      have s12 := A12.out.size
      have F12 := Lib.hid (show Cells w12 (w10.heap.size + 1) 24 (#[.int .i64 200, .int .i64 6, .int .i64 2, .int .i64 0, .bool false, .int .u64 5]) from Cells.kept (by repeat (first | with_reducible exact F11.out | with_reducible exact Cells.at_ _ _ _ (by first | omega | (simp; done) | (simp; omega)) | with_reducible refine Cells.alloc ?_ _ | with_reducible refine Cells.far' ?_ (by first | omega | (simp; done) | (simp; omega)) _ | with_reducible refine Cells.drew ?_ | with_reducible refine Cells.drewN ?_ _)) hb12)
      have Fz12 := F12.out.lt
      clear hb12
      clear Fq0 Fq1 Fq2 Fq3 Fq4 Fq5 Flt
      obtain ⟨Fq0, Fq1, Fq2, Fq3, Fq4, Fq5⟩ := F12.out.six
      have Flt := F12.out.lt
      go_wp2_with fail
      refine (G3.out _).mono ?_
      rintro e w13 ⟨rfl, hb13⟩
      have A13 := Lib.hid (show Since w w13 from Since.via (by repeat (first | with_reducible exact A12.out | with_reducible exact Since.refl _ | with_reducible refine Since.alloc ?_ _ | with_reducible refine Since.setCell ?_ (by first | omega | (simp; done) | (simp; omega)) _ | with_reducible refine Since.drew ?_ | with_reducible refine Since.drewN ?_ _)) hb13)
      have s13 := A13.out.size
      have F13 := Lib.hid (show Cells w13 (w10.heap.size + 1) 24 (#[.int .i64 200, .int .i64 6, .int .i64 2, .int .i64 0, .bool false, .int .u64 5]) from Cells.kept (by repeat (first | with_reducible exact F12.out | with_reducible exact Cells.at_ _ _ _ (by first | omega | (simp; done) | (simp; omega)) | with_reducible refine Cells.alloc ?_ _ | with_reducible refine Cells.far' ?_ (by first | omega | (simp; done) | (simp; omega)) _ | with_reducible refine Cells.drew ?_ | with_reducible refine Cells.drewN ?_ _)) hb13)
      have Fz13 := F13.out.lt
      have X13 := Lib.hid (show Cells w13 (w12.heap.size) 24 (#[.int .i64 204, .int .i64 2, .int .i64 2, .int .i64 0, .bool false, .int .u64 0]) from Cells.kept (by repeat (first | with_reducible exact X12.out | with_reducible exact Cells.at_ _ _ _ (by first | omega | (simp; done) | (simp; omega)) | with_reducible refine Cells.alloc ?_ _ | with_reducible refine Cells.far' ?_ (by first | omega | (simp; done) | (simp; omega)) _ | with_reducible refine Cells.drew ?_ | with_reducible refine Cells.drewN ?_ _)) hb13)
      have Xz13 := X13.out.lt
      clear hb13
      clear Fq0 Fq1 Fq2 Fq3 Fq4 Fq5 Flt
      obtain ⟨Fq0, Fq1, Fq2, Fq3, Fq4, Fq5⟩ := F13.out.six
      have Flt := F13.out.lt
      go_wp2_with fail
      refine (G4.out _).mono ?_
      rintro e w14 ⟨rfl, hb14⟩
      have A14 := Lib.hid (show Since w w14 from Since.via (by repeat (first | with_reducible exact A13.out | with_reducible exact Since.refl _ | with_reducible refine Since.alloc ?_ _ | with_reducible refine Since.setCell ?_ (by first | omega | (simp; done) | (simp; omega)) _ | with_reducible refine Since.drew ?_ | with_reducible refine Since.drewN ?_ _)) hb14)
      have s14 := A14.out.size
      have F14 := Lib.hid (show Cells w14 (w10.heap.size + 1) 24 (#[.int .i64 200, .int .i64 6, .int .i64 2, .int .i64 0, .bool false, .int .u64 5]) from Cells.kept (by repeat (first | with_reducible exact F13.out | with_reducible exact Cells.at_ _ _ _ (by first | omega | (simp; done) | (simp; omega)) | with_reducible refine Cells.alloc ?_ _ | with_reducible refine Cells.far' ?_ (by first | omega | (simp; done) | (simp; omega)) _ | with_reducible refine Cells.drew ?_ | with_reducible refine Cells.drewN ?_ _)) hb14)
      have Fz14 := F14.out.lt
      have X14 := Lib.hid (show Cells w14 (w12.heap.size) 24 (#[.int .i64 204, .int .i64 2, .int .i64 2, .int .i64 0, .bool false, .int .u64 0]) from Cells.kept (by repeat (first | with_reducible exact X13.out | with_reducible exact Cells.at_ _ _ _ (by first | omega | (simp; done) | (simp; omega)) | with_reducible refine Cells.alloc ?_ _ | with_reducible refine Cells.far' ?_ (by first | omega | (simp; done) | (simp; omega)) _ | with_reducible refine Cells.drew ?_ | with_reducible refine Cells.drewN ?_ _)) hb14)
      have Xz14 := X14.out.lt
      clear hb14
      clear Fq0 Fq1 Fq2 Fq3 Fq4 Fq5 Flt
      go_wp2_with fail
      refine (G5.out _).mono ?_
      rintro e w15 ⟨rfl, hb15⟩
      have A15 := Lib.hid (show Since w w15 from Since.via (by repeat (first | with_reducible exact A14.out | with_reducible exact Since.refl _ | with_reducible refine Since.alloc ?_ _ | with_reducible refine Since.setCell ?_ (by first | omega | (simp; done) | (simp; omega)) _ | with_reducible refine Since.drew ?_ | with_reducible refine Since.drewN ?_ _)) hb15)
      have s15 := A15.out.size
      have X15 := Lib.hid (show Cells w15 (w12.heap.size) 24 (#[.int .i64 204, .int .i64 2, .int .i64 2, .int .i64 0, .bool false, .int .u64 0]) from Cells.kept (by repeat (first | with_reducible exact X14.out | with_reducible exact Cells.at_ _ _ _ (by first | omega | (simp; done) | (simp; omega)) | with_reducible refine Cells.alloc ?_ _ | with_reducible refine Cells.far' ?_ (by first | omega | (simp; done) | (simp; omega)) _ | with_reducible refine Cells.drew ?_ | with_reducible refine Cells.drewN ?_ _)) hb15)
      have Xz15 := X15.out.lt
      clear hb15
      go_wp2_with fail
      refine (G6.out _).mono ?_
      rintro e w16 ⟨rfl, hb16⟩
      have A16 := Lib.hid (show Since w w16 from Since.via (by repeat (first | with_reducible exact A15.out | with_reducible exact Since.refl _ | with_reducible refine Since.alloc ?_ _ | with_reducible refine Since.setCell ?_ (by first | omega | (simp; done) | (simp; omega)) _ | with_reducible refine Since.drew ?_ | with_reducible refine Since.drewN ?_ _)) hb16)
      have s16 := A16.out.size
      have X16 := Lib.hid (show Cells w16 (w12.heap.size) 24 (#[.int .i64 204, .int .i64 2, .int .i64 2, .int .i64 0, .bool false, .int .u64 0]) from Cells.kept (by repeat (first | with_reducible exact X15.out | with_reducible exact Cells.at_ _ _ _ (by first | omega | (simp; done) | (simp; omega)) | with_reducible refine Cells.alloc ?_ _ | with_reducible refine Cells.far' ?_ (by first | omega | (simp; done) | (simp; omega)) _ | with_reducible refine Cells.drew ?_ | with_reducible refine Cells.drewN ?_ _)) hb16)
      have Xz16 := X16.out.lt
      clear hb16
      go_wp2_with fail
      refine (alive21 _).mono ?_
      rintro e w17 ⟨rfl, hb17⟩
      have A17 := Lib.hid (show Since w w17 from Since.via (by repeat (first | with_reducible exact A16.out | with_reducible exact Since.refl _ | with_reducible refine Since.alloc ?_ _ | with_reducible refine Since.setCell ?_ (by first | omega | (simp; done) | (simp; omega)) _ | with_reducible refine Since.drew ?_ | with_reducible refine Since.drewN ?_ _)) hb17)
      have s17 := A17.out.size
      have X17 := Lib.hid (show Cells w17 (w12.heap.size) 24 (#[.int .i64 204, .int .i64 2, .int .i64 2, .int .i64 0, .bool false, .int .u64 0]) from Cells.kept (by repeat (first | with_reducible exact X16.out | with_reducible exact Cells.at_ _ _ _ (by first | omega | (simp; done) | (simp; omega)) | with_reducible refine Cells.alloc ?_ _ | with_reducible refine Cells.far' ?_ (by first | omega | (simp; done) | (simp; omega)) _ | with_reducible refine Cells.drew ?_ | with_reducible refine Cells.drewN ?_ _)) hb17)
      have Xz17 := X17.out.lt
      clear hb17
      obtain ⟨Xq0, Xq1, Xq2, Xq3, Xq4, Xq5⟩ := X17.out.six
      have Xlt := X17.out.lt
      go_wp2
      go_ret
      exact ⟨rfl, (Since.out (by repeat (first | with_reducible exact A17.out | with_reducible exact Since.refl _ | with_reducible refine Since.alloc ?_ _ | with_reducible refine Since.setCell ?_ (by first | omega | (simp; done) | (simp; omega)) _ | with_reducible refine Since.drew ?_ | with_reducible refine Since.drewN ?_ _)))⟩
end Go.Proofs.Ytoifalgkeegklaa
