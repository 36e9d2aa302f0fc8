/- The law that compares package walk with its reference, walked. -/
import Derived.Test.YthdccahggcjogaaLaid
namespace Go.Proofs.Ythdccahggcjogaa
open Go.RowKit

theorem twin_words (A : Option Addr) (n c : Nat) (ws : List Nat) (w : World) (h : Words w A n c ws) (hn : n ≤ 1000000) :
    Calls Try.prog 36 #[.slice A n c] w fun e w' => ∃ A' c', e = .returned (.slice A' n c') ∧ Words w' A' n c' ws ∧ Below w.heap.size w w' :=
  (twin_any A n c ws w h hn).mono fun _ _ ⟨A', c', e, hown, hb⟩ => ⟨A', c', e, Words.own hown h.lt, hb⟩
theorem same_words (A : Option Addr) (n c : Nat) (A' : Option Addr) (c' : Nat) (ws : List Nat) (w : World) (h : Words w A n c ws) (h' : Words w A' n c' ws) :
    Calls Try.prog 41 #[.slice A n c, .slice A' n c'] w fun e w' => e = .returned (.bool true) ∧ Below w.heap.size w w' := same_eq A n c A' c' ws w h h'

set_option maxRecDepth 100000 in
theorem walkWalkBlocks (A : Option Addr) (n c : Nat) (ws : List Nat) (a : Int) (w : World) (h : Words w A n c ws) (_h1 : -9223372036854775808 ≤ a) (_h2 : a ≤ 9223372036854775807) :
    Calls Try.prog 12 #[.slice A n c, .int .i64 a] w fun e w' => e = .returned (.bool true) ∧ Below w.heap.size w w' := by
  by_cases hn : n ≤ 2100
  case neg =>
    have C := Lib.hid fun W => great_yes A n c W (by omega)
    clear h
    go_enter Try.func12, Try.ntmps12
    go_wp2_with fail
    refine (C.out _).mono ?_
    rintro e w1 ⟨rfl, rfl⟩
    go_wp2
    go_ret
    exact ⟨rfl, Below.refl _ _⟩
  have G := Lib.hid fun W => great_no A n c W hn
  have TW := Lib.hid fun W h => twin_words A n c ws W h (by omega)
  have F1 := Lib.hid fun W A c h => from_any A n c ws a W h
  have F2 := Lib.hid fun W A c h => rblocks_any A n c ws a W h
  have F3 := Lib.hid fun W A c h => all_any A n c ws W h
  have F4 := Lib.hid fun W A c h => rall_any A n c ws W h
  have F5 := Lib.hid fun W A c h => pfind_any A n c ws a W h
  have F6 := Lib.hid fun W A c h => rfind_any A n c ws a W h
  obtain ⟨⟨l, x⟩, hr⟩ : ∃ r, fromR ws a = r := ⟨_, rfl⟩
  obtain ⟨⟨m, y⟩, hr2⟩ : ∃ r, allR ws = r := ⟨_, rfl⟩
  obtain ⟨⟨b, z⟩, hr3⟩ : ∃ r, findR ws a = r := ⟨_, rfl⟩
  simp only [hr, hr2, hr3] at F1 F2 F3 F4 F5 F6
  have H0 := Lib.hid h
  have A0 := Lib.hid (Since.refl w)
  clear hr hr2 hr3 h hn
  go_enter Try.func12, Try.ntmps12
  go_wp2_with fail
  refine (G.out _).mono ?_
  rintro e wd ⟨rfl, rfl⟩
  go_wp2_with fail
  refine (TW.out _ H0.out).mono ?_
  rintro e w1 ⟨A', c', rfl, hT, hb1⟩
  have A1 := Lib.hid (show Since w w1 from Since.via (by repeat (first | with_reducible exact A0.out | with_reducible exact Since.refl _ | with_reducible refine Since.alloc ?_ _ | with_reducible refine Since.setCell ?_ (by first | omega | (simp; done) | (simp; omega)) _ | with_reducible refine Since.drew ?_ | with_reducible refine Since.drewN ?_ _)) hb1)
  have s1 := A1.out.size
  have B1 := Lib.hid (show Since w w1 from Since.via (by repeat (first | with_reducible exact Since.refl _ | with_reducible refine Since.alloc ?_ _ | with_reducible refine Since.setCell ?_ (by first | omega | (simp; done) | (simp; omega)) _ | with_reducible refine Since.drew ?_ | with_reducible refine Since.drewN ?_ _)) hb1)
  have H1 := Lib.hid (H0.out.below B1.out)
  have T1 := Lib.hid hT
  clear hT
  clear hb1
  go_wp2_with fail
  refine (F1.out _ _ _ (H1.out.below (Since.out (by repeat (first | with_reducible exact Since.refl _ | with_reducible refine Since.alloc ?_ _ | with_reducible refine Since.setCell ?_ (by first | omega | (simp; done) | (simp; omega)) _ | with_reducible refine Since.drew ?_ | with_reducible refine Since.drewN ?_ _))))).mono ?_
  rintro e w2 ⟨B1, d1, rfl, hB, hb2⟩
  have A2 := Lib.hid (show Since w w2 from Since.via (by repeat (first | with_reducible exact A1.out | with_reducible exact Since.refl _ | with_reducible refine Since.alloc ?_ _ | with_reducible refine Since.setCell ?_ (by first | omega | (simp; done) | (simp; omega)) _ | with_reducible refine Since.drew ?_ | with_reducible refine Since.drewN ?_ _)) hb2)
  have s2 := A2.out.size
  have B2 := Lib.hid (show Since w1 w2 from Since.via (by repeat (first | with_reducible exact Since.refl _ | with_reducible refine Since.alloc ?_ _ | with_reducible refine Since.setCell ?_ (by first | omega | (simp; done) | (simp; omega)) _ | with_reducible refine Since.drew ?_ | with_reducible refine Since.drewN ?_ _)) hb2)
  have H2 := Lib.hid (H1.out.below B2.out)
  have T2 := Lib.hid (T1.out.below B2.out)
  have L2 := Lib.hid hB
  clear hB
  clear hb2
  go_wp2_with fail
  refine (F2.out _ _ _ (T2.out.below (Since.out (by repeat (first | with_reducible exact Since.refl _ | with_reducible refine Since.alloc ?_ _ | with_reducible refine Since.setCell ?_ (by first | omega | (simp; done) | (simp; omega)) _ | with_reducible refine Since.drew ?_ | with_reducible refine Since.drewN ?_ _))))).mono ?_
  rintro e w3 ⟨B2, d2, rfl, hB, hb3⟩
  have A3 := Lib.hid (show Since w w3 from Since.via (by repeat (first | with_reducible exact A2.out | with_reducible exact Since.refl _ | with_reducible refine Since.alloc ?_ _ | with_reducible refine Since.setCell ?_ (by first | omega | (simp; done) | (simp; omega)) _ | with_reducible refine Since.drew ?_ | with_reducible refine Since.drewN ?_ _)) hb3)
  have s3 := A3.out.size
  have B3 := Lib.hid (show Since w2 w3 from Since.via (by repeat (first | with_reducible exact Since.refl _ | with_reducible refine Since.alloc ?_ _ | with_reducible refine Since.setCell ?_ (by first | omega | (simp; done) | (simp; omega)) _ | with_reducible refine Since.drew ?_ | with_reducible refine Since.drewN ?_ _)) hb3)
  have H3 := Lib.hid (H2.out.below B3.out)
  have T3 := Lib.hid (T2.out.below B3.out)
  have L3 := Lib.hid (L2.out.below B3.out)
  have M3 := Lib.hid hB
  clear hB
  clear hb3
  go_wp2_with fail
  refine (F3.out _ _ _ (H3.out.below (Since.out (by repeat (first | with_reducible exact Since.refl _ | with_reducible refine Since.alloc ?_ _ | with_reducible refine Since.setCell ?_ (by first | omega | (simp; done) | (simp; omega)) _ | with_reducible refine Since.drew ?_ | with_reducible refine Since.drewN ?_ _))))).mono ?_
  rintro e w4 ⟨B3, d3, rfl, hB, hb4⟩
  have A4 := Lib.hid (show Since w w4 from Since.via (by repeat (first | with_reducible exact A3.out | with_reducible exact Since.refl _ | with_reducible refine Since.alloc ?_ _ | with_reducible refine Since.setCell ?_ (by first | omega | (simp; done) | (simp; omega)) _ | with_reducible refine Since.drew ?_ | with_reducible refine Since.drewN ?_ _)) hb4)
  have s4 := A4.out.size
  have B4 := Lib.hid (show Since w3 w4 from Since.via (by repeat (first | with_reducible exact Since.refl _ | with_reducible refine Since.alloc ?_ _ | with_reducible refine Since.setCell ?_ (by first | omega | (simp; done) | (simp; omega)) _ | with_reducible refine Since.drew ?_ | with_reducible refine Since.drewN ?_ _)) hb4)
  have H4 := Lib.hid (H3.out.below B4.out)
  have T4 := Lib.hid (T3.out.below B4.out)
  have L4 := Lib.hid (L3.out.below B4.out)
  have M4 := Lib.hid (M3.out.below B4.out)
  have P4 := Lib.hid hB
  clear hB
  clear hb4
  go_wp2_with fail
  refine (F4.out _ _ _ (T4.out.below (Since.out (by repeat (first | with_reducible exact Since.refl _ | with_reducible refine Since.alloc ?_ _ | with_reducible refine Since.setCell ?_ (by first | omega | (simp; done) | (simp; omega)) _ | with_reducible refine Since.drew ?_ | with_reducible refine Since.drewN ?_ _))))).mono ?_
  rintro e w5 ⟨B4, d4, rfl, hB, hb5⟩
  have A5 := Lib.hid (show Since w w5 from Since.via (by repeat (first | with_reducible exact A4.out | with_reducible exact Since.refl _ | with_reducible refine Since.alloc ?_ _ | with_reducible refine Since.setCell ?_ (by first | omega | (simp; done) | (simp; omega)) _ | with_reducible refine Since.drew ?_ | with_reducible refine Since.drewN ?_ _)) hb5)
  have s5 := A5.out.size
  have B5 := Lib.hid (show Since w4 w5 from Since.via (by repeat (first | with_reducible exact Since.refl _ | with_reducible refine Since.alloc ?_ _ | with_reducible refine Since.setCell ?_ (by first | omega | (simp; done) | (simp; omega)) _ | with_reducible refine Since.drew ?_ | with_reducible refine Since.drewN ?_ _)) hb5)
  have H5 := Lib.hid (H4.out.below B5.out)
  have T5 := Lib.hid (T4.out.below B5.out)
  have L5 := Lib.hid (L4.out.below B5.out)
  have M5 := Lib.hid (M4.out.below B5.out)
  have P5 := Lib.hid (P4.out.below B5.out)
  have Q5 := Lib.hid hB
  clear hB
  clear hb5
  go_wp2_with fail
  refine (F5.out _ _ _ (H5.out.below (Since.out (by repeat (first | with_reducible exact Since.refl _ | with_reducible refine Since.alloc ?_ _ | with_reducible refine Since.setCell ?_ (by first | omega | (simp; done) | (simp; omega)) _ | with_reducible refine Since.drew ?_ | with_reducible refine Since.drewN ?_ _))))).mono ?_
  rintro e w6 ⟨rfl, hb6⟩
  have A6 := Lib.hid (show Since w w6 from Since.via (by repeat (first | with_reducible exact A5.out | with_reducible exact Since.refl _ | with_reducible refine Since.alloc ?_ _ | with_reducible refine Since.setCell ?_ (by first | omega | (simp; done) | (simp; omega)) _ | with_reducible refine Since.drew ?_ | with_reducible refine Since.drewN ?_ _)) hb6)
  have s6 := A6.out.size
  have B6 := Lib.hid (show Since w5 w6 from Since.via (by repeat (first | with_reducible exact Since.refl _ | with_reducible refine Since.alloc ?_ _ | with_reducible refine Since.setCell ?_ (by first | omega | (simp; done) | (simp; omega)) _ | with_reducible refine Since.drew ?_ | with_reducible refine Since.drewN ?_ _)) hb6)
  have H6 := Lib.hid (H5.out.below B6.out)
  have T6 := Lib.hid (T5.out.below B6.out)
  have L6 := Lib.hid (L5.out.below B6.out)
  have M6 := Lib.hid (M5.out.below B6.out)
  have P6 := Lib.hid (P5.out.below B6.out)
  have Q6 := Lib.hid (Q5.out.below B6.out)
  clear hb6
  go_wp2_with fail
  refine (F6.out _ _ _ (T6.out.below (Since.out (by repeat (first | with_reducible exact Since.refl _ | with_reducible refine Since.alloc ?_ _ | with_reducible refine Since.setCell ?_ (by first | omega | (simp; done) | (simp; omega)) _ | with_reducible refine Since.drew ?_ | with_reducible refine Since.drewN ?_ _))))).mono ?_
  rintro e w7 ⟨rfl, hb7⟩
  have A7 := Lib.hid (show Since w w7 from Since.via (by repeat (first | with_reducible exact A6.out | with_reducible exact Since.refl _ | with_reducible refine Since.alloc ?_ _ | with_reducible refine Since.setCell ?_ (by first | omega | (simp; done) | (simp; omega)) _ | with_reducible refine Since.drew ?_ | with_reducible refine Since.drewN ?_ _)) hb7)
  have s7 := A7.out.size
  have B7 := Lib.hid (show Since w6 w7 from Since.via (by repeat (first | with_reducible exact Since.refl _ | with_reducible refine Since.alloc ?_ _ | with_reducible refine Since.setCell ?_ (by first | omega | (simp; done) | (simp; omega)) _ | with_reducible refine Since.drew ?_ | with_reducible refine Since.drewN ?_ _)) hb7)
  have H7 := Lib.hid (H6.out.below B7.out)
  have T7 := Lib.hid (T6.out.below B7.out)
  have L7 := Lib.hid (L6.out.below B7.out)
  have M7 := Lib.hid (M6.out.below B7.out)
  have P7 := Lib.hid (P6.out.below B7.out)
  have Q7 := Lib.hid (Q6.out.below B7.out)
  have X7 := Lib.hid (show Cells w7 (w6.heap.size) 24 (#[.int .i64 b.at_, .int .i64 b.size, .int .i64 b.kind, .int .i64 b.typ, .bool b.mark, .int .u64 (b.next : Nat)]) from Cells.kept (by repeat (first | with_reducible exact X6.out | with_reducible exact Cells.at_ _ _ _ (by first | omega | (simp; done) | (simp; omega)) | with_reducible refine Cells.alloc ?_ _ | with_reducible refine Cells.far' ?_ (by first | omega | (simp; done) | (simp; omega)) _ | with_reducible refine Cells.drew ?_ | with_reducible refine Cells.drewN ?_ _)) hb7)
  have Xz7 := X7.out.lt
  clear hb7
  go_wp2_with fail
  refine (rsame_yes _ _ _ _ _ _ (L7.out.below (Since.out (by repeat (first | with_reducible exact Since.refl _ | with_reducible refine Since.alloc ?_ _ | with_reducible refine Since.setCell ?_ (by first | omega | (simp; done) | (simp; omega)) _ | with_reducible refine Since.drew ?_ | with_reducible refine Since.drewN ?_ _)))) (M7.out.below (Since.out (by repeat (first | with_reducible exact Since.refl _ | with_reducible refine Since.alloc ?_ _ | with_reducible refine Since.setCell ?_ (by first | omega | (simp; done) | (simp; omega)) _ | with_reducible refine Since.drew ?_ | with_reducible refine Since.drewN ?_ _))))).mono ?_
  rintro e w8 ⟨rfl, hb8⟩
  have A8 := Lib.hid (show Since w w8 from Since.via (by repeat (first | with_reducible exact A7.out | with_reducible exact Since.refl _ | with_reducible refine Since.alloc ?_ _ | with_reducible refine Since.setCell ?_ (by first | omega | (simp; done) | (simp; omega)) _ | with_reducible refine Since.drew ?_ | with_reducible refine Since.drewN ?_ _)) hb8)
  have s8 := A8.out.size
  have B8 := Lib.hid (show Since w7 w8 from Since.via (by repeat (first | with_reducible exact Since.refl _ | with_reducible refine Since.alloc ?_ _ | with_reducible refine Since.setCell ?_ (by first | omega | (simp; done) | (simp; omega)) _ | with_reducible refine Since.drew ?_ | with_reducible refine Since.drewN ?_ _)) hb8)
  have H8 := Lib.hid (H7.out.below B8.out)
  have T8 := Lib.hid (T7.out.below B8.out)
  have P8 := Lib.hid (P7.out.below B8.out)
  have Q8 := Lib.hid (Q7.out.below B8.out)
  have X8 := Lib.hid (show Cells w8 (w6.heap.size) 24 (#[.int .i64 b.at_, .int .i64 b.size, .int .i64 b.kind, .int .i64 b.typ, .bool b.mark, .int .u64 (b.next : Nat)]) from Cells.kept (by repeat (first | with_reducible exact X7.out | with_reducible exact Cells.at_ _ _ _ (by first | omega | (simp; done) | (simp; omega)) | with_reducible refine Cells.alloc ?_ _ | with_reducible refine Cells.far' ?_ (by first | omega | (simp; done) | (simp; omega)) _ | with_reducible refine Cells.drew ?_ | with_reducible refine Cells.drewN ?_ _)) hb8)
  have Xz8 := X8.out.lt
  have Y8 := Lib.hid (show Cells w8 (w7.heap.size) 24 (#[.int .i64 b.at_, .int .i64 b.size, .int .i64 b.kind, .int .i64 b.typ, .bool b.mark, .int .u64 (b.next : Nat)]) from Cells.kept (by repeat (first | with_reducible exact Y7.out | with_reducible exact Cells.at_ _ _ _ (by first | omega | (simp; done) | (simp; omega)) | with_reducible refine Cells.alloc ?_ _ | with_reducible refine Cells.far' ?_ (by first | omega | (simp; done) | (simp; omega)) _ | with_reducible refine Cells.drew ?_ | with_reducible refine Cells.drewN ?_ _)) hb8)
  have Yz8 := Y8.out.lt
  clear hb8
  go_wp2_with fail
  refine (rsame_yes _ _ _ _ _ _ (P8.out.below (Since.out (by repeat (first | with_reducible exact Since.refl _ | with_reducible refine Since.alloc ?_ _ | with_reducible refine Since.setCell ?_ (by first | omega | (simp; done) | (simp; omega)) _ | with_reducible refine Since.drew ?_ | with_reducible refine Since.drewN ?_ _)))) (Q8.out.below (Since.out (by repeat (first | with_reducible exact Since.refl _ | with_reducible refine Since.alloc ?_ _ | with_reducible refine Since.setCell ?_ (by first | omega | (simp; done) | (simp; omega)) _ | with_reducible refine Since.drew ?_ | with_reducible refine Since.drewN ?_ _))))).mono ?_
  rintro e w9 ⟨rfl, hb9⟩
  have A9 := Lib.hid (show Since w w9 from Since.via (by repeat (first | with_reducible exact A8.out | with_reducible exact Since.refl _ | with_reducible refine Since.alloc ?_ _ | with_reducible refine Since.setCell ?_ (by first | omega | (simp; done) | (simp; omega)) _ | with_reducible refine Since.drew ?_ | with_reducible refine Since.drewN ?_ _)) hb9)
  have s9 := A9.out.size
  have B9 := Lib.hid (show Since w8 w9 from Since.via (by repeat (first | with_reducible exact Since.refl _ | with_reducible refine Since.alloc ?_ _ | with_reducible refine Since.setCell ?_ (by first | omega | (simp; done) | (simp; omega)) _ | with_reducible refine Since.drew ?_ | with_reducible refine Since.drewN ?_ _)) hb9)
  have H9 := Lib.hid (H8.out.below B9.out)
  have T9 := Lib.hid (T8.out.below B9.out)
  have X9 := Lib.hid (show Cells w9 (w6.heap.size) 24 (#[.int .i64 b.at_, .int .i64 b.size, .int .i64 b.kind, .int .i64 b.typ, .bool b.mark, .int .u64 (b.next : Nat)]) from Cells.kept (by repeat (first | with_reducible exact X8.out | with_reducible exact Cells.at_ _ _ _ (by first | omega | (simp; done) | (simp; omega)) | with_reducible refine Cells.alloc ?_ _ | with_reducible refine Cells.far' ?_ (by first | omega | (simp; done) | (simp; omega)) _ | with_reducible refine Cells.drew ?_ | with_reducible refine Cells.drewN ?_ _)) hb9)
  have Xz9 := X9.out.lt
  have Y9 := Lib.hid (show Cells w9 (w7.heap.size) 24 (#[.int .i64 b.at_, .int .i64 b.size, .int .i64 b.kind, .int .i64 b.typ, .bool b.mark, .int .u64 (b.next : Nat)]) from Cells.kept (by repeat (first | with_reducible exact Y8.out | with_reducible exact Cells.at_ _ _ _ (by first | omega | (simp; done) | (simp; omega)) | with_reducible refine Cells.alloc ?_ _ | with_reducible refine Cells.far' ?_ (by first | omega | (simp; done) | (simp; omega)) _ | with_reducible refine Cells.drew ?_ | with_reducible refine Cells.drewN ?_ _)) hb9)
  have Yz9 := Y9.out.lt
  clear hb9
  obtain ⟨Xq0, Xq1, Xq2, Xq3, Xq4, Xq5⟩ := X9.out.six
  have Xlt := X9.out.lt
  obtain ⟨Yq0, Yq1, Yq2, Yq3, Yq4, Yq5⟩ := Y9.out.six
  have Ylt := Y9.out.lt
  go_wp2_with fail
  refine (same_words _ _ _ _ _ _ _ (H9.out.below (Since.out (by repeat (first | with_reducible exact Since.refl _ | with_reducible refine Since.alloc ?_ _ | with_reducible refine Since.setCell ?_ (by first | omega | (simp; done) | (simp; omega)) _ | with_reducible refine Since.drew ?_ | with_reducible refine Since.drewN ?_ _)))) (T9.out.below (Since.out (by repeat (first | with_reducible exact Since.refl _ | with_reducible refine Since.alloc ?_ _ | with_reducible refine Since.setCell ?_ (by first | omega | (simp; done) | (simp; omega)) _ | with_reducible refine Since.drew ?_ | with_reducible refine Since.drewN ?_ _))))).mono ?_
  rintro e w10 ⟨rfl, hb10⟩
  clear Xq0 Xq1 Xq2 Xq3 Xq4 Xq5 Xlt Yq0 Yq1 Yq2 Yq3 Yq4 Yq5 Ylt
  have A10 := Lib.hid (show Since w w10 from Since.via (by repeat (first | with_reducible exact A9.out | with_reducible exact Since.refl _ | with_reducible refine Since.alloc ?_ _ | with_reducible refine Since.setCell ?_ (by first | omega | (simp; done) | (simp; omega)) _ | with_reducible refine Since.drew ?_ | with_reducible refine Since.drewN ?_ _)) hb10)
  have s10 := A10.out.size
  clear hb10
  go_wp2
  go_ret
  exact ⟨rfl, (Since.out (by repeat (first | with_reducible exact A10.out | with_reducible exact Since.refl _ | with_reducible refine Since.alloc ?_ _ | with_reducible refine Since.setCell ?_ (by first | omega | (simp; done) | (simp; omega)) _ | with_reducible refine Since.drew ?_ | with_reducible refine Since.drewN ?_ _)))⟩
end Go.Proofs.Ythdccahggcjogaa
