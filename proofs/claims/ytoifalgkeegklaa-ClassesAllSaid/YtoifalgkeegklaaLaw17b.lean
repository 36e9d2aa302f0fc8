/- The law that compares Lists with its reference, walked. -/
import Derived.Test.YtoifalgkeegklaaListsB
import Derived.Test.YtoifalgkeegklaaLaw15
namespace Go.Proofs.Ytoifalgkeegklaa
open Go.RowKit

set_option maxRecDepth 100000 in
theorem rows_same (n : Nat) (A : Option Addr) (c : Nat) (A' : Option Addr) (c' : Nat) (L : List (List Int)) (w : World) (h : Rows2 w A n c L) (h' : Rows2 w A' n c' L) :
    Calls Try.prog 45 #[.slice A n c, .slice A' n c'] w fun e w' => e = .returned (.bool true) ∧ Below w.heap.size w w' := by
  have H := Lib.hid h
  have H' := Lib.hid h'
  have hm := h.most
  have hcap := h.cap
  have hm' := h'.most
  have hcap' := h'.cap
  have HLN := Lib.hid h.len
  clear h h'
  go_enter Try.func45, Try.ntmps45
  go_wp2
  go_loopw [5] (fun i wr => ∃ k : Nat, k ≤ n ∧ i = .int .i64 k ∧ Since w wr) (fun i _ => n - (intOf i).toNat)
  case atStart => exact ⟨0, Nat.zero_le _, rfl, Since.refl _⟩
  case round =>
    obtain ⟨k, hk, rfl, hnx⟩ := hrel
    obtain ⟨w1, hw1⟩ : ∃ x, x = wr := ⟨_, rfl⟩
    subst hw1
    have A1 := Lib.hid hnx
    have H1 := Lib.hid (H.out.below hnx)
    have H1' := Lib.hid (H'.out.below hnx)
    clear hnx
    by_cases hlt : k < n
    · have hkl : k < L.length := by rw [HLN.out]; exact hlt
      obtain ⟨g, o, rfl, hg⟩ := H1.out.at_ (by omega)
      obtain ⟨g', o', rfl, hg'⟩ := H1'.out.at_ (by omega)
      obtain ⟨B, d, hc, hI⟩ := H1.out.same hkl
      obtain ⟨B', d', hc', hI'⟩ := H1'.out.same hkl
      generalize L[k] = zs at *
      have I1 := Lib.hid hI
      have I1' := Lib.hid hI'
      have hd := hI.cap
      have hd2 := hI.most
      have hd' := hI'.cap
      have hd2' := hI'.most
      clear hI hI'
      go_wp2_with fail
      go_quiet (fail)
      go_wp2
      go_loopw [6] (fun i wr => ∃ j : Nat, j ≤ zs.length ∧ i = .int .i64 j ∧ Since w1 wr) (fun i _ => zs.length - (intOf i).toNat)
      case atStart => exact ⟨0, Nat.zero_le _, rfl, Since.drewN (Since.refl _) _⟩
      case round =>
        obtain ⟨j, hj, rfl, hnx⟩ := hrel
        obtain ⟨w2, hw2⟩ : ∃ x, x = wr := ⟨_, rfl⟩
        subst hw2
        have C2 := Lib.hid hnx
        have I2 := Lib.hid (I1.out.below hnx)
        have I2' := Lib.hid (I1'.out.below hnx)
        have e1 : w2.cell? ⟨g, o + k, none⟩ = some (.slice B zs.length d) := (hnx.out.cell (p := ⟨g, o + k, none⟩) hg).trans hc
        have e2 : w2.cell? ⟨g', o' + k, none⟩ = some (.slice B' zs.length d') := (hnx.out.cell (p := ⟨g', o' + k, none⟩) hg').trans hc'
        have s2 := C2.out.size
        clear hnx
        by_cases hjl : j < zs.length
        · obtain ⟨b, p, rfl, hb⟩ := I2.out.at_ (by omega)
          obtain ⟨b', p', rfl, hb'⟩ := I2'.out.at_ (by omega)
          have f1 := I2.out.same hjl
          have f2 := I2'.out.same hjl
          generalize zs[j] = y at *
          go_wp2_with fail
          go_quiet (fail)
          go_wp2
          go_roundw
          case rel => exact ⟨j + 1, by omega, by go_num, (by repeat (first | with_reducible exact C2.out | with_reducible exact Since.refl _ | with_reducible refine Since.alloc ?_ _ | with_reducible refine Since.setCell ?_ (by first | omega | (simp; done) | (simp; omega)) _ | with_reducible refine Since.drew ?_ | with_reducible refine Since.drewN ?_ _))⟩
          case measure => simp [intOf]; omega
        · obtain rfl : j = zs.length := by omega
          go_wp2
          go_roundw
          case rel => exact ⟨k + 1, by omega, by go_num, Since.trans A1.out C2.out⟩
          case measure => simp [intOf]; omega
    · obtain rfl : n = k := by omega
      go_wp2
      go_ret
      exact ⟨rfl, A1.out⟩

set_option maxRecDepth 100000 in
theorem walkClassesLists (A : Option Addr) (n c : Nat) (ws : List Nat) (w : World) (h : Words w A n c ws) :
    Calls Try.prog 12 #[.slice A n c] w fun e w' => e = .returned (.bool true) ∧ Below w.heap.size w w' := by
  by_cases hn : n ≤ 2100
  case neg =>
    have C := Lib.hid fun W => great_yes A n c W (by omega)
    clear h
    go_enter Try.func12, Try.ntmps12
    go_wp2_with fail
    refine (C.out _).mono ?_
    rintro e w1 ⟨rfl, rfl⟩
    go_wp2
    go_ret
    exact ⟨rfl, Below.refl _ _⟩
  have G := Lib.hid fun W => great_no A n c W hn
  have TW := Lib.hid fun W h => twin_words A n c ws W h (by omega)
  have F1 := Lib.hid fun W A c h => lists_any A n c ws W h
  have F2 := Lib.hid fun W A c h => rlists_any A n c ws W h
  obtain ⟨⟨L, x⟩, hr⟩ : ∃ r, listsR ws = r := ⟨_, rfl⟩
  simp only [hr] at F1 F2
  have H0 := Lib.hid h
  have A0 := Lib.hid (Since.refl w)
  clear hr h hn
  go_enter Try.func12, Try.ntmps12
  go_wp2_with fail
  refine (G.out _).mono ?_
  rintro e wd ⟨rfl, rfl⟩
  go_wp2_with fail
  refine (TW.out _ H0.out).mono ?_
  rintro e w1 ⟨A', c', rfl, hT, hb1⟩
  have A1 := Lib.hid (show Since w w1 from Since.via (by repeat (first | with_reducible exact A0.out | with_reducible exact Since.refl _ | with_reducible refine Since.alloc ?_ _ | with_reducible refine Since.setCell ?_ (by first | omega | (simp; done) | (simp; omega)) _ | with_reducible refine Since.drew ?_ | with_reducible refine Since.drewN ?_ _)) hb1)
  have s1 := A1.out.size
  have B1 := Lib.hid (show Since w w1 from Since.via (by repeat (first | with_reducible exact Since.refl _ | with_reducible refine Since.alloc ?_ _ | with_reducible refine Since.setCell ?_ (by first | omega | (simp; done) | (simp; omega)) _ | with_reducible refine Since.drew ?_ | with_reducible refine Since.drewN ?_ _)) hb1)
  have H1 := Lib.hid (H0.out.below B1.out)
  have T1 := Lib.hid hT
  clear hT
  clear hb1
  go_wp2_with fail
  refine (F1.out _ _ _ (H1.out.below (Since.out (by repeat (first | with_reducible exact Since.refl _ | with_reducible refine Since.alloc ?_ _ | with_reducible refine Since.setCell ?_ (by first | omega | (simp; done) | (simp; omega)) _ | with_reducible refine Since.drew ?_ | with_reducible refine Since.drewN ?_ _))))).mono ?_
  rintro e w2 ⟨B1, d1, rfl, hB, hb2⟩
  have A2 := Lib.hid (show Since w w2 from Since.via (by repeat (first | with_reducible exact A1.out | with_reducible exact Since.refl _ | with_reducible refine Since.alloc ?_ _ | with_reducible refine Since.setCell ?_ (by first | omega | (simp; done) | (simp; omega)) _ | with_reducible refine Since.drew ?_ | with_reducible refine Since.drewN ?_ _)) hb2)
  have s2 := A2.out.size
  have B2 := Lib.hid (show Since w1 w2 from Since.via (by repeat (first | with_reducible exact Since.refl _ | with_reducible refine Since.alloc ?_ _ | with_reducible refine Since.setCell ?_ (by first | omega | (simp; done) | (simp; omega)) _ | with_reducible refine Since.drew ?_ | with_reducible refine Since.drewN ?_ _)) hb2)
  have H2 := Lib.hid (H1.out.below B2.out)
  have T2 := Lib.hid (T1.out.below B2.out)
  have L2 := Lib.hid hB
  clear hB
  clear hb2
  go_wp2_with fail
  refine (F2.out _ _ _ (T2.out.below (Since.out (by repeat (first | with_reducible exact Since.refl _ | with_reducible refine Since.alloc ?_ _ | with_reducible refine Since.setCell ?_ (by first | omega | (simp; done) | (simp; omega)) _ | with_reducible refine Since.drew ?_ | with_reducible refine Since.drewN ?_ _))))).mono ?_
  rintro e w3 ⟨B2, d2, rfl, hB, hb3⟩
  have A3 := Lib.hid (show Since w w3 from Since.via (by repeat (first | with_reducible exact A2.out | with_reducible exact Since.refl _ | with_reducible refine Since.alloc ?_ _ | with_reducible refine Since.setCell ?_ (by first | omega | (simp; done) | (simp; omega)) _ | with_reducible refine Since.drew ?_ | with_reducible refine Since.drewN ?_ _)) hb3)
  have s3 := A3.out.size
  have B3 := Lib.hid (show Since w2 w3 from Since.via (by repeat (first | with_reducible exact Since.refl _ | with_reducible refine Since.alloc ?_ _ | with_reducible refine Since.setCell ?_ (by first | omega | (simp; done) | (simp; omega)) _ | with_reducible refine Since.drew ?_ | with_reducible refine Since.drewN ?_ _)) hb3)
  have H3 := Lib.hid (H2.out.below B3.out)
  have T3 := Lib.hid (T2.out.below B3.out)
  have L3 := Lib.hid (L2.out.below B3.out)
  have M3 := Lib.hid hB
  clear hB
  clear hb3
  go_wp2_with fail
  refine (rows_same _ _ _ _ _ _ _ (L3.out.below (Since.out (by repeat (first | with_reducible exact Since.refl _ | with_reducible refine Since.alloc ?_ _ | with_reducible refine Since.setCell ?_ (by first | omega | (simp; done) | (simp; omega)) _ | with_reducible refine Since.drew ?_ | with_reducible refine Since.drewN ?_ _)))) (M3.out.below (Since.out (by repeat (first | with_reducible exact Since.refl _ | with_reducible refine Since.alloc ?_ _ | with_reducible refine Since.setCell ?_ (by first | omega | (simp; done) | (simp; omega)) _ | with_reducible refine Since.drew ?_ | with_reducible refine Since.drewN ?_ _))))).mono ?_
  rintro e w4 ⟨rfl, hb4⟩
  have A4 := Lib.hid (show Since w w4 from Since.via (by repeat (first | with_reducible exact A3.out | with_reducible exact Since.refl _ | with_reducible refine Since.alloc ?_ _ | with_reducible refine Since.setCell ?_ (by first | omega | (simp; done) | (simp; omega)) _ | with_reducible refine Since.drew ?_ | with_reducible refine Since.drewN ?_ _)) hb4)
  have s4 := A4.out.size
  have B4 := Lib.hid (show Since w3 w4 from Since.via (by repeat (first | with_reducible exact Since.refl _ | with_reducible refine Since.alloc ?_ _ | with_reducible refine Since.setCell ?_ (by first | omega | (simp; done) | (simp; omega)) _ | with_reducible refine Since.drew ?_ | with_reducible refine Since.drewN ?_ _)) hb4)
  have H4 := Lib.hid (H3.out.below B4.out)
  have T4 := Lib.hid (T3.out.below B4.out)
  clear hb4
  go_wp2_with fail
  refine (same_words _ _ _ _ _ _ _ (H4.out.below (Since.out (by repeat (first | with_reducible exact Since.refl _ | with_reducible refine Since.alloc ?_ _ | with_reducible refine Since.setCell ?_ (by first | omega | (simp; done) | (simp; omega)) _ | with_reducible refine Since.drew ?_ | with_reducible refine Since.drewN ?_ _)))) (T4.out.below (Since.out (by repeat (first | with_reducible exact Since.refl _ | with_reducible refine Since.alloc ?_ _ | with_reducible refine Since.setCell ?_ (by first | omega | (simp; done) | (simp; omega)) _ | with_reducible refine Since.drew ?_ | with_reducible refine Since.drewN ?_ _))))).mono ?_
  rintro e w5 ⟨rfl, hb5⟩
  have A5 := Lib.hid (show Since w w5 from Since.via (by repeat (first | with_reducible exact A4.out | with_reducible exact Since.refl _ | with_reducible refine Since.alloc ?_ _ | with_reducible refine Since.setCell ?_ (by first | omega | (simp; done) | (simp; omega)) _ | with_reducible refine Since.drew ?_ | with_reducible refine Since.drewN ?_ _)) hb5)
  have s5 := A5.out.size
  clear hb5
  go_wp2
  go_ret
  exact ⟨rfl, (Since.out (by repeat (first | with_reducible exact A5.out | with_reducible exact Since.refl _ | with_reducible refine Since.alloc ?_ _ | with_reducible refine Since.setCell ?_ (by first | omega | (simp; done) | (simp; omega)) _ | with_reducible refine Since.drew ?_ | with_reducible refine Since.drewN ?_ _)))⟩
end Go.Proofs.Ytoifalgkeegklaa
