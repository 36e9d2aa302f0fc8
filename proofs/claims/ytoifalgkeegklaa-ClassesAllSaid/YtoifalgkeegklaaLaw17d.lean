/- The law that each free extent is in one list, walked. -/
import Derived.Test.YtoifalgkeegklaaLaw17b
import Derived.Test.YtoifalgkeegklaaListsPlainB
namespace Go.Proofs.Ytoifalgkeegklaa
open Go.RowKit

theorem alive17b (w : World) : Calls Try.prog 48 #[] w fun e w' => e = .returned (.bool true) ∧ Below w.heap.size w w' := (alive17 w).mono fun _ _ ⟨e, h⟩ => ⟨e, by subst h; exact Below.refl _ _⟩
theorem RowsEnd.eleven {w w' : World} {fl : List Blk} {x : Int} {e : Ending} (h : RowsEnd w (lists fl, x) e w') : ∃ B d, e = .returned (.tuple #[.slice B 11 d, .int .i64 x]) ∧ Rows2 w' B 11 d (lists fl) ∧ Below w.heap.size w w' := by
  unfold RowsEnd at h
  simp only [lists_len] at h
  exact h
theorem Rows2.cls {w : World} {g o c : Nat} {fl : List Blk} (h : Rows2 w (some ⟨g, o, none⟩) 11 c (lists fl)) {k : Nat} (hk : k < 11) : ∃ A d, w.cell? ⟨g, o + k, none⟩ = some (.slice A (clsL k fl).length d) ∧ Ints w A (clsL k fl).length d (clsL k fl) := by
  have := h.same (j := k) (by rw [lists_len]; exact hk)
  simp only [lists_get] at this
  exact this
def AllRel (fl : List Blk) (gn : Nat) (w3 : World) (t : Value) (wr : World) : Prop :=
  ∃ i : Nat, t = .int .i64 i ∧ i ≤ fl.length ∧ Cells wr gn 70 (((cnts fl i).map iv).toArray) ∧ Since w3 wr

set_option maxRecDepth 100000 in
set_option maxHeartbeats 8000000 in
theorem walkClassesAll (A : Option Addr) (n c : Nat) (ws : List Nat) (w : World) (h : Words w A n c ws) :
    Calls Try.prog 15 #[.slice A n c] w fun e w' => e = .returned (.bool true) ∧ Below w.heap.size w w' := by
  have hm := h.most
  have hcap := h.cap
  have A0 := Lib.hid (Since.refl w)
  by_cases hn : n ≤ 2100
  case neg =>
    have G := Lib.hid fun W => great_yes A n c W (by omega)
    clear h
    go_enter Try.func15, Try.ntmps15
    go_wp2_with fail
    refine (alive17b _).mono ?_
    rintro e w1 ⟨rfl, hb1⟩
    have A1 := Lib.hid (show Since w w1 from Since.via (by repeat (first | with_reducible exact A0.out | with_reducible exact Since.refl _ | with_reducible refine Since.alloc ?_ _ | with_reducible refine Since.setCell ?_ (by first | omega | (simp; done) | (simp; omega)) _ | with_reducible refine Since.drew ?_ | with_reducible refine Since.drewN ?_ _)) hb1)
    have s1 := A1.out.size
    clear hb1
    go_wp2_with fail
    refine (G.out _).mono ?_
    rintro e wd ⟨rfl, rfl⟩
    go_wp2
    go_ret
    exact ⟨rfl, (Since.out (by repeat (first | with_reducible exact A1.out | with_reducible exact Since.refl _ | with_reducible refine Since.alloc ?_ _ | with_reducible refine Since.setCell ?_ (by first | omega | (simp; done) | (simp; omega)) _ | with_reducible refine Since.drew ?_ | with_reducible refine Since.drewN ?_ _)))⟩
  have G := Lib.hid fun W => great_no A n c W hn
  by_cases hi : imgOk n
  case neg =>
    have K := Lib.hid fun W => rimg_bad A n c W (by omega) hi
    clear h hi
    go_enter Try.func15, Try.ntmps15
    go_wp2_with fail
    refine (alive17b _).mono ?_
    rintro e w1 ⟨rfl, hb1⟩
    have A1 := Lib.hid (show Since w w1 from Since.via (by repeat (first | with_reducible exact A0.out | with_reducible exact Since.refl _ | with_reducible refine Since.alloc ?_ _ | with_reducible refine Since.setCell ?_ (by first | omega | (simp; done) | (simp; omega)) _ | with_reducible refine Since.drew ?_ | with_reducible refine Since.drewN ?_ _)) hb1)
    have s1 := A1.out.size
    clear hb1
    go_wp2_with fail
    refine (G.out _).mono ?_
    rintro e wd ⟨rfl, rfl⟩
    go_wp2_with fail
    refine (K.out _).mono ?_
    rintro e wd ⟨rfl, rfl⟩
    go_wp2
    go_ret
    exact ⟨rfl, (Since.out (by repeat (first | with_reducible exact A1.out | with_reducible exact Since.refl _ | with_reducible refine Since.alloc ?_ _ | with_reducible refine Since.setCell ?_ (by first | omega | (simp; done) | (simp; omega)) _ | with_reducible refine Since.drew ?_ | with_reducible refine Since.drewN ?_ _)))⟩
  have K := Lib.hid fun W => rimg_ok A n c W (by omega) hi
  have hlen := h.len
  have H0 := Lib.hid h
  have F1 := Lib.hid fun W A c h => lists_any A n c ws W h
  have F2 := Lib.hid fun W A c h => ext_any A n c ws W h
  by_cases he : (allR ws).2 = 0
  case neg =>
    have E1 : listsR ws = ([], (allR ws).2) := by unfold listsR; rw [if_pos he]
    have E2 := extR_err he
    rw [E1] at F1
    rw [E2] at F2
    generalize (allR ws).2 = x at *
    have hx : (x != 0) = true := by simpa using he
    clear E1 E2 h hi hlen he
    go_enter Try.func15, Try.ntmps15
    go_wp2_with fail
    refine (alive17b _).mono ?_
    rintro e w1 ⟨rfl, hb1⟩
    have A1 := Lib.hid (show Since w w1 from Since.via (by repeat (first | with_reducible exact A0.out | with_reducible exact Since.refl _ | with_reducible refine Since.alloc ?_ _ | with_reducible refine Since.setCell ?_ (by first | omega | (simp; done) | (simp; omega)) _ | with_reducible refine Since.drew ?_ | with_reducible refine Since.drewN ?_ _)) hb1)
    have s1 := A1.out.size
    clear hb1
    go_wp2_with fail
    refine (G.out _).mono ?_
    rintro e wd ⟨rfl, rfl⟩
    go_wp2_with fail
    refine (K.out _).mono ?_
    rintro e wd ⟨rfl, rfl⟩
    go_wp2_with fail
    refine (F1.out _ _ _ (H0.out.below (Since.out (by repeat (first | with_reducible exact A1.out | with_reducible exact Since.refl _ | with_reducible refine Since.alloc ?_ _ | with_reducible refine Since.setCell ?_ (by first | omega | (simp; done) | (simp; omega)) _ | with_reducible refine Since.drew ?_ | with_reducible refine Since.drewN ?_ _))))).mono ?_
    rintro e w2 ⟨B1, d1, rfl, hB, hb2⟩
    have A2 := Lib.hid (show Since w w2 from Since.via (by repeat (first | with_reducible exact A1.out | with_reducible exact Since.refl _ | with_reducible refine Since.alloc ?_ _ | with_reducible refine Since.setCell ?_ (by first | omega | (simp; done) | (simp; omega)) _ | with_reducible refine Since.drew ?_ | with_reducible refine Since.drewN ?_ _)) hb2)
    have s2 := A2.out.size
    clear hb2
    go_wp2_with fail
    refine (F2.out _ _ _ (H0.out.below (Since.out (by repeat (first | with_reducible exact A2.out | with_reducible exact Since.refl _ | with_reducible refine Since.alloc ?_ _ | with_reducible refine Since.setCell ?_ (by first | omega | (simp; done) | (simp; omega)) _ | with_reducible refine Since.drew ?_ | with_reducible refine Since.drewN ?_ _))))).mono ?_
    rintro e w3 ⟨B2, d2, rfl, hB2, hb3⟩
    have A3 := Lib.hid (show Since w w3 from Since.via (by repeat (first | with_reducible exact A2.out | with_reducible exact Since.refl _ | with_reducible refine Since.alloc ?_ _ | with_reducible refine Since.setCell ?_ (by first | omega | (simp; done) | (simp; omega)) _ | with_reducible refine Since.drew ?_ | with_reducible refine Since.drewN ?_ _)) hb3)
    have s3 := A3.out.size
    clear hb3
    go_wp2
    go_ret
    exact ⟨rfl, (Since.out (by repeat (first | with_reducible exact A3.out | with_reducible exact Since.refl _ | with_reducible refine Since.alloc ?_ _ | with_reducible refine Since.setCell ?_ (by first | omega | (simp; done) | (simp; omega)) _ | with_reducible refine Since.drew ?_ | with_reducible refine Since.drewN ?_ _)))⟩
  obtain ⟨_, bl, hc, ha, e1⟩ := allR_ok he
  have E1 : listsR ws = (lists (freeL bl), 0) := by unfold listsR; rw [if_neg (by simpa using he), e1]
  have E2 : extR ws = (freeL bl, 0) := by unfold extR; rw [e1]
  rw [E1] at F1
  rw [E2] at F2
  have FC0 : ∀ fl, freeL bl = fl → ∀ k j (hj : j < (clsL k fl).length), ∃ b : Blk, findR ws (clsL k fl)[j] = (b, 0) ∧ b.kind = 2 := by
    rintro _ rfl k j hj; exact find_cls hc e1 hj
  have FI0 : ∀ fl, freeL bl = fl → ∀ k j (hj : j + 1 < (clsL k fl).length), (clsL k fl)[j] < (clsL k fl)[j + 1] := by
    rintro _ rfl k j hj; exact clsL_inc hc k hj
  have FF := Lib.hid fun a W A c h => pfind_any A n c ws a W h
  have hz := (chain_sized (chain_of_seg hc)).free
  have hfl : (freeL bl).length ≤ 1000000 := by have h1 := freeL_len bl; have h2 := allR_le ws; rw [e1] at h2; exact Nat.le_trans h1 h2
  obtain ⟨fl, hfe⟩ : ∃ fl, freeL bl = fl := ⟨_, rfl⟩
  have FC := Lib.hid (FC0 fl hfe)
  have FI := Lib.hid (FI0 fl hfe)
  rw [hfe] at F1 F2 hz hfl
  have HZ := Lib.hid hz
  have H00 := Lib.hid (clsL_zero hz)
  have F1' := Lib.hid fun W A c h => (F1.out W A c h).mono fun _ _ hh => RowsEnd.eleven hh
  clear h hi hlen he hc ha e1 E1 E2 hz hfe FC0 FI0 F1
  go_enter Try.func15, Try.ntmps15
  go_wp2_with fail
  refine (alive17b _).mono ?_
  rintro e w1 ⟨rfl, hb1⟩
  have A1 := Lib.hid (show Since w w1 from Since.via (by repeat (first | with_reducible exact A0.out | with_reducible exact Since.refl _ | with_reducible refine Since.alloc ?_ _ | with_reducible refine Since.setCell ?_ (by first | omega | (simp; done) | (simp; omega)) _ | with_reducible refine Since.drew ?_ | with_reducible refine Since.drewN ?_ _)) hb1)
  have s1 := A1.out.size
  clear hb1
  go_wp2_with fail
  refine (G.out _).mono ?_
  rintro e wd ⟨rfl, rfl⟩
  go_wp2_with fail
  refine (K.out _).mono ?_
  rintro e wd ⟨rfl, rfl⟩
  go_wp2_with fail
  refine (F1'.out _ _ _ (H0.out.below (Since.out (by repeat (first | with_reducible exact A1.out | with_reducible exact Since.refl _ | with_reducible refine Since.alloc ?_ _ | with_reducible refine Since.setCell ?_ (by first | omega | (simp; done) | (simp; omega)) _ | with_reducible refine Since.drew ?_ | with_reducible refine Since.drewN ?_ _))))).mono ?_
  rintro e w2 ⟨B1, d1, rfl, hB, hb2⟩
  have A2 := Lib.hid (show Since w w2 from Since.via (by repeat (first | with_reducible exact A1.out | with_reducible exact Since.refl _ | with_reducible refine Since.alloc ?_ _ | with_reducible refine Since.setCell ?_ (by first | omega | (simp; done) | (simp; omega)) _ | with_reducible refine Since.drew ?_ | with_reducible refine Since.drewN ?_ _)) hb2)
  have s2 := A2.out.size
  have L2 := Lib.hid hB
  clear hB
  clear hb2
  go_wp2_with fail
  refine (F2.out _ _ _ (H0.out.below (Since.out (by repeat (first | with_reducible exact A2.out | with_reducible exact Since.refl _ | with_reducible refine Since.alloc ?_ _ | with_reducible refine Since.setCell ?_ (by first | omega | (simp; done) | (simp; omega)) _ | with_reducible refine Since.drew ?_ | with_reducible refine Since.drewN ?_ _))))).mono ?_
  rintro e w3 ⟨B2, d2, rfl, hB, hb3⟩
  have A3 := Lib.hid (show Since w w3 from Since.via (by repeat (first | with_reducible exact A2.out | with_reducible exact Since.refl _ | with_reducible refine Since.alloc ?_ _ | with_reducible refine Since.setCell ?_ (by first | omega | (simp; done) | (simp; omega)) _ | with_reducible refine Since.drew ?_ | with_reducible refine Since.drewN ?_ _)) hb3)
  have s3 := A3.out.size
  have B3 := Lib.hid (show Since w2 w3 from Since.via (by repeat (first | with_reducible exact Since.refl _ | with_reducible refine Since.alloc ?_ _ | with_reducible refine Since.setCell ?_ (by first | omega | (simp; done) | (simp; omega)) _ | with_reducible refine Since.drew ?_ | with_reducible refine Since.drewN ?_ _)) hb3)
  have L3 := Lib.hid (L2.out.below B3.out)
  have M3 := Lib.hid hB
  clear hB
  clear hb3
  obtain ⟨g, o, rfl, hg⟩ := L3.out.at_ (by omega)
  have hcapL := L3.out.cap
  have hmostL := L3.out.most
  have hcapM := M3.out.cap
  have hmostM := M3.out.most
  obtain ⟨A0', k0, hc0, hI0⟩ := L3.out.cls (k := 0) (by omega)
  rw [H00.out] at hc0
  simp only [Nat.add_zero, List.length_nil] at hc0
  clear hI0
  go_wp2
  go_loopw [9] (fun t wr => AllRel fl w3.heap.size w3 t wr) (fun t _ => fl.length - (intOf t).toNat)
  case atStart =>
    refine ⟨0, rfl, Nat.zero_le _, ?_, Since.alloc (Since.refl _) _⟩
    rw [cnts_zero]
    exact Cells.new _ _ _
  case round =>
    obtain ⟨i, rfl, hi, hX, hnx⟩ := hrel
    obtain ⟨w4, hw4⟩ : ∃ x, x = wr := ⟨_, rfl⟩
    subst hw4
    have C4 := Lib.hid hnx
    have A4 := Lib.hid (Since.trans A3.out hnx)
    have L4 := Lib.hid (L3.out.below hnx)
    have M4 := Lib.hid (M3.out.below hnx)
    have X4 := Lib.hid hX
    have s4 := C4.out.size
    have z4 := X4.out.lt
    clear hnx hX
    by_cases hlt : i < fl.length
    · obtain ⟨g2, o2, rfl, hg2⟩ := M4.out.at_ (by omega)
      obtain ⟨b0, b1, _, _, _, _⟩ := M4.out.same hlt
      obtain ⟨hs2, hs19⟩ := HZ.out.get hlt
      obtain ⟨q, hq⟩ : ∃ q, cls fl[i] = q := ⟨_, rfl⟩
      have hcl := cls_range HZ.out hlt
      obtain ⟨hn, hel⟩ := clsL_at hlt hq
      have ST := Lib.hid (cnts_step hlt)
      rw [hq] at hcl ST
      have CO := Lib.hid fun W => class_ok fl[i].size.toNat W (by omega) (by omega)
      have hq2 : Nat.log2 fl[i].size.toNat = q := hq
      rw [hq2] at CO
      obtain ⟨B5, k5, hc5, hI5⟩ := L4.out.cls (k := q) (by omega)
      have hcn := cnts_get fl i (k := q) (by omega)
      obtain ⟨cn, hcn2⟩ : ∃ cn, (clsL q (fl.take i)).length = cn := ⟨_, rfl⟩
      rw [hcn2] at hcn ST
      have hn' : cn < (clsL q fl).length := by rw [← hcn2]; exact hn
      have hel' : (clsL q fl)[cn] = fl[i].at_ := by rw [← hel]; congr 1; exact hcn2.symm
      have hxc := X4.out.cell q
      rw [List.getElem?_toArray, List.getElem?_map, hcn] at hxc
      simp only [Option.map_some, iv] at hxc
      have hxf := X4.out.frozen q
      obtain ⟨b5, p5, rfl, hb5⟩ := hI5.at_ (by omega)
      have he5 := hI5.same hn'
      rw [hel'] at he5
      have hcap5 := hI5.cap
      have hmost5 := hI5.most
      obtain ⟨S, hS⟩ := Int.eq_ofNat_of_zero_le (show 0 ≤ fl[i].size by omega)
      rw [hS, Int.toNat_natCast] at CO
      rw [hS] at b1
      have XN := Lib.hid (show ∀ W, Cells W w3.heap.size 70 (((cnts fl i).map iv).toArray) → Cells (W.setCell ⟨w3.heap.size, q, none⟩ (.int .i64 ((cn : Int) + 1))) w3.heap.size 70 (((cnts fl (i + 1)).map iv).toArray) from fun W h => by
        have := h.set_ q (iv ((cn : Int) + 1))
        rw [ST.out, List.map_set]
        rw [List.setIfInBounds_toArray] at this
        exact this)
      generalize fl[i].at_ = ba at *
      generalize hzs : clsL q fl = zs at *
      have hq1 : 1 ≤ q := hcl.1
      have hq10 : q ≤ 10 := hcl.2
      clear hn hel hS hq hq2 hcn hcn2 hel' hzs hI5 ST hcl
      have d1 : decide ((q : Int) < 1) = false := by simp; omega
      have d2 : decide (10 < (q : Int)) = false := by simp; omega
      have d3 : decide ((zs.length : Int) ≤ (cn : Int)) = false := by simp; omega
      have d4 : decide (zs.length ≤ cn) = false := by simp; omega
      have q11 : q < 11 := by omega
      have qi : (q : Int) < 11 := by omega
      have q0 : (0 : Int) ≤ (q : Int) := by omega
      have ci : (cn : Int) < (zs.length : Int) := by omega
      have c0 : (0 : Int) ≤ (cn : Int) := by omega
      have cb : cn < 9223372036854775807 := by omega
      go_wp2_with fail
      refine (CO.out _).mono ?_
      rintro e wd ⟨rfl, rfl⟩
      go_wp2_with fail
      go_quiet (fail)
      go_wp2
      go_roundw
      case rel => exact ⟨i + 1, by go_num, by omega, XN.out _ (Cells.drewN X4.out _), Since.setCell (Since.drewN C4.out _) (Nat.le_refl _) _⟩
      case measure => simp [intOf]; omega
    · obtain rfl : i = fl.length := by omega
      have XE : ∀ k, k < 11 → (((cnts fl fl.length).map iv).toArray)[k]? = some (.int .i64 ((clsL k fl).length : Int)) := fun k hk => by
        rw [List.getElem?_toArray, List.getElem?_map, cnts_get _ _ hk, List.take_length]; rfl
      have HXE := Lib.hid XE
      clear XE
      generalize ((cnts fl fl.length).map iv).toArray = arr at *
      go_wp2
      go_loopw [12] (fun t wr => ∃ k : Nat, t = .int .i64 k ∧ k ≤ 11 ∧ Cells wr w3.heap.size 70 arr ∧ Since w3 wr) (fun t _ => 11 - (intOf t).toNat)
      case atStart => exact ⟨0, rfl, by omega, X4.out, C4.out⟩
      case round =>
        obtain ⟨k, rfl, hk, hX, hnx⟩ := hrel
        obtain ⟨w5, hw5⟩ : ∃ x, x = wr := ⟨_, rfl⟩
        subst hw5
        have C5 := Lib.hid hnx
        have A5 := Lib.hid (Since.trans A3.out hnx)
        have L5 := Lib.hid (L3.out.below hnx)
        have X5 := Lib.hid hX
        have s5 := C5.out.size
        have z5 := X5.out.lt
        clear hnx hX
        by_cases hk11 : k < 11
        · obtain ⟨B6, k6, hc6, hI6⟩ := L5.out.cls (k := k) hk11
          have hx6 := X5.out.cell k
          rw [HXE.out k hk11] at hx6
          obtain ⟨zs, hzs0⟩ : ∃ zs, clsL k fl = zs := ⟨_, rfl⟩
          have hzs := Lib.hid hzs0
          rw [hzs0] at hc6 hI6 hx6
          clear hzs0
          have I6 := Lib.hid hI6
          have hcap6 := hI6.cap
          have hmost6 := hI6.most
          have hzl : zs.length ≤ 1000000 := by have := clsL_len k fl; rw [hzs.out] at this; omega
          clear hI6
          have k10 : (k : Int) ≤ 10 := by omega
          have ki : (k : Int) < 11 := by omega
          have k0' : (0 : Int) ≤ (k : Int) := by omega
          go_wp2_with fail
          go_quiet (fail)
          go_wp2
          go_loopw [13] (fun t wr => ∃ j : Nat, t = .int .i64 j ∧ j ≤ zs.length ∧ Cells wr w3.heap.size 70 arr ∧ Since w5 wr) (fun t _ => zs.length - (intOf t).toNat)
          case atStart => exact ⟨0, rfl, Nat.zero_le _, Cells.drewN X5.out _, Since.drewN (Since.refl _) _⟩
          case round =>
            obtain ⟨j, rfl, hj, hX, hnx⟩ := hrel
            obtain ⟨w6, hw6⟩ : ∃ x, x = wr := ⟨_, rfl⟩
            subst hw6
            have C6 := Lib.hid hnx
            have A6 := Lib.hid (Since.trans A5.out hnx)
            have X6 := Lib.hid hX
            have I6' := Lib.hid (I6.out.below hnx)
            have e6 : w6.cell? ⟨g, o + k, none⟩ = some (.slice B6 zs.length k6) := (hnx.out.cell (p := ⟨g, o + k, none⟩) (by show g < _; omega)).trans hc6
            have s6 := C6.out.size
            clear hnx hX
            by_cases hjl : j < zs.length
            · obtain ⟨g7, o7, rfl, hg7⟩ := I6'.out.at_ (by omega)
              have f6 := I6'.out.same hjl
              obtain ⟨b, hfd, hbk⟩ := FC.out k j (by rw [hzs.out]; exact hjl)
              have hfd2 : findR ws zs[j] = (b, 0) := by simpa only [hzs.out] using hfd
              have FJ := Lib.hid (FF.out zs[j])
              simp only [hfd2] at FJ
              obtain ⟨ba, bs, bk, bt, bm, bn⟩ := b
              simp only at hbk
              subst hbk
              have ji : (j : Int) < (zs.length : Int) := by omega
              clear hfd hfd2
              rcases j with _ | j
              · simp only [Nat.add_zero] at f6
                go_wp2_with fail
                refine (FJ.out _ _ _ (H0.out.below (Since.out (by repeat (first | with_reducible exact A6.out | with_reducible exact Since.refl _ | with_reducible refine Since.alloc ?_ _ | with_reducible refine Since.setCell ?_ (by first | omega | (simp; done) | (simp; omega)) _ | with_reducible refine Since.drew ?_ | with_reducible refine Since.drewN ?_ _))))).mono ?_
                rintro e w7 ⟨rfl, hb7⟩
                have A7 := Lib.hid (show Since w w7 from Since.via (by repeat (first | with_reducible exact A6.out | with_reducible exact Since.refl _ | with_reducible refine Since.alloc ?_ _ | with_reducible refine Since.setCell ?_ (by first | omega | (simp; done) | (simp; omega)) _ | with_reducible refine Since.drew ?_ | with_reducible refine Since.drewN ?_ _)) hb7)
                have s7 := A7.out.size
                have B7 := Lib.hid (show Since w6 w7 from Since.via (by repeat (first | with_reducible exact Since.refl _ | with_reducible refine Since.alloc ?_ _ | with_reducible refine Since.setCell ?_ (by first | omega | (simp; done) | (simp; omega)) _ | with_reducible refine Since.drew ?_ | with_reducible refine Since.drewN ?_ _)) hb7)
                clear hb7
                have I7 := Lib.hid (I6'.out.below B7.out)
                have e7 : w7.cell? ⟨g, o + k, none⟩ = some (.slice (some ⟨g7, o7, none⟩) zs.length k6) := (B7.out.out.cell (p := ⟨g, o + k, none⟩) (by show g < _; omega)).trans e6
                clear e6 f6
                have d0 : decide ((0 : Int) < 0) = false := by decide
                go_wp2_with fail
                go_quiet (fail)
                go_wp2
                go_roundw
                case rel => exact ⟨1, by go_num, by omega, Cells.drewN ((X6.out.kept B7.out).alloc _) _, Since.drewN (Since.alloc (Since.trans C6.out B7.out) _) _⟩
                case measure => simp [intOf]; omega
              · have hj2 : j + 1 < zs.length := hjl
                go_wp2_with fail
                refine (FJ.out _ _ _ (H0.out.below (Since.out (by repeat (first | with_reducible exact A6.out | with_reducible exact Since.refl _ | with_reducible refine Since.alloc ?_ _ | with_reducible refine Since.setCell ?_ (by first | omega | (simp; done) | (simp; omega)) _ | with_reducible refine Since.drew ?_ | with_reducible refine Since.drewN ?_ _))))).mono ?_
                rintro e w7 ⟨rfl, hb7⟩
                have A7 := Lib.hid (show Since w w7 from Since.via (by repeat (first | with_reducible exact A6.out | with_reducible exact Since.refl _ | with_reducible refine Since.alloc ?_ _ | with_reducible refine Since.setCell ?_ (by first | omega | (simp; done) | (simp; omega)) _ | with_reducible refine Since.drew ?_ | with_reducible refine Since.drewN ?_ _)) hb7)
                have s7 := A7.out.size
                have B7 := Lib.hid (show Since w6 w7 from Since.via (by repeat (first | with_reducible exact Since.refl _ | with_reducible refine Since.alloc ?_ _ | with_reducible refine Since.setCell ?_ (by first | omega | (simp; done) | (simp; omega)) _ | with_reducible refine Since.drew ?_ | with_reducible refine Since.drewN ?_ _)) hb7)
                clear hb7
                have I7 := Lib.hid (I6'.out.below B7.out)
                have e7 : w7.cell? ⟨g, o + k, none⟩ = some (.slice (some ⟨g7, o7, none⟩) zs.length k6) := (B7.out.out.cell (p := ⟨g, o + k, none⟩) (by show g < _; omega)).trans e6
                clear e6 f6
                have t7 := B7.out.size
                have hgw7 : g < w7.heap.size := by omega
                have hg7w : g7 < w7.heap.size := by omega
                have d0 : decide ((0 : Int) < (j : Int) + 1) = true := by simp
                have d1 : IntKind.i64.wrap ((j : Int) + 1 - 1) = (j : Int) := by rw [IntKind.wrap_i64]; omega
                have hin := FI.out k j (by rw [hzs.out]; exact hj2)
                have hin2 : zs[j] < zs[j + 1] := by simpa only [hzs.out] using hin
                have y0 := I7.out.same (j := j) (by omega)
                have y1 := I7.out.same hj2
                have d2 : decide (zs[j + 1] ≤ zs[j]) = false := by simp; omega
                have jb : (j : Int) < (zs.length : Int) := by omega
                have jb1 : (j : Int) + 1 < (zs.length : Int) := by omega
                have jb0 : (0 : Int) ≤ (j : Int) := by omega
                clear hin hin2
                go_wp2_with fail
                go_quiet (fail)
                go_wp2
                go_roundw
                case rel => exact ⟨j + 2, by go_num, by omega, Cells.drewN ((X6.out.kept B7.out).alloc _) _, Since.drewN (Since.alloc (Since.trans C6.out B7.out) _) _⟩
                case measure => simp [intOf]; omega
            · obtain rfl : j = zs.length := by omega
              go_wp2
              go_roundw
              case rel => exact ⟨k + 1, by go_num, by omega, X6.out, Since.trans C5.out C6.out⟩
              case measure => simp [intOf]; omega
        · obtain rfl : k = 11 := by omega
          go_wp2
          go_ret
          exact ⟨rfl, (Since.out (by repeat (first | with_reducible exact A5.out | with_reducible exact Since.refl _ | with_reducible refine Since.alloc ?_ _ | with_reducible refine Since.setCell ?_ (by first | omega | (simp; done) | (simp; omega)) _ | with_reducible refine Since.drew ?_ | with_reducible refine Since.drewN ?_ _)))⟩
end Go.Proofs.Ytoifalgkeegklaa
