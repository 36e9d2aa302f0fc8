/- The law that no two free extents are side by side, walked. -/
import Derived.Test.YtoifalgkeegklaaAlive16
import Derived.Test.YtoifalgkeegklaaBlkEq
import Derived.Test.YtoifalgkeegklaaLaw15
namespace Go.Proofs.Ytoifalgkeegklaa
open Go.RowKit

/-- The free one with an index. -/
theorem free_at {l : List Blk} {k : Nat} (h : k < l.length) (hk : l[k].kind = 2) : ∃ hn : (freeL (l.take k)).length < (freeL l).length, (freeL l)[(freeL (l.take k)).length] = l[k] := by
  have e : freeL l = freeL (l.take k) ++ (l[k] :: freeL (l.drop (k + 1))) := by
    conv => lhs; rw [← List.take_append_drop k l, List.drop_eq_getElem_cons h]
    unfold freeL
    rw [List.filter_append, List.filter_cons]
    simp [hk]
  have hn : (freeL (l.take k)).length < (freeL l).length := by rw [e]; simp
  refine ⟨hn, ?_⟩
  have : (freeL l)[(freeL (l.take k)).length]? = some l[k] := by
    rw [e, List.getElem?_append_right (Nat.le_refl _), Nat.sub_self]; rfl
  rw [List.getElem?_eq_getElem hn] at this
  injection this
theorem apart {l : List Blk} (h : side l = false) {j : Nat} (hj : j + 1 < l.length) (h1 : l[j].kind = 2) (h2 : l[j + 1].kind = 2) : False := by
  have := side_of (l := l) (i := j + 2) (by omega) (by rw [sideF_step l j hj, h1, h2]; simp)
  rw [h] at this; cases this
theorem chain_pos {ws : List Nat} {l : List Blk} {a : Nat} (h : Chain ws a l) : ∀ i, i ≤ l.length → posn a l i ≤ ws.length := fun i hi => by
  rcases Nat.lt_or_ge i l.length with hl | hl
  · have := (chain_at h hl).2.1; omega
  · obtain rfl : i = l.length := by omega
    rw [chain_end h]; exact Nat.le_refl _

def ApartRel (bl fl : List Blk) (w4 : World) (sm nx gr la t : Value) (wr : World) : Prop :=
  ∃ (k j p : Nat) (x y f : Int) (z : Bool), t = .int .i64 k ∧ nx = .int .i64 j ∧ sm = .int .i64 x ∧ gr = .int .i64 y ∧ la = .bool z ∧ k ≤ bl.length ∧ j ≤ fl.length ∧ Hid ((freeL (bl.take k)).length = j) ∧ Hid (posn 128 bl k = p) ∧ Hid (sumF fl j = f) ∧ x + f = (p : Int) - 128 ∧ p ≤ 2048 ∧ 0 ≤ x ∧ 0 ≤ f ∧
    Hid (maxF fl j = y) ∧ 0 ≤ y ∧ y ≤ 1920 ∧ Hid (z = true → ∃ (m : Nat) (hm : m < bl.length), k = m + 1 ∧ bl[m].kind = 2) ∧ Since w4 wr

set_option maxRecDepth 100000 in
set_option maxHeartbeats 8000000 in
theorem walkExtentsApart (A : Option Addr) (n c : Nat) (ws : List Nat) (w : World) (h : Words w A n c ws) :
    Calls Try.prog 9 #[.slice A n c] w fun e w' => e = .returned (.bool true) ∧ Below w.heap.size w w' := by
  have hm := h.most
  have hcap := h.cap
  have A0 := Lib.hid (Since.refl w)
  by_cases hn : n ≤ 2100
  case neg =>
    have G := Lib.hid fun W => great_yes A n c W (by omega)
    clear h
    go_enter Try.func9, Try.ntmps9
    go_wp2_with fail
    refine (alive16 _).mono ?_
    rintro e w1 ⟨rfl, hb1⟩
    have A1 := Lib.hid (show Since w w1 from Since.via (by repeat (first | with_reducible exact A0.out | with_reducible exact Since.refl _ | with_reducible refine Since.alloc ?_ _ | with_reducible refine Since.setCell ?_ (by first | omega | (simp; done) | (simp; omega)) _ | with_reducible refine Since.drew ?_ | with_reducible refine Since.drewN ?_ _)) hb1)
    have s1 := A1.out.size
    clear hb1
    go_wp2_with fail
    refine (G.out _).mono ?_
    rintro e wd ⟨rfl, rfl⟩
    go_wp2
    go_ret
    exact ⟨rfl, (Since.out (by repeat (first | with_reducible exact A1.out | with_reducible exact Since.refl _ | with_reducible refine Since.alloc ?_ _ | with_reducible refine Since.setCell ?_ (by first | omega | (simp; done) | (simp; omega)) _ | with_reducible refine Since.drew ?_ | with_reducible refine Since.drewN ?_ _)))⟩
  have G := Lib.hid fun W => great_no A n c W hn
  by_cases hi : imgOk n
  case neg =>
    have K := Lib.hid fun W => rimg_bad A n c W (by omega) hi
    clear h hi
    go_enter Try.func9, Try.ntmps9
    go_wp2_with fail
    refine (alive16 _).mono ?_
    rintro e w1 ⟨rfl, hb1⟩
    have A1 := Lib.hid (show Since w w1 from Since.via (by repeat (first | with_reducible exact A0.out | with_reducible exact Since.refl _ | with_reducible refine Since.alloc ?_ _ | with_reducible refine Since.setCell ?_ (by first | omega | (simp; done) | (simp; omega)) _ | with_reducible refine Since.drew ?_ | with_reducible refine Since.drewN ?_ _)) hb1)
    have s1 := A1.out.size
    clear hb1
    go_wp2_with fail
    refine (G.out _).mono ?_
    rintro e wd ⟨rfl, rfl⟩
    go_wp2_with fail
    refine (K.out _).mono ?_
    rintro e wd ⟨rfl, rfl⟩
    go_wp2
    go_ret
    exact ⟨rfl, (Since.out (by repeat (first | with_reducible exact A1.out | with_reducible exact Since.refl _ | with_reducible refine Since.alloc ?_ _ | with_reducible refine Since.setCell ?_ (by first | omega | (simp; done) | (simp; omega)) _ | with_reducible refine Since.drew ?_ | with_reducible refine Since.drewN ?_ _)))⟩
  have K := Lib.hid fun W => rimg_ok A n c W (by omega) hi
  have hlen := h.len
  have H0 := Lib.hid h
  have F1 := Lib.hid fun W A c h => ext_any A n c ws W h
  have F2 := Lib.hid fun W A c h => words_any A n c ws W h
  have F3 := Lib.hid fun W A c h => all_any A n c ws W h
  by_cases he : (allR ws).2 = 0
  case neg =>
    have E1 := extR_err he
    have E2 := allR_err he
    rw [E1] at F1
    rw [E2] at F3
    generalize (allR ws).2 = x at *
    have hx : (x != 0) = true := by simpa using he
    clear E1 E2 h hi he hlen
    go_enter Try.func9, Try.ntmps9
    go_wp2_with fail
    refine (alive16 _).mono ?_
    rintro e w1 ⟨rfl, hb1⟩
    have A1 := Lib.hid (show Since w w1 from Since.via (by repeat (first | with_reducible exact A0.out | with_reducible exact Since.refl _ | with_reducible refine Since.alloc ?_ _ | with_reducible refine Since.setCell ?_ (by first | omega | (simp; done) | (simp; omega)) _ | with_reducible refine Since.drew ?_ | with_reducible refine Since.drewN ?_ _)) hb1)
    have s1 := A1.out.size
    have B1 := Lib.hid (show Since w w1 from Since.via (by repeat (first | with_reducible exact Since.refl _ | with_reducible refine Since.alloc ?_ _ | with_reducible refine Since.setCell ?_ (by first | omega | (simp; done) | (simp; omega)) _ | with_reducible refine Since.drew ?_ | with_reducible refine Since.drewN ?_ _)) hb1)
    have H1 := Lib.hid (H0.out.below B1.out)
    clear hb1
    go_wp2_with fail
    refine (G.out _).mono ?_
    rintro e wd ⟨rfl, rfl⟩
    go_wp2_with fail
    refine (K.out _).mono ?_
    rintro e wd ⟨rfl, rfl⟩
    go_wp2_with fail
    refine (F1.out _ _ _ (H1.out.below (Since.out (by repeat (first | with_reducible exact Since.refl _ | with_reducible refine Since.alloc ?_ _ | with_reducible refine Since.setCell ?_ (by first | omega | (simp; done) | (simp; omega)) _ | with_reducible refine Since.drew ?_ | with_reducible refine Since.drewN ?_ _))))).mono ?_
    rintro e w2 ⟨B1, d1, rfl, hB, hb2⟩
    have A2 := Lib.hid (show Since w w2 from Since.via (by repeat (first | with_reducible exact A1.out | with_reducible exact Since.refl _ | with_reducible refine Since.alloc ?_ _ | with_reducible refine Since.setCell ?_ (by first | omega | (simp; done) | (simp; omega)) _ | with_reducible refine Since.drew ?_ | with_reducible refine Since.drewN ?_ _)) hb2)
    have s2 := A2.out.size
    have B2 := Lib.hid (show Since w1 w2 from Since.via (by repeat (first | with_reducible exact Since.refl _ | with_reducible refine Since.alloc ?_ _ | with_reducible refine Since.setCell ?_ (by first | omega | (simp; done) | (simp; omega)) _ | with_reducible refine Since.drew ?_ | with_reducible refine Since.drewN ?_ _)) hb2)
    have H2 := Lib.hid (H1.out.below B2.out)
    clear hb2
    go_wp2_with fail
    refine (F2.out _ _ _ (H2.out.below (Since.out (by repeat (first | with_reducible exact Since.refl _ | with_reducible refine Since.alloc ?_ _ | with_reducible refine Since.setCell ?_ (by first | omega | (simp; done) | (simp; omega)) _ | with_reducible refine Since.drew ?_ | with_reducible refine Since.drewN ?_ _))))).mono ?_
    rintro e w3 ⟨rfl, hb3⟩
    have A3 := Lib.hid (show Since w w3 from Since.via (by repeat (first | with_reducible exact A2.out | with_reducible exact Since.refl _ | with_reducible refine Since.alloc ?_ _ | with_reducible refine Since.setCell ?_ (by first | omega | (simp; done) | (simp; omega)) _ | with_reducible refine Since.drew ?_ | with_reducible refine Since.drewN ?_ _)) hb3)
    have s3 := A3.out.size
    have B3 := Lib.hid (show Since w2 w3 from Since.via (by repeat (first | with_reducible exact Since.refl _ | with_reducible refine Since.alloc ?_ _ | with_reducible refine Since.setCell ?_ (by first | omega | (simp; done) | (simp; omega)) _ | with_reducible refine Since.drew ?_ | with_reducible refine Since.drewN ?_ _)) hb3)
    have H3 := Lib.hid (H2.out.below B3.out)
    clear hb3
    go_wp2_with fail
    refine (F3.out _ _ _ (H3.out.below (Since.out (by repeat (first | with_reducible exact Since.refl _ | with_reducible refine Since.alloc ?_ _ | with_reducible refine Since.setCell ?_ (by first | omega | (simp; done) | (simp; omega)) _ | with_reducible refine Since.drew ?_ | with_reducible refine Since.drewN ?_ _))))).mono ?_
    rintro e w4 ⟨B2, d2, rfl, hB2, hb4⟩
    have A4 := Lib.hid (show Since w w4 from Since.via (by repeat (first | with_reducible exact A3.out | with_reducible exact Since.refl _ | with_reducible refine Since.alloc ?_ _ | with_reducible refine Since.setCell ?_ (by first | omega | (simp; done) | (simp; omega)) _ | with_reducible refine Since.drew ?_ | with_reducible refine Since.drewN ?_ _)) hb4)
    have s4 := A4.out.size
    clear hb4
    go_wp2
    go_ret
    exact ⟨rfl, (Since.out (by repeat (first | with_reducible exact A4.out | with_reducible exact Since.refl _ | with_reducible refine Since.alloc ?_ _ | with_reducible refine Since.setCell ?_ (by first | omega | (simp; done) | (simp; omega)) _ | with_reducible refine Since.drew ?_ | with_reducible refine Since.drewN ?_ _)))⟩
  obtain ⟨bl, hsd, hc, e1⟩ : ∃ l, side l = false ∧ Chain ws 128 l ∧ allR ws = (l, 0) := by
    rcases allR_cases ws with ⟨_, e⟩ | ⟨_, _, e⟩ | ⟨l, _, _, _, e⟩ | ⟨l, _, h2, h3, h4, _, e⟩
    · rw [e] at he; exact absurd he (by decide)
    · rw [e] at he; exact absurd he (by decide)
    · rw [e] at he; exact absurd he (by decide)
    · exact ⟨l, h3, h4, e⟩
  have E3 : extR ws = (freeL bl, 0) := by unfold extR; rw [e1]
  have hw : wordsR ws = (sumF (freeL bl) (freeL bl).length, maxF (freeL bl) (freeL bl).length) := by unfold wordsR; rw [E3]
  have hz := chain_sized hc
  have hcl := chain_le hc
  have hend := chain_end hc
  rw [hlen] at hcl hend
  have hn2 : n ≤ 2048 := hi.2.1
  rw [E3] at F1
  simp only [e1, hw] at F2 F3
  have HC := Lib.hid hc
  have HN := Lib.hid hlen
  have HE := Lib.hid hend
  have HSD := Lib.hid hsd
  have HZ := Lib.hid hz
  have FA0 : ∀ fl, freeL bl = fl → ∀ k (h : k < bl.length) (_ : bl[k].kind = 2), ∃ hn : (freeL (bl.take k)).length < fl.length, fl[(freeL (bl.take k)).length] = bl[k] := by
    rintro _ rfl k h hk
    exact free_at h hk
  have FYL := Lib.hid fun k (h : k < bl.length) (hk : bl[k].kind = 2) => congrArg List.length (freeL_yes h hk)
  have FNL := Lib.hid fun k (h : k < bl.length) (hk : bl[k].kind ≠ 2) => congrArg List.length (freeL_no h hk)
  have FLL := Lib.hid (show (freeL (bl.take bl.length)).length = (freeL bl).length by rw [List.take_length])
  have HFZ := Lib.hid hz.free
  have hfl := freeL_len bl
  obtain ⟨fl, hfl2⟩ : ∃ fl, freeL bl = fl := ⟨_, rfl⟩
  rw [hfl2] at F1 F2 FLL HFZ hfl
  have FA := Lib.hid (FA0 fl hfl2)
  obtain ⟨sm, hsm⟩ : ∃ x, sumF fl fl.length = x := ⟨_, rfl⟩
  obtain ⟨mx, hmx⟩ : ∃ x, maxF fl fl.length = x := ⟨_, rfl⟩
  simp only [hsm, hmx] at F2
  have HSM := Lib.hid hsm
  have HMX := Lib.hid hmx
  clear FA0 hsd hc he hi e1 E3 hw h hlen hend hz hfl2 hsm hmx
  go_enter Try.func9, Try.ntmps9
  go_wp2_with fail
  refine (alive16 _).mono ?_
  rintro e w1 ⟨rfl, hb1⟩
  have A1 := Lib.hid (show Since w w1 from Since.via (by repeat (first | with_reducible exact A0.out | with_reducible exact Since.refl _ | with_reducible refine Since.alloc ?_ _ | with_reducible refine Since.setCell ?_ (by first | omega | (simp; done) | (simp; omega)) _ | with_reducible refine Since.drew ?_ | with_reducible refine Since.drewN ?_ _)) hb1)
  have s1 := A1.out.size
  have B1 := Lib.hid (show Since w w1 from Since.via (by repeat (first | with_reducible exact Since.refl _ | with_reducible refine Since.alloc ?_ _ | with_reducible refine Since.setCell ?_ (by first | omega | (simp; done) | (simp; omega)) _ | with_reducible refine Since.drew ?_ | with_reducible refine Since.drewN ?_ _)) hb1)
  have H1 := Lib.hid (H0.out.below B1.out)
  clear hb1
  go_wp2_with fail
  refine (G.out _).mono ?_
  rintro e wd ⟨rfl, rfl⟩
  go_wp2_with fail
  refine (K.out _).mono ?_
  rintro e wd ⟨rfl, rfl⟩
  go_wp2_with fail
  refine (F1.out _ _ _ (H1.out.below (Since.out (by repeat (first | with_reducible exact Since.refl _ | with_reducible refine Since.alloc ?_ _ | with_reducible refine Since.setCell ?_ (by first | omega | (simp; done) | (simp; omega)) _ | with_reducible refine Since.drew ?_ | with_reducible refine Since.drewN ?_ _))))).mono ?_
  rintro e w2 ⟨B1, d1, rfl, hB, hb2⟩
  have A2 := Lib.hid (show Since w w2 from Since.via (by repeat (first | with_reducible exact A1.out | with_reducible exact Since.refl _ | with_reducible refine Since.alloc ?_ _ | with_reducible refine Since.setCell ?_ (by first | omega | (simp; done) | (simp; omega)) _ | with_reducible refine Since.drew ?_ | with_reducible refine Since.drewN ?_ _)) hb2)
  have s2 := A2.out.size
  have B2 := Lib.hid (show Since w1 w2 from Since.via (by repeat (first | with_reducible exact Since.refl _ | with_reducible refine Since.alloc ?_ _ | with_reducible refine Since.setCell ?_ (by first | omega | (simp; done) | (simp; omega)) _ | with_reducible refine Since.drew ?_ | with_reducible refine Since.drewN ?_ _)) hb2)
  have H2 := Lib.hid (H1.out.below B2.out)
  have M2 := Lib.hid hB
  clear hB
  clear hb2
  go_wp2_with fail
  refine (F2.out _ _ _ (H2.out.below (Since.out (by repeat (first | with_reducible exact Since.refl _ | with_reducible refine Since.alloc ?_ _ | with_reducible refine Since.setCell ?_ (by first | omega | (simp; done) | (simp; omega)) _ | with_reducible refine Since.drew ?_ | with_reducible refine Since.drewN ?_ _))))).mono ?_
  rintro e w3 ⟨rfl, hb3⟩
  have A3 := Lib.hid (show Since w w3 from Since.via (by repeat (first | with_reducible exact A2.out | with_reducible exact Since.refl _ | with_reducible refine Since.alloc ?_ _ | with_reducible refine Since.setCell ?_ (by first | omega | (simp; done) | (simp; omega)) _ | with_reducible refine Since.drew ?_ | with_reducible refine Since.drewN ?_ _)) hb3)
  have s3 := A3.out.size
  have B3 := Lib.hid (show Since w2 w3 from Since.via (by repeat (first | with_reducible exact Since.refl _ | with_reducible refine Since.alloc ?_ _ | with_reducible refine Since.setCell ?_ (by first | omega | (simp; done) | (simp; omega)) _ | with_reducible refine Since.drew ?_ | with_reducible refine Since.drewN ?_ _)) hb3)
  have H3 := Lib.hid (H2.out.below B3.out)
  have M3 := Lib.hid (M2.out.below B3.out)
  clear hb3
  go_wp2_with fail
  refine (F3.out _ _ _ (H3.out.below (Since.out (by repeat (first | with_reducible exact Since.refl _ | with_reducible refine Since.alloc ?_ _ | with_reducible refine Since.setCell ?_ (by first | omega | (simp; done) | (simp; omega)) _ | with_reducible refine Since.drew ?_ | with_reducible refine Since.drewN ?_ _))))).mono ?_
  rintro e w4 ⟨B2, d2, rfl, hB, hb4⟩
  have A4 := Lib.hid (show Since w w4 from Since.via (by repeat (first | with_reducible exact A3.out | with_reducible exact Since.refl _ | with_reducible refine Since.alloc ?_ _ | with_reducible refine Since.setCell ?_ (by first | omega | (simp; done) | (simp; omega)) _ | with_reducible refine Since.drew ?_ | with_reducible refine Since.drewN ?_ _)) hb4)
  have s4 := A4.out.size
  have B4 := Lib.hid (show Since w3 w4 from Since.via (by repeat (first | with_reducible exact Since.refl _ | with_reducible refine Since.alloc ?_ _ | with_reducible refine Since.setCell ?_ (by first | omega | (simp; done) | (simp; omega)) _ | with_reducible refine Since.drew ?_ | with_reducible refine Since.drewN ?_ _)) hb4)
  have H4 := Lib.hid (H3.out.below B4.out)
  have M4 := Lib.hid (M3.out.below B4.out)
  have L4 := Lib.hid hB
  clear hB
  clear hb4
  have hcapL := L4.out.cap
  have hmostL := L4.out.most
  have hcapM := M4.out.cap
  have hmostM := M4.out.most
  go_wp2
  go_loopw [11, 12, 13, 14, 15] (fun sm nx gr la t wr => ApartRel bl fl w4 sm nx gr la t wr) (fun _ _ _ _ t _ => bl.length - (intOf t).toNat)
  case atStart => exact ⟨0, 0, 128, 0, 0, 0, false, rfl, rfl, rfl, rfl, rfl, Nat.zero_le _, Nat.zero_le _, rfl, Lib.hid (posn_zero _ _), rfl, by omega, by omega, by omega, by omega, rfl, by omega, by omega, Lib.hid (fun h => by cases h), Since.refl _⟩
  case round =>
    obtain ⟨k, j, p, x, y, f, z, rfl, rfl, rfl, rfl, rfl, hk, hj, HJ, HP, HF, hxf, hp, hx0, hf0, HY, hy0, hy1, HZZ, hnx⟩ := hrel
    obtain ⟨w5, hw5⟩ : ∃ x, x = wr := ⟨_, rfl⟩
    subst hw5
    have C5 := Lib.hid hnx
    have A5 := Lib.hid (Since.trans A4.out hnx)
    have L5 := Lib.hid (L4.out.below hnx)
    have M5 := Lib.hid (M4.out.below hnx)
    have s5 := C5.out.size
    clear hnx
    by_cases hlt : k < bl.length
    · obtain ⟨g, o, rfl, hg⟩ := L5.out.at_ (by omega)
      obtain ⟨c0, c1, c2, c3, c4, c5⟩ := L5.out.same hlt
      have hbs := HZ.out.get hlt
      have hps := (chain_at HC.out hlt).2.2.1
      have hpl := chain_pos HC.out (k + 1) (by omega)
      rw [HN.out] at hpl
      rw [HP.out] at hps
      by_cases he : bl[k].kind = 2
      · obtain ⟨hn, hq⟩ := FA.out k hlt he
        have hj2 : j < fl.length := by have := HJ.out; omega
        have hq2 : fl[j] = bl[k] := by rw [← hq]; congr 1; exact HJ.out.symm
        have FY := FYL.out k hlt he
        rw [List.length_append, HJ.out] at FY
        obtain rfl : z = false := by
          cases z with
          | false => rfl
          | true =>
            obtain ⟨m, hm, rfl, hmk⟩ := HZZ.out rfl
            exact (apart HSD.out hlt hmk he).elim
        have E1 := sumF_step hj2
        have E2 := maxF_step hj2
        rw [HF.out] at E1
        rw [HY.out] at E2
        obtain ⟨g', o', rfl, hg'⟩ := M5.out.at_ (by omega)
        obtain ⟨e0, e1, e2, e3, e4, e5⟩ := M5.out.same hj2
        rw [hq2] at e0 e1 e2 e3 e4 e5 E1 E2
        have HK2 := Lib.hid he
        have HNX := Lib.hid (show true = true → ∃ (m : Nat) (hm : m < bl.length), k + 1 = m + 1 ∧ bl[m].kind = 2 from fun _ => ⟨k, hlt, rfl, he⟩)
        obtain ⟨b, hb⟩ : ∃ b, bl[k] = b := ⟨_, rfl⟩
        rw [hb] at c0 c1 c2 c3 c4 c5 e0 e1 e2 e3 e4 e5 hbs hps he E1 E2
        obtain ⟨ba, bs, bk, bt, bm, bn⟩ := b
        simp only at he hps hbs c0 c1 c2 c3 c4 c5 e0 e1 e2 e3 e4 e5 E1 E2
        subst he
        have HPS := Lib.hid hps
        have HFY := Lib.hid FY
        have HE1 := Lib.hid E1
        have HE2 := Lib.hid E2
        rw [hps] at hpl
        have hpb : (bs.toNat : Int) = bs := by omega
        have HPB := Lib.hid hpb
        have n1 : decide ((fl.length : Int) ≤ (j : Int)) = false := by simp; omega
        have n2 : decide (fl.length ≤ j) = false := by simp; omega
        clear hb hps FY E1 E2 hpb hn hq hq2
        go_wp2_with fail
        go_quiet (fail)
        go_wp2
        go_roundw
        case rel => exact ⟨k + 1, j + 1, p + bs.toNat, x, max y bs, f + bs, true, by go_num, by go_num, rfl, congrArg _ (by split <;> omega), rfl, by omega, by omega, Lib.hid HFY.out, HPS, HE1, by have := HPB.out; omega, by omega, hx0, by omega, HE2, by omega, by omega, Lib.hid (fun _ => HNX.out trivial), (by repeat (first | with_reducible exact C5.out | with_reducible exact Since.refl _ | with_reducible refine Since.alloc ?_ _ | with_reducible refine Since.setCell ?_ (by first | omega | (simp; done) | (simp; omega)) _ | with_reducible refine Since.drew ?_ | with_reducible refine Since.drewN ?_ _))⟩
        case measure => simp [intOf]; omega
      · have FN := FNL.out k hlt he
        have he2 : (bl[k].kind != 2) = true := by simpa using he
        obtain ⟨b, hb⟩ : ∃ b, bl[k] = b := ⟨_, rfl⟩
        rw [hb] at c0 c1 c2 c3 c4 c5 hbs hps he2
        have HPS := Lib.hid hps
        have HFN := Lib.hid FN
        rw [hps] at hpl
        have hpb : (b.size.toNat : Int) = b.size := by omega
        have HPB := Lib.hid hpb
        clear hb hps FN he hpb
        go_wp2
        go_roundw
        case rel => exact ⟨k + 1, j, p + b.size.toNat, x + b.size, y, f, false, by go_num, rfl, rfl, rfl, rfl, by omega, hj, Lib.hid (by rw [HFN.out, HJ.out]), HPS, HF, by have := HPB.out; omega, by omega, by omega, hf0, HY, hy0, hy1, Lib.hid (fun h => by cases h), (by repeat (first | with_reducible exact C5.out | with_reducible exact Since.refl _ | with_reducible refine Since.alloc ?_ _ | with_reducible refine Since.setCell ?_ (by first | omega | (simp; done) | (simp; omega)) _ | with_reducible refine Since.drew ?_ | with_reducible refine Since.drewN ?_ _))⟩
        case measure => simp [intOf]; omega
    · obtain rfl : k = bl.length := by omega
      obtain rfl : j = fl.length := by rw [← HJ.out, FLL.out]
      obtain rfl : p = n := by rw [← HP.out, HE.out]
      obtain rfl : f = sm := by rw [← HF.out, HSM.out]
      obtain rfl : y = mx := by rw [← HY.out, HMX.out]
      have n1 : (x + f == (p : Int) - 128) = true := by simp; omega
      go_wp2
      go_ret
      exact ⟨rfl, (Since.out (by repeat (first | with_reducible exact A5.out | with_reducible exact Since.refl _ | with_reducible refine Since.alloc ?_ _ | with_reducible refine Since.setCell ?_ (by first | omega | (simp; done) | (simp; omega)) _ | with_reducible refine Since.drew ?_ | with_reducible refine Since.drewN ?_ _)))⟩
end Go.Proofs.Ytoifalgkeegklaa
