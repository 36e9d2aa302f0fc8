/- The law on the blocks that fill the heap, walked. -/
import Derived.Test.YthdccahggcjogaaLaw15b
import Derived.BigRegion
namespace Go.Proofs.Ythdccahggcjogaa
open Go.RowKit

def FillsRel (l : List Blk) (w3 : World) (p v t : Value) (wr : World) : Prop :=
  ∃ (k : Nat) (z : Bool) (q : Nat), Hid (posn 128 l k = q) ∧ p = .int .i64 q ∧ t = .int .i64 k ∧ v = .bool z ∧ k ≤ l.length ∧ Hid (z = sideF l k) ∧ Since w3 wr

set_option maxRecDepth 100000 in
set_option maxHeartbeats 8000000 in
theorem walkWalkFills (A : Option Addr) (n c : Nat) (ws : List Nat) (w : World) (h : Words w A n c ws) :
    Calls Try.prog 9 #[.slice A n c] w fun e w' => e = .returned (.bool true) ∧ Below w.heap.size w w' := by
  have hm := h.most
  have hcap := h.cap
  have A0 := Lib.hid (Since.refl w)
  by_cases hn : n ≤ 2100
  case neg =>
    have G := Lib.hid fun W => great_yes A n c W (by omega)
    clear h
    go_enter Try.func9, Try.ntmps9
    go_wp2_with fail
    refine (alive15 _).mono ?_
    rintro e w1 ⟨rfl, hb1⟩
    have A1 := Lib.hid (show Since w w1 from Since.via (by repeat (first | with_reducible exact A0.out | with_reducible exact Since.refl _ | with_reducible refine Since.alloc ?_ _ | with_reducible refine Since.setCell ?_ (by first | omega | (simp; done) | (simp; omega)) _ | with_reducible refine Since.drew ?_ | with_reducible refine Since.drewN ?_ _)) hb1)
    have s1 := A1.out.size
    clear hb1
    go_wp2_with fail
    refine (G.out _).mono ?_
    rintro e wd ⟨rfl, rfl⟩
    go_wp2
    go_ret
    exact ⟨rfl, (Since.out (by repeat (first | with_reducible exact A1.out | with_reducible exact Since.refl _ | with_reducible refine Since.alloc ?_ _ | with_reducible refine Since.setCell ?_ (by first | omega | (simp; done) | (simp; omega)) _ | with_reducible refine Since.drew ?_ | with_reducible refine Since.drewN ?_ _)))⟩
  have G := Lib.hid fun W => great_no A n c W hn
  by_cases hi : imgOk n
  case neg =>
    have K := Lib.hid fun W => rimg_bad A n c W (by omega) hi
    clear h hi
    go_enter Try.func9, Try.ntmps9
    go_wp2_with fail
    refine (alive15 _).mono ?_
    rintro e w1 ⟨rfl, hb1⟩
    have A1 := Lib.hid (show Since w w1 from Since.via (by repeat (first | with_reducible exact A0.out | with_reducible exact Since.refl _ | with_reducible refine Since.alloc ?_ _ | with_reducible refine Since.setCell ?_ (by first | omega | (simp; done) | (simp; omega)) _ | with_reducible refine Since.drew ?_ | with_reducible refine Since.drewN ?_ _)) hb1)
    have s1 := A1.out.size
    clear hb1
    go_wp2_with fail
    refine (G.out _).mono ?_
    rintro e wd ⟨rfl, rfl⟩
    go_wp2_with fail
    refine (K.out _).mono ?_
    rintro e wd ⟨rfl, rfl⟩
    go_wp2
    go_ret
    exact ⟨rfl, (Since.out (by repeat (first | with_reducible exact A1.out | with_reducible exact Since.refl _ | with_reducible refine Since.alloc ?_ _ | with_reducible refine Since.setCell ?_ (by first | omega | (simp; done) | (simp; omega)) _ | with_reducible refine Since.drew ?_ | with_reducible refine Since.drewN ?_ _)))⟩
  have K := Lib.hid fun W => rimg_ok A n c W (by omega) hi
  have hlen := h.len
  have F1 := Lib.hid fun W A c h => all_any A n c ws W h
  have F2 := Lib.hid fun W A c h => from_any A n c ws 128 W h
  have H0 := Lib.hid h
  have HN := Lib.hid hlen
  rw [fromR_heap (by rw [hlen]; exact hi)] at F2
  cases hp : parse ws 128 with
  | none =>
    have E1 : allR ws = ([], 50) := by
      rcases allR_cases ws with ⟨h1, e⟩ | ⟨_, _, e⟩ | ⟨l, _, h2, _, e⟩ | ⟨l, _, h2, _, _, _, e⟩
      · exact absurd (by rw [hlen]; exact hi) h1
      · exact e
      · exact e
      · rw [hp] at h2; cases h2
    rw [E1] at F1
    rw [hp] at F2
    clear hp E1 hi h hlen
    go_enter Try.func9, Try.ntmps9
    go_wp2_with fail
    refine (alive15 _).mono ?_
    rintro e w1 ⟨rfl, hb1⟩
    have A1 := Lib.hid (show Since w w1 from Since.via (by repeat (first | with_reducible exact A0.out | with_reducible exact Since.refl _ | with_reducible refine Since.alloc ?_ _ | with_reducible refine Since.setCell ?_ (by first | omega | (simp; done) | (simp; omega)) _ | with_reducible refine Since.drew ?_ | with_reducible refine Since.drewN ?_ _)) hb1)
    have s1 := A1.out.size
    have B1 := Lib.hid (show Since w w1 from Since.via (by repeat (first | with_reducible exact Since.refl _ | with_reducible refine Since.alloc ?_ _ | with_reducible refine Since.setCell ?_ (by first | omega | (simp; done) | (simp; omega)) _ | with_reducible refine Since.drew ?_ | with_reducible refine Since.drewN ?_ _)) hb1)
    have H1 := Lib.hid (H0.out.below B1.out)
    clear hb1
    go_wp2_with fail
    refine (G.out _).mono ?_
    rintro e wd ⟨rfl, rfl⟩
    go_wp2_with fail
    refine (K.out _).mono ?_
    rintro e wd ⟨rfl, rfl⟩
    go_wp2_with fail
    refine (F1.out _ _ _ (H1.out.below (Since.out (by repeat (first | with_reducible exact Since.refl _ | with_reducible refine Since.alloc ?_ _ | with_reducible refine Since.setCell ?_ (by first | omega | (simp; done) | (simp; omega)) _ | with_reducible refine Since.drew ?_ | with_reducible refine Since.drewN ?_ _))))).mono ?_
    rintro e w2 ⟨B1, d1, rfl, hB, hb2⟩
    have A2 := Lib.hid (show Since w w2 from Since.via (by repeat (first | with_reducible exact A1.out | with_reducible exact Since.refl _ | with_reducible refine Since.alloc ?_ _ | with_reducible refine Since.setCell ?_ (by first | omega | (simp; done) | (simp; omega)) _ | with_reducible refine Since.drew ?_ | with_reducible refine Since.drewN ?_ _)) hb2)
    have s2 := A2.out.size
    have B2 := Lib.hid (show Since w1 w2 from Since.via (by repeat (first | with_reducible exact Since.refl _ | with_reducible refine Since.alloc ?_ _ | with_reducible refine Since.setCell ?_ (by first | omega | (simp; done) | (simp; omega)) _ | with_reducible refine Since.drew ?_ | with_reducible refine Since.drewN ?_ _)) hb2)
    have H2 := Lib.hid (H1.out.below B2.out)
    clear hb2
    go_wp2_with fail
    refine (F2.out _ _ _ (H2.out.below (Since.out (by repeat (first | with_reducible exact Since.refl _ | with_reducible refine Since.alloc ?_ _ | with_reducible refine Since.setCell ?_ (by first | omega | (simp; done) | (simp; omega)) _ | with_reducible refine Since.drew ?_ | with_reducible refine Since.drewN ?_ _))))).mono ?_
    rintro e w3 ⟨B2, d2, rfl, hB, hb3⟩
    have A3 := Lib.hid (show Since w w3 from Since.via (by repeat (first | with_reducible exact A2.out | with_reducible exact Since.refl _ | with_reducible refine Since.alloc ?_ _ | with_reducible refine Since.setCell ?_ (by first | omega | (simp; done) | (simp; omega)) _ | with_reducible refine Since.drew ?_ | with_reducible refine Since.drewN ?_ _)) hb3)
    have s3 := A3.out.size
    clear hb3
    go_wp2
    go_ret
    exact ⟨rfl, (Since.out (by repeat (first | with_reducible exact A3.out | with_reducible exact Since.refl _ | with_reducible refine Since.alloc ?_ _ | with_reducible refine Since.setCell ?_ (by first | omega | (simp; done) | (simp; omega)) _ | with_reducible refine Since.drew ?_ | with_reducible refine Since.drewN ?_ _)))⟩
  | some l =>
    have hc := chain_of_parse ws l 128 (by have := hi.1; omega) hp
    have HC := Lib.hid hc
    have hcl := chain_le hc
    rw [hlen] at hcl
    have hn2 : n ≤ 2048 := hi.2.1
    have hend := chain_end hc
    rw [hlen] at hend
    have HEND := Lib.hid hend
    have E1 : allR ws = if side l then ([], 50) else (l, 0) := by
      rcases allR_cases ws with ⟨h1, e⟩ | ⟨_, h2, e⟩ | ⟨m, _, h2, h3, e⟩ | ⟨m, _, h2, h3, _, _, e⟩
      · exact absurd (by rw [hlen]; exact hi) h1
      · rw [hp] at h2; cases h2
      · rw [hp] at h2; injection h2 with h2; subst h2; rw [if_pos h3]; exact e
      · rw [hp] at h2; injection h2 with h2; subst h2; rw [if_neg (by rw [h3]; simp)]; exact e
    generalize allR ws = r at *
    have HR := Lib.hid E1
    rw [hp] at F2
    simp only at F2
    clear hp E1 hi h hlen hc hend
    go_enter Try.func9, Try.ntmps9
    go_wp2_with fail
    refine (alive15 _).mono ?_
    rintro e w1 ⟨rfl, hb1⟩
    have A1 := Lib.hid (show Since w w1 from Since.via (by repeat (first | with_reducible exact A0.out | with_reducible exact Since.refl _ | with_reducible refine Since.alloc ?_ _ | with_reducible refine Since.setCell ?_ (by first | omega | (simp; done) | (simp; omega)) _ | with_reducible refine Since.drew ?_ | with_reducible refine Since.drewN ?_ _)) hb1)
    have s1 := A1.out.size
    have B1 := Lib.hid (show Since w w1 from Since.via (by repeat (first | with_reducible exact Since.refl _ | with_reducible refine Since.alloc ?_ _ | with_reducible refine Since.setCell ?_ (by first | omega | (simp; done) | (simp; omega)) _ | with_reducible refine Since.drew ?_ | with_reducible refine Since.drewN ?_ _)) hb1)
    have H1 := Lib.hid (H0.out.below B1.out)
    clear hb1
    go_wp2_with fail
    refine (G.out _).mono ?_
    rintro e wd ⟨rfl, rfl⟩
    go_wp2_with fail
    refine (K.out _).mono ?_
    rintro e wd ⟨rfl, rfl⟩
    go_wp2_with fail
    refine (F1.out _ _ _ (H1.out.below (Since.out (by repeat (first | with_reducible exact Since.refl _ | with_reducible refine Since.alloc ?_ _ | with_reducible refine Since.setCell ?_ (by first | omega | (simp; done) | (simp; omega)) _ | with_reducible refine Since.drew ?_ | with_reducible refine Since.drewN ?_ _))))).mono ?_
    rintro e w2 ⟨B1, d1, rfl, hB, hb2⟩
    have A2 := Lib.hid (show Since w w2 from Since.via (by repeat (first | with_reducible exact A1.out | with_reducible exact Since.refl _ | with_reducible refine Since.alloc ?_ _ | with_reducible refine Since.setCell ?_ (by first | omega | (simp; done) | (simp; omega)) _ | with_reducible refine Since.drew ?_ | with_reducible refine Since.drewN ?_ _)) hb2)
    have s2 := A2.out.size
    have B2 := Lib.hid (show Since w1 w2 from Since.via (by repeat (first | with_reducible exact Since.refl _ | with_reducible refine Since.alloc ?_ _ | with_reducible refine Since.setCell ?_ (by first | omega | (simp; done) | (simp; omega)) _ | with_reducible refine Since.drew ?_ | with_reducible refine Since.drewN ?_ _)) hb2)
    have H2 := Lib.hid (H1.out.below B2.out)
    have M2 := Lib.hid hB
    clear hB
    clear hb2
    go_wp2_with fail
    refine (F2.out _ _ _ (H2.out.below (Since.out (by repeat (first | with_reducible exact Since.refl _ | with_reducible refine Since.alloc ?_ _ | with_reducible refine Since.setCell ?_ (by first | omega | (simp; done) | (simp; omega)) _ | with_reducible refine Since.drew ?_ | with_reducible refine Since.drewN ?_ _))))).mono ?_
    rintro e w3 ⟨B2, d2, rfl, hB, hb3⟩
    have A3 := Lib.hid (show Since w w3 from Since.via (by repeat (first | with_reducible exact A2.out | with_reducible exact Since.refl _ | with_reducible refine Since.alloc ?_ _ | with_reducible refine Since.setCell ?_ (by first | omega | (simp; done) | (simp; omega)) _ | with_reducible refine Since.drew ?_ | with_reducible refine Since.drewN ?_ _)) hb3)
    have s3 := A3.out.size
    have B3 := Lib.hid (show Since w2 w3 from Since.via (by repeat (first | with_reducible exact Since.refl _ | with_reducible refine Since.alloc ?_ _ | with_reducible refine Since.setCell ?_ (by first | omega | (simp; done) | (simp; omega)) _ | with_reducible refine Since.drew ?_ | with_reducible refine Since.drewN ?_ _)) hb3)
    have H3 := Lib.hid (H2.out.below B3.out)
    have M3 := Lib.hid (M2.out.below B3.out)
    have L3 := Lib.hid hB
    clear hB
    clear hb3
    go_wp2
    go_loopw [8, 9, 10] (fun p v t wr => FillsRel l w3 p v t wr) (fun _ _ t _ => l.length - (intOf t).toNat)
    case atStart => exact ⟨0, false, 128, Lib.hid (posn_zero _ _), rfl, rfl, rfl, Nat.zero_le _, rfl, Since.refl _⟩
    case round =>
      obtain ⟨k, v, p, HPN, rfl, rfl, rfl, hk, hF, hnx⟩ := hrel
      obtain ⟨w4, hw4⟩ : ∃ x, x = wr := ⟨_, rfl⟩
      subst hw4
      have C4 := Lib.hid hnx
      have A4 := Lib.hid (Since.trans A3.out hnx)
      have L4 := Lib.hid (L3.out.below hnx)
      have M4 := Lib.hid (M3.out.below hnx)
      have H4 := Lib.hid (H3.out.below hnx)
      have s4 := C4.out.size
      clear hnx
      by_cases hlt : k < l.length
      · obtain ⟨g, o, rfl, hg⟩ := L4.out.at_ (by omega)
        have hcap4 := L4.out.cap
        have hmost4 := L4.out.most
        rcases k with _ | j
        · obtain rfl : v = false := hF.out
          obtain ⟨c0, c1, c2, c3, c4, c5⟩ := L4.out.same (j := 0) hlt
          simp only [Nat.zero_mul, Nat.add_zero] at c0 c1 c2 c3 c4 c5
          have d0 : decide ((0 : Int) < 0) = false := by decide
          have hs := (chain_at HC.out (i := 0) hlt).1
          have hpl := (chain_at HC.out (i := 0) hlt).2.1
          have hps := (chain_at HC.out (i := 0) hlt).2.2.1
          rw [HPN.out] at hs hpl hps
          obtain ⟨gd, _, e1, e2, e3, hsp⟩ := stands_some hs
          rw [HN.out] at hpl e3
          obtain ⟨g', o', rfl, hg', hwc, hwx⟩ := H4.out.at_ hpl
          have hgs := good_size gd
          generalize hb : l[0] = b at *
          have HLK := Lib.hid hb
          clear hb
          obtain ⟨ba, bs, bk, bt, bm, bn⟩ := b
          simp only at e1 e2 e3 hsp hps hgs c0 c1 c2 c3 c4 c5
          subst e1
          have HPS := Lib.hid hps
          have HBS := Lib.hid (show (bs.toNat : Int) = bs by omega)
          have C := Lib.hid fun W => hsplit_ok _ _ W hwx hsp
          simp only at C
          have HE2 := Lib.hid e2
          generalize ws.getD p 0 = u at *
          clear hs hps hsp gd e2
          have d1 : (((p : Nat) : Int) != (p : Int)) = false := by simp
          have d2 : decide (bs < 2) = false := by simp; omega
          have d3 : decide ((n : Int) - (p : Int) < bs) = false := by simp; omega
          go_wp2_with fail
          refine (C.out _).mono ?_
          rintro e w5 ⟨rfl, hb5⟩
          have B5 := Lib.hid (show Since w4 w5 from hb5)
          have A5 := Lib.hid (Since.via A4.out hb5)
          have C5 := Lib.hid (Since.trans C4.out B5.out)
          have s5 := B5.out.size
          clear c0 c1 c2 c3 c4 c5 hb5 hwc
          obtain ⟨c0, c1, c2, c3, c4, c5⟩ := (L4.out.below B5.out).same hlt
          have hg5 : g < w5.heap.size := by omega
          have hg5' : g' < w5.heap.size := by omega
          rw [HLK.out] at c0 c1 c2 c3 c4 c5
          simp only at c0 c1 c2 c3 c4 c5
          obtain ⟨hc1, _⟩ := (H4.out.below B5.out).at_same (a := p + 1) (by omega)
          rw [← HE2.out] at hc1
          have ho : o' + p + 1 = o' + (p + 1) := by omega
          simp only [Nat.zero_mul, Nat.add_zero] at c0 c1 c2 c3 c4 c5
          go_wp2_with fail
          go_region
          all_goals
            go_wp2_with fail
            go_quiet (fail)
            go_wp2
            go_roundw
            case rel => exact ⟨1, false, p + bs.toNat, Lib.hid HPS.out, by rw [Int.natCast_add, HBS.out], by go_num, rfl, by omega, Lib.hid (sideF_one l).symm, (by repeat (first | with_reducible exact C5.out | with_reducible exact Since.refl _ | with_reducible refine Since.alloc ?_ _ | with_reducible refine Since.setCell ?_ (by first | omega | (simp; done) | (simp; omega)) _ | with_reducible refine Since.drew ?_ | with_reducible refine Since.drewN ?_ _))⟩
            case measure => simp [intOf]; omega
        · obtain ⟨c0, c1, c2, c3, c4, c5⟩ := L4.out.same (j := j + 1) hlt
          have d0 : decide ((0 : Int) < (j : Int) + 1) = true := by simp
          have d00 : IntKind.i64.wrap ((j : Int) + 1 - 1) = (j : Int) := by rw [IntKind.wrap_i64]; omega
          have ST := Lib.hid (sideF_step l j hlt)
          cases v with
          | true =>
            have hs := (chain_at HC.out (i := j + 1) hlt).1
            have hpl := (chain_at HC.out (i := j + 1) hlt).2.1
            have hps := (chain_at HC.out (i := j + 1) hlt).2.2.1
            rw [HPN.out] at hs hpl hps
            obtain ⟨gd, _, e1, e2, e3, hsp⟩ := stands_some hs
            rw [HN.out] at hpl e3
            obtain ⟨g', o', rfl, hg', hwc, hwx⟩ := H4.out.at_ hpl
            have hgs := good_size gd
            generalize hb : l[j + 1] = b at *
            have HLK := Lib.hid hb
            clear hb
            obtain ⟨ba, bs, bk, bt, bm, bn⟩ := b
            simp only at e1 e2 e3 hsp hps hgs c0 c1 c2 c3 c4 c5
            subst e1
            have HPS := Lib.hid hps
            have HBS := Lib.hid (show (bs.toNat : Int) = bs by omega)
            have C := Lib.hid fun W => hsplit_ok _ _ W hwx hsp
            simp only at C
            have HE2 := Lib.hid e2
            generalize ws.getD p 0 = u at *
            clear hs hps hsp gd e2
            have d1 : (((p : Nat) : Int) != (p : Int)) = false := by simp
            have d2 : decide (bs < 2) = false := by simp; omega
            have d3 : decide ((n : Int) - (p : Int) < bs) = false := by simp; omega
            go_wp2_with fail
            refine (C.out _).mono ?_
            rintro e w5 ⟨rfl, hb5⟩
            have B5 := Lib.hid (show Since w4 w5 from hb5)
            have A5 := Lib.hid (Since.via A4.out hb5)
            have C5 := Lib.hid (Since.trans C4.out B5.out)
            have s5 := B5.out.size
            clear c0 c1 c2 c3 c4 c5 hb5 hwc
            obtain ⟨c0, c1, c2, c3, c4, c5⟩ := (L4.out.below B5.out).same hlt
            have hg5 : g < w5.heap.size := by omega
            have hg5' : g' < w5.heap.size := by omega
            rw [HLK.out] at c0 c1 c2 c3 c4 c5
            simp only at c0 c1 c2 c3 c4 c5
            obtain ⟨hc1, _⟩ := (H4.out.below B5.out).at_same (a := p + 1) (by omega)
            rw [← HE2.out] at hc1
            have ho : o' + p + 1 = o' + (p + 1) := by omega
            go_wp2_with fail
            go_region
            all_goals
              go_wp2_with fail
              go_quiet (fail)
              go_wp2
              go_roundw
              case rel => exact ⟨j + 2, true, p + bs.toNat, Lib.hid HPS.out, by rw [Int.natCast_add, HBS.out], by go_num, rfl, by omega, Lib.hid (by rw [ST.out, ← hF.out]; rfl), (by repeat (first | with_reducible exact C5.out | with_reducible exact Since.refl _ | with_reducible refine Since.alloc ?_ _ | with_reducible refine Since.setCell ?_ (by first | omega | (simp; done) | (simp; omega)) _ | with_reducible refine Since.drew ?_ | with_reducible refine Since.drewN ?_ _))⟩
              case measure => simp [intOf]; omega
          | false =>
            generalize hx : l[j].kind = x at *
            have HX := Lib.hid hx
            clear hx
            by_cases hk2 : l[j + 1].kind = 2
            · by_cases hx2 : x = 2
              · subst hx2
                rw [hk2] at ST
                have hs := (chain_at HC.out (i := j + 1) hlt).1
                have hpl := (chain_at HC.out (i := j + 1) hlt).2.1
                have hps := (chain_at HC.out (i := j + 1) hlt).2.2.1
                rw [HPN.out] at hs hpl hps
                obtain ⟨gd, _, e1, e2, e3, hsp⟩ := stands_some hs
                rw [HN.out] at hpl e3
                obtain ⟨g', o', rfl, hg', hwc, hwx⟩ := H4.out.at_ hpl
                have hgs := good_size gd
                generalize hb : l[j + 1] = b at *
                have HLK := Lib.hid hb
                clear hb
                obtain ⟨ba, bs, bk, bt, bm, bn⟩ := b
                simp only at e1 e2 e3 hsp hps hgs c0 c1 c2 c3 c4 c5
                subst e1
                have HPS := Lib.hid hps
                have HBS := Lib.hid (show (bs.toNat : Int) = bs by omega)
                have C := Lib.hid fun W => hsplit_ok _ _ W hwx hsp
                simp only at C
                subst hk2
                have HE2 := Lib.hid e2
                generalize ws.getD p 0 = u at *
                clear hs hps hsp gd e2
                have d1 : (((p : Nat) : Int) != (p : Int)) = false := by simp
                have d2 : decide (bs < 2) = false := by simp; omega
                have d3 : decide ((n : Int) - (p : Int) < bs) = false := by simp; omega
                go_wp2_with fail
                refine (C.out _).mono ?_
                rintro e w5 ⟨rfl, hb5⟩
                have B5 := Lib.hid (show Since w4 w5 from hb5)
                have A5 := Lib.hid (Since.via A4.out hb5)
                have C5 := Lib.hid (Since.trans C4.out B5.out)
                have s5 := B5.out.size
                clear c0 c1 c2 c3 c4 c5 hb5 hwc
                obtain ⟨c0, c1, c2, c3, c4, c5⟩ := (L4.out.below B5.out).same hlt
                have hg5 : g < w5.heap.size := by omega
                have hg5' : g' < w5.heap.size := by omega
                rw [HLK.out] at c0 c1 c2 c3 c4 c5
                simp only at c0 c1 c2 c3 c4 c5
                obtain ⟨hc1, _⟩ := (H4.out.below B5.out).at_same (a := p + 1) (by omega)
                rw [← HE2.out] at hc1
                have ho : o' + p + 1 = o' + (p + 1) := by omega
                obtain ⟨_, _, x2, _⟩ := (L4.out.below B5.out).same (j := j) (by omega)
                rw [HX.out] at x2
                go_wp2_with fail
                go_region
                all_goals
                  go_wp2_with fail
                  go_quiet (fail)
                  go_wp2
                  go_roundw
                  case rel => exact ⟨j + 2, true, p + bs.toNat, Lib.hid HPS.out, by rw [Int.natCast_add, HBS.out], by go_num, rfl, by omega, Lib.hid (by rw [ST.out]; simp), (by repeat (first | with_reducible exact C5.out | with_reducible exact Since.refl _ | with_reducible refine Since.alloc ?_ _ | with_reducible refine Since.setCell ?_ (by first | omega | (simp; done) | (simp; omega)) _ | with_reducible refine Since.drew ?_ | with_reducible refine Since.drewN ?_ _))⟩
                  case measure => simp [intOf]; omega
              · have dx : (x == 2) = false := by simpa using hx2
                have DX := Lib.hid dx
                clear hx2
                have hs := (chain_at HC.out (i := j + 1) hlt).1
                have hpl := (chain_at HC.out (i := j + 1) hlt).2.1
                have hps := (chain_at HC.out (i := j + 1) hlt).2.2.1
                rw [HPN.out] at hs hpl hps
                obtain ⟨gd, _, e1, e2, e3, hsp⟩ := stands_some hs
                rw [HN.out] at hpl e3
                obtain ⟨g', o', rfl, hg', hwc, hwx⟩ := H4.out.at_ hpl
                have hgs := good_size gd
                generalize hb : l[j + 1] = b at *
                have HLK := Lib.hid hb
                clear hb
                obtain ⟨ba, bs, bk, bt, bm, bn⟩ := b
                simp only at e1 e2 e3 hsp hps hgs c0 c1 c2 c3 c4 c5
                subst e1
                have HPS := Lib.hid hps
                have HBS := Lib.hid (show (bs.toNat : Int) = bs by omega)
                have C := Lib.hid fun W => hsplit_ok _ _ W hwx hsp
                simp only at C
                subst hk2
                have HE2 := Lib.hid e2
                generalize ws.getD p 0 = u at *
                clear hs hps hsp gd e2
                have d1 : (((p : Nat) : Int) != (p : Int)) = false := by simp
                have d2 : decide (bs < 2) = false := by simp; omega
                have d3 : decide ((n : Int) - (p : Int) < bs) = false := by simp; omega
                go_wp2_with fail
                refine (C.out _).mono ?_
                rintro e w5 ⟨rfl, hb5⟩
                have B5 := Lib.hid (show Since w4 w5 from hb5)
                have A5 := Lib.hid (Since.via A4.out hb5)
                have C5 := Lib.hid (Since.trans C4.out B5.out)
                have s5 := B5.out.size
                clear c0 c1 c2 c3 c4 c5 hb5 hwc
                obtain ⟨c0, c1, c2, c3, c4, c5⟩ := (L4.out.below B5.out).same hlt
                have hg5 : g < w5.heap.size := by omega
                have hg5' : g' < w5.heap.size := by omega
                rw [HLK.out] at c0 c1 c2 c3 c4 c5
                simp only at c0 c1 c2 c3 c4 c5
                obtain ⟨hc1, _⟩ := (H4.out.below B5.out).at_same (a := p + 1) (by omega)
                rw [← HE2.out] at hc1
                have ho : o' + p + 1 = o' + (p + 1) := by omega
                obtain ⟨_, _, x2, _⟩ := (L4.out.below B5.out).same (j := j) (by omega)
                rw [HX.out] at x2
                go_wp2_with fail
                go_region
                all_goals
                  go_wp2_with fail
                  go_quiet (fail)
                  go_wp2
                  go_roundw
                  case rel => exact ⟨j + 2, false, p + bs.toNat, Lib.hid HPS.out, by rw [Int.natCast_add, HBS.out], by go_num, rfl, by omega, Lib.hid (by rw [ST.out, ← hF.out, DX.out]; rfl), (by repeat (first | with_reducible exact C5.out | with_reducible exact Since.refl _ | with_reducible refine Since.alloc ?_ _ | with_reducible refine Since.setCell ?_ (by first | omega | (simp; done) | (simp; omega)) _ | with_reducible refine Since.drew ?_ | with_reducible refine Since.drewN ?_ _))⟩
                  case measure => simp [intOf]; omega
            · have dk : (l[j + 1].kind == 2) = false := by simpa using hk2
              have DK := Lib.hid (show sideF l (j + 2) = false by rw [ST.out, ← hF.out, dk]; simp)
              clear hk2
              have hs := (chain_at HC.out (i := j + 1) hlt).1
              have hpl := (chain_at HC.out (i := j + 1) hlt).2.1
              have hps := (chain_at HC.out (i := j + 1) hlt).2.2.1
              rw [HPN.out] at hs hpl hps
              obtain ⟨gd, _, e1, e2, e3, hsp⟩ := stands_some hs
              rw [HN.out] at hpl e3
              obtain ⟨g', o', rfl, hg', hwc, hwx⟩ := H4.out.at_ hpl
              have hgs := good_size gd
              generalize hb : l[j + 1] = b at *
              have HLK := Lib.hid hb
              clear hb
              obtain ⟨ba, bs, bk, bt, bm, bn⟩ := b
              simp only at e1 e2 e3 hsp hps hgs c0 c1 c2 c3 c4 c5
              subst e1
              have HPS := Lib.hid hps
              have HBS := Lib.hid (show (bs.toNat : Int) = bs by omega)
              have C := Lib.hid fun W => hsplit_ok _ _ W hwx hsp
              simp only at C
              have HE2 := Lib.hid e2
              generalize ws.getD p 0 = u at *
              clear hs hps hsp gd e2
              have d1 : (((p : Nat) : Int) != (p : Int)) = false := by simp
              have d2 : decide (bs < 2) = false := by simp; omega
              have d3 : decide ((n : Int) - (p : Int) < bs) = false := by simp; omega
              go_wp2_with fail
              refine (C.out _).mono ?_
              rintro e w5 ⟨rfl, hb5⟩
              have B5 := Lib.hid (show Since w4 w5 from hb5)
              have A5 := Lib.hid (Since.via A4.out hb5)
              have C5 := Lib.hid (Since.trans C4.out B5.out)
              have s5 := B5.out.size
              clear c0 c1 c2 c3 c4 c5 hb5 hwc
              obtain ⟨c0, c1, c2, c3, c4, c5⟩ := (L4.out.below B5.out).same hlt
              have hg5 : g < w5.heap.size := by omega
              have hg5' : g' < w5.heap.size := by omega
              rw [HLK.out] at c0 c1 c2 c3 c4 c5
              simp only at c0 c1 c2 c3 c4 c5
              obtain ⟨hc1, _⟩ := (H4.out.below B5.out).at_same (a := p + 1) (by omega)
              rw [← HE2.out] at hc1
              have ho : o' + p + 1 = o' + (p + 1) := by omega
              go_wp2_with fail
              go_region
              all_goals
                go_wp2_with fail
                go_quiet (fail)
                go_wp2
                go_roundw
                case rel => exact ⟨j + 2, false, p + bs.toNat, Lib.hid HPS.out, by rw [Int.natCast_add, HBS.out], by go_num, rfl, by omega, Lib.hid DK.out.symm, (by repeat (first | with_reducible exact C5.out | with_reducible exact Since.refl _ | with_reducible refine Since.alloc ?_ _ | with_reducible refine Since.setCell ?_ (by first | omega | (simp; done) | (simp; omega)) _ | with_reducible refine Since.drew ?_ | with_reducible refine Since.drewN ?_ _))⟩
                case measure => simp [intOf]; omega
      · obtain rfl : k = l.length := by omega
        obtain rfl : p = n := by rw [← HPN.out, HEND.out]
        have d1 : (((p : Nat) : Int) != (p : Int)) = false := by simp
        cases v with
        | true =>
          obtain rfl : r = ([], 50) := by rw [HR.out, if_pos (show side l = true from hF.out.symm)]
          go_wp2
          go_ret
          exact ⟨rfl, (Since.out (by repeat (first | with_reducible exact A4.out | with_reducible exact Since.refl _ | with_reducible refine Since.alloc ?_ _ | with_reducible refine Since.setCell ?_ (by first | omega | (simp; done) | (simp; omega)) _ | with_reducible refine Since.drew ?_ | with_reducible refine Since.drewN ?_ _)))⟩
        | false =>
          obtain rfl : r = (l, 0) := by rw [HR.out, if_neg (by rw [show side l = false from hF.out.symm]; simp)]
          go_wp2_with fail
          refine (rsame_yes _ _ _ _ _ _ (M4.out.below (Since.out (by repeat (first | with_reducible exact Since.refl _ | with_reducible refine Since.alloc ?_ _ | with_reducible refine Since.setCell ?_ (by first | omega | (simp; done) | (simp; omega)) _ | with_reducible refine Since.drew ?_ | with_reducible refine Since.drewN ?_ _)))) (L4.out.below (Since.out (by repeat (first | with_reducible exact Since.refl _ | with_reducible refine Since.alloc ?_ _ | with_reducible refine Since.setCell ?_ (by first | omega | (simp; done) | (simp; omega)) _ | with_reducible refine Since.drew ?_ | with_reducible refine Since.drewN ?_ _))))).mono ?_
          rintro e w5 ⟨rfl, hb5⟩
          have A5 := Lib.hid (show Since w w5 from Since.via (by repeat (first | with_reducible exact A4.out | with_reducible exact Since.refl _ | with_reducible refine Since.alloc ?_ _ | with_reducible refine Since.setCell ?_ (by first | omega | (simp; done) | (simp; omega)) _ | with_reducible refine Since.drew ?_ | with_reducible refine Since.drewN ?_ _)) hb5)
          have s5 := A5.out.size
          clear hb5
          go_wp2
          go_ret
          exact ⟨rfl, (Since.out (by repeat (first | with_reducible exact A5.out | with_reducible exact Since.refl _ | with_reducible refine Since.alloc ?_ _ | with_reducible refine Since.setCell ?_ (by first | omega | (simp; done) | (simp; omega)) _ | with_reducible refine Since.drew ?_ | with_reducible refine Since.drewN ?_ _)))⟩
end Go.Proofs.Ythdccahggcjogaa
