/- The law on blocks that are written, walked. -/
import Derived.Test.YthdccahggcjogaaLaw15b
import Derived.Test.YthdccahggcjogaaWritPlain
import Derived.Test.YthdccahggcjogaaOwnW
import Derived.Test.YthdccahggcjogaaShapesB
import Derived.BigRegion
import Derived.StillTailTactics
import Derived.Deep.CutRange
import Derived.Deep.LoopGhost
namespace Go.Proofs.Ythdccahggcjogaa
open Go.RowKit

def WrRel (l : List Blk) (n : Nat) (w w1 : World) (gk : Nat) (at_ v sd t : Value) (wr : World) : Prop :=
  ∃ (k p lm d : Nat) (ws : List Nat) (m : List Blk) (B : Option Addr) (z : Bool), gk = l.length - k ∧ t = .int .i64 k ∧ at_ = .int .i64 p ∧ v = .slice B lm d ∧ sd = .bool z ∧ k ≤ l.length ∧ p ≤ n ∧ 128 ≤ p ∧ Hid (m.length = lm) ∧ Hid (Wr n ws m p) ∧
    Cells wr w1.heap.size 22 ((ws.map wv).toArray) ∧ OwnB wr (w1.heap.size + 1) (.slice B lm d) m ∧ Hid (side m = z) ∧ Since w wr
/-- Two words are written. -/
def PutRel (w : World) (g p x y : Nat) (w' : World) : Prop := ∃ n, w' = ((w.setCell ⟨g, p, none⟩ (.int .u64 (x : Int))).setCell ⟨g, p + 1, none⟩ (.int .u64 (y : Int))).drewN n

set_option maxRecDepth 100000 in
set_option maxHeartbeats 8000000 in
theorem walkWalkWritten (u : Int) (A : Option Addr) (ln c : Nat) (l : List Blk) (w : World) (_h1 : -9223372036854775808 ≤ u) (_h2 : u ≤ 9223372036854775807) (hl : BlksIn w A ln c l) :
    Calls Try.prog 10 #[.int .i64 u, .slice A ln c] w fun e w' => e = .returned (.bool true) ∧ Below w.heap.size w w' := by
  obtain ⟨hb, hfit⟩ := hl
  have hm := hb.most
  have hcap := hb.cap
  have A0 := Lib.hid (Since.refl w)
  by_cases hx : u < 256 ∨ (256 ≤ u ∧ 2048 < u) ∨ (256 ≤ u ∧ u ≤ 2048 ∧ u % 8 ≠ 0) ∨ (256 ≤ u ∧ u ≤ 2048 ∧ u % 8 = 0 ∧ 300 < ln)
  · clear hb hfit
    rcases hx with h1 | ⟨h1, h2⟩ | ⟨h1, h2, h3⟩ | ⟨h1, h2, h3, h4⟩
    · clear _h1 _h2
      go_enter Try.func10, Try.ntmps10
      go_wp2_with fail
      refine (alive15 _).mono ?_
      rintro e w1 ⟨rfl, hb1⟩
      have A1 := Lib.hid (show Since w w1 from Since.via (by repeat (first | with_reducible exact A0.out | with_reducible exact Since.refl _ | with_reducible refine Since.alloc ?_ _ | with_reducible refine Since.setCell ?_ (by first | omega | (simp; done) | (simp; omega)) _ | with_reducible refine Since.drew ?_ | with_reducible refine Since.drewN ?_ _)) hb1)
      have s1 := A1.out.size
      clear hb1
      go_wp2
      go_ret
      exact ⟨rfl, (Since.out (by repeat (first | with_reducible exact A1.out | with_reducible exact Since.refl _ | with_reducible refine Since.alloc ?_ _ | with_reducible refine Since.setCell ?_ (by first | omega | (simp; done) | (simp; omega)) _ | with_reducible refine Since.drew ?_ | with_reducible refine Since.drewN ?_ _)))⟩
    · clear _h1 _h2
      go_enter Try.func10, Try.ntmps10
      go_wp2_with fail
      refine (alive15 _).mono ?_
      rintro e w1 ⟨rfl, hb1⟩
      have A1 := Lib.hid (show Since w w1 from Since.via (by repeat (first | with_reducible exact A0.out | with_reducible exact Since.refl _ | with_reducible refine Since.alloc ?_ _ | with_reducible refine Since.setCell ?_ (by first | omega | (simp; done) | (simp; omega)) _ | with_reducible refine Since.drew ?_ | with_reducible refine Since.drewN ?_ _)) hb1)
      have s1 := A1.out.size
      clear hb1
      go_wp2
      go_ret
      exact ⟨rfl, (Since.out (by repeat (first | with_reducible exact A1.out | with_reducible exact Since.refl _ | with_reducible refine Since.alloc ?_ _ | with_reducible refine Since.setCell ?_ (by first | omega | (simp; done) | (simp; omega)) _ | with_reducible refine Since.drew ?_ | with_reducible refine Since.drewN ?_ _)))⟩
    · have h4 : (u % 8 != 0) = true := by simpa using h3
      clear _h1 _h2 h3
      go_enter Try.func10, Try.ntmps10
      go_wp2_with fail
      refine (alive15 _).mono ?_
      rintro e w1 ⟨rfl, hb1⟩
      have A1 := Lib.hid (show Since w w1 from Since.via (by repeat (first | with_reducible exact A0.out | with_reducible exact Since.refl _ | with_reducible refine Since.alloc ?_ _ | with_reducible refine Since.setCell ?_ (by first | omega | (simp; done) | (simp; omega)) _ | with_reducible refine Since.drew ?_ | with_reducible refine Since.drewN ?_ _)) hb1)
      have s1 := A1.out.size
      clear hb1
      go_wp2
      go_ret
      exact ⟨rfl, (Since.out (by repeat (first | with_reducible exact A1.out | with_reducible exact Since.refl _ | with_reducible refine Since.alloc ?_ _ | with_reducible refine Since.setCell ?_ (by first | omega | (simp; done) | (simp; omega)) _ | with_reducible refine Since.drew ?_ | with_reducible refine Since.drewN ?_ _)))⟩
    · have h5 : (u % 8 != 0) = false := by simpa using h3
      clear _h1 _h2 h3
      go_enter Try.func10, Try.ntmps10
      go_wp2_with fail
      refine (alive15 _).mono ?_
      rintro e w1 ⟨rfl, hb1⟩
      have A1 := Lib.hid (show Since w w1 from Since.via (by repeat (first | with_reducible exact A0.out | with_reducible exact Since.refl _ | with_reducible refine Since.alloc ?_ _ | with_reducible refine Since.setCell ?_ (by first | omega | (simp; done) | (simp; omega)) _ | with_reducible refine Since.drew ?_ | with_reducible refine Since.drewN ?_ _)) hb1)
      have s1 := A1.out.size
      clear hb1
      go_wp2
      go_ret
      exact ⟨rfl, (Since.out (by repeat (first | with_reducible exact A1.out | with_reducible exact Since.refl _ | with_reducible refine Since.alloc ?_ _ | with_reducible refine Since.setCell ?_ (by first | omega | (simp; done) | (simp; omega)) _ | with_reducible refine Since.drew ?_ | with_reducible refine Since.drewN ?_ _)))⟩
  obtain ⟨n, rfl⟩ := Int.eq_ofNat_of_zero_le (show 0 ≤ u by omega)
  have hi : imgOk n := ⟨by omega, by omega, by omega⟩
  have n1 : 256 ≤ n := hi.1
  have n2 : n ≤ 2048 := hi.2.1
  have n3 : (((n : Nat) : Int) % 8 != 0) = false := by simp; have := hi.2.2; omega
  have n4 : ln ≤ 300 := by have := hi.2.2; omega
  obtain rfl := hb.len
  have mk := mk_words n (by omega)
  have Z := Lib.hid (wv_zeros n)
  have W0 := Lib.hid (wr_zero (n := n) (by omega))
  have HB := Lib.hid hb
  have HF := Lib.hid hfit
  have HI := Lib.hid hi
  have HE := Lib.hid (show n % 2 = 0 by have := hi.2.2; omega)
  clear hx _h1 _h2 hi hb hfit
  go_enter Try.func10, Try.ntmps10
  go_wp2_with fail
  refine (alive15 _).mono ?_
  rintro e w1 ⟨rfl, hb1⟩
  have A1 := Lib.hid (show Since w w1 from Since.via (by repeat (first | with_reducible exact A0.out | with_reducible exact Since.refl _ | with_reducible refine Since.alloc ?_ _ | with_reducible refine Since.setCell ?_ (by first | omega | (simp; done) | (simp; omega)) _ | with_reducible refine Since.drew ?_ | with_reducible refine Since.drewN ?_ _)) hb1)
  have s1 := A1.out.size
  clear hb1
  go_wp2
  go_loopg [7, 8, 9, 10] l.length (fun gk p v sd t wr => WrRel l n w w1 gk p v sd t wr)
  case atStart =>
    refine ⟨0, 128, 0, 0, List.replicate n 0, [], none, false, by omega, rfl, rfl, rfl, rfl, Nat.zero_le _, by omega, by omega, rfl, W0, ?_, OwnB.nil _ _, rfl, (by repeat (first | with_reducible exact A1.out | with_reducible exact Since.refl _ | with_reducible refine Since.alloc ?_ _ | with_reducible refine Since.setCell ?_ (by first | omega | (simp; done) | (simp; omega)) _ | with_reducible refine Since.drew ?_ | with_reducible refine Since.drewN ?_ _))⟩
    rw [← Z.out]; exact Cells.new _ _ _
  case round =>
    obtain ⟨k, p, lm, d, ws, m, B, z, rfl, rfl, rfl, rfl, rfl, hk, hpn, hp128, hLM, hW, hK, hown, hz, hnx⟩ := hrel
    obtain ⟨w2, hw2⟩ : ∃ x, x = wr := ⟨_, rfl⟩
    subst hw2
    have A2 := Lib.hid hnx
    have K2 := Lib.hid hK
    have OW2 := Lib.hid hown
    have s2 := A2.out.size
    have s1 := A1.out.size
    have kz2 := K2.out.lt
    have HL2 := Lib.hid (HB.out.below A2.out)
    have hml : m.length ≤ 1000000 := by have := wr_le hW.out; omega
    have hlm : lm ≤ 1000000 := by rw [← hLM.out]; exact hml
    clear hnx hK hown
    by_cases hlt : k < l.length
    · by_cases hp : p < n
      · obtain ⟨g, o, rfl, hg⟩ := HL2.out.at_ (by omega)
        obtain ⟨c0, c1, c2, c3, c4, c5⟩ := HL2.out.same hlt
        have hft := HF.out l[k] (List.getElem_mem hlt)
        obtain ⟨b, hbe⟩ : ∃ b, l[k] = b := ⟨_, rfl⟩
        rw [hbe] at c0 c1 c2 c3 c4 c5 hft
        obtain ⟨ba, bs, bk, bt, bm, bn⟩ := b
        simp only at c0 c1 c2 c3 c4 c5
        obtain ⟨⟨_, _⟩, ⟨hbs1, hbs2⟩, _, _, hbn⟩ := hft
        simp only at hbs1 hbs2 hbn
        clear hbe
        by_cases hgd : Blk.good ⟨ba, bs, bk, bt, bm, 0⟩
        · have C1 := Lib.hid fun W => hcheck_ok ba bs bk bt bm bn W hgd
          have hgs := good_size hgd
          simp only at hgs
          have hgs2 := hgs.2.2
          have hgs1 := hgs.1
          clear hgs
          by_cases hsz : bs ≤ (n : Int) - p
          · obtain ⟨S, rfl⟩ := Int.eq_ofNat_of_zero_le (show 0 ≤ bs by omega)
            have PUT := wr_put (b := ⟨p, S, bk, bt, bm, bn⟩) hW.out hgd hsz hbn
            simp only [Int.toNat_natCast] at PUT
            rw [show Blk.hdr ⟨p, S, bk, bt, bm, bn⟩ = Blk.hdr ⟨ba, S, bk, bt, bm, 0⟩ from rfl] at PUT
            have e1 : decide ((n : Int) - p < (S : Int)) = false := by simp; omega
            have hwl := hW.out.len
            have hp1 : p + 1 < n := by omega
            have hpS : p + S ≤ n := by omega
            obtain ⟨v0, hv0⟩ : ∃ v, ((ws.map wv).toArray)[p]? = some v := ⟨_, Array.getElem?_eq_getElem (by simp; omega)⟩
            obtain ⟨v1, hv1⟩ : ∃ v, ((ws.map wv).toArray)[p + 1]? = some v := ⟨_, Array.getElem?_eq_getElem (by simp; omega)⟩
            have V0 := Lib.hid hv0
            have V1 := Lib.hid hv1
            have C2 := Lib.hid fun W => hword_ok ba S bk bt bm bn W hgd
            generalize Blk.hdr ⟨ba, S, bk, bt, bm, 0⟩ = hd at *
            have PT := Lib.hid PUT
            have SN := Lib.hid (side_snoc m ⟨p, S, bk, bt, bm, bn⟩)
            clear hgd PUT hwl hv0 hv1 hsz
            go_wp2_with fail
            refine (C1.out _).mono ?_
            rintro e w3 ⟨rfl, hb3⟩
            have A3 := Lib.hid (show Since w w3 from Since.via (by repeat (first | with_reducible exact A2.out | with_reducible exact Since.refl _ | with_reducible refine Since.alloc ?_ _ | with_reducible refine Since.setCell ?_ (by first | omega | (simp; done) | (simp; omega)) _ | with_reducible refine Since.drew ?_ | with_reducible refine Since.drewN ?_ _)) hb3)
            have s3 := A3.out.size
            have B3 := Lib.hid (show Since w2 w3 from Since.via (by repeat (first | with_reducible exact Since.refl _ | with_reducible refine Since.alloc ?_ _ | with_reducible refine Since.setCell ?_ (by first | omega | (simp; done) | (simp; omega)) _ | with_reducible refine Since.drew ?_ | with_reducible refine Since.drewN ?_ _)) hb3)
            have K3 := Lib.hid (show Cells w3 (w1.heap.size) 22 (((ws.map wv).toArray)) from Cells.kept (by repeat (first | with_reducible exact K2.out | with_reducible exact Cells.at_ _ _ _ (by first | omega | (simp; done) | (simp; omega)) | with_reducible refine Cells.alloc ?_ _ | with_reducible refine Cells.far' ?_ (by first | omega | (simp; done) | (simp; omega)) _ | with_reducible refine Cells.drew ?_ | with_reducible refine Cells.drewN ?_ _)) hb3)
            have Kz3 := K3.out.lt
            have X3 := Lib.hid (show Cells w3 (w2.heap.size) 24 (#[.int .i64 ba, .int .i64 S, .int .i64 bk, .int .i64 bt, .bool bm, .int .u64 (bn : Nat)]) from Cells.kept (by repeat (first | with_reducible exact X2.out | with_reducible exact Cells.at_ _ _ _ (by first | omega | (simp; done) | (simp; omega)) | with_reducible refine Cells.alloc ?_ _ | with_reducible refine Cells.far' ?_ (by first | omega | (simp; done) | (simp; omega)) _ | with_reducible refine Cells.drew ?_ | with_reducible refine Cells.drewN ?_ _)) hb3)
            have Xz3 := X3.out.lt
            clear hb3
            obtain ⟨Xq0, Xq1, Xq2, Xq3, Xq4, Xq5⟩ := X3.out.six
            have Xlt := X3.out.lt
            go_wp2_with fail
            refine (C2.out _).mono ?_
            rintro e w4 ⟨rfl, hb4⟩
            clear Xq0 Xq1 Xq2 Xq3 Xq4 Xq5 Xlt
            have A4 := Lib.hid (show Since w w4 from Since.via (by repeat (first | with_reducible exact A3.out | with_reducible exact Since.refl _ | with_reducible refine Since.alloc ?_ _ | with_reducible refine Since.setCell ?_ (by first | omega | (simp; done) | (simp; omega)) _ | with_reducible refine Since.drew ?_ | with_reducible refine Since.drewN ?_ _)) hb4)
            have s4 := A4.out.size
            have B4 := Lib.hid (show Since w3 w4 from Since.via (by repeat (first | with_reducible exact Since.refl _ | with_reducible refine Since.alloc ?_ _ | with_reducible refine Since.setCell ?_ (by first | omega | (simp; done) | (simp; omega)) _ | with_reducible refine Since.drew ?_ | with_reducible refine Since.drewN ?_ _)) hb4)
            have X4 := Lib.hid (show Cells w4 (w2.heap.size) 24 (#[.int .i64 ba, .int .i64 S, .int .i64 bk, .int .i64 bt, .bool bm, .int .u64 (bn : Nat)]) from Cells.kept (by repeat (first | with_reducible exact X3.out | with_reducible exact Cells.at_ _ _ _ (by first | omega | (simp; done) | (simp; omega)) | with_reducible refine Cells.alloc ?_ _ | with_reducible refine Cells.far' ?_ (by first | omega | (simp; done) | (simp; omega)) _ | with_reducible refine Cells.drew ?_ | with_reducible refine Cells.drewN ?_ _)) hb4)
            have Xz4 := X4.out.lt
            have K4 := Lib.hid (show Cells w4 (w1.heap.size) 22 (((ws.map wv).toArray)) from Cells.kept (by repeat (first | with_reducible exact K3.out | with_reducible exact Cells.at_ _ _ _ (by first | omega | (simp; done) | (simp; omega)) | with_reducible refine Cells.alloc ?_ _ | with_reducible refine Cells.far' ?_ (by first | omega | (simp; done) | (simp; omega)) _ | with_reducible refine Cells.drew ?_ | with_reducible refine Cells.drewN ?_ _)) hb4)
            have Kz4 := K4.out.lt
            clear hb4
            have hne : w2.heap.size ≠ w1.heap.size := by omega
            have X5 := Lib.hid (show Cells (w4.setCell ⟨w2.heap.size, 0, none⟩ (.int .i64 p)) w2.heap.size 24 #[.int .i64 p, .int .i64 S, .int .i64 bk, .int .i64 bt, .bool bm, .int .u64 (bn : Nat)] from by have := X4.out.set_ 0 (.int .i64 p); simpa using this)
            have K5 := Lib.hid (show Cells (w4.setCell ⟨w2.heap.size, 0, none⟩ (.int .i64 p)) w1.heap.size 22 ((ws.map wv).toArray) from K4.out.far' (Ne.symm hne) _)
            have A5 := Lib.hid (show Since w (w4.setCell ⟨w2.heap.size, 0, none⟩ (.int .i64 p)) from Since.setCell A4.out (by omega) _)
            have B5 := Lib.hid (show Since w2 (w4.setCell ⟨w2.heap.size, 0, none⟩ (.int .i64 p)) from Since.setCell (Since.trans B3.out B4.out) (Nat.le_refl _) _)
            obtain ⟨Xf0, _⟩ := X4.out.free6
            obtain ⟨Xq0, _⟩ := X4.out.six
            go_upto_region 17 with (fail)
            generalize w4.setCell ⟨w2.heap.size, 0, none⟩ (.int .i64 p) = w5 at X5 K5 A5 B5 ⊢
            clear Xf0 Xq0
            have k0 := K5.out.cell p
            have k1 := K5.out.cell (p + 1)
            have f0 := K5.out.frozen p
            have f1 := K5.out.frozen (p + 1)
            rw [V0.out] at k0
            rw [V1.out] at k1
            obtain ⟨_, _, _, _, _, Xq5⟩ := X5.out.six
            go_cut [] from 45 to 118 (fun wx => PutRel w5 w1.heap.size p hd bn wx)
            case first =>
              as_aux_lemma =>
                go_region
                all_goals
                  go_wp2_with fail
                  go_meet
                  exact ⟨1, rfl⟩
            case rest =>
              obtain ⟨nq, hw6⟩ := hcut
              have hL := OW2.out.lt
              have OW5 := OW2.out.kept B5.out
              have hnk : (Value.slice B lm d).ownBlock ≠ some w1.heap.size := fun e => by have := (hL _ e).1; omega
              have hnx : (Value.slice B lm d).ownBlock ≠ some w2.heap.size := fun e => by have := (hL _ e).2; omega
              have HL := Lib.hid hL
              have HNK := Lib.hid hnk
              have HNX := Lib.hid hnx
              have OW6 := Lib.hid (show OwnB wc (w1.heap.size + 1) (.slice B lm d) m by rw [hw6]; exact (((OW5.far hnk _).far hnk _).kept (Since.out (Since.drewN (Since.refl _) _))))
              have K6 := Lib.hid (show Cells wc w1.heap.size 22 ((((ws.set p hd).set (p + 1) bn).map wv).toArray) by rw [hw6, ← wv_set, ← wv_set]; exact Cells.drewN ((K5.out.set_ p _).set_ (p + 1) _) _)
              have X6 := Lib.hid (show Cells wc w2.heap.size 24 #[.int .i64 p, .int .i64 S, .int .i64 bk, .int .i64 bt, .bool bm, .int .u64 (bn : Nat)] by rw [hw6]; exact Cells.drewN (Cells.far' (Cells.far' X5.out hne _) hne _) _)
              have A6 := Lib.hid (show Since w wc by rw [hw6]; exact Since.drewN (Since.setCell (Since.setCell A5.out (by omega) _) (by omega) _) _)
              clear hw6 hL OW5 hnk hnx k0 k1 f0 f1 Xq5
              obtain ⟨w6, hw6⟩ : ∃ x, x = wc := ⟨_, rfl⟩
              subst hw6
              have s6 := A6.out.size
              obtain ⟨Xq0, Xq1, Xq2, Xq3, Xq4, Xq5⟩ := X6.out.six
              have xz6 := X6.out.lt
              obtain ⟨zz, hzz⟩ : ∃ x, side (m ++ [⟨p, S, bk, bt, bm, bn⟩]) = x := ⟨_, rfl⟩
              have HZZ := Lib.hid hzz
              rw [hzz] at SN
              clear hzz
              go_upto_region 18 with (fail)
              go_cut [9] from 45 to 118 (fun sd wx => sd = .bool zz ∧ wx = w6)
              case first =>
                as_aux_lemma =>
                  cases z with
                  | true =>
                    obtain rfl : zz = true := by rw [SN.out, hz.out]; rfl
                    go_wp2_with fail
                    go_meet
                    exact ⟨rfl, rfl⟩
                  | false =>
                    rcases lm with _ | j
                    · obtain rfl : zz = false := by rw [SN.out, hz.out, hLM.out]; rfl
                      go_wp2_with fail
                      go_meet
                      exact ⟨rfl, rfl⟩
                    · by_cases hk2 : bk = 2
                      · subst hk2
                        have hjm : j < m.length := by have := hLM.out; omega
                        obtain ⟨B', d', hv, hBk⟩ := OW6.out.form
                        injection hv with hv1 hvm hv2
                        clear hvm
                        subst hv1 hv2
                        obtain ⟨g', o', rfl, hg'⟩ := hBk.at_ (by omega)
                        have hc1 := hBk.cap
                        have hc2 := hBk.most
                        rw [hLM.out] at hc1
                        obtain ⟨_, _, y2, _⟩ := hBk.same hjm
                        have KA := Lib.hid (kindAt_get hjm)
                        have hsn : zz = (m[j].kind == 2) := by rw [SN.out, hz.out, hLM.out, show j + 1 - 1 = j by omega, KA.out]; simp
                        generalize m[j].kind = y at *
                        clear hBk
                        by_cases hy : y = 2
                        · subst hy
                          obtain rfl : zz = true := hsn
                          go_wp2_with fail
                          go_meet
                          exact ⟨rfl, rfl⟩
                        · have hy2 : (y == 2) = false := by simpa using hy
                          obtain rfl : zz = false := by rw [hsn, hy2]
                          clear hsn hy
                          go_wp2_with fail
                          go_meet
                          exact ⟨rfl, rfl⟩
                      · have hk3 : (bk == 2) = false := by simpa using hk2
                        obtain rfl : zz = false := by rw [SN.out, hz.out]; simp [hk3]
                        clear hk2
                        go_wp2_with fail
                        go_meet
                        exact ⟨rfl, rfl⟩
              case rest =>
                obtain ⟨rfl, rfl⟩ := hcut
                go_wp2_with (at_builtin; refine wpList_append_blk rfl (.tmp 111) (.tmp 113) rfl (w1.heap.size + 1) (.slice B lm d) m rfl OW6.out ⟨p, S, bk, bt, bm, bn⟩ _ rfl ?k1 hml ?k2 ?_)
                any_goals (first | omega | rfl | (simp; done) | (simp; omega))
                intro v' w7 hown' hgrow hat
                have OW7 := Lib.hid hown'
                have K7 := Lib.hid (Cells.grown (K6.out.alloc _) hgrow HNK.out)
                have X7 := Lib.hid (Cells.grown (X6.out.alloc _) hgrow HNX.out)
                have A7 := Lib.hid (Since.grown (Since.alloc A6.out _) hgrow (fun q hq => by have := (HL.out q hq).1; omega))
                obtain ⟨B', d', rfl, _⟩ := OW7.out.form
                clear hown' hgrow hat Xq0 Xq1 Xq2 Xq3 Xq4 Xq5
                obtain ⟨Xq0, Xq1, Xq2, Xq3, Xq4, Xq5⟩ := X7.out.six
                have xz7 := X7.out.lt
                go_wp2
                go_roundg (l.length - (k + 1))
                case measure => omega
                case rel => exact ⟨k + 1, p + S, (m ++ [(⟨p, S, bk, bt, bm, bn⟩ : Blk)]).length, d', _, m ++ [⟨p, S, bk, bt, bm, bn⟩], B', zz, rfl, by go_num, by go_num, rfl, rfl, by omega, by omega, by omega, Lib.hid rfl, PT, K7.out, OW7.out, HZZ, A7.out⟩
          · have e1 : decide ((n : Int) - p < bs) = true := by simp; omega
            clear hgd
            go_wp2_with fail
            refine (C1.out _).mono ?_
            rintro e w3 ⟨rfl, hb3⟩
            have A3 := Lib.hid (show Since w w3 from Since.via (by repeat (first | with_reducible exact A2.out | with_reducible exact Since.refl _ | with_reducible refine Since.alloc ?_ _ | with_reducible refine Since.setCell ?_ (by first | omega | (simp; done) | (simp; omega)) _ | with_reducible refine Since.drew ?_ | with_reducible refine Since.drewN ?_ _)) hb3)
            have s3 := A3.out.size
            have B3 := Lib.hid (show Since w2 w3 from Since.via (by repeat (first | with_reducible exact Since.refl _ | with_reducible refine Since.alloc ?_ _ | with_reducible refine Since.setCell ?_ (by first | omega | (simp; done) | (simp; omega)) _ | with_reducible refine Since.drew ?_ | with_reducible refine Since.drewN ?_ _)) hb3)
            have K3 := Lib.hid (show Cells w3 (w1.heap.size) 22 (((ws.map wv).toArray)) from Cells.kept (by repeat (first | with_reducible exact K2.out | with_reducible exact Cells.at_ _ _ _ (by first | omega | (simp; done) | (simp; omega)) | with_reducible refine Cells.alloc ?_ _ | with_reducible refine Cells.far' ?_ (by first | omega | (simp; done) | (simp; omega)) _ | with_reducible refine Cells.drew ?_ | with_reducible refine Cells.drewN ?_ _)) hb3)
            have Kz3 := K3.out.lt
            have X3 := Lib.hid (show Cells w3 (w2.heap.size) 24 (#[.int .i64 ba, .int .i64 bs, .int .i64 bk, .int .i64 bt, .bool bm, .int .u64 (bn : Nat)]) from Cells.kept (by repeat (first | with_reducible exact X2.out | with_reducible exact Cells.at_ _ _ _ (by first | omega | (simp; done) | (simp; omega)) | with_reducible refine Cells.alloc ?_ _ | with_reducible refine Cells.far' ?_ (by first | omega | (simp; done) | (simp; omega)) _ | with_reducible refine Cells.drew ?_ | with_reducible refine Cells.drewN ?_ _)) hb3)
            have Xz3 := X3.out.lt
            clear hb3
            obtain ⟨Xq0, Xq1, Xq2, Xq3, Xq4, Xq5⟩ := X3.out.six
            have Xlt := X3.out.lt
            go_wp2
            go_roundg (l.length - (k + 1))
            case measure => omega
            case rel => exact ⟨k + 1, p, lm, d, ws, m, B, z, rfl, by go_num, rfl, rfl, rfl, by omega, by omega, hp128, hLM, hW, K3.out, OW2.out.kept B3.out, hz, A3.out⟩
        · have C1 := Lib.hid fun W => hcheck_bad ba bs bk bt bm bn W hgd
          clear hgd
          go_wp2_with fail
          refine (C1.out _).mono ?_
          rintro e w3 ⟨rfl, hb3⟩
          have A3 := Lib.hid (show Since w w3 from Since.via (by repeat (first | with_reducible exact A2.out | with_reducible exact Since.refl _ | with_reducible refine Since.alloc ?_ _ | with_reducible refine Since.setCell ?_ (by first | omega | (simp; done) | (simp; omega)) _ | with_reducible refine Since.drew ?_ | with_reducible refine Since.drewN ?_ _)) hb3)
          have s3 := A3.out.size
          have B3 := Lib.hid (show Since w2 w3 from Since.via (by repeat (first | with_reducible exact Since.refl _ | with_reducible refine Since.alloc ?_ _ | with_reducible refine Since.setCell ?_ (by first | omega | (simp; done) | (simp; omega)) _ | with_reducible refine Since.drew ?_ | with_reducible refine Since.drewN ?_ _)) hb3)
          have K3 := Lib.hid (show Cells w3 (w1.heap.size) 22 (((ws.map wv).toArray)) from Cells.kept (by repeat (first | with_reducible exact K2.out | with_reducible exact Cells.at_ _ _ _ (by first | omega | (simp; done) | (simp; omega)) | with_reducible refine Cells.alloc ?_ _ | with_reducible refine Cells.far' ?_ (by first | omega | (simp; done) | (simp; omega)) _ | with_reducible refine Cells.drew ?_ | with_reducible refine Cells.drewN ?_ _)) hb3)
          have Kz3 := K3.out.lt
          clear hb3
          go_wp2
          go_roundg (l.length - (k + 1))
          case measure => omega
          case rel => exact ⟨k + 1, p, lm, d, ws, m, B, z, rfl, by go_num, rfl, rfl, rfl, by omega, by omega, hp128, hLM, hW, K3.out, OW2.out.kept B3.out, hz, A3.out⟩
      · obtain rfl : n = p := by omega
        have e := hLM.out
        subst e
        have hpf : ¬ ((n : Int) < (n : Int)) := by omega
        have hE := wr_end hW.out HI.out
        have F1 := Lib.hid fun W A c h => from_any A n c (ws) 128 W h
        have F2 := Lib.hid fun W A c h => all_any A n c (ws) W h
        rw [hE.1] at F1
        rw [hE.2] at F2
        have WD2 := Lib.hid (Words.of_cells K2.out hW.out.lt hW.out.len (by omega))
        obtain ⟨B', d', hv, hBk⟩ := OW2.out.form
        injection hv with hv1 hvm hv2
        clear hvm
        subst hv1 hv2
        have V2 := Lib.hid hBk
        clear hBk hE
        cases z with
        | true =>
          rw [hz.out] at F2
          simp only [if_true] at F2
          go_wp2_with fail
          refine (F1.out _ _ _ (WD2.out.below (Since.out (by repeat (first | with_reducible exact Since.refl _ | with_reducible refine Since.alloc ?_ _ | with_reducible refine Since.setCell ?_ (by first | omega | (simp; done) | (simp; omega)) _ | with_reducible refine Since.drew ?_ | with_reducible refine Since.drewN ?_ _))))).mono ?_
          rintro e w3 ⟨C1, c1, rfl, hB, hb3⟩
          have A3 := Lib.hid (show Since w w3 from Since.via (by repeat (first | with_reducible exact A2.out | with_reducible exact Since.refl _ | with_reducible refine Since.alloc ?_ _ | with_reducible refine Since.setCell ?_ (by first | omega | (simp; done) | (simp; omega)) _ | with_reducible refine Since.drew ?_ | with_reducible refine Since.drewN ?_ _)) hb3)
          have s3 := A3.out.size
          have B3 := Lib.hid (show Since w2 w3 from Since.via (by repeat (first | with_reducible exact Since.refl _ | with_reducible refine Since.alloc ?_ _ | with_reducible refine Since.setCell ?_ (by first | omega | (simp; done) | (simp; omega)) _ | with_reducible refine Since.drew ?_ | with_reducible refine Since.drewN ?_ _)) hb3)
          have WD3 := Lib.hid (WD2.out.below B3.out)
          have V3 := Lib.hid (V2.out.below B3.out)
          have Q3 := Lib.hid hB
          clear hB
          clear hb3
          go_wp2_with fail
          refine (F2.out _ _ _ (WD3.out.below (Since.out (by repeat (first | with_reducible exact Since.refl _ | with_reducible refine Since.alloc ?_ _ | with_reducible refine Since.setCell ?_ (by first | omega | (simp; done) | (simp; omega)) _ | with_reducible refine Since.drew ?_ | with_reducible refine Since.drewN ?_ _))))).mono ?_
          rintro e w4 ⟨C2, c2, rfl, hB, hb4⟩
          have A4 := Lib.hid (show Since w w4 from Since.via (by repeat (first | with_reducible exact A3.out | with_reducible exact Since.refl _ | with_reducible refine Since.alloc ?_ _ | with_reducible refine Since.setCell ?_ (by first | omega | (simp; done) | (simp; omega)) _ | with_reducible refine Since.drew ?_ | with_reducible refine Since.drewN ?_ _)) hb4)
          have s4 := A4.out.size
          have B4 := Lib.hid (show Since w3 w4 from Since.via (by repeat (first | with_reducible exact Since.refl _ | with_reducible refine Since.alloc ?_ _ | with_reducible refine Since.setCell ?_ (by first | omega | (simp; done) | (simp; omega)) _ | with_reducible refine Since.drew ?_ | with_reducible refine Since.drewN ?_ _)) hb4)
          have V4 := Lib.hid (V3.out.below B4.out)
          have Q4 := Lib.hid (Q3.out.below B4.out)
          clear hb4
          go_wp2_with fail
          refine (rsame_m _ _ _ _ _ _ _ (Q4.out.below (Since.out (by repeat (first | with_reducible exact Since.refl _ | with_reducible refine Since.alloc ?_ _ | with_reducible refine Since.setCell ?_ (by first | omega | (simp; done) | (simp; omega)) _ | with_reducible refine Since.drew ?_ | with_reducible refine Since.drewN ?_ _)))) (V4.out.below (Since.out (by repeat (first | with_reducible exact Since.refl _ | with_reducible refine Since.alloc ?_ _ | with_reducible refine Since.setCell ?_ (by first | omega | (simp; done) | (simp; omega)) _ | with_reducible refine Since.drew ?_ | with_reducible refine Since.drewN ?_ _))))).mono ?_
          rintro e w5 ⟨rfl, hb5⟩
          have A5 := Lib.hid (show Since w w5 from Since.via (by repeat (first | with_reducible exact A4.out | with_reducible exact Since.refl _ | with_reducible refine Since.alloc ?_ _ | with_reducible refine Since.setCell ?_ (by first | omega | (simp; done) | (simp; omega)) _ | with_reducible refine Since.drew ?_ | with_reducible refine Since.drewN ?_ _)) hb5)
          have s5 := A5.out.size
          clear hb5
          go_wp2
          go_ret
          exact ⟨rfl, (Since.out (by repeat (first | with_reducible exact A5.out | with_reducible exact Since.refl _ | with_reducible refine Since.alloc ?_ _ | with_reducible refine Since.setCell ?_ (by first | omega | (simp; done) | (simp; omega)) _ | with_reducible refine Since.drew ?_ | with_reducible refine Since.drewN ?_ _)))⟩
        | false =>
          rw [hz.out] at F2
          simp only [Bool.false_eq_true, if_false] at F2
          go_wp2_with fail
          refine (F1.out _ _ _ (WD2.out.below (Since.out (by repeat (first | with_reducible exact Since.refl _ | with_reducible refine Since.alloc ?_ _ | with_reducible refine Since.setCell ?_ (by first | omega | (simp; done) | (simp; omega)) _ | with_reducible refine Since.drew ?_ | with_reducible refine Since.drewN ?_ _))))).mono ?_
          rintro e w3 ⟨C1, c1, rfl, hB, hb3⟩
          have A3 := Lib.hid (show Since w w3 from Since.via (by repeat (first | with_reducible exact A2.out | with_reducible exact Since.refl _ | with_reducible refine Since.alloc ?_ _ | with_reducible refine Since.setCell ?_ (by first | omega | (simp; done) | (simp; omega)) _ | with_reducible refine Since.drew ?_ | with_reducible refine Since.drewN ?_ _)) hb3)
          have s3 := A3.out.size
          have B3 := Lib.hid (show Since w2 w3 from Since.via (by repeat (first | with_reducible exact Since.refl _ | with_reducible refine Since.alloc ?_ _ | with_reducible refine Since.setCell ?_ (by first | omega | (simp; done) | (simp; omega)) _ | with_reducible refine Since.drew ?_ | with_reducible refine Since.drewN ?_ _)) hb3)
          have WD3 := Lib.hid (WD2.out.below B3.out)
          have V3 := Lib.hid (V2.out.below B3.out)
          have Q3 := Lib.hid hB
          clear hB
          clear hb3
          go_wp2_with fail
          refine (F2.out _ _ _ (WD3.out.below (Since.out (by repeat (first | with_reducible exact Since.refl _ | with_reducible refine Since.alloc ?_ _ | with_reducible refine Since.setCell ?_ (by first | omega | (simp; done) | (simp; omega)) _ | with_reducible refine Since.drew ?_ | with_reducible refine Since.drewN ?_ _))))).mono ?_
          rintro e w4 ⟨C2, c2, rfl, hB, hb4⟩
          have A4 := Lib.hid (show Since w w4 from Since.via (by repeat (first | with_reducible exact A3.out | with_reducible exact Since.refl _ | with_reducible refine Since.alloc ?_ _ | with_reducible refine Since.setCell ?_ (by first | omega | (simp; done) | (simp; omega)) _ | with_reducible refine Since.drew ?_ | with_reducible refine Since.drewN ?_ _)) hb4)
          have s4 := A4.out.size
          have B4 := Lib.hid (show Since w3 w4 from Since.via (by repeat (first | with_reducible exact Since.refl _ | with_reducible refine Since.alloc ?_ _ | with_reducible refine Since.setCell ?_ (by first | omega | (simp; done) | (simp; omega)) _ | with_reducible refine Since.drew ?_ | with_reducible refine Since.drewN ?_ _)) hb4)
          have V4 := Lib.hid (V3.out.below B4.out)
          have Q4 := Lib.hid (Q3.out.below B4.out)
          have R4 := Lib.hid hB
          clear hB
          clear hb4
          go_wp2_with fail
          refine (rsame_m _ _ _ _ _ _ _ (Q4.out.below (Since.out (by repeat (first | with_reducible exact Since.refl _ | with_reducible refine Since.alloc ?_ _ | with_reducible refine Since.setCell ?_ (by first | omega | (simp; done) | (simp; omega)) _ | with_reducible refine Since.drew ?_ | with_reducible refine Since.drewN ?_ _)))) (V4.out.below (Since.out (by repeat (first | with_reducible exact Since.refl _ | with_reducible refine Since.alloc ?_ _ | with_reducible refine Since.setCell ?_ (by first | omega | (simp; done) | (simp; omega)) _ | with_reducible refine Since.drew ?_ | with_reducible refine Since.drewN ?_ _))))).mono ?_
          rintro e w5 ⟨rfl, hb5⟩
          have A5 := Lib.hid (show Since w w5 from Since.via (by repeat (first | with_reducible exact A4.out | with_reducible exact Since.refl _ | with_reducible refine Since.alloc ?_ _ | with_reducible refine Since.setCell ?_ (by first | omega | (simp; done) | (simp; omega)) _ | with_reducible refine Since.drew ?_ | with_reducible refine Since.drewN ?_ _)) hb5)
          have s5 := A5.out.size
          have B5 := Lib.hid (show Since w4 w5 from Since.via (by repeat (first | with_reducible exact Since.refl _ | with_reducible refine Since.alloc ?_ _ | with_reducible refine Since.setCell ?_ (by first | omega | (simp; done) | (simp; omega)) _ | with_reducible refine Since.drew ?_ | with_reducible refine Since.drewN ?_ _)) hb5)
          have V5 := Lib.hid (V4.out.below B5.out)
          have R5 := Lib.hid (R4.out.below B5.out)
          clear hb5
          go_wp2_with fail
          refine (rsame_m _ _ _ _ _ _ _ (R5.out.below (Since.out (by repeat (first | with_reducible exact Since.refl _ | with_reducible refine Since.alloc ?_ _ | with_reducible refine Since.setCell ?_ (by first | omega | (simp; done) | (simp; omega)) _ | with_reducible refine Since.drew ?_ | with_reducible refine Since.drewN ?_ _)))) (V5.out.below (Since.out (by repeat (first | with_reducible exact Since.refl _ | with_reducible refine Since.alloc ?_ _ | with_reducible refine Since.setCell ?_ (by first | omega | (simp; done) | (simp; omega)) _ | with_reducible refine Since.drew ?_ | with_reducible refine Since.drewN ?_ _))))).mono ?_
          rintro e w6 ⟨rfl, hb6⟩
          have A6 := Lib.hid (show Since w w6 from Since.via (by repeat (first | with_reducible exact A5.out | with_reducible exact Since.refl _ | with_reducible refine Since.alloc ?_ _ | with_reducible refine Since.setCell ?_ (by first | omega | (simp; done) | (simp; omega)) _ | with_reducible refine Since.drew ?_ | with_reducible refine Since.drewN ?_ _)) hb6)
          have s6 := A6.out.size
          clear hb6
          go_wp2
          go_ret
          exact ⟨rfl, (Since.out (by repeat (first | with_reducible exact A6.out | with_reducible exact Since.refl _ | with_reducible refine Since.alloc ?_ _ | with_reducible refine Since.setCell ?_ (by first | omega | (simp; done) | (simp; omega)) _ | with_reducible refine Since.drew ?_ | with_reducible refine Since.drewN ?_ _)))⟩
    · obtain rfl : k = l.length := by omega
      by_cases hp : p < n
      · -- the last one is free
        obtain ⟨hgd, hWL⟩ := wr_last hW.out hp HE.out n2 hp128
        have WL := Lib.hid hWL
        have SN := Lib.hid (side_snoc m ⟨p, (n : Int) - p, 2, 0, false, 0⟩)
        have C2 := Lib.hid fun W => hword_ok p ((n : Int) - p) 2 0 false 0 W hgd
        have hwl := hW.out.len
        obtain ⟨v0, hv0⟩ : ∃ v, ((ws.map wv).toArray)[p]? = some v := ⟨_, Array.getElem?_eq_getElem (by simp; omega)⟩
        have V0 := Lib.hid hv0
        generalize Blk.hdr ⟨p, (n : Int) - p, 2, 0, false, 0⟩ = hd at *
        clear hgd hWL hwl hv0
        go_wp2_with fail
        refine (C2.out _).mono ?_
        rintro e w3 ⟨rfl, hb3⟩
        have A3 := Lib.hid (show Since w w3 from Since.via (by repeat (first | with_reducible exact A2.out | with_reducible exact Since.refl _ | with_reducible refine Since.alloc ?_ _ | with_reducible refine Since.setCell ?_ (by first | omega | (simp; done) | (simp; omega)) _ | with_reducible refine Since.drew ?_ | with_reducible refine Since.drewN ?_ _)) hb3)
        have s3 := A3.out.size
        have B3 := Lib.hid (show Since w2 w3 from Since.via (by repeat (first | with_reducible exact Since.refl _ | with_reducible refine Since.alloc ?_ _ | with_reducible refine Since.setCell ?_ (by first | omega | (simp; done) | (simp; omega)) _ | with_reducible refine Since.drew ?_ | with_reducible refine Since.drewN ?_ _)) hb3)
        have K3 := Lib.hid (show Cells w3 (w1.heap.size) 22 (((ws.map wv).toArray)) from Cells.kept (by repeat (first | with_reducible exact K2.out | with_reducible exact Cells.at_ _ _ _ (by first | omega | (simp; done) | (simp; omega)) | with_reducible refine Cells.alloc ?_ _ | with_reducible refine Cells.far' ?_ (by first | omega | (simp; done) | (simp; omega)) _ | with_reducible refine Cells.drew ?_ | with_reducible refine Cells.drewN ?_ _)) hb3)
        have Kz3 := K3.out.lt
        have Y3 := Lib.hid (show Cells w3 (w2.heap.size) 24 (#[.int .i64 p, .int .i64 ((n : Int) - p), .int .i64 2, .int .i64 0, .bool false, .int .u64 0]) from Cells.kept (by repeat (first | with_reducible exact Y2.out | with_reducible exact Cells.at_ _ _ _ (by first | omega | (simp; done) | (simp; omega)) | with_reducible refine Cells.alloc ?_ _ | with_reducible refine Cells.far' ?_ (by first | omega | (simp; done) | (simp; omega)) _ | with_reducible refine Cells.drew ?_ | with_reducible refine Cells.drewN ?_ _)) hb3)
        have Yz3 := Y3.out.lt
        clear hb3
        have k0 := K3.out.cell p
        have f0 := K3.out.frozen p
        rw [V0.out] at k0
        have hne : w2.heap.size ≠ w1.heap.size := by omega
        have hL := OW2.out.lt
        have OW3 := OW2.out.kept B3.out
        have hnk : (Value.slice B lm d).ownBlock ≠ some w1.heap.size := fun e => by have := (hL _ e).1; omega
        have HL := Lib.hid hL
        have HNK := Lib.hid hnk
        have OW4 := Lib.hid (show OwnB (w3.setCell ⟨w1.heap.size, p, none⟩ (.int .u64 (hd : Int))) (w1.heap.size + 1) (.slice B lm d) m from OW3.far hnk _)
        have K4 := Lib.hid (show Cells (w3.setCell ⟨w1.heap.size, p, none⟩ (.int .u64 (hd : Int))) w1.heap.size 22 (((ws.set p hd).map wv).toArray) by rw [← wv_set]; exact K3.out.set_ p _)
        have Y4 := Lib.hid (show Cells (w3.setCell ⟨w1.heap.size, p, none⟩ (.int .u64 (hd : Int))) w2.heap.size 24 #[.int .i64 p, .int .i64 ((n : Int) - p), .int .i64 2, .int .i64 0, .bool false, .int .u64 0] from Y3.out.far' hne _)
        have A4 := Lib.hid (show Since w (w3.setCell ⟨w1.heap.size, p, none⟩ (.int .u64 (hd : Int))) from Since.setCell A3.out s1 _)
        clear hL OW3 hnk
        go_upto_region 27 with (fail)
        generalize w3.setCell ⟨w1.heap.size, p, none⟩ (.int .u64 (hd : Int)) = w4 at OW4 K4 Y4 A4 ⊢
        clear k0 f0
        have s4 := A4.out.size
        obtain ⟨Xq0, Xq1, Xq2, Xq3, Xq4, Xq5⟩ := Y4.out.six
        have xz4 := Y4.out.lt
        obtain ⟨zz, hzz⟩ : ∃ x, side (m ++ [⟨p, (n : Int) - p, 2, 0, false, 0⟩]) = x := ⟨_, rfl⟩
        obtain ⟨mm, hmm⟩ : ∃ mm, mm = m ++ [⟨p, (n : Int) - p, 2, 0, false, 0⟩] := ⟨_, rfl⟩
        have HMM := Lib.hid hmm
        have HZZ := Lib.hid (show side mm = zz by rw [hmm]; exact hzz)
        have WLL := Lib.hid (show Wr n (ws.set p hd) mm n by rw [hmm]; exact WL.out)
        rw [hzz] at SN
        clear hzz hmm
        go_cut [9] from 119 to 196 (fun sd wx => sd = .bool zz ∧ wx = w4)
        case first =>
          as_aux_lemma =>
            cases z with
            | true =>
              obtain rfl : zz = true := by rw [SN.out, hz.out]; rfl
              go_wp2_with fail
              go_meet
              exact ⟨rfl, rfl⟩
            | false =>
              rcases lm with _ | j
              · obtain rfl : zz = false := by rw [SN.out, hz.out, hLM.out]; rfl
                go_wp2_with fail
                go_meet
                exact ⟨rfl, rfl⟩
              · have hjm : j < m.length := by have := hLM.out; omega
                obtain ⟨B', d', hv, hBk⟩ := OW4.out.form
                injection hv with hv1 hvm hv2
                clear hvm
                subst hv1 hv2
                obtain ⟨g', o', rfl, hg'⟩ := hBk.at_ (by omega)
                have hc1 := hBk.cap
                have hc2 := hBk.most
                rw [hLM.out] at hc1
                obtain ⟨_, _, y2, _⟩ := hBk.same hjm
                have KA := Lib.hid (kindAt_get hjm)
                have hsn : zz = (m[j].kind == 2) := by rw [SN.out, hz.out, hLM.out, show j + 1 - 1 = j by omega, KA.out]; simp
                generalize m[j].kind = y at *
                clear hBk
                by_cases hy : y = 2
                · subst hy
                  obtain rfl : zz = true := hsn
                  go_wp2_with fail
                  go_meet
                  exact ⟨rfl, rfl⟩
                · have hy2 : (y == 2) = false := by simpa using hy
                  obtain rfl : zz = false := by rw [hsn, hy2]
                  clear hsn hy
                  go_wp2_with fail
                  go_meet
                  exact ⟨rfl, rfl⟩
        case rest =>
          obtain ⟨rfl, rfl⟩ := hcut
          go_wp2_with (at_builtin; refine wpList_append_blk rfl (.tmp 154) (.tmp 156) rfl (w1.heap.size + 1) (.slice B lm d) m rfl OW4.out ⟨p, (n : Int) - p, 2, 0, false, 0⟩ _ rfl ?k3 hml ?k4 ?_)
          any_goals (first | omega | rfl | (simp; done) | (simp; omega))
          intro v' w5 hown' hgrow hat
          have OW5 := Lib.hid (show OwnB w5 (w1.heap.size + 1) v' mm by rw [HMM.out]; exact hown')
          have K5 := Lib.hid (Cells.grown (K4.out.alloc _) hgrow HNK.out)
          have A5 := Lib.hid (show Since w w5 from Since.grown (Since.alloc A4.out _) hgrow (fun q hq => by have := (HL.out q hq).1; omega))
          obtain ⟨B5, d5, rfl, _⟩ := OW5.out.form
          clear hown' hgrow hat Xq0 Xq1 Xq2 Xq3 Xq4 Xq5
          have hE := wr_end WLL.out HI.out
          have F1 := Lib.hid fun W A c h => from_any A n c (ws.set p hd) 128 W h
          have F2 := Lib.hid fun W A c h => all_any A n c (ws.set p hd) W h
          rw [hE.1] at F1
          rw [hE.2] at F2
          have WD5 := Lib.hid (Words.of_cells K5.out WLL.out.lt WLL.out.len (by omega))
          obtain ⟨B', d', hv, hBk⟩ := OW5.out.form
          injection hv with hv1 hvm hv2
          clear hvm
          subst hv1 hv2
          have V5 := Lib.hid hBk
          clear hBk hE
          cases zz with
          | true =>
            rw [HZZ.out] at F2
            simp only [if_true] at F2
            go_wp2_with fail
            refine (F1.out _ _ _ (WD5.out.below (Since.out (by repeat (first | with_reducible exact Since.refl _ | with_reducible refine Since.alloc ?_ _ | with_reducible refine Since.setCell ?_ (by first | omega | (simp; done) | (simp; omega)) _ | with_reducible refine Since.drew ?_ | with_reducible refine Since.drewN ?_ _))))).mono ?_
            rintro e w6 ⟨C1, c1, rfl, hB, hb6⟩
            have A6 := Lib.hid (show Since w w6 from Since.via (by repeat (first | with_reducible exact A5.out | with_reducible exact Since.refl _ | with_reducible refine Since.alloc ?_ _ | with_reducible refine Since.setCell ?_ (by first | omega | (simp; done) | (simp; omega)) _ | with_reducible refine Since.drew ?_ | with_reducible refine Since.drewN ?_ _)) hb6)
            have s6 := A6.out.size
            have B6 := Lib.hid (show Since w5 w6 from Since.via (by repeat (first | with_reducible exact Since.refl _ | with_reducible refine Since.alloc ?_ _ | with_reducible refine Since.setCell ?_ (by first | omega | (simp; done) | (simp; omega)) _ | with_reducible refine Since.drew ?_ | with_reducible refine Since.drewN ?_ _)) hb6)
            have WD6 := Lib.hid (WD5.out.below B6.out)
            have V6 := Lib.hid (V5.out.below B6.out)
            have Q6 := Lib.hid hB
            clear hB
            clear hb6
            go_wp2_with fail
            refine (F2.out _ _ _ (WD6.out.below (Since.out (by repeat (first | with_reducible exact Since.refl _ | with_reducible refine Since.alloc ?_ _ | with_reducible refine Since.setCell ?_ (by first | omega | (simp; done) | (simp; omega)) _ | with_reducible refine Since.drew ?_ | with_reducible refine Since.drewN ?_ _))))).mono ?_
            rintro e w7 ⟨C2, c2, rfl, hB, hb7⟩
            have A7 := Lib.hid (show Since w w7 from Since.via (by repeat (first | with_reducible exact A6.out | with_reducible exact Since.refl _ | with_reducible refine Since.alloc ?_ _ | with_reducible refine Since.setCell ?_ (by first | omega | (simp; done) | (simp; omega)) _ | with_reducible refine Since.drew ?_ | with_reducible refine Since.drewN ?_ _)) hb7)
            have s7 := A7.out.size
            have B7 := Lib.hid (show Since w6 w7 from Since.via (by repeat (first | with_reducible exact Since.refl _ | with_reducible refine Since.alloc ?_ _ | with_reducible refine Since.setCell ?_ (by first | omega | (simp; done) | (simp; omega)) _ | with_reducible refine Since.drew ?_ | with_reducible refine Since.drewN ?_ _)) hb7)
            have V7 := Lib.hid (V6.out.below B7.out)
            have Q7 := Lib.hid (Q6.out.below B7.out)
            clear hb7
            go_wp2_with fail
            refine (rsame_m _ _ _ _ _ _ _ (Q7.out.below (Since.out (by repeat (first | with_reducible exact Since.refl _ | with_reducible refine Since.alloc ?_ _ | with_reducible refine Since.setCell ?_ (by first | omega | (simp; done) | (simp; omega)) _ | with_reducible refine Since.drew ?_ | with_reducible refine Since.drewN ?_ _)))) (V7.out.below (Since.out (by repeat (first | with_reducible exact Since.refl _ | with_reducible refine Since.alloc ?_ _ | with_reducible refine Since.setCell ?_ (by first | omega | (simp; done) | (simp; omega)) _ | with_reducible refine Since.drew ?_ | with_reducible refine Since.drewN ?_ _))))).mono ?_
            rintro e w8 ⟨rfl, hb8⟩
            have A8 := Lib.hid (show Since w w8 from Since.via (by repeat (first | with_reducible exact A7.out | with_reducible exact Since.refl _ | with_reducible refine Since.alloc ?_ _ | with_reducible refine Since.setCell ?_ (by first | omega | (simp; done) | (simp; omega)) _ | with_reducible refine Since.drew ?_ | with_reducible refine Since.drewN ?_ _)) hb8)
            have s8 := A8.out.size
            clear hb8
            go_wp2
            go_ret
            exact ⟨rfl, (Since.out (by repeat (first | with_reducible exact A8.out | with_reducible exact Since.refl _ | with_reducible refine Since.alloc ?_ _ | with_reducible refine Since.setCell ?_ (by first | omega | (simp; done) | (simp; omega)) _ | with_reducible refine Since.drew ?_ | with_reducible refine Since.drewN ?_ _)))⟩
          | false =>
            rw [HZZ.out] at F2
            simp only [Bool.false_eq_true, if_false] at F2
            go_wp2_with fail
            refine (F1.out _ _ _ (WD5.out.below (Since.out (by repeat (first | with_reducible exact Since.refl _ | with_reducible refine Since.alloc ?_ _ | with_reducible refine Since.setCell ?_ (by first | omega | (simp; done) | (simp; omega)) _ | with_reducible refine Since.drew ?_ | with_reducible refine Since.drewN ?_ _))))).mono ?_
            rintro e w6 ⟨C1, c1, rfl, hB, hb6⟩
            have A6 := Lib.hid (show Since w w6 from Since.via (by repeat (first | with_reducible exact A5.out | with_reducible exact Since.refl _ | with_reducible refine Since.alloc ?_ _ | with_reducible refine Since.setCell ?_ (by first | omega | (simp; done) | (simp; omega)) _ | with_reducible refine Since.drew ?_ | with_reducible refine Since.drewN ?_ _)) hb6)
            have s6 := A6.out.size
            have B6 := Lib.hid (show Since w5 w6 from Since.via (by repeat (first | with_reducible exact Since.refl _ | with_reducible refine Since.alloc ?_ _ | with_reducible refine Since.setCell ?_ (by first | omega | (simp; done) | (simp; omega)) _ | with_reducible refine Since.drew ?_ | with_reducible refine Since.drewN ?_ _)) hb6)
            have WD6 := Lib.hid (WD5.out.below B6.out)
            have V6 := Lib.hid (V5.out.below B6.out)
            have Q6 := Lib.hid hB
            clear hB
            clear hb6
            go_wp2_with fail
            refine (F2.out _ _ _ (WD6.out.below (Since.out (by repeat (first | with_reducible exact Since.refl _ | with_reducible refine Since.alloc ?_ _ | with_reducible refine Since.setCell ?_ (by first | omega | (simp; done) | (simp; omega)) _ | with_reducible refine Since.drew ?_ | with_reducible refine Since.drewN ?_ _))))).mono ?_
            rintro e w7 ⟨C2, c2, rfl, hB, hb7⟩
            have A7 := Lib.hid (show Since w w7 from Since.via (by repeat (first | with_reducible exact A6.out | with_reducible exact Since.refl _ | with_reducible refine Since.alloc ?_ _ | with_reducible refine Since.setCell ?_ (by first | omega | (simp; done) | (simp; omega)) _ | with_reducible refine Since.drew ?_ | with_reducible refine Since.drewN ?_ _)) hb7)
            have s7 := A7.out.size
            have B7 := Lib.hid (show Since w6 w7 from Since.via (by repeat (first | with_reducible exact Since.refl _ | with_reducible refine Since.alloc ?_ _ | with_reducible refine Since.setCell ?_ (by first | omega | (simp; done) | (simp; omega)) _ | with_reducible refine Since.drew ?_ | with_reducible refine Since.drewN ?_ _)) hb7)
            have V7 := Lib.hid (V6.out.below B7.out)
            have Q7 := Lib.hid (Q6.out.below B7.out)
            have R7 := Lib.hid hB
            clear hB
            clear hb7
            go_wp2_with fail
            refine (rsame_m _ _ _ _ _ _ _ (Q7.out.below (Since.out (by repeat (first | with_reducible exact Since.refl _ | with_reducible refine Since.alloc ?_ _ | with_reducible refine Since.setCell ?_ (by first | omega | (simp; done) | (simp; omega)) _ | with_reducible refine Since.drew ?_ | with_reducible refine Since.drewN ?_ _)))) (V7.out.below (Since.out (by repeat (first | with_reducible exact Since.refl _ | with_reducible refine Since.alloc ?_ _ | with_reducible refine Since.setCell ?_ (by first | omega | (simp; done) | (simp; omega)) _ | with_reducible refine Since.drew ?_ | with_reducible refine Since.drewN ?_ _))))).mono ?_
            rintro e w8 ⟨rfl, hb8⟩
            have A8 := Lib.hid (show Since w w8 from Since.via (by repeat (first | with_reducible exact A7.out | with_reducible exact Since.refl _ | with_reducible refine Since.alloc ?_ _ | with_reducible refine Since.setCell ?_ (by first | omega | (simp; done) | (simp; omega)) _ | with_reducible refine Since.drew ?_ | with_reducible refine Since.drewN ?_ _)) hb8)
            have s8 := A8.out.size
            have B8 := Lib.hid (show Since w7 w8 from Since.via (by repeat (first | with_reducible exact Since.refl _ | with_reducible refine Since.alloc ?_ _ | with_reducible refine Since.setCell ?_ (by first | omega | (simp; done) | (simp; omega)) _ | with_reducible refine Since.drew ?_ | with_reducible refine Since.drewN ?_ _)) hb8)
            have V8 := Lib.hid (V7.out.below B8.out)
            have R8 := Lib.hid (R7.out.below B8.out)
            clear hb8
            go_wp2_with fail
            refine (rsame_m _ _ _ _ _ _ _ (R8.out.below (Since.out (by repeat (first | with_reducible exact Since.refl _ | with_reducible refine Since.alloc ?_ _ | with_reducible refine Since.setCell ?_ (by first | omega | (simp; done) | (simp; omega)) _ | with_reducible refine Since.drew ?_ | with_reducible refine Since.drewN ?_ _)))) (V8.out.below (Since.out (by repeat (first | with_reducible exact Since.refl _ | with_reducible refine Since.alloc ?_ _ | with_reducible refine Since.setCell ?_ (by first | omega | (simp; done) | (simp; omega)) _ | with_reducible refine Since.drew ?_ | with_reducible refine Since.drewN ?_ _))))).mono ?_
            rintro e w9 ⟨rfl, hb9⟩
            have A9 := Lib.hid (show Since w w9 from Since.via (by repeat (first | with_reducible exact A8.out | with_reducible exact Since.refl _ | with_reducible refine Since.alloc ?_ _ | with_reducible refine Since.setCell ?_ (by first | omega | (simp; done) | (simp; omega)) _ | with_reducible refine Since.drew ?_ | with_reducible refine Since.drewN ?_ _)) hb9)
            have s9 := A9.out.size
            clear hb9
            go_wp2
            go_ret
            exact ⟨rfl, (Since.out (by repeat (first | with_reducible exact A9.out | with_reducible exact Since.refl _ | with_reducible refine Since.alloc ?_ _ | with_reducible refine Since.setCell ?_ (by first | omega | (simp; done) | (simp; omega)) _ | with_reducible refine Since.drew ?_ | with_reducible refine Since.drewN ?_ _)))⟩
      · obtain rfl : n = p := by omega
        have e := hLM.out
        subst e
        have hE := wr_end hW.out HI.out
        have F1 := Lib.hid fun W A c h => from_any A n c (ws) 128 W h
        have F2 := Lib.hid fun W A c h => all_any A n c (ws) W h
        rw [hE.1] at F1
        rw [hE.2] at F2
        have WD2 := Lib.hid (Words.of_cells K2.out hW.out.lt hW.out.len (by omega))
        obtain ⟨B', d', hv, hBk⟩ := OW2.out.form
        injection hv with hv1 hvm hv2
        clear hvm
        subst hv1 hv2
        have V2 := Lib.hid hBk
        clear hBk hE
        cases z with
        | true =>
          rw [hz.out] at F2
          simp only [if_true] at F2
          go_wp2_with fail
          refine (F1.out _ _ _ (WD2.out.below (Since.out (by repeat (first | with_reducible exact Since.refl _ | with_reducible refine Since.alloc ?_ _ | with_reducible refine Since.setCell ?_ (by first | omega | (simp; done) | (simp; omega)) _ | with_reducible refine Since.drew ?_ | with_reducible refine Since.drewN ?_ _))))).mono ?_
          rintro e w3 ⟨C1, c1, rfl, hB, hb3⟩
          have A3 := Lib.hid (show Since w w3 from Since.via (by repeat (first | with_reducible exact A2.out | with_reducible exact Since.refl _ | with_reducible refine Since.alloc ?_ _ | with_reducible refine Since.setCell ?_ (by first | omega | (simp; done) | (simp; omega)) _ | with_reducible refine Since.drew ?_ | with_reducible refine Since.drewN ?_ _)) hb3)
          have s3 := A3.out.size
          have B3 := Lib.hid (show Since w2 w3 from Since.via (by repeat (first | with_reducible exact Since.refl _ | with_reducible refine Since.alloc ?_ _ | with_reducible refine Since.setCell ?_ (by first | omega | (simp; done) | (simp; omega)) _ | with_reducible refine Since.drew ?_ | with_reducible refine Since.drewN ?_ _)) hb3)
          have WD3 := Lib.hid (WD2.out.below B3.out)
          have V3 := Lib.hid (V2.out.below B3.out)
          have Q3 := Lib.hid hB
          clear hB
          clear hb3
          go_wp2_with fail
          refine (F2.out _ _ _ (WD3.out.below (Since.out (by repeat (first | with_reducible exact Since.refl _ | with_reducible refine Since.alloc ?_ _ | with_reducible refine Since.setCell ?_ (by first | omega | (simp; done) | (simp; omega)) _ | with_reducible refine Since.drew ?_ | with_reducible refine Since.drewN ?_ _))))).mono ?_
          rintro e w4 ⟨C2, c2, rfl, hB, hb4⟩
          have A4 := Lib.hid (show Since w w4 from Since.via (by repeat (first | with_reducible exact A3.out | with_reducible exact Since.refl _ | with_reducible refine Since.alloc ?_ _ | with_reducible refine Since.setCell ?_ (by first | omega | (simp; done) | (simp; omega)) _ | with_reducible refine Since.drew ?_ | with_reducible refine Since.drewN ?_ _)) hb4)
          have s4 := A4.out.size
          have B4 := Lib.hid (show Since w3 w4 from Since.via (by repeat (first | with_reducible exact Since.refl _ | with_reducible refine Since.alloc ?_ _ | with_reducible refine Since.setCell ?_ (by first | omega | (simp; done) | (simp; omega)) _ | with_reducible refine Since.drew ?_ | with_reducible refine Since.drewN ?_ _)) hb4)
          have V4 := Lib.hid (V3.out.below B4.out)
          have Q4 := Lib.hid (Q3.out.below B4.out)
          clear hb4
          go_wp2_with fail
          refine (rsame_m _ _ _ _ _ _ _ (Q4.out.below (Since.out (by repeat (first | with_reducible exact Since.refl _ | with_reducible refine Since.alloc ?_ _ | with_reducible refine Since.setCell ?_ (by first | omega | (simp; done) | (simp; omega)) _ | with_reducible refine Since.drew ?_ | with_reducible refine Since.drewN ?_ _)))) (V4.out.below (Since.out (by repeat (first | with_reducible exact Since.refl _ | with_reducible refine Since.alloc ?_ _ | with_reducible refine Since.setCell ?_ (by first | omega | (simp; done) | (simp; omega)) _ | with_reducible refine Since.drew ?_ | with_reducible refine Since.drewN ?_ _))))).mono ?_
          rintro e w5 ⟨rfl, hb5⟩
          have A5 := Lib.hid (show Since w w5 from Since.via (by repeat (first | with_reducible exact A4.out | with_reducible exact Since.refl _ | with_reducible refine Since.alloc ?_ _ | with_reducible refine Since.setCell ?_ (by first | omega | (simp; done) | (simp; omega)) _ | with_reducible refine Since.drew ?_ | with_reducible refine Since.drewN ?_ _)) hb5)
          have s5 := A5.out.size
          clear hb5
          go_wp2
          go_ret
          exact ⟨rfl, (Since.out (by repeat (first | with_reducible exact A5.out | with_reducible exact Since.refl _ | with_reducible refine Since.alloc ?_ _ | with_reducible refine Since.setCell ?_ (by first | omega | (simp; done) | (simp; omega)) _ | with_reducible refine Since.drew ?_ | with_reducible refine Since.drewN ?_ _)))⟩
        | false =>
          rw [hz.out] at F2
          simp only [Bool.false_eq_true, if_false] at F2
          go_wp2_with fail
          refine (F1.out _ _ _ (WD2.out.below (Since.out (by repeat (first | with_reducible exact Since.refl _ | with_reducible refine Since.alloc ?_ _ | with_reducible refine Since.setCell ?_ (by first | omega | (simp; done) | (simp; omega)) _ | with_reducible refine Since.drew ?_ | with_reducible refine Since.drewN ?_ _))))).mono ?_
          rintro e w3 ⟨C1, c1, rfl, hB, hb3⟩
          have A3 := Lib.hid (show Since w w3 from Since.via (by repeat (first | with_reducible exact A2.out | with_reducible exact Since.refl _ | with_reducible refine Since.alloc ?_ _ | with_reducible refine Since.setCell ?_ (by first | omega | (simp; done) | (simp; omega)) _ | with_reducible refine Since.drew ?_ | with_reducible refine Since.drewN ?_ _)) hb3)
          have s3 := A3.out.size
          have B3 := Lib.hid (show Since w2 w3 from Since.via (by repeat (first | with_reducible exact Since.refl _ | with_reducible refine Since.alloc ?_ _ | with_reducible refine Since.setCell ?_ (by first | omega | (simp; done) | (simp; omega)) _ | with_reducible refine Since.drew ?_ | with_reducible refine Since.drewN ?_ _)) hb3)
          have WD3 := Lib.hid (WD2.out.below B3.out)
          have V3 := Lib.hid (V2.out.below B3.out)
          have Q3 := Lib.hid hB
          clear hB
          clear hb3
          go_wp2_with fail
          refine (F2.out _ _ _ (WD3.out.below (Since.out (by repeat (first | with_reducible exact Since.refl _ | with_reducible refine Since.alloc ?_ _ | with_reducible refine Since.setCell ?_ (by first | omega | (simp; done) | (simp; omega)) _ | with_reducible refine Since.drew ?_ | with_reducible refine Since.drewN ?_ _))))).mono ?_
          rintro e w4 ⟨C2, c2, rfl, hB, hb4⟩
          have A4 := Lib.hid (show Since w w4 from Since.via (by repeat (first | with_reducible exact A3.out | with_reducible exact Since.refl _ | with_reducible refine Since.alloc ?_ _ | with_reducible refine Since.setCell ?_ (by first | omega | (simp; done) | (simp; omega)) _ | with_reducible refine Since.drew ?_ | with_reducible refine Since.drewN ?_ _)) hb4)
          have s4 := A4.out.size
          have B4 := Lib.hid (show Since w3 w4 from Since.via (by repeat (first | with_reducible exact Since.refl _ | with_reducible refine Since.alloc ?_ _ | with_reducible refine Since.setCell ?_ (by first | omega | (simp; done) | (simp; omega)) _ | with_reducible refine Since.drew ?_ | with_reducible refine Since.drewN ?_ _)) hb4)
          have V4 := Lib.hid (V3.out.below B4.out)
          have Q4 := Lib.hid (Q3.out.below B4.out)
          have R4 := Lib.hid hB
          clear hB
          clear hb4
          go_wp2_with fail
          refine (rsame_m _ _ _ _ _ _ _ (Q4.out.below (Since.out (by repeat (first | with_reducible exact Since.refl _ | with_reducible refine Since.alloc ?_ _ | with_reducible refine Since.setCell ?_ (by first | omega | (simp; done) | (simp; omega)) _ | with_reducible refine Since.drew ?_ | with_reducible refine Since.drewN ?_ _)))) (V4.out.below (Since.out (by repeat (first | with_reducible exact Since.refl _ | with_reducible refine Since.alloc ?_ _ | with_reducible refine Since.setCell ?_ (by first | omega | (simp; done) | (simp; omega)) _ | with_reducible refine Since.drew ?_ | with_reducible refine Since.drewN ?_ _))))).mono ?_
          rintro e w5 ⟨rfl, hb5⟩
          have A5 := Lib.hid (show Since w w5 from Since.via (by repeat (first | with_reducible exact A4.out | with_reducible exact Since.refl _ | with_reducible refine Since.alloc ?_ _ | with_reducible refine Since.setCell ?_ (by first | omega | (simp; done) | (simp; omega)) _ | with_reducible refine Since.drew ?_ | with_reducible refine Since.drewN ?_ _)) hb5)
          have s5 := A5.out.size
          have B5 := Lib.hid (show Since w4 w5 from Since.via (by repeat (first | with_reducible exact Since.refl _ | with_reducible refine Since.alloc ?_ _ | with_reducible refine Since.setCell ?_ (by first | omega | (simp; done) | (simp; omega)) _ | with_reducible refine Since.drew ?_ | with_reducible refine Since.drewN ?_ _)) hb5)
          have V5 := Lib.hid (V4.out.below B5.out)
          have R5 := Lib.hid (R4.out.below B5.out)
          clear hb5
          go_wp2_with fail
          refine (rsame_m _ _ _ _ _ _ _ (R5.out.below (Since.out (by repeat (first | with_reducible exact Since.refl _ | with_reducible refine Since.alloc ?_ _ | with_reducible refine Since.setCell ?_ (by first | omega | (simp; done) | (simp; omega)) _ | with_reducible refine Since.drew ?_ | with_reducible refine Since.drewN ?_ _)))) (V5.out.below (Since.out (by repeat (first | with_reducible exact Since.refl _ | with_reducible refine Since.alloc ?_ _ | with_reducible refine Since.setCell ?_ (by first | omega | (simp; done) | (simp; omega)) _ | with_reducible refine Since.drew ?_ | with_reducible refine Since.drewN ?_ _))))).mono ?_
          rintro e w6 ⟨rfl, hb6⟩
          have A6 := Lib.hid (show Since w w6 from Since.via (by repeat (first | with_reducible exact A5.out | with_reducible exact Since.refl _ | with_reducible refine Since.alloc ?_ _ | with_reducible refine Since.setCell ?_ (by first | omega | (simp; done) | (simp; omega)) _ | with_reducible refine Since.drew ?_ | with_reducible refine Since.drewN ?_ _)) hb6)
          have s6 := A6.out.size
          clear hb6
          go_wp2
          go_ret
          exact ⟨rfl, (Since.out (by repeat (first | with_reducible exact A6.out | with_reducible exact Since.refl _ | with_reducible refine Since.alloc ?_ _ | with_reducible refine Since.setCell ?_ (by first | omega | (simp; done) | (simp; omega)) _ | with_reducible refine Since.drew ?_ | with_reducible refine Since.drewN ?_ _)))⟩
end Go.Proofs.Ythdccahggcjogaa
