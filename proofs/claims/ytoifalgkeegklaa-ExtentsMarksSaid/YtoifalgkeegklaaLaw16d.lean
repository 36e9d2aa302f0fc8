/- The law that marks and types do not matter, walked. -/
import Derived.Test.YtoifalgkeegklaaAlive16
import Derived.Test.YtoifalgkeegklaaOwnW
import Derived.Test.YtoifalgkeegklaaBecPlainB
namespace Go.Proofs.Ytoifalgkeegklaa
open Go.RowKit

theorem hdr_any (a : Int) (n : Nat) (s k t : Int) (m : Bool) : Blk.hdr ⟨a, s, k, t, m, n⟩ = Blk.hdr ⟨0, s, k, t, m, 0⟩ := rfl
set_option maxRecDepth 100000 in
set_option maxHeartbeats 8000000 in
theorem walkExtentsMarks (A : Option Addr) (n c : Nat) (ws : List Nat) (a t : Int) (nx : Nat) (w : World) (h : Words w A n c ws) (_h1 : -9223372036854775808 ≤ a) (_h2 : a ≤ 9223372036854775807) (_h3 : -9223372036854775808 ≤ t) (_h4 : t ≤ 9223372036854775807) (h5 : nx < 18446744073709551616) :
    Calls Try.prog 10 #[.slice A n c, .int .i64 a, .int .i64 t, .int .u64 nx] w fun e w' => e = .returned (.bool true) ∧ Below w.heap.size w w' := by
  have hm := h.most
  have hcap := h.cap
  have A0 := Lib.hid (Since.refl w)
  by_cases hn : n ≤ 2100
  case neg =>
    have G := Lib.hid fun W => great_yes A n c W (by omega)
    clear h
    go_enter Try.func10, Try.ntmps10
    go_wp2_with fail
    refine (alive16 _).mono ?_
    rintro e w1 ⟨rfl, hb1⟩
    have A1 := Lib.hid (show Since w w1 from Since.via (by repeat (first | with_reducible exact A0.out | with_reducible exact Since.refl _ | with_reducible refine Since.alloc ?_ _ | with_reducible refine Since.setCell ?_ (by first | omega | (simp; done) | (simp; omega)) _ | with_reducible refine Since.drew ?_ | with_reducible refine Since.drewN ?_ _)) hb1)
    have s1 := A1.out.size
    clear hb1
    go_wp2_with fail
    refine (G.out _).mono ?_
    rintro e wd ⟨rfl, rfl⟩
    go_wp2
    go_ret
    exact ⟨rfl, (Since.out (by repeat (first | with_reducible exact A1.out | with_reducible exact Since.refl _ | with_reducible refine Since.alloc ?_ _ | with_reducible refine Since.setCell ?_ (by first | omega | (simp; done) | (simp; omega)) _ | with_reducible refine Since.drew ?_ | with_reducible refine Since.drewN ?_ _)))⟩
  have G := Lib.hid fun W => great_no A n c W hn
  by_cases hi : imgOk n
  case neg =>
    have K := Lib.hid fun W => rimg_bad A n c W (by omega) hi
    clear h hi
    go_enter Try.func10, Try.ntmps10
    go_wp2_with fail
    refine (alive16 _).mono ?_
    rintro e w1 ⟨rfl, hb1⟩
    have A1 := Lib.hid (show Since w w1 from Since.via (by repeat (first | with_reducible exact A0.out | with_reducible exact Since.refl _ | with_reducible refine Since.alloc ?_ _ | with_reducible refine Since.setCell ?_ (by first | omega | (simp; done) | (simp; omega)) _ | with_reducible refine Since.drew ?_ | with_reducible refine Since.drewN ?_ _)) hb1)
    have s1 := A1.out.size
    clear hb1
    go_wp2_with fail
    refine (G.out _).mono ?_
    rintro e wd ⟨rfl, rfl⟩
    go_wp2_with fail
    refine (K.out _).mono ?_
    rintro e wd ⟨rfl, rfl⟩
    go_wp2
    go_ret
    exact ⟨rfl, (Since.out (by repeat (first | with_reducible exact A1.out | with_reducible exact Since.refl _ | with_reducible refine Since.alloc ?_ _ | with_reducible refine Since.setCell ?_ (by first | omega | (simp; done) | (simp; omega)) _ | with_reducible refine Since.drew ?_ | with_reducible refine Since.drewN ?_ _)))⟩
  have K := Lib.hid fun W => rimg_ok A n c W (by omega) hi
  by_cases hx : t < 0 ∨ (0 ≤ t ∧ 8 ≤ t)
  · clear h hi _h1 _h2
    rcases hx with h1 | ⟨h1, h2⟩
    · clear _h3 _h4
      go_enter Try.func10, Try.ntmps10
      go_wp2_with fail
      refine (alive16 _).mono ?_
      rintro e w1 ⟨rfl, hb1⟩
      have A1 := Lib.hid (show Since w w1 from Since.via (by repeat (first | with_reducible exact A0.out | with_reducible exact Since.refl _ | with_reducible refine Since.alloc ?_ _ | with_reducible refine Since.setCell ?_ (by first | omega | (simp; done) | (simp; omega)) _ | with_reducible refine Since.drew ?_ | with_reducible refine Since.drewN ?_ _)) hb1)
      have s1 := A1.out.size
      clear hb1
      go_wp2_with fail
      refine (G.out _).mono ?_
      rintro e wd ⟨rfl, rfl⟩
      go_wp2_with fail
      refine (K.out _).mono ?_
      rintro e wd ⟨rfl, rfl⟩
      go_wp2
      go_ret
      exact ⟨rfl, (Since.out (by repeat (first | with_reducible exact A1.out | with_reducible exact Since.refl _ | with_reducible refine Since.alloc ?_ _ | with_reducible refine Since.setCell ?_ (by first | omega | (simp; done) | (simp; omega)) _ | with_reducible refine Since.drew ?_ | with_reducible refine Since.drewN ?_ _)))⟩
    · clear _h3 _h4
      go_enter Try.func10, Try.ntmps10
      go_wp2_with fail
      refine (alive16 _).mono ?_
      rintro e w1 ⟨rfl, hb1⟩
      have A1 := Lib.hid (show Since w w1 from Since.via (by repeat (first | with_reducible exact A0.out | with_reducible exact Since.refl _ | with_reducible refine Since.alloc ?_ _ | with_reducible refine Since.setCell ?_ (by first | omega | (simp; done) | (simp; omega)) _ | with_reducible refine Since.drew ?_ | with_reducible refine Since.drewN ?_ _)) hb1)
      have s1 := A1.out.size
      clear hb1
      go_wp2_with fail
      refine (G.out _).mono ?_
      rintro e wd ⟨rfl, rfl⟩
      go_wp2_with fail
      refine (K.out _).mono ?_
      rintro e wd ⟨rfl, rfl⟩
      go_wp2
      go_ret
      exact ⟨rfl, (Since.out (by repeat (first | with_reducible exact A1.out | with_reducible exact Since.refl _ | with_reducible refine Since.alloc ?_ _ | with_reducible refine Since.setCell ?_ (by first | omega | (simp; done) | (simp; omega)) _ | with_reducible refine Since.drew ?_ | with_reducible refine Since.drewN ?_ _)))⟩
  have t0 : 0 ≤ t := by omega
  have t8 : t < 8 := by omega
  clear hx _h3 _h4
  have hlen := h.len
  have H0 := Lib.hid h
  have F1 := Lib.hid fun W A c h => pfind_any A n c ws a W h
  by_cases hgo : (findR ws a).2 = 0 ∧ (findR ws a).1.kind = 1
  case neg =>
    obtain ⟨⟨b, z⟩, hr⟩ : ∃ r, findR ws a = r := ⟨_, rfl⟩
    rw [hr] at hgo
    simp only [hr] at F1
    simp only at hgo
    by_cases hz : z = 0
    · subst hz
      have hk : (b.kind != 1) = true := by simpa using fun h => hgo ⟨rfl, h⟩
      clear hgo hr h hi hlen h5
      go_enter Try.func10, Try.ntmps10
      go_wp2_with fail
      refine (alive16 _).mono ?_
      rintro e w1 ⟨rfl, hb1⟩
      have A1 := Lib.hid (show Since w w1 from Since.via (by repeat (first | with_reducible exact A0.out | with_reducible exact Since.refl _ | with_reducible refine Since.alloc ?_ _ | with_reducible refine Since.setCell ?_ (by first | omega | (simp; done) | (simp; omega)) _ | with_reducible refine Since.drew ?_ | with_reducible refine Since.drewN ?_ _)) hb1)
      have s1 := A1.out.size
      clear hb1
      go_wp2_with fail
      refine (G.out _).mono ?_
      rintro e wd ⟨rfl, rfl⟩
      go_wp2_with fail
      refine (K.out _).mono ?_
      rintro e wd ⟨rfl, rfl⟩
      go_wp2_with fail
      refine (F1.out _ _ _ (H0.out.below (Since.out (by repeat (first | with_reducible exact A1.out | with_reducible exact Since.refl _ | with_reducible refine Since.alloc ?_ _ | with_reducible refine Since.setCell ?_ (by first | omega | (simp; done) | (simp; omega)) _ | with_reducible refine Since.drew ?_ | with_reducible refine Since.drewN ?_ _))))).mono ?_
      rintro e w2 ⟨rfl, hb2⟩
      have A2 := Lib.hid (show Since w w2 from Since.via (by repeat (first | with_reducible exact A1.out | with_reducible exact Since.refl _ | with_reducible refine Since.alloc ?_ _ | with_reducible refine Since.setCell ?_ (by first | omega | (simp; done) | (simp; omega)) _ | with_reducible refine Since.drew ?_ | with_reducible refine Since.drewN ?_ _)) hb2)
      have s2 := A2.out.size
      clear hb2
      go_wp2
      go_ret
      exact ⟨rfl, (Since.out (by repeat (first | with_reducible exact A2.out | with_reducible exact Since.refl _ | with_reducible refine Since.alloc ?_ _ | with_reducible refine Since.setCell ?_ (by first | omega | (simp; done) | (simp; omega)) _ | with_reducible refine Since.drew ?_ | with_reducible refine Since.drewN ?_ _)))⟩
    · have hz2 : (z != 0) = true := by simpa using hz
      clear hgo hr h hi hlen hz h5
      go_enter Try.func10, Try.ntmps10
      go_wp2_with fail
      refine (alive16 _).mono ?_
      rintro e w1 ⟨rfl, hb1⟩
      have A1 := Lib.hid (show Since w w1 from Since.via (by repeat (first | with_reducible exact A0.out | with_reducible exact Since.refl _ | with_reducible refine Since.alloc ?_ _ | with_reducible refine Since.setCell ?_ (by first | omega | (simp; done) | (simp; omega)) _ | with_reducible refine Since.drew ?_ | with_reducible refine Since.drewN ?_ _)) hb1)
      have s1 := A1.out.size
      clear hb1
      go_wp2_with fail
      refine (G.out _).mono ?_
      rintro e wd ⟨rfl, rfl⟩
      go_wp2_with fail
      refine (K.out _).mono ?_
      rintro e wd ⟨rfl, rfl⟩
      go_wp2_with fail
      refine (F1.out _ _ _ (H0.out.below (Since.out (by repeat (first | with_reducible exact A1.out | with_reducible exact Since.refl _ | with_reducible refine Since.alloc ?_ _ | with_reducible refine Since.setCell ?_ (by first | omega | (simp; done) | (simp; omega)) _ | with_reducible refine Since.drew ?_ | with_reducible refine Since.drewN ?_ _))))).mono ?_
      rintro e w2 ⟨rfl, hb2⟩
      have A2 := Lib.hid (show Since w w2 from Since.via (by repeat (first | with_reducible exact A1.out | with_reducible exact Since.refl _ | with_reducible refine Since.alloc ?_ _ | with_reducible refine Since.setCell ?_ (by first | omega | (simp; done) | (simp; omega)) _ | with_reducible refine Since.drew ?_ | with_reducible refine Since.drewN ?_ _)) hb2)
      have s2 := A2.out.size
      clear hb2
      go_wp2
      go_ret
      exact ⟨rfl, (Since.out (by repeat (first | with_reducible exact A2.out | with_reducible exact Since.refl _ | with_reducible refine Since.alloc ?_ _ | with_reducible refine Since.setCell ?_ (by first | omega | (simp; done) | (simp; omega)) _ | with_reducible refine Since.drew ?_ | with_reducible refine Since.drewN ?_ _)))⟩
  obtain ⟨hiw, l, b, hc, ha, e1, hf, e2⟩ := find_main hgo.1
  have hk := hgo.2
  rw [e2] at hk
  simp only at hk
  obtain ⟨i, p, m, rfl, hp1, hat, hg, hs, hm, hfr, hs2, hb2⟩ := marks_law (next := nx) hiw hc ha hf hk t0 t8
  obtain ⟨ba, bs, bk, bt, bm, bn⟩ := b
  simp only at hk hat hg hm
  subst hk hat
  have TW := Lib.hid fun W h => twin_own A n c ws W h (by have := hi.1; omega) (by omega)
  have O := Lib.hid fun W => rof_ok p bs 1 t (!bm) bn W hg
  have E1 := Lib.hid fun W A c h => ext_any A n c ws W h
  have E2 := Lib.hid fun W A c h => ext_any A n c ((ws.set p (Blk.hdr ⟨p, bs, 1, t, !bm, 0⟩)).set (p + 1) nx) W h
  have P1 := Lib.hid fun W A c h => parnd_any A n c ws p W h
  have P2 := Lib.hid fun W A c h => parnd_any A n c ((ws.set p (Blk.hdr ⟨p, bs, 1, t, !bm, 0⟩)).set (p + 1) nx) p W h
  rw [show extR ws = (freeL l, 0) by unfold extR; rw [e1]] at E1
  rw [show extR ((ws.set p (Blk.hdr ⟨p, bs, 1, t, !bm, 0⟩)).set (p + 1) nx) = (freeL l, 0) by unfold extR; rw [hm, ← hfr]] at E2
  rw [around_seek _ e1, hs] at P1
  rw [around_seek _ hm, hs2] at P2
  simp only [aroundO, hb2] at P2
  simp only [aroundO] at P1
  obtain ⟨⟨xa, xs, xk, xt, xm, xn⟩, hbx⟩ : ∃ x, becomes l i = x := ⟨_, rfl⟩
  have hbx1 : xk = 2 := congrArg Blk.kind hbx.symm
  have hbx2 : xt = 0 := congrArg Blk.typ hbx.symm
  have hbx3 : xm = false := congrArg Blk.mark hbx.symm
  have hbx4 : xn = 0 := congrArg Blk.next hbx.symm
  subst hbx1 hbx2 hbx3 hbx4
  simp only [hbx] at P1 P2
  simp only [e2] at F1
  have HL := Lib.hid (words_set (i := p + 1) (words_set (i := p) h.lt (hdr_lt hg)) h5)
  rw [hlen] at hp1
  have hw1 : IntKind.i64.wrap ((p : Int) + 1) = ((p + 1 : Nat) : Int) := by rw [IntKind.wrap_i64]; omega
  generalize Blk.hdr ⟨p, bs, 1, t, !bm, 0⟩ = hd at *
  generalize freeL l = fl at *
  generalize hys : (ws.set p hd).set (p + 1) nx = ys at *
  have HYS := Lib.hid hys
  clear h hlen hi hgo hiw hc ha e1 hf e2 hg hs hm hfr hs2 hb2 hbx hys
  go_enter Try.func10, Try.ntmps10
  go_wp2_with fail
  refine (alive16 _).mono ?_
  rintro e w1 ⟨rfl, hb1⟩
  have A1 := Lib.hid (show Since w w1 from Since.via (by repeat (first | with_reducible exact A0.out | with_reducible exact Since.refl _ | with_reducible refine Since.alloc ?_ _ | with_reducible refine Since.setCell ?_ (by first | omega | (simp; done) | (simp; omega)) _ | with_reducible refine Since.drew ?_ | with_reducible refine Since.drewN ?_ _)) hb1)
  have s1 := A1.out.size
  clear hb1
  go_wp2_with fail
  refine (G.out _).mono ?_
  rintro e wd ⟨rfl, rfl⟩
  go_wp2_with fail
  refine (K.out _).mono ?_
  rintro e wd ⟨rfl, rfl⟩
  go_wp2_with fail
  refine (F1.out _ _ _ (H0.out.below (Since.out (by repeat (first | with_reducible exact A1.out | with_reducible exact Since.refl _ | with_reducible refine Since.alloc ?_ _ | with_reducible refine Since.setCell ?_ (by first | omega | (simp; done) | (simp; omega)) _ | with_reducible refine Since.drew ?_ | with_reducible refine Since.drewN ?_ _))))).mono ?_
  rintro e w2 ⟨rfl, hb2⟩
  have A2 := Lib.hid (show Since w w2 from Since.via (by repeat (first | with_reducible exact A1.out | with_reducible exact Since.refl _ | with_reducible refine Since.alloc ?_ _ | with_reducible refine Since.setCell ?_ (by first | omega | (simp; done) | (simp; omega)) _ | with_reducible refine Since.drew ?_ | with_reducible refine Since.drewN ?_ _)) hb2)
  have s2 := A2.out.size
  clear hb2
  go_wp2_with fail
  refine (TW.out _ (H0.out.below (Since.out (by repeat (first | with_reducible exact A2.out | with_reducible exact Since.refl _ | with_reducible refine Since.alloc ?_ _ | with_reducible refine Since.setCell ?_ (by first | omega | (simp; done) | (simp; omega)) _ | with_reducible refine Since.drew ?_ | with_reducible refine Since.drewN ?_ _))))).mono ?_
  rintro e w3 ⟨g, c', rfl, hown, hb3⟩
  have A3 := Lib.hid (show Since w w3 from Since.via (by repeat (first | with_reducible exact A2.out | with_reducible exact Since.refl _ | with_reducible refine Since.alloc ?_ _ | with_reducible refine Since.setCell ?_ (by first | omega | (simp; done) | (simp; omega)) _ | with_reducible refine Since.drew ?_ | with_reducible refine Since.drewN ?_ _)) hb3)
  have s3 := A3.out.size
  have X3 := Lib.hid (show Cells w3 (w2.heap.size) 24 (#[.int .i64 p, .int .i64 bs, .int .i64 1, .int .i64 t, .bool (!bm), .int .u64 (bn : Nat)]) from Cells.kept (by repeat (first | with_reducible exact X2.out | with_reducible exact Cells.at_ _ _ _ (by first | omega | (simp; done) | (simp; omega)) | with_reducible refine Cells.alloc ?_ _ | with_reducible refine Cells.far' ?_ (by first | omega | (simp; done) | (simp; omega)) _ | with_reducible refine Cells.drew ?_ | with_reducible refine Cells.drewN ?_ _)) hb3)
  have Xz3 := X3.out.lt
  clear hb3
  have hg1 := hown.at_.1
  simp only [World.size_alloc] at hg1
  have OW3 := Lib.hid hown
  clear hown
  obtain ⟨Xq0, Xq1, Xq2, Xq3, Xq4, Xq5⟩ := X3.out.six
  have Xlt := X3.out.lt
  go_wp2_with fail
  refine (O.out _).mono ?_
  rintro e w4 ⟨rfl, hb4⟩
  clear Xq0 Xq1 Xq2 Xq3 Xq4 Xq5 Xlt
  have A4 := Lib.hid (show Since w w4 from Since.via (by repeat (first | with_reducible exact A3.out | with_reducible exact Since.refl _ | with_reducible refine Since.alloc ?_ _ | with_reducible refine Since.setCell ?_ (by first | omega | (simp; done) | (simp; omega)) _ | with_reducible refine Since.drew ?_ | with_reducible refine Since.drewN ?_ _)) hb4)
  have s4 := A4.out.size
  have OW4 := Lib.hid (OwnW.kept (by repeat (first | with_reducible exact OW3.out | with_reducible refine OwnW.alloc ?_ _ | with_reducible refine OwnW.drew ?_ | with_reducible refine OwnW.far ?_ (by first | omega | (simp; done) | (simp; omega)) _)) hb4)
  have X4 := Lib.hid (show Cells w4 (w2.heap.size) 24 (#[.int .i64 p, .int .i64 bs, .int .i64 1, .int .i64 t, .bool (!bm), .int .u64 (bn : Nat)]) from Cells.kept (by repeat (first | with_reducible exact X3.out | with_reducible exact Cells.at_ _ _ _ (by first | omega | (simp; done) | (simp; omega)) | with_reducible refine Cells.alloc ?_ _ | with_reducible refine Cells.far' ?_ (by first | omega | (simp; done) | (simp; omega)) _ | with_reducible refine Cells.drew ?_ | with_reducible refine Cells.drewN ?_ _)) hb4)
  have Xz4 := X4.out.lt
  clear hb4
  have g4 := OW4.out.at_.2
  have k0 := OW4.out.cell (show p < n by omega)
  have k1 := OW4.out.cell hp1
  have f0 := OW4.out.frozen p
  have f1 := OW4.out.frozen (p + 1)
  have Y5 := Lib.hid (show OwnW ((w4.setCell ⟨g, p, none⟩ (.int .u64 (hd : Int))).setCell ⟨g, p + 1, none⟩ (.int .u64 (nx : Int))) _ g n c' ys by rw [← HYS.out]; exact (OW4.out.set_ p hd).set_ (p + 1) nx)
  have A5 := Lib.hid (show Since w ((w4.setCell ⟨g, p, none⟩ (.int .u64 (hd : Int))).setCell ⟨g, p + 1, none⟩ (.int .u64 (nx : Int))) from (by repeat (first | with_reducible exact A4.out | with_reducible exact Since.refl _ | with_reducible refine Since.alloc ?_ _ | with_reducible refine Since.setCell ?_ (by first | omega | (simp; done) | (simp; omega)) _ | with_reducible refine Since.drew ?_ | with_reducible refine Since.drewN ?_ _)))
  go_wp2_with fail
  refine (E1.out _ _ _ (H0.out.below A5.out)).mono ?_
  rintro e w6 ⟨B6, d6, rfl, hB6, hb6⟩
  have A6 := Lib.hid (show Since w w6 from Since.via A5.out hb6)
  have Y6 := Lib.hid ((Y5.out.words HL.out).below hb6)
  have Q6 := Lib.hid hB6
  have s6 := A6.out.size
  clear hb6 hB6 k0 k1 f0 f1 hg1 g4
  go_wp2_with fail
  refine (E2.out _ _ _ (Y6.out.below (Since.out (by repeat (first | with_reducible exact Since.refl _ | with_reducible refine Since.alloc ?_ _ | with_reducible refine Since.setCell ?_ (by first | omega | (simp; done) | (simp; omega)) _ | with_reducible refine Since.drew ?_ | with_reducible refine Since.drewN ?_ _))))).mono ?_
  rintro e w7 ⟨B7, d7, rfl, hB7, hb7⟩
  have A7 := Lib.hid (show Since w w7 from Since.via (by repeat (first | with_reducible exact A6.out | with_reducible exact Since.refl _ | with_reducible refine Since.alloc ?_ _ | with_reducible refine Since.setCell ?_ (by first | omega | (simp; done) | (simp; omega)) _ | with_reducible refine Since.drew ?_ | with_reducible refine Since.drewN ?_ _)) hb7)
  have s7 := A7.out.size
  have B7 := Lib.hid (show Since w6 w7 from Since.via (by repeat (first | with_reducible exact Since.refl _ | with_reducible refine Since.alloc ?_ _ | with_reducible refine Since.setCell ?_ (by first | omega | (simp; done) | (simp; omega)) _ | with_reducible refine Since.drew ?_ | with_reducible refine Since.drewN ?_ _)) hb7)
  have Y7 := Lib.hid (Y6.out.below B7.out)
  have Q7 := Lib.hid (Q6.out.below B7.out)
  have R7 := Lib.hid hB7
  clear hB7
  clear hb7
  go_wp2_with fail
  refine (P1.out _ _ _ (H0.out.below (Since.out (by repeat (first | with_reducible exact A7.out | with_reducible exact Since.refl _ | with_reducible refine Since.alloc ?_ _ | with_reducible refine Since.setCell ?_ (by first | omega | (simp; done) | (simp; omega)) _ | with_reducible refine Since.drew ?_ | with_reducible refine Since.drewN ?_ _))))).mono ?_
  rintro e w8 ⟨rfl, hb8⟩
  have A8 := Lib.hid (show Since w w8 from Since.via (by repeat (first | with_reducible exact A7.out | with_reducible exact Since.refl _ | with_reducible refine Since.alloc ?_ _ | with_reducible refine Since.setCell ?_ (by first | omega | (simp; done) | (simp; omega)) _ | with_reducible refine Since.drew ?_ | with_reducible refine Since.drewN ?_ _)) hb8)
  have s8 := A8.out.size
  have B8 := Lib.hid (show Since w7 w8 from Since.via (by repeat (first | with_reducible exact Since.refl _ | with_reducible refine Since.alloc ?_ _ | with_reducible refine Since.setCell ?_ (by first | omega | (simp; done) | (simp; omega)) _ | with_reducible refine Since.drew ?_ | with_reducible refine Since.drewN ?_ _)) hb8)
  have Y8 := Lib.hid (Y7.out.below B8.out)
  have Q8 := Lib.hid (Q7.out.below B8.out)
  have R8 := Lib.hid (R7.out.below B8.out)
  clear hb8
  go_wp2_with fail
  refine (P2.out _ _ _ (Y8.out.below (Since.out (by repeat (first | with_reducible exact Since.refl _ | with_reducible refine Since.alloc ?_ _ | with_reducible refine Since.setCell ?_ (by first | omega | (simp; done) | (simp; omega)) _ | with_reducible refine Since.drew ?_ | with_reducible refine Since.drewN ?_ _))))).mono ?_
  rintro e w9 ⟨rfl, hb9⟩
  have A9 := Lib.hid (show Since w w9 from Since.via (by repeat (first | with_reducible exact A8.out | with_reducible exact Since.refl _ | with_reducible refine Since.alloc ?_ _ | with_reducible refine Since.setCell ?_ (by first | omega | (simp; done) | (simp; omega)) _ | with_reducible refine Since.drew ?_ | with_reducible refine Since.drewN ?_ _)) hb9)
  have s9 := A9.out.size
  have B9 := Lib.hid (show Since w8 w9 from Since.via (by repeat (first | with_reducible exact Since.refl _ | with_reducible refine Since.alloc ?_ _ | with_reducible refine Since.setCell ?_ (by first | omega | (simp; done) | (simp; omega)) _ | with_reducible refine Since.drew ?_ | with_reducible refine Since.drewN ?_ _)) hb9)
  have Q9 := Lib.hid (Q8.out.below B9.out)
  have R9 := Lib.hid (R8.out.below B9.out)
  have U9 := Lib.hid (show Cells w9 (w8.heap.size) 24 (#[.int .i64 xa, .int .i64 xs, .int .i64 2, .int .i64 0, .bool false, .int .u64 0]) from Cells.kept (by repeat (first | with_reducible exact U8.out | with_reducible exact Cells.at_ _ _ _ (by first | omega | (simp; done) | (simp; omega)) | with_reducible refine Cells.alloc ?_ _ | with_reducible refine Cells.far' ?_ (by first | omega | (simp; done) | (simp; omega)) _ | with_reducible refine Cells.drew ?_ | with_reducible refine Cells.drewN ?_ _)) hb9)
  have Uz9 := U9.out.lt
  clear hb9
  go_wp2_with fail
  refine (rsame_m _ _ _ _ _ _ _ (Q9.out.below (Since.out (by repeat (first | with_reducible exact Since.refl _ | with_reducible refine Since.alloc ?_ _ | with_reducible refine Since.setCell ?_ (by first | omega | (simp; done) | (simp; omega)) _ | with_reducible refine Since.drew ?_ | with_reducible refine Since.drewN ?_ _)))) (R9.out.below (Since.out (by repeat (first | with_reducible exact Since.refl _ | with_reducible refine Since.alloc ?_ _ | with_reducible refine Since.setCell ?_ (by first | omega | (simp; done) | (simp; omega)) _ | with_reducible refine Since.drew ?_ | with_reducible refine Since.drewN ?_ _))))).mono ?_
  rintro e w10 ⟨rfl, hb10⟩
  have A10 := Lib.hid (show Since w w10 from Since.via (by repeat (first | with_reducible exact A9.out | with_reducible exact Since.refl _ | with_reducible refine Since.alloc ?_ _ | with_reducible refine Since.setCell ?_ (by first | omega | (simp; done) | (simp; omega)) _ | with_reducible refine Since.drew ?_ | with_reducible refine Since.drewN ?_ _)) hb10)
  have s10 := A10.out.size
  have U10 := Lib.hid (show Cells w10 (w8.heap.size) 24 (#[.int .i64 xa, .int .i64 xs, .int .i64 2, .int .i64 0, .bool false, .int .u64 0]) from Cells.kept (by repeat (first | with_reducible exact U9.out | with_reducible exact Cells.at_ _ _ _ (by first | omega | (simp; done) | (simp; omega)) | with_reducible refine Cells.alloc ?_ _ | with_reducible refine Cells.far' ?_ (by first | omega | (simp; done) | (simp; omega)) _ | with_reducible refine Cells.drew ?_ | with_reducible refine Cells.drewN ?_ _)) hb10)
  have Uz10 := U10.out.lt
  have V10 := Lib.hid (show Cells w10 (w9.heap.size) 24 (#[.int .i64 xa, .int .i64 xs, .int .i64 2, .int .i64 0, .bool false, .int .u64 0]) from Cells.kept (by repeat (first | with_reducible exact V9.out | with_reducible exact Cells.at_ _ _ _ (by first | omega | (simp; done) | (simp; omega)) | with_reducible refine Cells.alloc ?_ _ | with_reducible refine Cells.far' ?_ (by first | omega | (simp; done) | (simp; omega)) _ | with_reducible refine Cells.drew ?_ | with_reducible refine Cells.drewN ?_ _)) hb10)
  have Vz10 := V10.out.lt
  clear hb10
  obtain ⟨Uq0, Uq1, Uq2, Uq3, Uq4, Uq5⟩ := U10.out.six
  have Ult := U10.out.lt
  obtain ⟨Vq0, Vq1, Vq2, Vq3, Vq4, Vq5⟩ := V10.out.six
  have Vlt := V10.out.lt
  go_wp2
  go_ret
  exact ⟨rfl, (Since.out (by repeat (first | with_reducible exact A10.out | with_reducible exact Since.refl _ | with_reducible refine Since.alloc ?_ _ | with_reducible refine Since.setCell ?_ (by first | omega | (simp; done) | (simp; omega)) _ | with_reducible refine Since.drew ?_ | with_reducible refine Since.drewN ?_ _)))⟩
end Go.Proofs.Ytoifalgkeegklaa
