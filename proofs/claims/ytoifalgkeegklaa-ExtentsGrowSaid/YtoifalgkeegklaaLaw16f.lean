/- The law on words and numbers of free extents, walked. -/
import Derived.Test.YtoifalgkeegklaaAlive16
import Derived.Test.YtoifalgkeegklaaOwnW
import Derived.Test.YtoifalgkeegklaaBecPlainB
namespace Go.Proofs.Ytoifalgkeegklaa
open Go.RowKit

set_option maxRecDepth 100000 in
set_option maxHeartbeats 8000000 in
theorem walkExtentsGrow (A : Option Addr) (n c : Nat) (ws : List Nat) (a : Int) (w : World) (h : Words w A n c ws) (_h1 : -9223372036854775808 ≤ a) (_h2 : a ≤ 9223372036854775807) :
    Calls Try.prog 11 #[.slice A n c, .int .i64 a] w fun e w' => e = .returned (.bool true) ∧ Below w.heap.size w w' := by
  have hm := h.most
  have hcap := h.cap
  have A0 := Lib.hid (Since.refl w)
  by_cases hn : n ≤ 2100
  case neg =>
    have G := Lib.hid fun W => great_yes A n c W (by omega)
    clear h
    go_enter Try.func11, Try.ntmps11
    go_wp2_with fail
    refine (alive16 _).mono ?_
    rintro e w1 ⟨rfl, hb1⟩
    have A1 := Lib.hid (show Since w w1 from Since.via (by repeat (first | with_reducible exact A0.out | with_reducible exact Since.refl _ | with_reducible refine Since.alloc ?_ _ | with_reducible refine Since.setCell ?_ (by first | omega | (simp; done) | (simp; omega)) _ | with_reducible refine Since.drew ?_ | with_reducible refine Since.drewN ?_ _)) hb1)
    have s1 := A1.out.size
    clear hb1
    go_wp2_with fail
    refine (G.out _).mono ?_
    rintro e wd ⟨rfl, rfl⟩
    go_wp2
    go_ret
    exact ⟨rfl, (Since.out (by repeat (first | with_reducible exact A1.out | with_reducible exact Since.refl _ | with_reducible refine Since.alloc ?_ _ | with_reducible refine Since.setCell ?_ (by first | omega | (simp; done) | (simp; omega)) _ | with_reducible refine Since.drew ?_ | with_reducible refine Since.drewN ?_ _)))⟩
  have G := Lib.hid fun W => great_no A n c W hn
  by_cases hi : imgOk n
  case neg =>
    have K := Lib.hid fun W => rimg_bad A n c W (by omega) hi
    clear h hi
    go_enter Try.func11, Try.ntmps11
    go_wp2_with fail
    refine (alive16 _).mono ?_
    rintro e w1 ⟨rfl, hb1⟩
    have A1 := Lib.hid (show Since w w1 from Since.via (by repeat (first | with_reducible exact A0.out | with_reducible exact Since.refl _ | with_reducible refine Since.alloc ?_ _ | with_reducible refine Since.setCell ?_ (by first | omega | (simp; done) | (simp; omega)) _ | with_reducible refine Since.drew ?_ | with_reducible refine Since.drewN ?_ _)) hb1)
    have s1 := A1.out.size
    clear hb1
    go_wp2_with fail
    refine (G.out _).mono ?_
    rintro e wd ⟨rfl, rfl⟩
    go_wp2_with fail
    refine (K.out _).mono ?_
    rintro e wd ⟨rfl, rfl⟩
    go_wp2
    go_ret
    exact ⟨rfl, (Since.out (by repeat (first | with_reducible exact A1.out | with_reducible exact Since.refl _ | with_reducible refine Since.alloc ?_ _ | with_reducible refine Since.setCell ?_ (by first | omega | (simp; done) | (simp; omega)) _ | with_reducible refine Since.drew ?_ | with_reducible refine Since.drewN ?_ _)))⟩
  have K := Lib.hid fun W => rimg_ok A n c W (by omega) hi
  have hlen := h.len
  have H0 := Lib.hid h
  have F1 := Lib.hid fun W A c h => pfind_any A n c ws a W h
  by_cases hgo : (findR ws a).2 = 0 ∧ (findR ws a).1.kind = 1
  case neg =>
    obtain ⟨⟨b, z⟩, hr⟩ : ∃ r, findR ws a = r := ⟨_, rfl⟩
    rw [hr] at hgo
    simp only [hr] at F1
    simp only at hgo
    by_cases hz : z = 0
    · subst hz
      have hk : (b.kind != 1) = true := by simpa using fun h => hgo ⟨rfl, h⟩
      clear hgo hr h hi hlen
      go_enter Try.func11, Try.ntmps11
      go_wp2_with fail
      refine (alive16 _).mono ?_
      rintro e w1 ⟨rfl, hb1⟩
      have A1 := Lib.hid (show Since w w1 from Since.via (by repeat (first | with_reducible exact A0.out | with_reducible exact Since.refl _ | with_reducible refine Since.alloc ?_ _ | with_reducible refine Since.setCell ?_ (by first | omega | (simp; done) | (simp; omega)) _ | with_reducible refine Since.drew ?_ | with_reducible refine Since.drewN ?_ _)) hb1)
      have s1 := A1.out.size
      clear hb1
      go_wp2_with fail
      refine (G.out _).mono ?_
      rintro e wd ⟨rfl, rfl⟩
      go_wp2_with fail
      refine (K.out _).mono ?_
      rintro e wd ⟨rfl, rfl⟩
      go_wp2_with fail
      refine (F1.out _ _ _ (H0.out.below (Since.out (by repeat (first | with_reducible exact A1.out | with_reducible exact Since.refl _ | with_reducible refine Since.alloc ?_ _ | with_reducible refine Since.setCell ?_ (by first | omega | (simp; done) | (simp; omega)) _ | with_reducible refine Since.drew ?_ | with_reducible refine Since.drewN ?_ _))))).mono ?_
      rintro e w2 ⟨rfl, hb2⟩
      have A2 := Lib.hid (show Since w w2 from Since.via (by repeat (first | with_reducible exact A1.out | with_reducible exact Since.refl _ | with_reducible refine Since.alloc ?_ _ | with_reducible refine Since.setCell ?_ (by first | omega | (simp; done) | (simp; omega)) _ | with_reducible refine Since.drew ?_ | with_reducible refine Since.drewN ?_ _)) hb2)
      have s2 := A2.out.size
      clear hb2
      go_wp2
      go_ret
      exact ⟨rfl, (Since.out (by repeat (first | with_reducible exact A2.out | with_reducible exact Since.refl _ | with_reducible refine Since.alloc ?_ _ | with_reducible refine Since.setCell ?_ (by first | omega | (simp; done) | (simp; omega)) _ | with_reducible refine Since.drew ?_ | with_reducible refine Since.drewN ?_ _)))⟩
    · have hz2 : (z != 0) = true := by simpa using hz
      clear hgo hr h hi hlen hz
      go_enter Try.func11, Try.ntmps11
      go_wp2_with fail
      refine (alive16 _).mono ?_
      rintro e w1 ⟨rfl, hb1⟩
      have A1 := Lib.hid (show Since w w1 from Since.via (by repeat (first | with_reducible exact A0.out | with_reducible exact Since.refl _ | with_reducible refine Since.alloc ?_ _ | with_reducible refine Since.setCell ?_ (by first | omega | (simp; done) | (simp; omega)) _ | with_reducible refine Since.drew ?_ | with_reducible refine Since.drewN ?_ _)) hb1)
      have s1 := A1.out.size
      clear hb1
      go_wp2_with fail
      refine (G.out _).mono ?_
      rintro e wd ⟨rfl, rfl⟩
      go_wp2_with fail
      refine (K.out _).mono ?_
      rintro e wd ⟨rfl, rfl⟩
      go_wp2_with fail
      refine (F1.out _ _ _ (H0.out.below (Since.out (by repeat (first | with_reducible exact A1.out | with_reducible exact Since.refl _ | with_reducible refine Since.alloc ?_ _ | with_reducible refine Since.setCell ?_ (by first | omega | (simp; done) | (simp; omega)) _ | with_reducible refine Since.drew ?_ | with_reducible refine Since.drewN ?_ _))))).mono ?_
      rintro e w2 ⟨rfl, hb2⟩
      have A2 := Lib.hid (show Since w w2 from Since.via (by repeat (first | with_reducible exact A1.out | with_reducible exact Since.refl _ | with_reducible refine Since.alloc ?_ _ | with_reducible refine Since.setCell ?_ (by first | omega | (simp; done) | (simp; omega)) _ | with_reducible refine Since.drew ?_ | with_reducible refine Since.drewN ?_ _)) hb2)
      have s2 := A2.out.size
      clear hb2
      go_wp2
      go_ret
      exact ⟨rfl, (Since.out (by repeat (first | with_reducible exact A2.out | with_reducible exact Since.refl _ | with_reducible refine Since.alloc ?_ _ | with_reducible refine Since.setCell ?_ (by first | omega | (simp; done) | (simp; omega)) _ | with_reducible refine Since.drew ?_ | with_reducible refine Since.drewN ?_ _)))⟩
  obtain ⟨hiw, l, b, hc, ha, e1, hf, e2⟩ := find_main hgo.1
  have hk := hgo.2
  rw [e2] at hk
  simp only at hk
  obtain ⟨i, p, q, m, hs, hat, hb0, hb10, hx1, hx2, hp128, hpq, hqn, hpa, hqa, hg, hm, hsum, hmax, hnear⟩ := grow_law hiw hc ha hf hk
  obtain ⟨ba, bs, bk, bt, bm, bn⟩ := b
  simp only at hk hat hb0 hb10 hqa hsum hnear
  subst hk hat
  have TW := Lib.hid fun W h => twin_own A n c ws W h (by have := hi.1; omega) (by omega)
  have P1 := Lib.hid fun W A c h => parnd_any A n c ws ba W h
  rw [around_seek _ e1, hs] at P1
  simp only [aroundO] at P1
  obtain ⟨⟨xa, xs, xk, xt, xm, xn⟩, hbx⟩ : ∃ x, becomes l i = x := ⟨_, rfl⟩
  have hbx1 : xk = 2 := congrArg Blk.kind hbx.symm
  have hbx2 : xt = 0 := congrArg Blk.typ hbx.symm
  have hbx3 : xm = false := congrArg Blk.mark hbx.symm
  have hbx4 : xn = 0 := congrArg Blk.next hbx.symm
  subst hbx1 hbx2 hbx3 hbx4
  rw [hbx] at hx1 hx2 hg hm hmax
  simp only at hx1 hx2 hmax
  subst hx1
  simp only [hbx] at P1
  simp only [e2] at F1
  have hz1 := sumF_bd ((chain_sized (chain_of_seg hc)).free) _ (Nat.le_refl _)
  have hz2 := freeL_len l
  have hz3 := chain_le (chain_of_seg hc)
  have hz4 := freeL_len m
  have hz5 : m.length ≤ 1000000 := by have := allR_le (ws.set p (Blk.hdr ⟨p, xs, 2, 0, false, 0⟩)); rw [hm] at this; exact this
  have hn2 := hi.2.1
  rw [hlen] at hz3 hqn
  have C := Lib.hid fun W => hword_ok p xs 2 0 false 0 W hg
  have N1 := Lib.hid fun W A c h => words_any A n c ws W h
  have N2 := Lib.hid fun W A c h => words_any A n c (ws.set p (Blk.hdr ⟨p, xs, 2, 0, false, 0⟩)) W h
  have E1 := Lib.hid fun W A c h => ext_any A n c ws W h
  have E2 := Lib.hid fun W A c h => ext_any A n c (ws.set p (Blk.hdr ⟨p, xs, 2, 0, false, 0⟩)) W h
  have q1 : extR ws = (freeL l, 0) := by unfold extR; rw [e1]
  have q2 : extR (ws.set p (Blk.hdr ⟨p, xs, 2, 0, false, 0⟩)) = (freeL m, 0) := by unfold extR; rw [hm]
  have q3 : wordsR ws = (sumF (freeL l) (freeL l).length, maxF (freeL l) (freeL l).length) := by unfold wordsR; rw [q1]
  have q4 : wordsR (ws.set p (Blk.hdr ⟨p, xs, 2, 0, false, 0⟩)) = (sumF (freeL m) (freeL m).length, maxF (freeL m) (freeL m).length) := by unfold wordsR; rw [q2]
  rw [q3, e1] at N1
  rw [q4, hm] at N2
  rw [q1] at E1
  rw [q2] at E2
  have HL := Lib.hid (words_set (i := p) h.lt (hdr_lt hg))
  generalize hms : sumF (freeL m) (freeL m).length = ms at *
  generalize hls : sumF (freeL l) (freeL l).length = ls at *
  generalize hmm : maxF (freeL m) (freeL m).length = mm at *
  generalize hlm : maxF (freeL l) (freeL l).length = lm at *
  generalize freeL l = fl at *
  generalize freeL m = fm at *
  generalize Blk.hdr ⟨p, xs, 2, 0, false, 0⟩ = hd at *
  subst hsum
  have g1 : p < n := by omega
  have d1 : decide ((p : Int) < 128) = false := by simp; omega
  have d2 : decide ((n : Int) ≤ (p : Int)) = false := by simp; omega
  have d3 : decide (n ≤ p) = false := by simp; omega
  have d4 : decide (xs ≤ mm) = true := by simp; omega
  have x1 : (q : Int) = p + xs := by omega
  rw [x1] at hnear
  have hxs0 : 2 ≤ xs := by omega
  have hxs1 : (p : Int) + xs ≤ 2048 := by omega
  have hqa2 : ba + bs ≤ p + xs := by omega
  have hls1 : 0 ≤ ls := hz1.1
  have hls2 : ls ≤ 1920 * 2048 := by omega
  have fl1 : fl.length ≤ 2048 := by omega
  have HNR := Lib.hid hnear
  clear hnear h hlen hi hgo hiw hc ha e1 hf e2 hg hs hm hbx hms hls hmm hlm q1 q2 q3 q4
  clear x1 hx2 hqn hqa hpq hz1 hz2 hz3
  go_enter Try.func11, Try.ntmps11
  go_wp2_with fail
  refine (alive16 _).mono ?_
  rintro e w1 ⟨rfl, hb1⟩
  have A1 := Lib.hid (show Since w w1 from Since.via (by repeat (first | with_reducible exact A0.out | with_reducible exact Since.refl _ | with_reducible refine Since.alloc ?_ _ | with_reducible refine Since.setCell ?_ (by first | omega | (simp; done) | (simp; omega)) _ | with_reducible refine Since.drew ?_ | with_reducible refine Since.drewN ?_ _)) hb1)
  have s1 := A1.out.size
  clear hb1
  go_wp2_with fail
  refine (G.out _).mono ?_
  rintro e wd ⟨rfl, rfl⟩
  go_wp2_with fail
  refine (K.out _).mono ?_
  rintro e wd ⟨rfl, rfl⟩
  go_wp2_with fail
  refine (F1.out _ _ _ (H0.out.below (Since.out (by repeat (first | with_reducible exact A1.out | with_reducible exact Since.refl _ | with_reducible refine Since.alloc ?_ _ | with_reducible refine Since.setCell ?_ (by first | omega | (simp; done) | (simp; omega)) _ | with_reducible refine Since.drew ?_ | with_reducible refine Since.drewN ?_ _))))).mono ?_
  rintro e w2 ⟨rfl, hb2⟩
  have A2 := Lib.hid (show Since w w2 from Since.via (by repeat (first | with_reducible exact A1.out | with_reducible exact Since.refl _ | with_reducible refine Since.alloc ?_ _ | with_reducible refine Since.setCell ?_ (by first | omega | (simp; done) | (simp; omega)) _ | with_reducible refine Since.drew ?_ | with_reducible refine Since.drewN ?_ _)) hb2)
  have s2 := A2.out.size
  clear hb2
  go_wp2_with fail
  refine (P1.out _ _ _ (H0.out.below (Since.out (by repeat (first | with_reducible exact A2.out | with_reducible exact Since.refl _ | with_reducible refine Since.alloc ?_ _ | with_reducible refine Since.setCell ?_ (by first | omega | (simp; done) | (simp; omega)) _ | with_reducible refine Since.drew ?_ | with_reducible refine Since.drewN ?_ _))))).mono ?_
  rintro e w3 ⟨rfl, hb3⟩
  have A3 := Lib.hid (show Since w w3 from Since.via (by repeat (first | with_reducible exact A2.out | with_reducible exact Since.refl _ | with_reducible refine Since.alloc ?_ _ | with_reducible refine Since.setCell ?_ (by first | omega | (simp; done) | (simp; omega)) _ | with_reducible refine Since.drew ?_ | with_reducible refine Since.drewN ?_ _)) hb3)
  have s3 := A3.out.size
  have X3 := Lib.hid (show Cells w3 (w2.heap.size) 24 (#[.int .i64 ba, .int .i64 bs, .int .i64 1, .int .i64 bt, .bool bm, .int .u64 (bn : Nat)]) from Cells.kept (by repeat (first | with_reducible exact X2.out | with_reducible exact Cells.at_ _ _ _ (by first | omega | (simp; done) | (simp; omega)) | with_reducible refine Cells.alloc ?_ _ | with_reducible refine Cells.far' ?_ (by first | omega | (simp; done) | (simp; omega)) _ | with_reducible refine Cells.drew ?_ | with_reducible refine Cells.drewN ?_ _)) hb3)
  have Xz3 := X3.out.lt
  clear hb3
  go_wp2_with fail
  refine (C.out _).mono ?_
  rintro e w4 ⟨rfl, hb4⟩
  have A4 := Lib.hid (show Since w w4 from Since.via (by repeat (first | with_reducible exact A3.out | with_reducible exact Since.refl _ | with_reducible refine Since.alloc ?_ _ | with_reducible refine Since.setCell ?_ (by first | omega | (simp; done) | (simp; omega)) _ | with_reducible refine Since.drew ?_ | with_reducible refine Since.drewN ?_ _)) hb4)
  have s4 := A4.out.size
  have X4 := Lib.hid (show Cells w4 (w2.heap.size) 24 (#[.int .i64 ba, .int .i64 bs, .int .i64 1, .int .i64 bt, .bool bm, .int .u64 (bn : Nat)]) from Cells.kept (by repeat (first | with_reducible exact X3.out | with_reducible exact Cells.at_ _ _ _ (by first | omega | (simp; done) | (simp; omega)) | with_reducible refine Cells.alloc ?_ _ | with_reducible refine Cells.far' ?_ (by first | omega | (simp; done) | (simp; omega)) _ | with_reducible refine Cells.drew ?_ | with_reducible refine Cells.drewN ?_ _)) hb4)
  have Xz4 := X4.out.lt
  have Y4 := Lib.hid (show Cells w4 (w3.heap.size) 24 (#[.int .i64 p, .int .i64 xs, .int .i64 2, .int .i64 0, .bool false, .int .u64 0]) from Cells.kept (by repeat (first | with_reducible exact Y3.out | with_reducible exact Cells.at_ _ _ _ (by first | omega | (simp; done) | (simp; omega)) | with_reducible refine Cells.alloc ?_ _ | with_reducible refine Cells.far' ?_ (by first | omega | (simp; done) | (simp; omega)) _ | with_reducible refine Cells.drew ?_ | with_reducible refine Cells.drewN ?_ _)) hb4)
  have Yz4 := Y4.out.lt
  clear hb4
  obtain ⟨Yq0, Yq1, Yq2, Yq3, Yq4, Yq5⟩ := Y4.out.six
  have Ylt := Y4.out.lt
  go_wp2_with fail
  refine (TW.out _ (H0.out.below (Since.out (by repeat (first | with_reducible exact A4.out | with_reducible exact Since.refl _ | with_reducible refine Since.alloc ?_ _ | with_reducible refine Since.setCell ?_ (by first | omega | (simp; done) | (simp; omega)) _ | with_reducible refine Since.drew ?_ | with_reducible refine Since.drewN ?_ _))))).mono ?_
  rintro e w5 ⟨g, c', rfl, hown, hb5⟩
  have A5 := Lib.hid (show Since w w5 from Since.via (by repeat (first | with_reducible exact A4.out | with_reducible exact Since.refl _ | with_reducible refine Since.alloc ?_ _ | with_reducible refine Since.setCell ?_ (by first | omega | (simp; done) | (simp; omega)) _ | with_reducible refine Since.drew ?_ | with_reducible refine Since.drewN ?_ _)) hb5)
  have s5 := A5.out.size
  have X5 := Lib.hid (show Cells w5 (w2.heap.size) 24 (#[.int .i64 ba, .int .i64 bs, .int .i64 1, .int .i64 bt, .bool bm, .int .u64 (bn : Nat)]) from Cells.kept (by repeat (first | with_reducible exact X4.out | with_reducible exact Cells.at_ _ _ _ (by first | omega | (simp; done) | (simp; omega)) | with_reducible refine Cells.alloc ?_ _ | with_reducible refine Cells.far' ?_ (by first | omega | (simp; done) | (simp; omega)) _ | with_reducible refine Cells.drew ?_ | with_reducible refine Cells.drewN ?_ _)) hb5)
  have Xz5 := X5.out.lt
  have Y5 := Lib.hid (show Cells w5 (w3.heap.size) 24 (#[.int .i64 p, .int .i64 xs, .int .i64 2, .int .i64 0, .bool false, .int .u64 0]) from Cells.kept (by repeat (first | with_reducible exact Y4.out | with_reducible exact Cells.at_ _ _ _ (by first | omega | (simp; done) | (simp; omega)) | with_reducible refine Cells.alloc ?_ _ | with_reducible refine Cells.far' ?_ (by first | omega | (simp; done) | (simp; omega)) _ | with_reducible refine Cells.drew ?_ | with_reducible refine Cells.drewN ?_ _)) hb5)
  have Yz5 := Y5.out.lt
  clear hb5
  have hg1 := hown.at_
  have k0 := hown.cell g1
  have f0 := hown.frozen p
  have OW5 := Lib.hid hown
  have Y6 := Lib.hid (show OwnW (w5.setCell ⟨g, p, none⟩ (.int .u64 (hd : Int))) _ g n c' (ws.set p hd) from hown.set_ p hd)
  have A5' := Lib.hid (show Since w (w5.setCell ⟨g, p, none⟩ (.int .u64 (hd : Int))) from (by repeat (first | with_reducible exact A5.out | with_reducible exact Since.refl _ | with_reducible refine Since.alloc ?_ _ | with_reducible refine Since.setCell ?_ (by first | omega | (simp; done) | (simp; omega)) _ | with_reducible refine Since.drew ?_ | with_reducible refine Since.drewN ?_ _)))
  have X5' := Lib.hid (show Cells (w5.setCell ⟨g, p, none⟩ (.int .u64 (hd : Int))) w2.heap.size 24 #[.int .i64 ba, .int .i64 bs, .int .i64 1, .int .i64 bt, .bool bm, .int .u64 (bn : Nat)] from X5.out.far' (by omega) _)
  have Y5' := Lib.hid (show Cells (w5.setCell ⟨g, p, none⟩ (.int .u64 (hd : Int))) w3.heap.size 24 #[.int .i64 p, .int .i64 xs, .int .i64 2, .int .i64 0, .bool false, .int .u64 0] from Y5.out.far' (by omega) _)
  clear hown Yq0 Yq1 Yq2 Yq3 Yq4 Yq5 Ylt
  obtain ⟨Yq0, Yq1, Yq2, Yq3, Yq4, Yq5⟩ := Y5.out.six
  go_wp2_with fail
  refine (N1.out _ _ _ (H0.out.below A5'.out)).mono ?_
  rintro e w6 ⟨rfl, hb6⟩
  have A6 := Lib.hid (show Since w w6 from Since.via A5'.out hb6)
  have V6 := Lib.hid ((Y6.out.words HL.out).below hb6)
  have X6 := Lib.hid (show Cells w6 w2.heap.size 24 #[.int .i64 ba, .int .i64 bs, .int .i64 1, .int .i64 bt, .bool bm, .int .u64 (bn : Nat)] from X5'.out.kept hb6)
  have Y6b := Lib.hid (show Cells w6 w3.heap.size 24 #[.int .i64 p, .int .i64 xs, .int .i64 2, .int .i64 0, .bool false, .int .u64 0] from Y5'.out.kept hb6)
  have s6 := A6.out.size
  clear hb6 k0 f0 hg1 Yq0 Yq1 Yq2 Yq3 Yq4 Yq5 Y6
  have Y6 := Y6b
  clear Y6b
  go_wp2_with fail
  refine (N2.out _ _ _ (V6.out.below (Since.out (by repeat (first | with_reducible exact Since.refl _ | with_reducible refine Since.alloc ?_ _ | with_reducible refine Since.setCell ?_ (by first | omega | (simp; done) | (simp; omega)) _ | with_reducible refine Since.drew ?_ | with_reducible refine Since.drewN ?_ _))))).mono ?_
  rintro e w7 ⟨rfl, hb7⟩
  have A7 := Lib.hid (show Since w w7 from Since.via (by repeat (first | with_reducible exact A6.out | with_reducible exact Since.refl _ | with_reducible refine Since.alloc ?_ _ | with_reducible refine Since.setCell ?_ (by first | omega | (simp; done) | (simp; omega)) _ | with_reducible refine Since.drew ?_ | with_reducible refine Since.drewN ?_ _)) hb7)
  have s7 := A7.out.size
  have B7 := Lib.hid (show Since w6 w7 from Since.via (by repeat (first | with_reducible exact Since.refl _ | with_reducible refine Since.alloc ?_ _ | with_reducible refine Since.setCell ?_ (by first | omega | (simp; done) | (simp; omega)) _ | with_reducible refine Since.drew ?_ | with_reducible refine Since.drewN ?_ _)) hb7)
  have V7 := Lib.hid (V6.out.below B7.out)
  have X7 := Lib.hid (show Cells w7 (w2.heap.size) 24 (#[.int .i64 ba, .int .i64 bs, .int .i64 1, .int .i64 bt, .bool bm, .int .u64 (bn : Nat)]) from Cells.kept (by repeat (first | with_reducible exact X6.out | with_reducible exact Cells.at_ _ _ _ (by first | omega | (simp; done) | (simp; omega)) | with_reducible refine Cells.alloc ?_ _ | with_reducible refine Cells.far' ?_ (by first | omega | (simp; done) | (simp; omega)) _ | with_reducible refine Cells.drew ?_ | with_reducible refine Cells.drewN ?_ _)) hb7)
  have Xz7 := X7.out.lt
  have Y7 := Lib.hid (show Cells w7 (w3.heap.size) 24 (#[.int .i64 p, .int .i64 xs, .int .i64 2, .int .i64 0, .bool false, .int .u64 0]) from Cells.kept (by repeat (first | with_reducible exact Y6.out | with_reducible exact Cells.at_ _ _ _ (by first | omega | (simp; done) | (simp; omega)) | with_reducible refine Cells.alloc ?_ _ | with_reducible refine Cells.far' ?_ (by first | omega | (simp; done) | (simp; omega)) _ | with_reducible refine Cells.drew ?_ | with_reducible refine Cells.drewN ?_ _)) hb7)
  have Yz7 := Y7.out.lt
  clear hb7
  go_wp2_with fail
  refine (E1.out _ _ _ (H0.out.below (Since.out (by repeat (first | with_reducible exact A7.out | with_reducible exact Since.refl _ | with_reducible refine Since.alloc ?_ _ | with_reducible refine Since.setCell ?_ (by first | omega | (simp; done) | (simp; omega)) _ | with_reducible refine Since.drew ?_ | with_reducible refine Since.drewN ?_ _))))).mono ?_
  rintro e w8 ⟨B8, d8, rfl, hB8, hb8⟩
  have A8 := Lib.hid (show Since w w8 from Since.via (by repeat (first | with_reducible exact A7.out | with_reducible exact Since.refl _ | with_reducible refine Since.alloc ?_ _ | with_reducible refine Since.setCell ?_ (by first | omega | (simp; done) | (simp; omega)) _ | with_reducible refine Since.drew ?_ | with_reducible refine Since.drewN ?_ _)) hb8)
  have s8 := A8.out.size
  have B8 := Lib.hid (show Since w7 w8 from Since.via (by repeat (first | with_reducible exact Since.refl _ | with_reducible refine Since.alloc ?_ _ | with_reducible refine Since.setCell ?_ (by first | omega | (simp; done) | (simp; omega)) _ | with_reducible refine Since.drew ?_ | with_reducible refine Since.drewN ?_ _)) hb8)
  have V8 := Lib.hid (V7.out.below B8.out)
  have Q8 := Lib.hid hB8
  clear hB8
  have X8 := Lib.hid (show Cells w8 (w2.heap.size) 24 (#[.int .i64 ba, .int .i64 bs, .int .i64 1, .int .i64 bt, .bool bm, .int .u64 (bn : Nat)]) from Cells.kept (by repeat (first | with_reducible exact X7.out | with_reducible exact Cells.at_ _ _ _ (by first | omega | (simp; done) | (simp; omega)) | with_reducible refine Cells.alloc ?_ _ | with_reducible refine Cells.far' ?_ (by first | omega | (simp; done) | (simp; omega)) _ | with_reducible refine Cells.drew ?_ | with_reducible refine Cells.drewN ?_ _)) hb8)
  have Xz8 := X8.out.lt
  have Y8 := Lib.hid (show Cells w8 (w3.heap.size) 24 (#[.int .i64 p, .int .i64 xs, .int .i64 2, .int .i64 0, .bool false, .int .u64 0]) from Cells.kept (by repeat (first | with_reducible exact Y7.out | with_reducible exact Cells.at_ _ _ _ (by first | omega | (simp; done) | (simp; omega)) | with_reducible refine Cells.alloc ?_ _ | with_reducible refine Cells.far' ?_ (by first | omega | (simp; done) | (simp; omega)) _ | with_reducible refine Cells.drew ?_ | with_reducible refine Cells.drewN ?_ _)) hb8)
  have Yz8 := Y8.out.lt
  clear hb8
  go_wp2_with fail
  refine (E2.out _ _ _ (V8.out.below (Since.out (by repeat (first | with_reducible exact Since.refl _ | with_reducible refine Since.alloc ?_ _ | with_reducible refine Since.setCell ?_ (by first | omega | (simp; done) | (simp; omega)) _ | with_reducible refine Since.drew ?_ | with_reducible refine Since.drewN ?_ _))))).mono ?_
  rintro e w9 ⟨B9, d9, rfl, hB9, hb9⟩
  have A9 := Lib.hid (show Since w w9 from Since.via (by repeat (first | with_reducible exact A8.out | with_reducible exact Since.refl _ | with_reducible refine Since.alloc ?_ _ | with_reducible refine Since.setCell ?_ (by first | omega | (simp; done) | (simp; omega)) _ | with_reducible refine Since.drew ?_ | with_reducible refine Since.drewN ?_ _)) hb9)
  have s9 := A9.out.size
  have B9 := Lib.hid (show Since w8 w9 from Since.via (by repeat (first | with_reducible exact Since.refl _ | with_reducible refine Since.alloc ?_ _ | with_reducible refine Since.setCell ?_ (by first | omega | (simp; done) | (simp; omega)) _ | with_reducible refine Since.drew ?_ | with_reducible refine Since.drewN ?_ _)) hb9)
  have Q9 := Lib.hid (Q8.out.below B9.out)
  have R9 := Lib.hid hB9
  clear hB9
  have X9 := Lib.hid (show Cells w9 (w2.heap.size) 24 (#[.int .i64 ba, .int .i64 bs, .int .i64 1, .int .i64 bt, .bool bm, .int .u64 (bn : Nat)]) from Cells.kept (by repeat (first | with_reducible exact X8.out | with_reducible exact Cells.at_ _ _ _ (by first | omega | (simp; done) | (simp; omega)) | with_reducible refine Cells.alloc ?_ _ | with_reducible refine Cells.far' ?_ (by first | omega | (simp; done) | (simp; omega)) _ | with_reducible refine Cells.drew ?_ | with_reducible refine Cells.drewN ?_ _)) hb9)
  have Xz9 := X9.out.lt
  have Y9 := Lib.hid (show Cells w9 (w3.heap.size) 24 (#[.int .i64 p, .int .i64 xs, .int .i64 2, .int .i64 0, .bool false, .int .u64 0]) from Cells.kept (by repeat (first | with_reducible exact Y8.out | with_reducible exact Cells.at_ _ _ _ (by first | omega | (simp; done) | (simp; omega)) | with_reducible refine Cells.alloc ?_ _ | with_reducible refine Cells.far' ?_ (by first | omega | (simp; done) | (simp; omega)) _ | with_reducible refine Cells.drew ?_ | with_reducible refine Cells.drewN ?_ _)) hb9)
  have Yz9 := Y9.out.lt
  clear hb9
  obtain ⟨Xq0, Xq1, Xq2, Xq3, Xq4, Xq5⟩ := X9.out.six
  have Xlt := X9.out.lt
  obtain ⟨Yq0, Yq1, Yq2, Yq3, Yq4, Yq5⟩ := Y9.out.six
  have Ylt := Y9.out.lt
  by_cases n1 : (p : Int) < ba
  · by_cases n2 : ba + bs < p + xs
    · have hn : fm.length + 2 = fl.length + 1 := by have hn := HNR.out; simp [one01, n1, n2] at hn; omega
      go_wp2
      go_ret
      refine ⟨?_, (Since.out (by repeat (first | with_reducible exact A9.out | with_reducible exact Since.refl _ | with_reducible refine Since.alloc ?_ _ | with_reducible refine Since.setCell ?_ (by first | omega | (simp; done) | (simp; omega)) _ | with_reducible refine Since.drew ?_ | with_reducible refine Since.drewN ?_ _)))⟩
      congr 2
      simp
      try omega
    · have hn : fm.length + 1 = fl.length + 1 := by have hn := HNR.out; simp [one01, n1, n2] at hn; omega
      go_wp2
      go_ret
      refine ⟨?_, (Since.out (by repeat (first | with_reducible exact A9.out | with_reducible exact Since.refl _ | with_reducible refine Since.alloc ?_ _ | with_reducible refine Since.setCell ?_ (by first | omega | (simp; done) | (simp; omega)) _ | with_reducible refine Since.drew ?_ | with_reducible refine Since.drewN ?_ _)))⟩
      congr 2
      simp
      try omega
  · by_cases n2 : ba + bs < p + xs
    · have hn : fm.length + 1 = fl.length + 1 := by have hn := HNR.out; simp [one01, n1, n2] at hn; omega
      go_wp2
      go_ret
      refine ⟨?_, (Since.out (by repeat (first | with_reducible exact A9.out | with_reducible exact Since.refl _ | with_reducible refine Since.alloc ?_ _ | with_reducible refine Since.setCell ?_ (by first | omega | (simp; done) | (simp; omega)) _ | with_reducible refine Since.drew ?_ | with_reducible refine Since.drewN ?_ _)))⟩
      congr 2
      simp
      try omega
    · have hn : fm.length + 0 = fl.length + 1 := by have hn := HNR.out; simp [one01, n1, n2] at hn; omega
      go_wp2
      go_ret
      refine ⟨?_, (Since.out (by repeat (first | with_reducible exact A9.out | with_reducible exact Since.refl _ | with_reducible refine Since.alloc ?_ _ | with_reducible refine Since.setCell ?_ (by first | omega | (simp; done) | (simp; omega)) _ | with_reducible refine Since.drew ?_ | with_reducible refine Since.drewN ?_ _)))⟩
      congr 2
      simp
      try omega
end Go.Proofs.Ytoifalgkeegklaa
