/- Around of the reference of package extents, walked. -/
import Derived.Test.YtoifalgkeegklaaAround
namespace Go.Proofs.Ytoifalgkeegklaa
open Go.RowKit

theorem rbec_any (A : Option Addr) (c : Nat) (l : List Blk) (i : Nat) (w : World) (h : Blks w A l.length c l) (hl : l.length ≤ 1000000) (hz : Sized l) (hi : i < l.length) :
    Calls Try.prog 63 #[.slice A l.length c, .int .i64 i] w fun e w' => e = .returned (.agg #[.int .i64 (becomes l i).at_, .int .i64 (becomes l i).size, .int .i64 2, .int .i64 0, .bool false, .int .u64 0]) ∧ Below w.heap.size w w' := by
  rcases i with _ | j
  · by_cases hr : 1 < l.length
    · by_cases hy : l[1].kind = 2
      · rw [bec_zf hi hr hy]; exact rbec_zf A c l w h hl hz hi hr hy
      · rw [bec_zn hi hr hy]; exact rbec_zn A c l w h hl hz hi hr hy
    · have hr : l.length ≤ 1 := by omega
      rw [bec_zz hi hr]; exact rbec_zz A c l w h hl hz hi hr
  · have e : ((j + 1 : Nat) : Int) = (j : Int) + 1 := by omega
    rw [e]
    by_cases hx : l[j].kind = 2
    · by_cases hr : j + 2 < l.length
      · by_cases hy : l[j + 2].kind = 2
        · rw [bec_ff j hi hx hr hy]; exact rbec_ff A c l j w h hl hz hi hx hr hy
        · rw [bec_fn j hi hx hr hy]; exact rbec_fn A c l j w h hl hz hi hx hr hy
      · have hr : l.length ≤ j + 2 := by omega
        rw [bec_fz j hi hx hr]; exact rbec_fz A c l j w h hl hz hi hx hr
    · by_cases hr : j + 2 < l.length
      · by_cases hy : l[j + 2].kind = 2
        · rw [bec_nf j hi hx hr hy]; exact rbec_nf A c l j w h hl hz hi hx hr hy
        · rw [bec_nn j hi hx hr hy]; exact rbec_nn A c l j w h hl hz hi hx hr hy
      · have hr : l.length ≤ j + 2 := by omega
        rw [bec_nz j hi hx hr]; exact rbec_nz A c l j w h hl hz hi hx hr

set_option maxRecDepth 100000 in
theorem rarnd_err (A : Option Addr) (n c : Nat) (x a : Int) (w : World) (hx : x ≠ 0) (C : Hid (∀ W : World, Below w.heap.size w W → Calls Try.prog 61 #[.slice A n c] W (BlksEnd W ([], x)))) :
    Calls Try.prog 34 #[.slice A n c, .int .i64 a] w (BlkEnd w (zeroB, x)) := by
  have h1 : (x != 0) = true := by simpa using hx
  have A0 := Lib.hid (Since.refl w)
  clear hx
  go_enter Try.func34, Try.ntmps34
  go_wp2_with fail
  refine (C.out _ (Since.out (by repeat (first | with_reducible exact A0.out | with_reducible exact Since.refl _ | with_reducible refine Since.alloc ?_ _ | with_reducible refine Since.setCell ?_ (by first | omega | (simp; done) | (simp; omega)) _ | with_reducible refine Since.drew ?_ | with_reducible refine Since.drewN ?_ _)))).mono ?_
  rintro e w1 ⟨B, d, rfl, _, hb1⟩
  have A1 := Lib.hid (show Since w w1 from Since.via (by repeat (first | with_reducible exact A0.out | with_reducible exact Since.refl _ | with_reducible refine Since.alloc ?_ _ | with_reducible refine Since.setCell ?_ (by first | omega | (simp; done) | (simp; omega)) _ | with_reducible refine Since.drew ?_ | with_reducible refine Since.drewN ?_ _)) hb1)
  have s1 := A1.out.size
  have R1 := Lib.hid (show Cells w1 (w.heap.size) 24 (#[.int .i64 0, .int .i64 0, .int .i64 0, .int .i64 0, .bool false, .int .u64 0]) from Cells.kept (by repeat (first | with_reducible exact R0.out | with_reducible exact Cells.at_ _ _ _ (by first | omega | (simp; done) | (simp; omega)) | with_reducible refine Cells.alloc ?_ _ | with_reducible refine Cells.far' ?_ (by first | omega | (simp; done) | (simp; omega)) _ | with_reducible refine Cells.drew ?_ | with_reducible refine Cells.drewN ?_ _)) hb1)
  have Rz1 := R1.out.lt
  clear hb1
  obtain ⟨Rq0, Rq1, Rq2, Rq3, Rq4, Rq5⟩ := R1.out.six
  have Rlt := R1.out.lt
  obtain ⟨f0, f1, f2, f3, f4, f5⟩ := R1.out.free6
  go_wp2
  have PX := R1.out.put6 (.int .i64 0) (.int .i64 0) (.int .i64 0) (.int .i64 0) (.bool false) (.int .u64 0)
  obtain ⟨p0, p1, p2, p3, p4, p5⟩ := PX.six
  exact bodyPost_ret (v := .tuple #[.agg #[.int .i64 0, .int .i64 0, .int .i64 0, .int .i64 0, .bool false, .int .u64 0], .int .i64 x]) (by simp [*, results, Try.results34, go_sem]) rfl ⟨rfl, (Since.out (by repeat (first | with_reducible exact A1.out | with_reducible exact Since.refl _ | with_reducible refine Since.alloc ?_ _ | with_reducible refine Since.setCell ?_ (by first | omega | (simp; done) | (simp; omega)) _ | with_reducible refine Since.drew ?_ | with_reducible refine Since.drewN ?_ _)))⟩

set_option maxRecDepth 100000 in
set_option maxHeartbeats 1000000 in
theorem rarnd_ok (A : Option Addr) (n c : Nat) (a : Int) (l : List Blk) (w : World) (hl : l.length ≤ 1000000) (hz : Sized l) (C : Hid (∀ W : World, Below w.heap.size w W → Calls Try.prog 61 #[.slice A n c] W (BlksEnd W (l, 0)))) :
    Calls Try.prog 34 #[.slice A n c, .int .i64 a] w (BlkEnd w (aroundO l (seek l a l.length 0))) := by
  have A0 := Lib.hid (Since.refl w)
  have HZ := Lib.hid hz
  clear hz
  go_enter Try.func34, Try.ntmps34
  go_wp2_with fail
  refine (C.out _ (Since.out (by repeat (first | with_reducible exact A0.out | with_reducible exact Since.refl _ | with_reducible refine Since.alloc ?_ _ | with_reducible refine Since.setCell ?_ (by first | omega | (simp; done) | (simp; omega)) _ | with_reducible refine Since.drew ?_ | with_reducible refine Since.drewN ?_ _)))).mono ?_
  rintro e w1 ⟨B, d, rfl, hB, hb1⟩
  have A1 := Lib.hid (show Since w w1 from Since.via (by repeat (first | with_reducible exact A0.out | with_reducible exact Since.refl _ | with_reducible refine Since.alloc ?_ _ | with_reducible refine Since.setCell ?_ (by first | omega | (simp; done) | (simp; omega)) _ | with_reducible refine Since.drew ?_ | with_reducible refine Since.drewN ?_ _)) hb1)
  have s1 := A1.out.size
  have R1 := Lib.hid (show Cells w1 (w.heap.size) 24 (#[.int .i64 0, .int .i64 0, .int .i64 0, .int .i64 0, .bool false, .int .u64 0]) from Cells.kept (by repeat (first | with_reducible exact R0.out | with_reducible exact Cells.at_ _ _ _ (by first | omega | (simp; done) | (simp; omega)) | with_reducible refine Cells.alloc ?_ _ | with_reducible refine Cells.far' ?_ (by first | omega | (simp; done) | (simp; omega)) _ | with_reducible refine Cells.drew ?_ | with_reducible refine Cells.drewN ?_ _)) hb1)
  have Rz1 := R1.out.lt
  clear hb1
  have HB := Lib.hid hB
  clear hB
  have hcap := HB.out.cap
  have hmost := HB.out.most
  go_wp2
  go_loopw [8] (fun t wr => ∃ k : Nat, k ≤ l.length ∧ t = .int .i64 k ∧ Hid (seek l a l.length 0 = seek l a (l.length - k) k) ∧ Since w1 wr) (fun t _ => l.length - (intOf t).toNat)
  case atStart => exact ⟨0, Nat.zero_le _, rfl, rfl, Since.refl _⟩
  case round =>
    obtain ⟨k, hk, rfl, hS, hnx⟩ := hrel
    obtain ⟨w4, hw4⟩ : ∃ x, x = wr := ⟨_, rfl⟩
    subst hw4
    have B4 := Lib.hid hnx
    have A4 := Lib.hid (Since.trans A1.out hnx)
    have s4 := B4.out.size
    have R4 := Lib.hid (R1.out.kept hnx)
    clear hnx
    by_cases hlt : k < l.length
    · obtain ⟨g, o, rfl, hg⟩ := HB.out.at_ (by omega)
      have hg2 : g < w4.heap.size := by omega
      obtain ⟨c0, _, c2, _⟩ := (HB.out.below B4.out).same hlt
      by_cases he1 : l[k].at_ = a
      · by_cases he2 : l[k].kind = 1
        · have D := Lib.hid (rbec_any _ d l k w4 (HB.out.below B4.out) hl HZ.out hlt)
          have E := Lib.hid (show aroundO l (seek l a l.length 0) = (becomes l k, 0) by rw [hS.out, seek_yes hlt he1 he2]; rfl)
          rw [he1] at c0
          rw [he2] at c2
          obtain ⟨p, hp⟩ : ∃ p, becomes l k = p := ⟨_, rfl⟩
          rw [hp] at D E
          have HK := Lib.hid (show p.kind = 2 ∧ p.typ = 0 ∧ p.mark = false ∧ p.next = 0 by rw [← hp]; exact ⟨rfl, rfl, rfl, rfl⟩)
          clear he1 he2 hp
          go_wp2_with fail
          refine D.out.mono ?_
          rintro e w5 ⟨rfl, hb5⟩
          have A5 := Lib.hid (Since.trans A4.out (show Since w4 w5 from hb5))
          have R5 := Lib.hid (R4.out.kept hb5)
          clear hb5
          obtain ⟨q0, q1, q2, q3, q4, q5⟩ := R5.out.six
          have Rlt := R5.out.lt
          obtain ⟨f0, f1, f2, f3, f4, f5⟩ := R5.out.free6
          go_wp2
          rw [E.out]
          obtain ⟨ba, bs, bk, bt, bm, bn⟩ := p
          obtain ⟨rfl, rfl, rfl, rfl⟩ := HK.out
          have PX := R5.out.put6 (.int .i64 ba) (.int .i64 bs) (.int .i64 2) (.int .i64 0) (.bool false) (.int .u64 0)
          obtain ⟨p0, p1, p2, p3, p4, p5⟩ := PX.six
          exact bodyPost_ret (v := .tuple #[.agg #[.int .i64 ba, .int .i64 bs, .int .i64 2, .int .i64 0, .bool false, .int .u64 0], .int .i64 0]) (by simp [*, results, Try.results34, go_sem]) rfl ⟨rfl, (Since.out (by repeat (first | with_reducible exact A5.out | with_reducible exact Since.refl _ | with_reducible refine Since.alloc ?_ _ | with_reducible refine Since.setCell ?_ (by first | omega | (simp; done) | (simp; omega)) _ | with_reducible refine Since.drew ?_ | with_reducible refine Since.drewN ?_ _)))⟩
        · have SN := Lib.hid (seek_no (a := a) hlt (fun h => he2 h.2))
          have n2 : (l[k].kind == 1) = false := by simpa using he2
          rw [he1] at c0
          generalize l[k] = b at *
          clear he1 he2
          go_wp2
          go_roundw
          case rel => exact ⟨k + 1, by omega, by go_num, Lib.hid (by rw [hS.out, SN.out]), (by repeat (first | with_reducible exact B4.out | with_reducible exact Since.refl _ | with_reducible refine Since.alloc ?_ _ | with_reducible refine Since.setCell ?_ (by first | omega | (simp; done) | (simp; omega)) _ | with_reducible refine Since.drew ?_ | with_reducible refine Since.drewN ?_ _))⟩
          case measure => simp [intOf]; omega
      · have SN := Lib.hid (seek_no (a := a) hlt (fun h => he1 h.1))
        have n1 : (l[k].at_ == a) = false := by simpa using he1
        generalize l[k] = b at *
        clear he1
        go_wp2
        go_roundw
        case rel => exact ⟨k + 1, by omega, by go_num, Lib.hid (by rw [hS.out, SN.out]), (by repeat (first | with_reducible exact B4.out | with_reducible exact Since.refl _ | with_reducible refine Since.alloc ?_ _ | with_reducible refine Since.setCell ?_ (by first | omega | (simp; done) | (simp; omega)) _ | with_reducible refine Since.drew ?_ | with_reducible refine Since.drewN ?_ _))⟩
        case measure => simp [intOf]; omega
    · obtain rfl : k = l.length := by omega
      have E := Lib.hid (show aroundO l (seek l a l.length 0) = (zeroB, 6) by rw [hS.out, seek_end]; rfl)
      obtain ⟨Rq0, Rq1, Rq2, Rq3, Rq4, Rq5⟩ := R4.out.six
      have Rlt := R4.out.lt
      obtain ⟨f0, f1, f2, f3, f4, f5⟩ := R4.out.free6
      go_wp2
      rw [E.out]
      have PX := R4.out.put6 (.int .i64 0) (.int .i64 0) (.int .i64 0) (.int .i64 0) (.bool false) (.int .u64 0)
      obtain ⟨p0, p1, p2, p3, p4, p5⟩ := PX.six
      exact bodyPost_ret (v := .tuple #[.agg #[.int .i64 0, .int .i64 0, .int .i64 0, .int .i64 0, .bool false, .int .u64 0], .int .i64 6]) (by simp [*, results, Try.results34, go_sem]) rfl ⟨rfl, (Since.out (by repeat (first | with_reducible exact A4.out | with_reducible exact Since.refl _ | with_reducible refine Since.alloc ?_ _ | with_reducible refine Since.setCell ?_ (by first | omega | (simp; done) | (simp; omega)) _ | with_reducible refine Since.drew ?_ | with_reducible refine Since.drewN ?_ _)))⟩

theorem aroundR_err {ws : List Nat} (h : (allR ws).2 ≠ 0) (a : Int) : aroundR ws a = (zeroB, (allR ws).2) := by unfold aroundR; rw [if_pos h]
theorem aroundR_ok {ws : List Nat} (h : (allR ws).2 = 0) (a : Int) : aroundR ws a = aroundO (allR ws).1 (seek (allR ws).1 a (allR ws).1.length 0) := by unfold aroundR; rw [if_neg (by simpa using h)]
theorem parnd_any (A : Option Addr) (n c : Nat) (ws : List Nat) (a : Int) (w : World) (h : Words w A n c ws) :
    Calls Try.prog 29 #[.slice A n c, .int .i64 a] w (BlkEnd w (aroundR ws a)) := by
  have F := fun W (hW : Below w.heap.size w W) => all_any A n c ws W (h.below hW)
  by_cases he : (allR ws).2 = 0
  · rw [aroundR_ok he]
    have hz := allR_sized ws
    have hl := allR_le ws
    rw [show allR ws = ((allR ws).1, 0) from Prod.ext rfl he] at F
    exact parnd_ok A n c a _ w hl hz (Lib.hid F)
  · rw [aroundR_err he]
    rw [allR_err he] at F
    exact parnd_err A n c _ a w he (Lib.hid F)
theorem rarnd_any (A : Option Addr) (n c : Nat) (ws : List Nat) (a : Int) (w : World) (h : Words w A n c ws) :
    Calls Try.prog 34 #[.slice A n c, .int .i64 a] w (BlkEnd w (aroundR ws a)) := by
  have F := fun W (hW : Below w.heap.size w W) => rall_any A n c ws W (h.below hW)
  by_cases he : (allR ws).2 = 0
  · rw [aroundR_ok he]
    have hz := allR_sized ws
    have hl := allR_le ws
    rw [show allR ws = ((allR ws).1, 0) from Prod.ext rfl he] at F
    exact rarnd_ok A n c a _ w hl hz (Lib.hid F)
  · rw [aroundR_err he]
    rw [allR_err he] at F
    exact rarnd_err A n c _ a w he (Lib.hid F)
end Go.Proofs.Ytoifalgkeegklaa
