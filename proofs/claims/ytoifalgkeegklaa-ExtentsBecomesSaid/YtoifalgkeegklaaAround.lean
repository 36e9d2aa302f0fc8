/- Around of package extents, walked. -/
import Derived.Test.YtoifalgkeegklaaBecomes
namespace Go.Proofs.Ytoifalgkeegklaa
open Go.RowKit

set_option maxRecDepth 100000 in
theorem parnd_err (A : Option Addr) (n c : Nat) (x a : Int) (w : World) (hx : x ≠ 0) (C : Hid (∀ W : World, Below w.heap.size w W → Calls Try.prog 28 #[.slice A n c] W (BlksEnd W ([], x)))) :
    Calls Try.prog 29 #[.slice A n c, .int .i64 a] w (BlkEnd w (zeroB, x)) := by
  have h1 : (x != 0) = true := by simpa using hx
  have A0 := Lib.hid (Since.refl w)
  clear hx
  go_enter Try.func29, Try.ntmps29
  go_wp2_with fail
  refine (C.out _ (Since.out (by repeat (first | with_reducible exact A0.out | with_reducible exact Since.refl _ | with_reducible refine Since.alloc ?_ _ | with_reducible refine Since.setCell ?_ (by first | omega | (simp; done) | (simp; omega)) _ | with_reducible refine Since.drew ?_ | with_reducible refine Since.drewN ?_ _)))).mono ?_
  rintro e w1 ⟨B, d, rfl, _, hb1⟩
  have A1 := Lib.hid (show Since w w1 from Since.via (by repeat (first | with_reducible exact A0.out | with_reducible exact Since.refl _ | with_reducible refine Since.alloc ?_ _ | with_reducible refine Since.setCell ?_ (by first | omega | (simp; done) | (simp; omega)) _ | with_reducible refine Since.drew ?_ | with_reducible refine Since.drewN ?_ _)) hb1)
  have s1 := A1.out.size
  have R1 := Lib.hid (show Cells w1 (w.heap.size) 24 (#[.int .i64 0, .int .i64 0, .int .i64 0, .int .i64 0, .bool false, .int .u64 0]) from Cells.kept (by repeat (first | with_reducible exact R0.out | with_reducible exact Cells.at_ _ _ _ (by first | omega | (simp; done) | (simp; omega)) | with_reducible refine Cells.alloc ?_ _ | with_reducible refine Cells.far' ?_ (by first | omega | (simp; done) | (simp; omega)) _ | with_reducible refine Cells.drew ?_ | with_reducible refine Cells.drewN ?_ _)) hb1)
  have Rz1 := R1.out.lt
  clear hb1
  obtain ⟨Rq0, Rq1, Rq2, Rq3, Rq4, Rq5⟩ := R1.out.six
  have Rlt := R1.out.lt
  obtain ⟨f0, f1, f2, f3, f4, f5⟩ := R1.out.free6
  go_wp2
  have PX := R1.out.put6 (.int .i64 0) (.int .i64 0) (.int .i64 0) (.int .i64 0) (.bool false) (.int .u64 0)
  obtain ⟨p0, p1, p2, p3, p4, p5⟩ := PX.six
  exact bodyPost_ret (v := .tuple #[.agg #[.int .i64 0, .int .i64 0, .int .i64 0, .int .i64 0, .bool false, .int .u64 0], .int .i64 x]) (by simp [*, results, Try.results29, go_sem]) rfl ⟨rfl, (Since.out (by repeat (first | with_reducible exact A1.out | with_reducible exact Since.refl _ | with_reducible refine Since.alloc ?_ _ | with_reducible refine Since.setCell ?_ (by first | omega | (simp; done) | (simp; omega)) _ | with_reducible refine Since.drew ?_ | with_reducible refine Since.drewN ?_ _)))⟩

set_option maxRecDepth 100000 in
set_option maxHeartbeats 8000000 in
theorem parnd_ok (A : Option Addr) (n c : Nat) (a : Int) (l : List Blk) (w : World) (hl : l.length ≤ 1000000) (hz : Sized l) (C : Hid (∀ W : World, Below w.heap.size w W → Calls Try.prog 28 #[.slice A n c] W (BlksEnd W (l, 0)))) :
    Calls Try.prog 29 #[.slice A n c, .int .i64 a] w (BlkEnd w (aroundO l (seek l a l.length 0))) := by
  have A0 := Lib.hid (Since.refl w)
  have HZ := Lib.hid hz
  clear hz
  go_enter Try.func29, Try.ntmps29
  go_wp2_with fail
  refine (C.out _ (Since.out (by repeat (first | with_reducible exact A0.out | with_reducible exact Since.refl _ | with_reducible refine Since.alloc ?_ _ | with_reducible refine Since.setCell ?_ (by first | omega | (simp; done) | (simp; omega)) _ | with_reducible refine Since.drew ?_ | with_reducible refine Since.drewN ?_ _)))).mono ?_
  rintro e w1 ⟨B, d, rfl, hB, hb1⟩
  have A1 := Lib.hid (show Since w w1 from Since.via (by repeat (first | with_reducible exact A0.out | with_reducible exact Since.refl _ | with_reducible refine Since.alloc ?_ _ | with_reducible refine Since.setCell ?_ (by first | omega | (simp; done) | (simp; omega)) _ | with_reducible refine Since.drew ?_ | with_reducible refine Since.drewN ?_ _)) hb1)
  have s1 := A1.out.size
  have R1 := Lib.hid (show Cells w1 (w.heap.size) 24 (#[.int .i64 0, .int .i64 0, .int .i64 0, .int .i64 0, .bool false, .int .u64 0]) from Cells.kept (by repeat (first | with_reducible exact R0.out | with_reducible exact Cells.at_ _ _ _ (by first | omega | (simp; done) | (simp; omega)) | with_reducible refine Cells.alloc ?_ _ | with_reducible refine Cells.far' ?_ (by first | omega | (simp; done) | (simp; omega)) _ | with_reducible refine Cells.drew ?_ | with_reducible refine Cells.drewN ?_ _)) hb1)
  have Rz1 := R1.out.lt
  clear hb1
  have HB := Lib.hid hB
  clear hB
  have hcap := HB.out.cap
  have hmost := HB.out.most
  go_wp2
  go_loopw [23] (fun t wr => ∃ k : Nat, k ≤ l.length ∧ t = .int .i64 k ∧ Hid (seek l a l.length 0 = seek l a (l.length - k) k) ∧ Since w1 wr) (fun t _ => l.length - (intOf t).toNat)
  case atStart => exact ⟨0, Nat.zero_le _, rfl, rfl, Since.refl _⟩
  case round =>
    obtain ⟨k, hk, rfl, hS, hnx⟩ := hrel
    obtain ⟨w4, hw4⟩ : ∃ x, x = wr := ⟨_, rfl⟩
    subst hw4
    have B4 := Lib.hid hnx
    have A4 := Lib.hid (Since.trans A1.out hnx)
    have s4 := B4.out.size
    have R4 := Lib.hid (R1.out.kept hnx)
    clear hnx
    by_cases hlt : k < l.length
    · obtain ⟨g, o, rfl, hg⟩ := HB.out.at_ (by omega)
      have hg2 : g < w4.heap.size := by omega
      obtain ⟨c0, c1, c2, c3, c4, c5⟩ := (HB.out.below B4.out).same hlt
      by_cases he1 : l[k].at_ = a
      · by_cases he2 : l[k].kind = 1
        · have n1 : (a != a) = false := by simp
          rcases k with _ | j
          · simp only [Nat.zero_mul, Nat.add_zero] at c0 c1 c2 c3 c4 c5
            by_cases hr : 1 < l.length
            · by_cases hy : l[1].kind = 2
              · have JB := Lib.hid (show Blks w4 (some ⟨g, o, none⟩) 2 d [l[0], l[1]] from by
                  have hh := (HB.out.below B4.out).drop (k := 0) (m := 0 + 2) (by omega) (by omega) hmost rfl (c' := d - (0)) (by omega) (by omega)
                  rw [sub2 (i := 0) (by omega)] at hh
                  simp only [Nat.zero_mul, Nat.add_zero, Nat.sub_zero, Nat.zero_add] at hh
                  exact hh)
                have JS := Lib.hid (show Sized [l[0], l[1]] from by intro b hb; simp at hb; rcases hb with rfl | rfl <;> exact HZ.out _ (List.getElem_mem _))
                have BE := bec_zf hlt hr hy
                have SU : sumF [l[0], l[1]] 2 = l[0].size + l[1].size := sum2 l[0] l[1]
                obtain ⟨S, hS2⟩ : ∃ S, sumF [l[0], l[1]] 2 = S := ⟨_, rfl⟩
                rw [hS2] at SU
                have E := Lib.hid (show aroundO l (seek l a l.length 0) = (⟨l[0].at_, S, 2, 0, false, 0⟩, 0) by
                  rw [hS.out, seek_yes hlt he1 he2]
                  simp only [aroundO, BE]
                  rw [SU]
                  )
                have HS2 := Lib.hid hS2
                clear hS2 SU BE
                obtain ⟨_, _, y2, _⟩ := (HB.out.below B4.out).same (j := 1) hr
                rw [hy] at y2
                have d0 : decide ((0 : Int) < 0) = false := by decide
                rw [he1] at c0
                rw [he2] at c2
                clear he1 he2
                have JJ := fun W (hW : Below w4.heap.size w4 W) => joined_any _ _ _ _ _ W (JB.out.below hW) (by decide) JS.out
                simp only [HS2.out] at JJ
                have JH := Lib.hid JJ
                clear JJ
                go_wp2_with fail
                refine (JH.out _ (Since.out (by repeat (first | with_reducible exact Since.refl _ | with_reducible refine Since.alloc ?_ _ | with_reducible refine Since.setCell ?_ (by first | omega | (simp; done) | (simp; omega)) _ | with_reducible refine Since.drew ?_ | with_reducible refine Since.drewN ?_ _)))).mono ?_
                rintro e w5 ⟨rfl, hb5⟩
                have B5 := Lib.hid (show Since w4 w5 from Since.via (by repeat (first | with_reducible exact C.out | with_reducible exact Since.refl _ | with_reducible refine Since.alloc ?_ _ | with_reducible refine Since.setCell ?_ (by first | omega | (simp; done) | (simp; omega)) _ | with_reducible refine Since.drew ?_ | with_reducible refine Since.drewN ?_ _)) hb5)
                have A5 := Lib.hid (Since.trans A4.out B5.out)
                have R5 := Lib.hid (R4.out.kept B5.out)
                clear hb5
                obtain ⟨q0, q1, q2, q3, q4, q5⟩ := R5.out.six
                have Rlt := R5.out.lt
                obtain ⟨f0, f1, f2, f3, f4, f5⟩ := R5.out.free6
                go_wp2
                rw [E.out]
                have PX := R5.out.put6 (.int .i64 l[0].at_) (.int .i64 S) (.int .i64 2) (.int .i64 0) (.bool false) (.int .u64 0)
                obtain ⟨p0, p1, p2, p3, p4, p5⟩ := PX.six
                exact bodyPost_ret (v := .tuple #[.agg #[.int .i64 l[0].at_, .int .i64 S, .int .i64 2, .int .i64 0, .bool false, .int .u64 0], .int .i64 0]) (by simp [*, results, Try.results29, go_sem]) rfl ⟨rfl, (Since.out (by repeat (first | with_reducible exact A5.out | with_reducible exact Since.refl _ | with_reducible refine Since.alloc ?_ _ | with_reducible refine Since.setCell ?_ (by first | omega | (simp; done) | (simp; omega)) _ | with_reducible refine Since.drew ?_ | with_reducible refine Since.drewN ?_ _)))⟩
              · have JB := Lib.hid (show Blks w4 (some ⟨g, o, none⟩) 1 d [l[0]] from by
                  have hh := (HB.out.below B4.out).drop (k := 0) (m := 0 + 1) (by omega) (by omega) hmost rfl (c' := d - (0)) (by omega) (by omega)
                  rw [sub1 (i := 0) (by omega)] at hh
                  simp only [Nat.zero_mul, Nat.add_zero, Nat.sub_zero, Nat.zero_add] at hh
                  exact hh)
                have JS := Lib.hid (show Sized [l[0]] from by intro b hb; simp at hb; subst hb; exact HZ.out _ (List.getElem_mem _))
                have BE := bec_zn hlt hr hy
                have SU : sumF [l[0]] 1 = l[0].size := sum1 l[0]
                obtain ⟨S, hS2⟩ : ∃ S, sumF [l[0]] 1 = S := ⟨_, rfl⟩
                rw [hS2] at SU
                have E := Lib.hid (show aroundO l (seek l a l.length 0) = (⟨l[0].at_, S, 2, 0, false, 0⟩, 0) by
                  rw [hS.out, seek_yes hlt he1 he2]
                  simp only [aroundO, BE]
                  rw [SU]
                  )
                have HS2 := Lib.hid hS2
                clear hS2 SU BE
                obtain ⟨_, _, y2, _⟩ := (HB.out.below B4.out).same (j := 1) hr
                have hy' : (l[1].kind == 2) = false := by simpa using hy
                generalize l[1].kind = yk at *
                clear hy
                have d0 : decide ((0 : Int) < 0) = false := by decide
                rw [he1] at c0
                rw [he2] at c2
                clear he1 he2
                have JJ := fun W (hW : Below w4.heap.size w4 W) => joined_any _ _ _ _ _ W (JB.out.below hW) (by decide) JS.out
                simp only [HS2.out] at JJ
                have JH := Lib.hid JJ
                clear JJ
                go_wp2_with fail
                refine (JH.out _ (Since.out (by repeat (first | with_reducible exact Since.refl _ | with_reducible refine Since.alloc ?_ _ | with_reducible refine Since.setCell ?_ (by first | omega | (simp; done) | (simp; omega)) _ | with_reducible refine Since.drew ?_ | with_reducible refine Since.drewN ?_ _)))).mono ?_
                rintro e w5 ⟨rfl, hb5⟩
                have B5 := Lib.hid (show Since w4 w5 from Since.via (by repeat (first | with_reducible exact C.out | with_reducible exact Since.refl _ | with_reducible refine Since.alloc ?_ _ | with_reducible refine Since.setCell ?_ (by first | omega | (simp; done) | (simp; omega)) _ | with_reducible refine Since.drew ?_ | with_reducible refine Since.drewN ?_ _)) hb5)
                have A5 := Lib.hid (Since.trans A4.out B5.out)
                have R5 := Lib.hid (R4.out.kept B5.out)
                clear hb5
                obtain ⟨q0, q1, q2, q3, q4, q5⟩ := R5.out.six
                have Rlt := R5.out.lt
                obtain ⟨f0, f1, f2, f3, f4, f5⟩ := R5.out.free6
                go_wp2
                rw [E.out]
                have PX := R5.out.put6 (.int .i64 l[0].at_) (.int .i64 S) (.int .i64 2) (.int .i64 0) (.bool false) (.int .u64 0)
                obtain ⟨p0, p1, p2, p3, p4, p5⟩ := PX.six
                exact bodyPost_ret (v := .tuple #[.agg #[.int .i64 l[0].at_, .int .i64 S, .int .i64 2, .int .i64 0, .bool false, .int .u64 0], .int .i64 0]) (by simp [*, results, Try.results29, go_sem]) rfl ⟨rfl, (Since.out (by repeat (first | with_reducible exact A5.out | with_reducible exact Since.refl _ | with_reducible refine Since.alloc ?_ _ | with_reducible refine Since.setCell ?_ (by first | omega | (simp; done) | (simp; omega)) _ | with_reducible refine Since.drew ?_ | with_reducible refine Since.drewN ?_ _)))⟩
            · have hr : l.length ≤ 1 := by omega
              have JB := Lib.hid (show Blks w4 (some ⟨g, o, none⟩) 1 d [l[0]] from by
                have hh := (HB.out.below B4.out).drop (k := 0) (m := 0 + 1) (by omega) (by omega) hmost rfl (c' := d - (0)) (by omega) (by omega)
                rw [sub1 (i := 0) (by omega)] at hh
                simp only [Nat.zero_mul, Nat.add_zero, Nat.sub_zero, Nat.zero_add] at hh
                exact hh)
              have JS := Lib.hid (show Sized [l[0]] from by intro b hb; simp at hb; subst hb; exact HZ.out _ (List.getElem_mem _))
              have BE := bec_zz hlt hr
              have SU : sumF [l[0]] 1 = l[0].size := sum1 l[0]
              obtain ⟨S, hS2⟩ : ∃ S, sumF [l[0]] 1 = S := ⟨_, rfl⟩
              rw [hS2] at SU
              have E := Lib.hid (show aroundO l (seek l a l.length 0) = (⟨l[0].at_, S, 2, 0, false, 0⟩, 0) by
                rw [hS.out, seek_yes hlt he1 he2]
                simp only [aroundO, BE]
                rw [SU]
                )
              have HS2 := Lib.hid hS2
              clear hS2 SU BE
              have d0 : decide ((0 : Int) < 0) = false := by decide
              have d1 : decide (((1 : Int)) < (l.length : Int)) = false := by simp; omega
              rw [he1] at c0
              rw [he2] at c2
              clear he1 he2
              have JJ := fun W (hW : Below w4.heap.size w4 W) => joined_any _ _ _ _ _ W (JB.out.below hW) (by decide) JS.out
              simp only [HS2.out] at JJ
              have JH := Lib.hid JJ
              clear JJ
              go_wp2_with fail
              refine (JH.out _ (Since.out (by repeat (first | with_reducible exact Since.refl _ | with_reducible refine Since.alloc ?_ _ | with_reducible refine Since.setCell ?_ (by first | omega | (simp; done) | (simp; omega)) _ | with_reducible refine Since.drew ?_ | with_reducible refine Since.drewN ?_ _)))).mono ?_
              rintro e w5 ⟨rfl, hb5⟩
              have B5 := Lib.hid (show Since w4 w5 from Since.via (by repeat (first | with_reducible exact C.out | with_reducible exact Since.refl _ | with_reducible refine Since.alloc ?_ _ | with_reducible refine Since.setCell ?_ (by first | omega | (simp; done) | (simp; omega)) _ | with_reducible refine Since.drew ?_ | with_reducible refine Since.drewN ?_ _)) hb5)
              have A5 := Lib.hid (Since.trans A4.out B5.out)
              have R5 := Lib.hid (R4.out.kept B5.out)
              clear hb5
              obtain ⟨q0, q1, q2, q3, q4, q5⟩ := R5.out.six
              have Rlt := R5.out.lt
              obtain ⟨f0, f1, f2, f3, f4, f5⟩ := R5.out.free6
              go_wp2
              rw [E.out]
              have PX := R5.out.put6 (.int .i64 l[0].at_) (.int .i64 S) (.int .i64 2) (.int .i64 0) (.bool false) (.int .u64 0)
              obtain ⟨p0, p1, p2, p3, p4, p5⟩ := PX.six
              exact bodyPost_ret (v := .tuple #[.agg #[.int .i64 l[0].at_, .int .i64 S, .int .i64 2, .int .i64 0, .bool false, .int .u64 0], .int .i64 0]) (by simp [*, results, Try.results29, go_sem]) rfl ⟨rfl, (Since.out (by repeat (first | with_reducible exact A5.out | with_reducible exact Since.refl _ | with_reducible refine Since.alloc ?_ _ | with_reducible refine Since.setCell ?_ (by first | omega | (simp; done) | (simp; omega)) _ | with_reducible refine Since.drew ?_ | with_reducible refine Since.drewN ?_ _)))⟩
          · by_cases hx : l[j].kind = 2
            · by_cases hr : j + 2 < l.length
              · by_cases hy : l[j + 2].kind = 2
                · have JB := Lib.hid (show Blks w4 (some ⟨g, o + (j) * 6, none⟩) 3 (d - (j)) [l[j], l[j + 1], l[j + 2]] from by
                    have hh := (HB.out.below B4.out).drop (k := j) (m := j + 3) (by omega) (by omega) hmost rfl (c' := d - (j)) (by omega) (by omega)
                    rw [sub3 (i := j) (by omega)] at hh
                    simp only [Nat.add_sub_cancel_left] at hh
                    exact hh)
                  have JS := Lib.hid (show Sized [l[j], l[j + 1], l[j + 2]] from by intro b hb; simp at hb; rcases hb with rfl | rfl | rfl <;> exact HZ.out _ (List.getElem_mem _))
                  have BE := bec_ff j hlt hx hr hy
                  have SU : sumF [l[j], l[j + 1], l[j + 2]] 3 = l[j].size + l[j + 1].size + l[j + 2].size := sum3 l[j] l[j + 1] l[j + 2]
                  obtain ⟨S, hS2⟩ : ∃ S, sumF [l[j], l[j + 1], l[j + 2]] 3 = S := ⟨_, rfl⟩
                  rw [hS2] at SU
                  have E := Lib.hid (show aroundO l (seek l a l.length 0) = (⟨l[j].at_, S, 2, 0, false, 0⟩, 0) by
                    rw [hS.out, seek_yes hlt he1 he2]
                    simp only [aroundO, BE]
                    rw [SU, Int.add_comm l[j].size]
                    )
                  have HS2 := Lib.hid hS2
                  clear hS2 SU BE
                  obtain ⟨_, _, x2, _⟩ := (HB.out.below B4.out).same (j := j) (by omega)
                  obtain ⟨_, _, y2, _⟩ := (HB.out.below B4.out).same (j := j + 2) hr
                  rw [hx] at x2
                  rw [hy] at y2
                  rw [he1] at c0
                  rw [he2] at c2
                  clear he1 he2
                  have JJ := fun W (hW : Below w4.heap.size w4 W) => joined_any _ _ _ _ _ W (JB.out.below hW) (by decide) JS.out
                  simp only [HS2.out] at JJ
                  have JH := Lib.hid JJ
                  clear JJ
                  go_wp2_with fail
                  rw [show j + 1 + 1 + 1 - j = 3 by omega]
                  refine (JH.out _ (Since.out (by repeat (first | with_reducible exact Since.refl _ | with_reducible refine Since.alloc ?_ _ | with_reducible refine Since.setCell ?_ (by first | omega | (simp; done) | (simp; omega)) _ | with_reducible refine Since.drew ?_ | with_reducible refine Since.drewN ?_ _)))).mono ?_
                  rintro e w5 ⟨rfl, hb5⟩
                  have B5 := Lib.hid (show Since w4 w5 from Since.via (by repeat (first | with_reducible exact C.out | with_reducible exact Since.refl _ | with_reducible refine Since.alloc ?_ _ | with_reducible refine Since.setCell ?_ (by first | omega | (simp; done) | (simp; omega)) _ | with_reducible refine Since.drew ?_ | with_reducible refine Since.drewN ?_ _)) hb5)
                  have A5 := Lib.hid (Since.trans A4.out B5.out)
                  have R5 := Lib.hid (R4.out.kept B5.out)
                  clear hb5
                  obtain ⟨q0, q1, q2, q3, q4, q5⟩ := R5.out.six
                  have Rlt := R5.out.lt
                  obtain ⟨f0, f1, f2, f3, f4, f5⟩ := R5.out.free6
                  go_wp2
                  rw [E.out]
                  have PX := R5.out.put6 (.int .i64 l[j].at_) (.int .i64 S) (.int .i64 2) (.int .i64 0) (.bool false) (.int .u64 0)
                  obtain ⟨p0, p1, p2, p3, p4, p5⟩ := PX.six
                  exact bodyPost_ret (v := .tuple #[.agg #[.int .i64 l[j].at_, .int .i64 S, .int .i64 2, .int .i64 0, .bool false, .int .u64 0], .int .i64 0]) (by simp [*, results, Try.results29, go_sem]) rfl ⟨rfl, (Since.out (by repeat (first | with_reducible exact A5.out | with_reducible exact Since.refl _ | with_reducible refine Since.alloc ?_ _ | with_reducible refine Since.setCell ?_ (by first | omega | (simp; done) | (simp; omega)) _ | with_reducible refine Since.drew ?_ | with_reducible refine Since.drewN ?_ _)))⟩
                · have JB := Lib.hid (show Blks w4 (some ⟨g, o + (j) * 6, none⟩) 2 (d - (j)) [l[j], l[j + 1]] from by
                    have hh := (HB.out.below B4.out).drop (k := j) (m := j + 2) (by omega) (by omega) hmost rfl (c' := d - (j)) (by omega) (by omega)
                    rw [sub2 (i := j) (by omega)] at hh
                    simp only [Nat.add_sub_cancel_left] at hh
                    exact hh)
                  have JS := Lib.hid (show Sized [l[j], l[j + 1]] from by intro b hb; simp at hb; rcases hb with rfl | rfl <;> exact HZ.out _ (List.getElem_mem _))
                  have BE := bec_fn j hlt hx hr hy
                  have SU : sumF [l[j], l[j + 1]] 2 = l[j].size + l[j + 1].size := sum2 l[j] l[j + 1]
                  obtain ⟨S, hS2⟩ : ∃ S, sumF [l[j], l[j + 1]] 2 = S := ⟨_, rfl⟩
                  rw [hS2] at SU
                  have E := Lib.hid (show aroundO l (seek l a l.length 0) = (⟨l[j].at_, S, 2, 0, false, 0⟩, 0) by
                    rw [hS.out, seek_yes hlt he1 he2]
                    simp only [aroundO, BE]
                    rw [SU, Int.add_comm l[j].size]
                    )
                  have HS2 := Lib.hid hS2
                  clear hS2 SU BE
                  obtain ⟨_, _, x2, _⟩ := (HB.out.below B4.out).same (j := j) (by omega)
                  obtain ⟨_, _, y2, _⟩ := (HB.out.below B4.out).same (j := j + 2) hr
                  rw [hx] at x2
                  have hy' : (l[j + 2].kind == 2) = false := by simpa using hy
                  generalize l[j + 2].kind = yk at *
                  clear hy
                  rw [he1] at c0
                  rw [he2] at c2
                  clear he1 he2
                  have JJ := fun W (hW : Below w4.heap.size w4 W) => joined_any _ _ _ _ _ W (JB.out.below hW) (by decide) JS.out
                  simp only [HS2.out] at JJ
                  have JH := Lib.hid JJ
                  clear JJ
                  go_wp2_with fail
                  rw [show j + 1 + 1 - j = 2 by omega]
                  refine (JH.out _ (Since.out (by repeat (first | with_reducible exact Since.refl _ | with_reducible refine Since.alloc ?_ _ | with_reducible refine Since.setCell ?_ (by first | omega | (simp; done) | (simp; omega)) _ | with_reducible refine Since.drew ?_ | with_reducible refine Since.drewN ?_ _)))).mono ?_
                  rintro e w5 ⟨rfl, hb5⟩
                  have B5 := Lib.hid (show Since w4 w5 from Since.via (by repeat (first | with_reducible exact C.out | with_reducible exact Since.refl _ | with_reducible refine Since.alloc ?_ _ | with_reducible refine Since.setCell ?_ (by first | omega | (simp; done) | (simp; omega)) _ | with_reducible refine Since.drew ?_ | with_reducible refine Since.drewN ?_ _)) hb5)
                  have A5 := Lib.hid (Since.trans A4.out B5.out)
                  have R5 := Lib.hid (R4.out.kept B5.out)
                  clear hb5
                  obtain ⟨q0, q1, q2, q3, q4, q5⟩ := R5.out.six
                  have Rlt := R5.out.lt
                  obtain ⟨f0, f1, f2, f3, f4, f5⟩ := R5.out.free6
                  go_wp2
                  rw [E.out]
                  have PX := R5.out.put6 (.int .i64 l[j].at_) (.int .i64 S) (.int .i64 2) (.int .i64 0) (.bool false) (.int .u64 0)
                  obtain ⟨p0, p1, p2, p3, p4, p5⟩ := PX.six
                  exact bodyPost_ret (v := .tuple #[.agg #[.int .i64 l[j].at_, .int .i64 S, .int .i64 2, .int .i64 0, .bool false, .int .u64 0], .int .i64 0]) (by simp [*, results, Try.results29, go_sem]) rfl ⟨rfl, (Since.out (by repeat (first | with_reducible exact A5.out | with_reducible exact Since.refl _ | with_reducible refine Since.alloc ?_ _ | with_reducible refine Since.setCell ?_ (by first | omega | (simp; done) | (simp; omega)) _ | with_reducible refine Since.drew ?_ | with_reducible refine Since.drewN ?_ _)))⟩
              · have hr : l.length ≤ j + 2 := by omega
                have JB := Lib.hid (show Blks w4 (some ⟨g, o + (j) * 6, none⟩) 2 (d - (j)) [l[j], l[j + 1]] from by
                  have hh := (HB.out.below B4.out).drop (k := j) (m := j + 2) (by omega) (by omega) hmost rfl (c' := d - (j)) (by omega) (by omega)
                  rw [sub2 (i := j) (by omega)] at hh
                  simp only [Nat.add_sub_cancel_left] at hh
                  exact hh)
                have JS := Lib.hid (show Sized [l[j], l[j + 1]] from by intro b hb; simp at hb; rcases hb with rfl | rfl <;> exact HZ.out _ (List.getElem_mem _))
                have BE := bec_fz j hlt hx hr
                have SU : sumF [l[j], l[j + 1]] 2 = l[j].size + l[j + 1].size := sum2 l[j] l[j + 1]
                obtain ⟨S, hS2⟩ : ∃ S, sumF [l[j], l[j + 1]] 2 = S := ⟨_, rfl⟩
                rw [hS2] at SU
                have E := Lib.hid (show aroundO l (seek l a l.length 0) = (⟨l[j].at_, S, 2, 0, false, 0⟩, 0) by
                  rw [hS.out, seek_yes hlt he1 he2]
                  simp only [aroundO, BE]
                  rw [SU, Int.add_comm l[j].size]
                  )
                have HS2 := Lib.hid hS2
                clear hS2 SU BE
                obtain ⟨_, _, x2, _⟩ := (HB.out.below B4.out).same (j := j) (by omega)
                rw [hx] at x2
                have d1 : decide (((j : Int) + 1 + 1) < (l.length : Int)) = false := by simp; omega
                rw [he1] at c0
                rw [he2] at c2
                clear he1 he2
                have JJ := fun W (hW : Below w4.heap.size w4 W) => joined_any _ _ _ _ _ W (JB.out.below hW) (by decide) JS.out
                simp only [HS2.out] at JJ
                have JH := Lib.hid JJ
                clear JJ
                go_wp2_with fail
                rw [show j + 1 + 1 - j = 2 by omega]
                refine (JH.out _ (Since.out (by repeat (first | with_reducible exact Since.refl _ | with_reducible refine Since.alloc ?_ _ | with_reducible refine Since.setCell ?_ (by first | omega | (simp; done) | (simp; omega)) _ | with_reducible refine Since.drew ?_ | with_reducible refine Since.drewN ?_ _)))).mono ?_
                rintro e w5 ⟨rfl, hb5⟩
                have B5 := Lib.hid (show Since w4 w5 from Since.via (by repeat (first | with_reducible exact C.out | with_reducible exact Since.refl _ | with_reducible refine Since.alloc ?_ _ | with_reducible refine Since.setCell ?_ (by first | omega | (simp; done) | (simp; omega)) _ | with_reducible refine Since.drew ?_ | with_reducible refine Since.drewN ?_ _)) hb5)
                have A5 := Lib.hid (Since.trans A4.out B5.out)
                have R5 := Lib.hid (R4.out.kept B5.out)
                clear hb5
                obtain ⟨q0, q1, q2, q3, q4, q5⟩ := R5.out.six
                have Rlt := R5.out.lt
                obtain ⟨f0, f1, f2, f3, f4, f5⟩ := R5.out.free6
                go_wp2
                rw [E.out]
                have PX := R5.out.put6 (.int .i64 l[j].at_) (.int .i64 S) (.int .i64 2) (.int .i64 0) (.bool false) (.int .u64 0)
                obtain ⟨p0, p1, p2, p3, p4, p5⟩ := PX.six
                exact bodyPost_ret (v := .tuple #[.agg #[.int .i64 l[j].at_, .int .i64 S, .int .i64 2, .int .i64 0, .bool false, .int .u64 0], .int .i64 0]) (by simp [*, results, Try.results29, go_sem]) rfl ⟨rfl, (Since.out (by repeat (first | with_reducible exact A5.out | with_reducible exact Since.refl _ | with_reducible refine Since.alloc ?_ _ | with_reducible refine Since.setCell ?_ (by first | omega | (simp; done) | (simp; omega)) _ | with_reducible refine Since.drew ?_ | with_reducible refine Since.drewN ?_ _)))⟩
            · by_cases hr : j + 2 < l.length
              · by_cases hy : l[j + 2].kind = 2
                · have JB := Lib.hid (show Blks w4 (some ⟨g, o + (j + 1) * 6, none⟩) 2 (d - (j + 1)) [l[j + 1], l[j + 2]] from by
                    have hh := (HB.out.below B4.out).drop (k := j + 1) (m := j + 1 + 2) (by omega) (by omega) hmost rfl (c' := d - (j + 1)) (by omega) (by omega)
                    rw [sub2 (i := j + 1) (by omega)] at hh
                    simp only [Nat.add_sub_cancel_left] at hh
                    exact hh)
                  have JS := Lib.hid (show Sized [l[j + 1], l[j + 2]] from by intro b hb; simp at hb; rcases hb with rfl | rfl <;> exact HZ.out _ (List.getElem_mem _))
                  have BE := bec_nf j hlt hx hr hy
                  have SU : sumF [l[j + 1], l[j + 2]] 2 = l[j + 1].size + l[j + 2].size := sum2 l[j + 1] l[j + 2]
                  obtain ⟨S, hS2⟩ : ∃ S, sumF [l[j + 1], l[j + 2]] 2 = S := ⟨_, rfl⟩
                  rw [hS2] at SU
                  have E := Lib.hid (show aroundO l (seek l a l.length 0) = (⟨l[(j + 1)].at_, S, 2, 0, false, 0⟩, 0) by
                    rw [hS.out, seek_yes hlt he1 he2]
                    simp only [aroundO, BE]
                    rw [SU]
                    )
                  have HS2 := Lib.hid hS2
                  clear hS2 SU BE
                  obtain ⟨_, _, x2, _⟩ := (HB.out.below B4.out).same (j := j) (by omega)
                  obtain ⟨_, _, y2, _⟩ := (HB.out.below B4.out).same (j := j + 2) hr
                  rw [hy] at y2
                  have hx' : (l[j].kind == 2) = false := by simpa using hx
                  generalize l[j].kind = xk at *
                  clear hx
                  rw [he1] at c0
                  rw [he2] at c2
                  clear he1 he2
                  have JJ := fun W (hW : Below w4.heap.size w4 W) => joined_any _ _ _ _ _ W (JB.out.below hW) (by decide) JS.out
                  simp only [HS2.out] at JJ
                  have JH := Lib.hid JJ
                  clear JJ
                  go_wp2_with fail
                  refine (JH.out _ (Since.out (by repeat (first | with_reducible exact Since.refl _ | with_reducible refine Since.alloc ?_ _ | with_reducible refine Since.setCell ?_ (by first | omega | (simp; done) | (simp; omega)) _ | with_reducible refine Since.drew ?_ | with_reducible refine Since.drewN ?_ _)))).mono ?_
                  rintro e w5 ⟨rfl, hb5⟩
                  have B5 := Lib.hid (show Since w4 w5 from Since.via (by repeat (first | with_reducible exact C.out | with_reducible exact Since.refl _ | with_reducible refine Since.alloc ?_ _ | with_reducible refine Since.setCell ?_ (by first | omega | (simp; done) | (simp; omega)) _ | with_reducible refine Since.drew ?_ | with_reducible refine Since.drewN ?_ _)) hb5)
                  have A5 := Lib.hid (Since.trans A4.out B5.out)
                  have R5 := Lib.hid (R4.out.kept B5.out)
                  clear hb5
                  obtain ⟨q0, q1, q2, q3, q4, q5⟩ := R5.out.six
                  have Rlt := R5.out.lt
                  obtain ⟨f0, f1, f2, f3, f4, f5⟩ := R5.out.free6
                  go_wp2
                  rw [E.out]
                  have PX := R5.out.put6 (.int .i64 l[(j + 1)].at_) (.int .i64 S) (.int .i64 2) (.int .i64 0) (.bool false) (.int .u64 0)
                  obtain ⟨p0, p1, p2, p3, p4, p5⟩ := PX.six
                  exact bodyPost_ret (v := .tuple #[.agg #[.int .i64 l[(j + 1)].at_, .int .i64 S, .int .i64 2, .int .i64 0, .bool false, .int .u64 0], .int .i64 0]) (by simp [*, results, Try.results29, go_sem]) rfl ⟨rfl, (Since.out (by repeat (first | with_reducible exact A5.out | with_reducible exact Since.refl _ | with_reducible refine Since.alloc ?_ _ | with_reducible refine Since.setCell ?_ (by first | omega | (simp; done) | (simp; omega)) _ | with_reducible refine Since.drew ?_ | with_reducible refine Since.drewN ?_ _)))⟩
                · have JB := Lib.hid (show Blks w4 (some ⟨g, o + (j + 1) * 6, none⟩) 1 (d - (j + 1)) [l[j + 1]] from by
                    have hh := (HB.out.below B4.out).drop (k := j + 1) (m := j + 1 + 1) (by omega) (by omega) hmost rfl (c' := d - (j + 1)) (by omega) (by omega)
                    rw [sub1 (i := j + 1) (by omega)] at hh
                    simp only [Nat.add_sub_cancel_left] at hh
                    exact hh)
                  have JS := Lib.hid (show Sized [l[j + 1]] from by intro b hb; simp at hb; subst hb; exact HZ.out _ (List.getElem_mem _))
                  have BE := bec_nn j hlt hx hr hy
                  have SU : sumF [l[j + 1]] 1 = l[j + 1].size := sum1 l[j + 1]
                  obtain ⟨S, hS2⟩ : ∃ S, sumF [l[j + 1]] 1 = S := ⟨_, rfl⟩
                  rw [hS2] at SU
                  have E := Lib.hid (show aroundO l (seek l a l.length 0) = (⟨l[(j + 1)].at_, S, 2, 0, false, 0⟩, 0) by
                    rw [hS.out, seek_yes hlt he1 he2]
                    simp only [aroundO, BE]
                    rw [SU]
                    )
                  have HS2 := Lib.hid hS2
                  clear hS2 SU BE
                  obtain ⟨_, _, x2, _⟩ := (HB.out.below B4.out).same (j := j) (by omega)
                  obtain ⟨_, _, y2, _⟩ := (HB.out.below B4.out).same (j := j + 2) hr
                  have hx' : (l[j].kind == 2) = false := by simpa using hx
                  generalize l[j].kind = xk at *
                  clear hx
                  have hy' : (l[j + 2].kind == 2) = false := by simpa using hy
                  generalize l[j + 2].kind = yk at *
                  clear hy
                  rw [he1] at c0
                  rw [he2] at c2
                  clear he1 he2
                  have JJ := fun W (hW : Below w4.heap.size w4 W) => joined_any _ _ _ _ _ W (JB.out.below hW) (by decide) JS.out
                  simp only [HS2.out] at JJ
                  have JH := Lib.hid JJ
                  clear JJ
                  go_wp2_with fail
                  refine (JH.out _ (Since.out (by repeat (first | with_reducible exact Since.refl _ | with_reducible refine Since.alloc ?_ _ | with_reducible refine Since.setCell ?_ (by first | omega | (simp; done) | (simp; omega)) _ | with_reducible refine Since.drew ?_ | with_reducible refine Since.drewN ?_ _)))).mono ?_
                  rintro e w5 ⟨rfl, hb5⟩
                  have B5 := Lib.hid (show Since w4 w5 from Since.via (by repeat (first | with_reducible exact C.out | with_reducible exact Since.refl _ | with_reducible refine Since.alloc ?_ _ | with_reducible refine Since.setCell ?_ (by first | omega | (simp; done) | (simp; omega)) _ | with_reducible refine Since.drew ?_ | with_reducible refine Since.drewN ?_ _)) hb5)
                  have A5 := Lib.hid (Since.trans A4.out B5.out)
                  have R5 := Lib.hid (R4.out.kept B5.out)
                  clear hb5
                  obtain ⟨q0, q1, q2, q3, q4, q5⟩ := R5.out.six
                  have Rlt := R5.out.lt
                  obtain ⟨f0, f1, f2, f3, f4, f5⟩ := R5.out.free6
                  go_wp2
                  rw [E.out]
                  have PX := R5.out.put6 (.int .i64 l[(j + 1)].at_) (.int .i64 S) (.int .i64 2) (.int .i64 0) (.bool false) (.int .u64 0)
                  obtain ⟨p0, p1, p2, p3, p4, p5⟩ := PX.six
                  exact bodyPost_ret (v := .tuple #[.agg #[.int .i64 l[(j + 1)].at_, .int .i64 S, .int .i64 2, .int .i64 0, .bool false, .int .u64 0], .int .i64 0]) (by simp [*, results, Try.results29, go_sem]) rfl ⟨rfl, (Since.out (by repeat (first | with_reducible exact A5.out | with_reducible exact Since.refl _ | with_reducible refine Since.alloc ?_ _ | with_reducible refine Since.setCell ?_ (by first | omega | (simp; done) | (simp; omega)) _ | with_reducible refine Since.drew ?_ | with_reducible refine Since.drewN ?_ _)))⟩
              · have hr : l.length ≤ j + 2 := by omega
                have JB := Lib.hid (show Blks w4 (some ⟨g, o + (j + 1) * 6, none⟩) 1 (d - (j + 1)) [l[j + 1]] from by
                  have hh := (HB.out.below B4.out).drop (k := j + 1) (m := j + 1 + 1) (by omega) (by omega) hmost rfl (c' := d - (j + 1)) (by omega) (by omega)
                  rw [sub1 (i := j + 1) (by omega)] at hh
                  simp only [Nat.add_sub_cancel_left] at hh
                  exact hh)
                have JS := Lib.hid (show Sized [l[j + 1]] from by intro b hb; simp at hb; subst hb; exact HZ.out _ (List.getElem_mem _))
                have BE := bec_nz j hlt hx hr
                have SU : sumF [l[j + 1]] 1 = l[j + 1].size := sum1 l[j + 1]
                obtain ⟨S, hS2⟩ : ∃ S, sumF [l[j + 1]] 1 = S := ⟨_, rfl⟩
                rw [hS2] at SU
                have E := Lib.hid (show aroundO l (seek l a l.length 0) = (⟨l[(j + 1)].at_, S, 2, 0, false, 0⟩, 0) by
                  rw [hS.out, seek_yes hlt he1 he2]
                  simp only [aroundO, BE]
                  rw [SU]
                  )
                have HS2 := Lib.hid hS2
                clear hS2 SU BE
                obtain ⟨_, _, x2, _⟩ := (HB.out.below B4.out).same (j := j) (by omega)
                have hx' : (l[j].kind == 2) = false := by simpa using hx
                generalize l[j].kind = xk at *
                clear hx
                have d1 : decide (((j : Int) + 1 + 1) < (l.length : Int)) = false := by simp; omega
                rw [he1] at c0
                rw [he2] at c2
                clear he1 he2
                have JJ := fun W (hW : Below w4.heap.size w4 W) => joined_any _ _ _ _ _ W (JB.out.below hW) (by decide) JS.out
                simp only [HS2.out] at JJ
                have JH := Lib.hid JJ
                clear JJ
                go_wp2_with fail
                refine (JH.out _ (Since.out (by repeat (first | with_reducible exact Since.refl _ | with_reducible refine Since.alloc ?_ _ | with_reducible refine Since.setCell ?_ (by first | omega | (simp; done) | (simp; omega)) _ | with_reducible refine Since.drew ?_ | with_reducible refine Since.drewN ?_ _)))).mono ?_
                rintro e w5 ⟨rfl, hb5⟩
                have B5 := Lib.hid (show Since w4 w5 from Since.via (by repeat (first | with_reducible exact C.out | with_reducible exact Since.refl _ | with_reducible refine Since.alloc ?_ _ | with_reducible refine Since.setCell ?_ (by first | omega | (simp; done) | (simp; omega)) _ | with_reducible refine Since.drew ?_ | with_reducible refine Since.drewN ?_ _)) hb5)
                have A5 := Lib.hid (Since.trans A4.out B5.out)
                have R5 := Lib.hid (R4.out.kept B5.out)
                clear hb5
                obtain ⟨q0, q1, q2, q3, q4, q5⟩ := R5.out.six
                have Rlt := R5.out.lt
                obtain ⟨f0, f1, f2, f3, f4, f5⟩ := R5.out.free6
                go_wp2
                rw [E.out]
                have PX := R5.out.put6 (.int .i64 l[(j + 1)].at_) (.int .i64 S) (.int .i64 2) (.int .i64 0) (.bool false) (.int .u64 0)
                obtain ⟨p0, p1, p2, p3, p4, p5⟩ := PX.six
                exact bodyPost_ret (v := .tuple #[.agg #[.int .i64 l[(j + 1)].at_, .int .i64 S, .int .i64 2, .int .i64 0, .bool false, .int .u64 0], .int .i64 0]) (by simp [*, results, Try.results29, go_sem]) rfl ⟨rfl, (Since.out (by repeat (first | with_reducible exact A5.out | with_reducible exact Since.refl _ | with_reducible refine Since.alloc ?_ _ | with_reducible refine Since.setCell ?_ (by first | omega | (simp; done) | (simp; omega)) _ | with_reducible refine Since.drew ?_ | with_reducible refine Since.drewN ?_ _)))⟩
        · have SN := Lib.hid (seek_no (a := a) hlt (fun h => he2 h.2))
          have n1 : (a != a) = false := by simp
          have n2 : (l[k].kind != 1) = true := by simpa using he2
          rw [he1] at c0
          generalize l[k] = b at *
          clear he1 he2
          go_wp2
          go_roundw
          case rel => exact ⟨k + 1, by omega, by go_num, Lib.hid (by rw [hS.out, SN.out]), (by repeat (first | with_reducible exact B4.out | with_reducible exact Since.refl _ | with_reducible refine Since.alloc ?_ _ | with_reducible refine Since.setCell ?_ (by first | omega | (simp; done) | (simp; omega)) _ | with_reducible refine Since.drew ?_ | with_reducible refine Since.drewN ?_ _))⟩
          case measure => simp [intOf]; omega
      · have SN := Lib.hid (seek_no (a := a) hlt (fun h => he1 h.1))
        have n1 : (l[k].at_ != a) = true := by simpa using he1
        generalize l[k] = b at *
        clear he1
        go_wp2
        go_roundw
        case rel => exact ⟨k + 1, by omega, by go_num, Lib.hid (by rw [hS.out, SN.out]), (by repeat (first | with_reducible exact B4.out | with_reducible exact Since.refl _ | with_reducible refine Since.alloc ?_ _ | with_reducible refine Since.setCell ?_ (by first | omega | (simp; done) | (simp; omega)) _ | with_reducible refine Since.drew ?_ | with_reducible refine Since.drewN ?_ _))⟩
        case measure => simp [intOf]; omega
    · obtain rfl : k = l.length := by omega
      have E := Lib.hid (show aroundO l (seek l a l.length 0) = (zeroB, 6) by rw [hS.out, seek_end]; rfl)
      obtain ⟨Rq0, Rq1, Rq2, Rq3, Rq4, Rq5⟩ := R4.out.six
      have Rlt := R4.out.lt
      obtain ⟨f0, f1, f2, f3, f4, f5⟩ := R4.out.free6
      go_wp2
      rw [E.out]
      have PX := R4.out.put6 (.int .i64 0) (.int .i64 0) (.int .i64 0) (.int .i64 0) (.bool false) (.int .u64 0)
      obtain ⟨p0, p1, p2, p3, p4, p5⟩ := PX.six
      exact bodyPost_ret (v := .tuple #[.agg #[.int .i64 0, .int .i64 0, .int .i64 0, .int .i64 0, .bool false, .int .u64 0], .int .i64 6]) (by simp [*, results, Try.results29, go_sem]) rfl ⟨rfl, (Since.out (by repeat (first | with_reducible exact A4.out | with_reducible exact Since.refl _ | with_reducible refine Since.alloc ?_ _ | with_reducible refine Since.setCell ?_ (by first | omega | (simp; done) | (simp; omega)) _ | with_reducible refine Since.drew ?_ | with_reducible refine Since.drewN ?_ _)))⟩
end Go.Proofs.Ytoifalgkeegklaa
