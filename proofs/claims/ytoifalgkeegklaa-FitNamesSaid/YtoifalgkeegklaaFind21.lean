/- Find of package fit, walked. -/
import Derived.Test.YtoifalgkeegklaaFit
import Derived.Test.YtoifalgkeegklaaExt
import Derived.Test.YtoifalgkeegklaaClass
namespace Go.Proofs.Ytoifalgkeegklaa
open Go.RowKit

/-- The best extent among the first ones, and its class. -/
def bst (l : List Blk) (z : Int) : Nat → Blk × Nat
  | 0 => (zeroB, 0)
  | k + 1 => if z ≤ sizeAt l k ∧ ((bst l z k).2 = 0 ∨ Nat.log2 (sizeAt l k).toNat < (bst l z k).2) then (l.getD k zeroB, Nat.log2 (sizeAt l k).toNat) else bst l z k
theorem bst_yes {l : List Blk} {z : Int} {k : Nat} (h : k < l.length) (h1 : z ≤ l[k].size) (h2 : (bst l z k).2 = 0 ∨ Nat.log2 l[k].size.toNat < (bst l z k).2) : bst l z (k + 1) = (l[k], Nat.log2 l[k].size.toNat) := by
  rw [← sizeAt_get h] at h1 h2 ⊢
  conv => lhs; unfold bst
  rw [if_pos ⟨h1, h2⟩]
  simp [List.getD, h]
theorem bst_no {l : List Blk} {z : Int} {k : Nat} (h : k < l.length) (h1 : ¬ (z ≤ l[k].size ∧ ((bst l z k).2 = 0 ∨ Nat.log2 l[k].size.toNat < (bst l z k).2))) : bst l z (k + 1) = bst l z k := by
  rw [← sizeAt_get h] at h1
  conv => lhs; unfold bst
  rw [if_neg h1]
def fitO (l : List Blk) (z : Int) : Blk × Int := if (bst l z l.length).2 = 0 then (zeroB, 20) else ((bst l z l.length).1, 0)
def fitR (ws : List Nat) (z : Int) : Blk × Int := if (allR ws).2 ≠ 0 then (zeroB, (allR ws).2) else if ¬ okSize z then (zeroB, 2) else fitO (extR ws).1 z

set_option maxRecDepth 100000 in
theorem find_err (A : Option Addr) (n c : Nat) (x z : Int) (w : World) (hx : x ≠ 0) (C : Hid (∀ W : World, Below w.heap.size w W → Calls Try.prog 26 #[.slice A n c] W (BlksEnd W ([], x)))) :
    Calls Try.prog 24 #[.slice A n c, .int .i64 z] w (BlkEnd w (zeroB, x)) := by
  have h1 : (x != 0) = true := by simpa using hx
  have A0 := Lib.hid (Since.refl w)
  clear hx
  go_enter Try.func24, Try.ntmps24
  go_wp2_with fail
  refine (C.out _ (Since.out (by repeat (first | with_reducible exact A0.out | with_reducible exact Since.refl _ | with_reducible refine Since.alloc ?_ _ | with_reducible refine Since.setCell ?_ (by first | omega | (simp; done) | (simp; omega)) _ | with_reducible refine Since.drew ?_ | with_reducible refine Since.drewN ?_ _)))).mono ?_
  rintro e w1 ⟨B, d, rfl, _, hb1⟩
  have A1 := Lib.hid (show Since w w1 from Since.via (by repeat (first | with_reducible exact A0.out | with_reducible exact Since.refl _ | with_reducible refine Since.alloc ?_ _ | with_reducible refine Since.setCell ?_ (by first | omega | (simp; done) | (simp; omega)) _ | with_reducible refine Since.drew ?_ | with_reducible refine Since.drewN ?_ _)) hb1)
  have s1 := A1.out.size
  have R1 := Lib.hid (show Cells w1 (w.heap.size) 24 (#[.int .i64 0, .int .i64 0, .int .i64 0, .int .i64 0, .bool false, .int .u64 0]) from Cells.kept (by repeat (first | with_reducible exact R0.out | with_reducible exact Cells.at_ _ _ _ (by first | omega | (simp; done) | (simp; omega)) | with_reducible refine Cells.alloc ?_ _ | with_reducible refine Cells.far' ?_ (by first | omega | (simp; done) | (simp; omega)) _ | with_reducible refine Cells.drew ?_ | with_reducible refine Cells.drewN ?_ _)) hb1)
  have Rz1 := R1.out.lt
  clear hb1
  obtain ⟨Rq0, Rq1, Rq2, Rq3, Rq4, Rq5⟩ := R1.out.six
  have Rlt := R1.out.lt
  obtain ⟨f0, f1, f2, f3, f4, f5⟩ := R1.out.free6
  go_wp2
  have PX := R1.out.put6 (.int .i64 0) (.int .i64 0) (.int .i64 0) (.int .i64 0) (.bool false) (.int .u64 0)
  obtain ⟨p0, p1, p2, p3, p4, p5⟩ := PX.six
  exact bodyPost_ret (v := .tuple #[.agg #[.int .i64 0, .int .i64 0, .int .i64 0, .int .i64 0, .bool false, .int .u64 0], .int .i64 x]) (by simp [*, results, Try.results24, go_sem]) rfl ⟨rfl, (Since.out (by repeat (first | with_reducible exact A1.out | with_reducible exact Since.refl _ | with_reducible refine Since.alloc ?_ _ | with_reducible refine Since.setCell ?_ (by first | omega | (simp; done) | (simp; omega)) _ | with_reducible refine Since.drew ?_ | with_reducible refine Since.drewN ?_ _)))⟩
set_option maxRecDepth 100000 in
theorem find_arg (A : Option Addr) (n c : Nat) (l : List Blk) (z : Int) (w : World) (hz : ¬ okSize z) (C : Hid (∀ W : World, Below w.heap.size w W → Calls Try.prog 26 #[.slice A n c] W (BlksEnd W (l, 0)))) :
    Calls Try.prog 24 #[.slice A n c, .int .i64 z] w (BlkEnd w (zeroB, 2)) := by
  have D := Lib.hid fun W => right_no z W hz
  have A0 := Lib.hid (Since.refl w)
  clear hz
  go_enter Try.func24, Try.ntmps24
  go_wp2_with fail
  refine (C.out _ (Since.out (by repeat (first | with_reducible exact A0.out | with_reducible exact Since.refl _ | with_reducible refine Since.alloc ?_ _ | with_reducible refine Since.setCell ?_ (by first | omega | (simp; done) | (simp; omega)) _ | with_reducible refine Since.drew ?_ | with_reducible refine Since.drewN ?_ _)))).mono ?_
  rintro e w1 ⟨B, d, rfl, _, hb1⟩
  have A1 := Lib.hid (show Since w w1 from Since.via (by repeat (first | with_reducible exact A0.out | with_reducible exact Since.refl _ | with_reducible refine Since.alloc ?_ _ | with_reducible refine Since.setCell ?_ (by first | omega | (simp; done) | (simp; omega)) _ | with_reducible refine Since.drew ?_ | with_reducible refine Since.drewN ?_ _)) hb1)
  have s1 := A1.out.size
  have R1 := Lib.hid (show Cells w1 (w.heap.size) 24 (#[.int .i64 0, .int .i64 0, .int .i64 0, .int .i64 0, .bool false, .int .u64 0]) from Cells.kept (by repeat (first | with_reducible exact R0.out | with_reducible exact Cells.at_ _ _ _ (by first | omega | (simp; done) | (simp; omega)) | with_reducible refine Cells.alloc ?_ _ | with_reducible refine Cells.far' ?_ (by first | omega | (simp; done) | (simp; omega)) _ | with_reducible refine Cells.drew ?_ | with_reducible refine Cells.drewN ?_ _)) hb1)
  have Rz1 := R1.out.lt
  clear hb1
  obtain ⟨Rq0, Rq1, Rq2, Rq3, Rq4, Rq5⟩ := R1.out.six
  have Rlt := R1.out.lt
  obtain ⟨f0, f1, f2, f3, f4, f5⟩ := R1.out.free6
  go_wp2_with fail
  refine (D.out _).mono ?_
  rintro e wd ⟨rfl, rfl⟩
  go_wp2
  have PX := R1.out.put6 (.int .i64 0) (.int .i64 0) (.int .i64 0) (.int .i64 0) (.bool false) (.int .u64 0)
  obtain ⟨p0, p1, p2, p3, p4, p5⟩ := PX.six
  exact bodyPost_ret (v := .tuple #[.agg #[.int .i64 0, .int .i64 0, .int .i64 0, .int .i64 0, .bool false, .int .u64 0], .int .i64 2]) (by simp [*, results, Try.results24, go_sem]) rfl ⟨rfl, (Since.out (by repeat (first | with_reducible exact A1.out | with_reducible exact Since.refl _ | with_reducible refine Since.alloc ?_ _ | with_reducible refine Since.setCell ?_ (by first | omega | (simp; done) | (simp; omega)) _ | with_reducible refine Since.drew ?_ | with_reducible refine Since.drewN ?_ _)))⟩

def FitRel (w1 : World) (l : List Blk) (z : Int) (v t : Value) (wr : World) : Prop :=
  ∃ (k : Nat) (b : Blk) (kb : Nat), t = .int .i64 k ∧ v = .int .i64 kb ∧ k ≤ l.length ∧ Hid (bst l z k = (b, kb)) ∧ Cells wr w1.heap.size 24 #[.int .i64 b.at_, .int .i64 b.size, .int .i64 b.kind, .int .i64 b.typ, .bool b.mark, .int .u64 (b.next : Nat)] ∧ Since w1 wr

set_option maxRecDepth 100000 in
set_option maxHeartbeats 8000000 in
theorem find_ok (A : Option Addr) (n c : Nat) (l : List Blk) (z : Int) (w : World) (hl : l.length ≤ 1000000) (hsz : Sized l) (hz : okSize z) (C : Hid (∀ W : World, Below w.heap.size w W → Calls Try.prog 26 #[.slice A n c] W (BlksEnd W (l, 0)))) :
    Calls Try.prog 24 #[.slice A n c, .int .i64 z] w (BlkEnd w (fitO l z)) := by
  have D := Lib.hid fun W => right_yes z W hz
  have A0 := Lib.hid (Since.refl w)
  have HZ := Lib.hid hsz
  clear hz hsz
  go_enter Try.func24, Try.ntmps24
  go_wp2_with fail
  refine (C.out _ (Since.out (by repeat (first | with_reducible exact A0.out | with_reducible exact Since.refl _ | with_reducible refine Since.alloc ?_ _ | with_reducible refine Since.setCell ?_ (by first | omega | (simp; done) | (simp; omega)) _ | with_reducible refine Since.drew ?_ | with_reducible refine Since.drewN ?_ _)))).mono ?_
  rintro e w1 ⟨B, d, rfl, hB, hb1⟩
  have A1 := Lib.hid (show Since w w1 from Since.via (by repeat (first | with_reducible exact A0.out | with_reducible exact Since.refl _ | with_reducible refine Since.alloc ?_ _ | with_reducible refine Since.setCell ?_ (by first | omega | (simp; done) | (simp; omega)) _ | with_reducible refine Since.drew ?_ | with_reducible refine Since.drewN ?_ _)) hb1)
  have s1 := A1.out.size
  have R1 := Lib.hid (show Cells w1 (w.heap.size) 24 (#[.int .i64 0, .int .i64 0, .int .i64 0, .int .i64 0, .bool false, .int .u64 0]) from Cells.kept (by repeat (first | with_reducible exact R0.out | with_reducible exact Cells.at_ _ _ _ (by first | omega | (simp; done) | (simp; omega)) | with_reducible refine Cells.alloc ?_ _ | with_reducible refine Cells.far' ?_ (by first | omega | (simp; done) | (simp; omega)) _ | with_reducible refine Cells.drew ?_ | with_reducible refine Cells.drewN ?_ _)) hb1)
  have Rz1 := R1.out.lt
  clear hb1
  have HB := Lib.hid hB
  clear hB
  have hcap := HB.out.cap
  have hmost := HB.out.most
  go_wp2_with fail
  refine (D.out _).mono ?_
  rintro e wd ⟨rfl, rfl⟩
  go_wp2
  go_loopw [9, 29] (fun v t wr => FitRel w1 l z v t wr) (fun _ t _ => l.length - (intOf t).toNat)
  case atStart => exact ⟨0, zeroB, 0, rfl, rfl, Nat.zero_le _, rfl, Cells.new _ _ _, (by repeat (first | with_reducible exact C.out | with_reducible exact Since.refl _ | with_reducible refine Since.alloc ?_ _ | with_reducible refine Since.setCell ?_ (by first | omega | (simp; done) | (simp; omega)) _ | with_reducible refine Since.drew ?_ | with_reducible refine Since.drewN ?_ _))⟩
  case round =>
    obtain ⟨k, b, kb, rfl, rfl, hk, hS, hO, hnx⟩ := hrel
    obtain ⟨w4, hw4⟩ : ∃ x, x = wr := ⟨_, rfl⟩
    subst hw4
    have B4 := Lib.hid hnx
    have A4 := Lib.hid (Since.trans A1.out hnx)
    have s4 := B4.out.size
    have R4 := Lib.hid (R1.out.kept hnx)
    have O4 := Lib.hid hO
    have zr := R4.out.lt
    have zo := O4.out.lt
    clear hnx hO
    by_cases hlt : k < l.length
    · obtain ⟨g, o, rfl, hg⟩ := HB.out.at_ (by omega)
      have hg2 : g < w4.heap.size := by omega
      obtain ⟨c0, c1, c2, c3, c4, c5⟩ := (HB.out.below B4.out).same hlt
      have hbs := HZ.out.get hlt
      obtain ⟨S, hSS⟩ := Int.eq_ofNat_of_zero_le (show 0 ≤ l[k].size by omega)
      have CC := Lib.hid fun W => class_ok S W (by omega) (by omega)
      have YY := Lib.hid (@bst_yes l z k hlt)
      have NN := Lib.hid (@bst_no l z k hlt)
      rw [hS.out, hSS] at YY NN
      simp only [Int.toNat_natCast] at YY NN
      rw [hSS] at c1 hbs
      obtain ⟨q, hq⟩ : ∃ q, Nat.log2 S = q := ⟨_, rfl⟩
      rw [hq] at CC YY NN
      obtain ⟨e, he⟩ : ∃ e, l[k] = e := ⟨_, rfl⟩
      rw [he] at YY c0 c2 c3 c4 c5 hSS
      have HSS := Lib.hid hSS
      clear he hq hSS
      have hcase : (z ≤ (S : Int) ∧ kb = 0) ∨ (z ≤ (S : Int) ∧ kb ≠ 0 ∧ q < kb) ∨ (z ≤ (S : Int) ∧ kb ≠ 0 ∧ ¬ q < kb) ∨ ¬ z ≤ (S : Int) := by omega
      rcases hcase with ⟨h1, h2⟩ | ⟨h1, h2, h3⟩ | ⟨h1, h2, h3⟩ | h1
      · have BS := Lib.hid (YY.out h1 (.inl h2))
        subst h2
        obtain ⟨p0, p1, p2, p3, p4, p5⟩ := O4.out.six
        obtain ⟨f0, f1, f2, f3, f4, f5⟩ := O4.out.free6
        go_wp2_with fail
        refine (CC.out _).mono ?_
        rintro ee wd ⟨rfl, rfl⟩
        go_wp2
        have O5 := O4.out.put6 (.int .i64 e.at_) (.int .i64 (S : Int)) (.int .i64 e.kind) (.int .i64 e.typ) (.bool e.mark) (.int .u64 (e.next : Int))
        go_roundw
        case rel => exact ⟨k + 1, e, q, by go_num, rfl, by omega, BS, by rw [HSS.out]; exact O5.alloc _, (by repeat (first | with_reducible exact B4.out | with_reducible exact Since.refl _ | with_reducible refine Since.alloc ?_ _ | with_reducible refine Since.setCell ?_ (by first | omega | (simp; done) | (simp; omega)) _ | with_reducible refine Since.drew ?_ | with_reducible refine Since.drewN ?_ _))⟩
        case measure => simp [intOf]; omega
      · have BS := Lib.hid (YY.out h1 (.inr h3))
        have n1 : (((kb : Nat) : Int) == 0) = false := by simpa using h2
        clear h2
        obtain ⟨p0, p1, p2, p3, p4, p5⟩ := O4.out.six
        obtain ⟨f0, f1, f2, f3, f4, f5⟩ := O4.out.free6
        go_wp2_with fail
        refine (CC.out _).mono ?_
        rintro ee wd ⟨rfl, rfl⟩
        go_wp2
        have O5 := O4.out.put6 (.int .i64 e.at_) (.int .i64 (S : Int)) (.int .i64 e.kind) (.int .i64 e.typ) (.bool e.mark) (.int .u64 (e.next : Int))
        go_roundw
        case rel => exact ⟨k + 1, e, q, by go_num, rfl, by omega, BS, by rw [HSS.out]; exact O5.alloc _, (by repeat (first | with_reducible exact B4.out | with_reducible exact Since.refl _ | with_reducible refine Since.alloc ?_ _ | with_reducible refine Since.setCell ?_ (by first | omega | (simp; done) | (simp; omega)) _ | with_reducible refine Since.drew ?_ | with_reducible refine Since.drewN ?_ _))⟩
        case measure => simp [intOf]; omega
      · have BS := Lib.hid (NN.out (by rintro ⟨_, h | h⟩; exact h2 h; exact h3 h))
        have n1 : (((kb : Nat) : Int) == 0) = false := by simpa using h2
        have n2 : decide (q < kb) = false := by simpa using h3
        clear h2
        go_wp2_with fail
        refine (CC.out _).mono ?_
        rintro ee wd ⟨rfl, rfl⟩
        go_wp2
        go_roundw
        case rel => exact ⟨k + 1, b, kb, by go_num, rfl, by omega, BS, O4.out.alloc _, (by repeat (first | with_reducible exact B4.out | with_reducible exact Since.refl _ | with_reducible refine Since.alloc ?_ _ | with_reducible refine Since.setCell ?_ (by first | omega | (simp; done) | (simp; omega)) _ | with_reducible refine Since.drew ?_ | with_reducible refine Since.drewN ?_ _))⟩
        case measure => simp [intOf]; omega
      · have BS := Lib.hid (NN.out (fun h => h1 h.1))
        have n1 : decide (z ≤ (S : Int)) = false := by simpa using h1
        go_wp2_with fail
        refine (CC.out _).mono ?_
        rintro ee wd ⟨rfl, rfl⟩
        go_wp2
        go_roundw
        case rel => exact ⟨k + 1, b, kb, by go_num, rfl, by omega, BS, O4.out.alloc _, (by repeat (first | with_reducible exact B4.out | with_reducible exact Since.refl _ | with_reducible refine Since.alloc ?_ _ | with_reducible refine Since.setCell ?_ (by first | omega | (simp; done) | (simp; omega)) _ | with_reducible refine Since.drew ?_ | with_reducible refine Since.drewN ?_ _))⟩
        case measure => simp [intOf]; omega
    · obtain rfl : k = l.length := by omega
      obtain ⟨r0, r1, r2, r3, r4, r5⟩ := R4.out.six
      obtain ⟨f0, f1, f2, f3, f4, f5⟩ := R4.out.free6
      have Rlt := R4.out.lt
      obtain ⟨q0, q1, q2, q3, q4, q5⟩ := O4.out.six
      by_cases h0 : kb = 0
      · have E := Lib.hid (show fitO l z = (zeroB, 20) by unfold fitO; rw [hS.out]; rw [if_pos h0])
        subst h0
        go_wp2
        rw [E.out]
        have PX := R4.out.put6 (.int .i64 0) (.int .i64 0) (.int .i64 0) (.int .i64 0) (.bool false) (.int .u64 0)
        obtain ⟨p0, p1, p2, p3, p4, p5⟩ := PX.six
        exact bodyPost_ret (v := .tuple #[.agg #[.int .i64 0, .int .i64 0, .int .i64 0, .int .i64 0, .bool false, .int .u64 0], .int .i64 20]) (by simp [*, results, Try.results24, go_sem]) rfl ⟨rfl, (Since.out (by repeat (first | with_reducible exact A4.out | with_reducible exact Since.refl _ | with_reducible refine Since.alloc ?_ _ | with_reducible refine Since.setCell ?_ (by first | omega | (simp; done) | (simp; omega)) _ | with_reducible refine Since.drew ?_ | with_reducible refine Since.drewN ?_ _)))⟩
      · have E := Lib.hid (show fitO l z = (b, 0) by unfold fitO; rw [hS.out]; rw [if_neg h0])
        have n1 : (((kb : Nat) : Int) == 0) = false := by simpa using h0
        clear h0
        go_wp2
        rw [E.out]
        have PX := R4.out.put6 (.int .i64 b.at_) (.int .i64 b.size) (.int .i64 b.kind) (.int .i64 b.typ) (.bool b.mark) (.int .u64 (b.next : Nat))
        obtain ⟨p0, p1, p2, p3, p4, p5⟩ := PX.six
        exact bodyPost_ret (v := .tuple #[.agg #[.int .i64 b.at_, .int .i64 b.size, .int .i64 b.kind, .int .i64 b.typ, .bool b.mark, .int .u64 (b.next : Nat)], .int .i64 0]) (by simp [*, results, Try.results24, go_sem]) rfl ⟨rfl, (Since.out (by repeat (first | with_reducible exact A4.out | with_reducible exact Since.refl _ | with_reducible refine Since.alloc ?_ _ | with_reducible refine Since.setCell ?_ (by first | omega | (simp; done) | (simp; omega)) _ | with_reducible refine Since.drew ?_ | with_reducible refine Since.drewN ?_ _)))⟩
end Go.Proofs.Ytoifalgkeegklaa
