/- What is left over of an extent, and its reference, walked. -/
import Derived.Test.YtoifalgkeegklaaHead
import Derived.Deep.RegionWith
import Derived.Deep.RegionHeld3
namespace Go.Proofs.Ytoifalgkeegklaa
open Go.RowKit

/-- A size that is one of an object. -/
def okSize (s : Int) : Prop := 2 ≤ s ∧ s ≤ 10 ∧ s % 2 = 0
instance (s : Int) : Decidable (okSize s) := by unfold okSize; exact inferInstance

theorem right_yes (s : Int) (w : World) (h : okSize s) : Calls Try.prog 52 #[.int .i64 s] w fun e w' => e = .returned (.bool true) ∧ w = w' := by
  obtain ⟨h1, h2, h3⟩ := h
  have h9 : (s % 2 == 0) = true := by simp; omega
  clear h3
  go_enter Try.func52, Try.ntmps52
  go_wp2
  all_goals (go_ret; exact ⟨rfl, rfl⟩)
theorem right_no (s : Int) (w : World) (h : ¬ okSize s) : Calls Try.prog 52 #[.int .i64 s] w fun e w' => e = .returned (.bool false) ∧ w = w' := by
  by_cases h1 : 2 ≤ s
  · by_cases h2 : s ≤ 10
    · have h9 : (s % 2 == 0) = false := by
        simp; intro h3; exact h ⟨h1, h2, by omega⟩
      clear h
      go_enter Try.func52, Try.ntmps52
      go_wp2
      all_goals (go_ret; exact ⟨rfl, rfl⟩)
    · have h3 : decide (s ≤ 10) = false := by simpa using h2
      clear h
      go_enter Try.func52, Try.ntmps52
      go_wp2
      all_goals (go_ret; exact ⟨rfl, rfl⟩)
  · have h3 : decide (2 ≤ s) = false := by simpa using h1
    clear h
    go_enter Try.func52, Try.ntmps52
    go_wp2
    all_goals (go_ret; exact ⟨rfl, rfl⟩)
theorem rsize_yes (s : Int) (w : World) (h : okSize s) : Calls Try.prog 53 #[.int .i64 s] w fun e w' => e = .returned (.bool true) ∧ w = w' := by
  obtain ⟨h1, h2, h3⟩ := h
  have h : s = 2 ∨ s = 4 ∨ s = 6 ∨ s = 8 ∨ s = 10 := by omega
  clear h1 h2 h3
  rcases h with rfl | rfl | rfl | rfl | rfl <;>
  · go_enter Try.func53, Try.ntmps53
    go_wp2
    all_goals (go_ret; exact ⟨rfl, rfl⟩)
theorem rsize_no (s : Int) (w : World) (h : ¬ okSize s) : Calls Try.prog 53 #[.int .i64 s] w fun e w' => e = .returned (.bool false) ∧ w = w' := by
  have a1 : (s == 2) = false := by simp; rintro rfl; exact h (by decide)
  have a2 : (s == 4) = false := by simp; rintro rfl; exact h (by decide)
  have a3 : (s == 6) = false := by simp; rintro rfl; exact h (by decide)
  have a4 : (s == 8) = false := by simp; rintro rfl; exact h (by decide)
  have a5 : (s == 10) = false := by simp; rintro rfl; exact h (by decide)
  clear h
  go_enter Try.func53, Try.ntmps53
  go_wp2
  all_goals (go_ret; exact ⟨rfl, rfl⟩)

set_option maxRecDepth 100000 in
theorem fleft_bad (a s k t : Int) (m : Bool) (x : Int) (z : Int) (w : World) (h : ¬ Blk.good ⟨a, s, k, t, m, 0⟩) :
    Calls Try.prog 18 #[.agg #[.int .i64 a, .int .i64 s, .int .i64 k, .int .i64 t, .bool m, .int .u64 x], .int .i64 z] w fun e w' => e = .returned (.tuple #[.agg #[.int .i64 0, .int .i64 0, .int .i64 0, .int .i64 0, .bool false, .int .u64 0], .bool false, .int .i64 8]) ∧ Below w.heap.size w w' := by
  have C := Lib.hid fun W => hcheck_bad a s k t m x W h
  clear h
  have A0 := Lib.hid (Since.refl w)
  go_enter Try.func18, Try.ntmps18
  go_wp2_with fail
  refine (C.out _).mono ?_
  rintro e w1 ⟨rfl, hb1⟩
  have A1 := Lib.hid (show Since w w1 from Since.via (by repeat (first | with_reducible exact A0.out | with_reducible exact Since.refl _ | with_reducible refine Since.alloc ?_ _ | with_reducible refine Since.setCell ?_ (by first | omega | (simp; done) | (simp; omega)) _ | with_reducible refine Since.drew ?_ | with_reducible refine Since.drewN ?_ _)) hb1)
  have s1 := A1.out.size
  have F1 := Lib.hid (show Cells w1 (w.heap.size) 24 (#[.int .i64 a, .int .i64 s, .int .i64 k, .int .i64 t, .bool m, .int .u64 x]) from Cells.kept (by repeat (first | with_reducible exact F0.out | with_reducible exact Cells.at_ _ _ _ (by first | omega | (simp; done) | (simp; omega)) | with_reducible refine Cells.alloc ?_ _ | with_reducible refine Cells.far' ?_ (by first | omega | (simp; done) | (simp; omega)) _ | with_reducible refine Cells.drew ?_ | with_reducible refine Cells.drewN ?_ _)) hb1)
  have Fz1 := F1.out.lt
  have R1 := Lib.hid (show Cells w1 (w.heap.size + 1) 24 (#[.int .i64 0, .int .i64 0, .int .i64 0, .int .i64 0, .bool false, .int .u64 0]) from Cells.kept (by repeat (first | with_reducible exact R0.out | with_reducible exact Cells.at_ _ _ _ (by first | omega | (simp; done) | (simp; omega)) | with_reducible refine Cells.alloc ?_ _ | with_reducible refine Cells.far' ?_ (by first | omega | (simp; done) | (simp; omega)) _ | with_reducible refine Cells.drew ?_ | with_reducible refine Cells.drewN ?_ _)) hb1)
  have Rz1 := R1.out.lt
  clear hb1
  obtain ⟨Fq0, Fq1, Fq2, Fq3, Fq4, Fq5⟩ := F1.out.six
  have Flt := F1.out.lt
  obtain ⟨Rq0, Rq1, Rq2, Rq3, Rq4, Rq5⟩ := R1.out.six
  have Rlt := R1.out.lt
  obtain ⟨f0, f1, f2, f3, f4, f5⟩ := R1.out.free6
  go_wp2
  have P := R1.out.put6 (.int .i64 0) (.int .i64 0) (.int .i64 0) (.int .i64 0) (.bool false) (.int .u64 0)
  obtain ⟨p0, p1, p2, p3, p4, p5⟩ := P.six
  exact bodyPost_ret (v := .tuple #[.agg #[.int .i64 0, .int .i64 0, .int .i64 0, .int .i64 0, .bool false, .int .u64 0], .bool false, .int .i64 8])
    (by simp [results, Try.results18, go_sem, p0, p1, p2, p3, p4, p5]) rfl ⟨rfl, (Since.out (by repeat (first | with_reducible exact A1.out | with_reducible exact Since.refl _ | with_reducible refine Since.alloc ?_ _ | with_reducible refine Since.setCell ?_ (by first | omega | (simp; done) | (simp; omega)) _ | with_reducible refine Since.drew ?_ | with_reducible refine Since.drewN ?_ _)))⟩

set_option maxRecDepth 100000 in
theorem fleft_obj (a s k t : Int) (m : Bool) (x : Int) (z : Int) (w : World) (h : Blk.good ⟨a, s, k, t, m, 0⟩) (hk : k ≠ 2) :
    Calls Try.prog 18 #[.agg #[.int .i64 a, .int .i64 s, .int .i64 k, .int .i64 t, .bool m, .int .u64 x], .int .i64 z] w fun e w' => e = .returned (.tuple #[.agg #[.int .i64 0, .int .i64 0, .int .i64 0, .int .i64 0, .bool false, .int .u64 0], .bool false, .int .i64 8]) ∧ Below w.heap.size w w' := by
  have C := Lib.hid fun W => hcheck_ok a s k t m x W h
  have h2 : (k != 2) = true := by simpa using hk
  clear h hk
  have A0 := Lib.hid (Since.refl w)
  go_enter Try.func18, Try.ntmps18
  go_wp2_with fail
  refine (C.out _).mono ?_
  rintro e w1 ⟨rfl, hb1⟩
  have A1 := Lib.hid (show Since w w1 from Since.via (by repeat (first | with_reducible exact A0.out | with_reducible exact Since.refl _ | with_reducible refine Since.alloc ?_ _ | with_reducible refine Since.setCell ?_ (by first | omega | (simp; done) | (simp; omega)) _ | with_reducible refine Since.drew ?_ | with_reducible refine Since.drewN ?_ _)) hb1)
  have s1 := A1.out.size
  have F1 := Lib.hid (show Cells w1 (w.heap.size) 24 (#[.int .i64 a, .int .i64 s, .int .i64 k, .int .i64 t, .bool m, .int .u64 x]) from Cells.kept (by repeat (first | with_reducible exact F0.out | with_reducible exact Cells.at_ _ _ _ (by first | omega | (simp; done) | (simp; omega)) | with_reducible refine Cells.alloc ?_ _ | with_reducible refine Cells.far' ?_ (by first | omega | (simp; done) | (simp; omega)) _ | with_reducible refine Cells.drew ?_ | with_reducible refine Cells.drewN ?_ _)) hb1)
  have Fz1 := F1.out.lt
  have R1 := Lib.hid (show Cells w1 (w.heap.size + 1) 24 (#[.int .i64 0, .int .i64 0, .int .i64 0, .int .i64 0, .bool false, .int .u64 0]) from Cells.kept (by repeat (first | with_reducible exact R0.out | with_reducible exact Cells.at_ _ _ _ (by first | omega | (simp; done) | (simp; omega)) | with_reducible refine Cells.alloc ?_ _ | with_reducible refine Cells.far' ?_ (by first | omega | (simp; done) | (simp; omega)) _ | with_reducible refine Cells.drew ?_ | with_reducible refine Cells.drewN ?_ _)) hb1)
  have Rz1 := R1.out.lt
  clear hb1
  obtain ⟨Fq0, Fq1, Fq2, Fq3, Fq4, Fq5⟩ := F1.out.six
  have Flt := F1.out.lt
  obtain ⟨Rq0, Rq1, Rq2, Rq3, Rq4, Rq5⟩ := R1.out.six
  have Rlt := R1.out.lt
  obtain ⟨f0, f1, f2, f3, f4, f5⟩ := R1.out.free6
  go_wp2
  have P := R1.out.put6 (.int .i64 0) (.int .i64 0) (.int .i64 0) (.int .i64 0) (.bool false) (.int .u64 0)
  obtain ⟨p0, p1, p2, p3, p4, p5⟩ := P.six
  exact bodyPost_ret (v := .tuple #[.agg #[.int .i64 0, .int .i64 0, .int .i64 0, .int .i64 0, .bool false, .int .u64 0], .bool false, .int .i64 8])
    (by simp [results, Try.results18, go_sem, p0, p1, p2, p3, p4, p5]) rfl ⟨rfl, (Since.out (by repeat (first | with_reducible exact A1.out | with_reducible exact Since.refl _ | with_reducible refine Since.alloc ?_ _ | with_reducible refine Since.setCell ?_ (by first | omega | (simp; done) | (simp; omega)) _ | with_reducible refine Since.drew ?_ | with_reducible refine Since.drewN ?_ _)))⟩

set_option maxRecDepth 100000 in
theorem fleft_size (a s k t : Int) (m : Bool) (x : Int) (z : Int) (w : World) (h : Blk.good ⟨a, s, k, t, m, 0⟩) (hk : k = 2) (hz : ¬ okSize z) :
    Calls Try.prog 18 #[.agg #[.int .i64 a, .int .i64 s, .int .i64 k, .int .i64 t, .bool m, .int .u64 x], .int .i64 z] w fun e w' => e = .returned (.tuple #[.agg #[.int .i64 0, .int .i64 0, .int .i64 0, .int .i64 0, .bool false, .int .u64 0], .bool false, .int .i64 2]) ∧ Below w.heap.size w w' := by
  have C := Lib.hid fun W => hcheck_ok a s k t m x W h
  clear h
  subst hk
  have D := Lib.hid fun W => right_no z W hz
  clear hz
  have A0 := Lib.hid (Since.refl w)
  go_enter Try.func18, Try.ntmps18
  go_wp2_with fail
  refine (C.out _).mono ?_
  rintro e w1 ⟨rfl, hb1⟩
  have A1 := Lib.hid (show Since w w1 from Since.via (by repeat (first | with_reducible exact A0.out | with_reducible exact Since.refl _ | with_reducible refine Since.alloc ?_ _ | with_reducible refine Since.setCell ?_ (by first | omega | (simp; done) | (simp; omega)) _ | with_reducible refine Since.drew ?_ | with_reducible refine Since.drewN ?_ _)) hb1)
  have s1 := A1.out.size
  have F1 := Lib.hid (show Cells w1 (w.heap.size) 24 (#[.int .i64 a, .int .i64 s, .int .i64 2, .int .i64 t, .bool m, .int .u64 x]) from Cells.kept (by repeat (first | with_reducible exact F0.out | with_reducible exact Cells.at_ _ _ _ (by first | omega | (simp; done) | (simp; omega)) | with_reducible refine Cells.alloc ?_ _ | with_reducible refine Cells.far' ?_ (by first | omega | (simp; done) | (simp; omega)) _ | with_reducible refine Cells.drew ?_ | with_reducible refine Cells.drewN ?_ _)) hb1)
  have Fz1 := F1.out.lt
  have R1 := Lib.hid (show Cells w1 (w.heap.size + 1) 24 (#[.int .i64 0, .int .i64 0, .int .i64 0, .int .i64 0, .bool false, .int .u64 0]) from Cells.kept (by repeat (first | with_reducible exact R0.out | with_reducible exact Cells.at_ _ _ _ (by first | omega | (simp; done) | (simp; omega)) | with_reducible refine Cells.alloc ?_ _ | with_reducible refine Cells.far' ?_ (by first | omega | (simp; done) | (simp; omega)) _ | with_reducible refine Cells.drew ?_ | with_reducible refine Cells.drewN ?_ _)) hb1)
  have Rz1 := R1.out.lt
  clear hb1
  obtain ⟨Fq0, Fq1, Fq2, Fq3, Fq4, Fq5⟩ := F1.out.six
  have Flt := F1.out.lt
  obtain ⟨Rq0, Rq1, Rq2, Rq3, Rq4, Rq5⟩ := R1.out.six
  have Rlt := R1.out.lt
  obtain ⟨f0, f1, f2, f3, f4, f5⟩ := R1.out.free6
  go_wp2_with fail
  refine (D.out _).mono ?_
  rintro e wd ⟨rfl, rfl⟩
  go_wp2
  have P := R1.out.put6 (.int .i64 0) (.int .i64 0) (.int .i64 0) (.int .i64 0) (.bool false) (.int .u64 0)
  obtain ⟨p0, p1, p2, p3, p4, p5⟩ := P.six
  exact bodyPost_ret (v := .tuple #[.agg #[.int .i64 0, .int .i64 0, .int .i64 0, .int .i64 0, .bool false, .int .u64 0], .bool false, .int .i64 2])
    (by simp [results, Try.results18, go_sem, p0, p1, p2, p3, p4, p5]) rfl ⟨rfl, (Since.out (by repeat (first | with_reducible exact A1.out | with_reducible exact Since.refl _ | with_reducible refine Since.alloc ?_ _ | with_reducible refine Since.setCell ?_ (by first | omega | (simp; done) | (simp; omega)) _ | with_reducible refine Since.drew ?_ | with_reducible refine Since.drewN ?_ _)))⟩

set_option maxRecDepth 100000 in
theorem fleft_more (a s k t : Int) (m : Bool) (x : Int) (z : Int) (w : World) (h : Blk.good ⟨a, s, k, t, m, 0⟩) (hk : k = 2) (hz : okSize z) (hs : s < z) :
    Calls Try.prog 18 #[.agg #[.int .i64 a, .int .i64 s, .int .i64 k, .int .i64 t, .bool m, .int .u64 x], .int .i64 z] w fun e w' => e = .returned (.tuple #[.agg #[.int .i64 0, .int .i64 0, .int .i64 0, .int .i64 0, .bool false, .int .u64 0], .bool false, .int .i64 2]) ∧ Below w.heap.size w w' := by
  have C := Lib.hid fun W => hcheck_ok a s k t m x W h
  clear h
  subst hk
  have D := Lib.hid fun W => right_yes z W hz
  clear hz
  have A0 := Lib.hid (Since.refl w)
  go_enter Try.func18, Try.ntmps18
  go_wp2_with fail
  refine (C.out _).mono ?_
  rintro e w1 ⟨rfl, hb1⟩
  have A1 := Lib.hid (show Since w w1 from Since.via (by repeat (first | with_reducible exact A0.out | with_reducible exact Since.refl _ | with_reducible refine Since.alloc ?_ _ | with_reducible refine Since.setCell ?_ (by first | omega | (simp; done) | (simp; omega)) _ | with_reducible refine Since.drew ?_ | with_reducible refine Since.drewN ?_ _)) hb1)
  have s1 := A1.out.size
  have F1 := Lib.hid (show Cells w1 (w.heap.size) 24 (#[.int .i64 a, .int .i64 s, .int .i64 2, .int .i64 t, .bool m, .int .u64 x]) from Cells.kept (by repeat (first | with_reducible exact F0.out | with_reducible exact Cells.at_ _ _ _ (by first | omega | (simp; done) | (simp; omega)) | with_reducible refine Cells.alloc ?_ _ | with_reducible refine Cells.far' ?_ (by first | omega | (simp; done) | (simp; omega)) _ | with_reducible refine Cells.drew ?_ | with_reducible refine Cells.drewN ?_ _)) hb1)
  have Fz1 := F1.out.lt
  have R1 := Lib.hid (show Cells w1 (w.heap.size + 1) 24 (#[.int .i64 0, .int .i64 0, .int .i64 0, .int .i64 0, .bool false, .int .u64 0]) from Cells.kept (by repeat (first | with_reducible exact R0.out | with_reducible exact Cells.at_ _ _ _ (by first | omega | (simp; done) | (simp; omega)) | with_reducible refine Cells.alloc ?_ _ | with_reducible refine Cells.far' ?_ (by first | omega | (simp; done) | (simp; omega)) _ | with_reducible refine Cells.drew ?_ | with_reducible refine Cells.drewN ?_ _)) hb1)
  have Rz1 := R1.out.lt
  clear hb1
  obtain ⟨Fq0, Fq1, Fq2, Fq3, Fq4, Fq5⟩ := F1.out.six
  have Flt := F1.out.lt
  obtain ⟨Rq0, Rq1, Rq2, Rq3, Rq4, Rq5⟩ := R1.out.six
  have Rlt := R1.out.lt
  obtain ⟨f0, f1, f2, f3, f4, f5⟩ := R1.out.free6
  go_wp2_with fail
  refine (D.out _).mono ?_
  rintro e wd ⟨rfl, rfl⟩
  go_wp2
  have P := R1.out.put6 (.int .i64 0) (.int .i64 0) (.int .i64 0) (.int .i64 0) (.bool false) (.int .u64 0)
  obtain ⟨p0, p1, p2, p3, p4, p5⟩ := P.six
  exact bodyPost_ret (v := .tuple #[.agg #[.int .i64 0, .int .i64 0, .int .i64 0, .int .i64 0, .bool false, .int .u64 0], .bool false, .int .i64 2])
    (by simp [results, Try.results18, go_sem, p0, p1, p2, p3, p4, p5]) rfl ⟨rfl, (Since.out (by repeat (first | with_reducible exact A1.out | with_reducible exact Since.refl _ | with_reducible refine Since.alloc ?_ _ | with_reducible refine Since.setCell ?_ (by first | omega | (simp; done) | (simp; omega)) _ | with_reducible refine Since.drew ?_ | with_reducible refine Since.drewN ?_ _)))⟩

set_option maxRecDepth 100000 in
theorem fleft_all (a s k t : Int) (m : Bool) (x : Int) (z : Int) (w : World) (h : Blk.good ⟨a, s, k, t, m, 0⟩) (hk : k = 2) (hz : okSize z) (hs : s = z) :
    Calls Try.prog 18 #[.agg #[.int .i64 a, .int .i64 s, .int .i64 k, .int .i64 t, .bool m, .int .u64 x], .int .i64 z] w fun e w' => e = .returned (.tuple #[.agg #[.int .i64 0, .int .i64 0, .int .i64 0, .int .i64 0, .bool false, .int .u64 0], .bool false, .int .i64 0]) ∧ Below w.heap.size w w' := by
  have C := Lib.hid fun W => hcheck_ok a s k t m x W h
  clear h
  subst hk
  have D := Lib.hid fun W => right_yes z W hz
  clear hz
  subst hs
  have A0 := Lib.hid (Since.refl w)
  go_enter Try.func18, Try.ntmps18
  go_wp2_with fail
  refine (C.out _).mono ?_
  rintro e w1 ⟨rfl, hb1⟩
  have A1 := Lib.hid (show Since w w1 from Since.via (by repeat (first | with_reducible exact A0.out | with_reducible exact Since.refl _ | with_reducible refine Since.alloc ?_ _ | with_reducible refine Since.setCell ?_ (by first | omega | (simp; done) | (simp; omega)) _ | with_reducible refine Since.drew ?_ | with_reducible refine Since.drewN ?_ _)) hb1)
  have s1 := A1.out.size
  have F1 := Lib.hid (show Cells w1 (w.heap.size) 24 (#[.int .i64 a, .int .i64 s, .int .i64 2, .int .i64 t, .bool m, .int .u64 x]) from Cells.kept (by repeat (first | with_reducible exact F0.out | with_reducible exact Cells.at_ _ _ _ (by first | omega | (simp; done) | (simp; omega)) | with_reducible refine Cells.alloc ?_ _ | with_reducible refine Cells.far' ?_ (by first | omega | (simp; done) | (simp; omega)) _ | with_reducible refine Cells.drew ?_ | with_reducible refine Cells.drewN ?_ _)) hb1)
  have Fz1 := F1.out.lt
  have R1 := Lib.hid (show Cells w1 (w.heap.size + 1) 24 (#[.int .i64 0, .int .i64 0, .int .i64 0, .int .i64 0, .bool false, .int .u64 0]) from Cells.kept (by repeat (first | with_reducible exact R0.out | with_reducible exact Cells.at_ _ _ _ (by first | omega | (simp; done) | (simp; omega)) | with_reducible refine Cells.alloc ?_ _ | with_reducible refine Cells.far' ?_ (by first | omega | (simp; done) | (simp; omega)) _ | with_reducible refine Cells.drew ?_ | with_reducible refine Cells.drewN ?_ _)) hb1)
  have Rz1 := R1.out.lt
  clear hb1
  obtain ⟨Fq0, Fq1, Fq2, Fq3, Fq4, Fq5⟩ := F1.out.six
  have Flt := F1.out.lt
  obtain ⟨Rq0, Rq1, Rq2, Rq3, Rq4, Rq5⟩ := R1.out.six
  have Rlt := R1.out.lt
  obtain ⟨f0, f1, f2, f3, f4, f5⟩ := R1.out.free6
  go_wp2_with fail
  refine (D.out _).mono ?_
  rintro e wd ⟨rfl, rfl⟩
  go_wp2
  have P := R1.out.put6 (.int .i64 0) (.int .i64 0) (.int .i64 0) (.int .i64 0) (.bool false) (.int .u64 0)
  obtain ⟨p0, p1, p2, p3, p4, p5⟩ := P.six
  exact bodyPost_ret (v := .tuple #[.agg #[.int .i64 0, .int .i64 0, .int .i64 0, .int .i64 0, .bool false, .int .u64 0], .bool false, .int .i64 0])
    (by simp [results, Try.results18, go_sem, p0, p1, p2, p3, p4, p5]) rfl ⟨rfl, (Since.out (by repeat (first | with_reducible exact A1.out | with_reducible exact Since.refl _ | with_reducible refine Since.alloc ?_ _ | with_reducible refine Since.setCell ?_ (by first | omega | (simp; done) | (simp; omega)) _ | with_reducible refine Since.drew ?_ | with_reducible refine Since.drewN ?_ _)))⟩

set_option maxRecDepth 100000 in
theorem fleft_rest (a s k t : Int) (m : Bool) (x : Int) (z : Int) (w : World) (h : Blk.good ⟨a, s, k, t, m, 0⟩) (hk : k = 2) (hz : okSize z) (hs : z < s) :
    Calls Try.prog 18 #[.agg #[.int .i64 a, .int .i64 s, .int .i64 k, .int .i64 t, .bool m, .int .u64 x], .int .i64 z] w fun e w' => e = .returned (.tuple #[.agg #[.int .i64 (wrap64 (a + z)), .int .i64 (s - z), .int .i64 2, .int .i64 0, .bool false, .int .u64 0], .bool true, .int .i64 0]) ∧ Below w.heap.size w w' := by
  have hz2 := hz
  have hs2 : s ≤ 1920 := by obtain ⟨_, _, h3⟩ := h; simp only at h3; omega
  have C := Lib.hid fun W => hcheck_ok a s k t m x W h
  clear h
  subst hk
  have D := Lib.hid fun W => right_yes z W hz
  obtain ⟨hz3, hz4, hz5⟩ := hz2
  have hne : (z == s) = false := by simp; omega
  clear hz hz5
  have A0 := Lib.hid (Since.refl w)
  go_enter Try.func18, Try.ntmps18
  go_wp2_with fail
  refine (C.out _).mono ?_
  rintro e w1 ⟨rfl, hb1⟩
  have A1 := Lib.hid (show Since w w1 from Since.via (by repeat (first | with_reducible exact A0.out | with_reducible exact Since.refl _ | with_reducible refine Since.alloc ?_ _ | with_reducible refine Since.setCell ?_ (by first | omega | (simp; done) | (simp; omega)) _ | with_reducible refine Since.drew ?_ | with_reducible refine Since.drewN ?_ _)) hb1)
  have s1 := A1.out.size
  have F1 := Lib.hid (show Cells w1 (w.heap.size) 24 (#[.int .i64 a, .int .i64 s, .int .i64 2, .int .i64 t, .bool m, .int .u64 x]) from Cells.kept (by repeat (first | with_reducible exact F0.out | with_reducible exact Cells.at_ _ _ _ (by first | omega | (simp; done) | (simp; omega)) | with_reducible refine Cells.alloc ?_ _ | with_reducible refine Cells.far' ?_ (by first | omega | (simp; done) | (simp; omega)) _ | with_reducible refine Cells.drew ?_ | with_reducible refine Cells.drewN ?_ _)) hb1)
  have Fz1 := F1.out.lt
  have R1 := Lib.hid (show Cells w1 (w.heap.size + 1) 24 (#[.int .i64 0, .int .i64 0, .int .i64 0, .int .i64 0, .bool false, .int .u64 0]) from Cells.kept (by repeat (first | with_reducible exact R0.out | with_reducible exact Cells.at_ _ _ _ (by first | omega | (simp; done) | (simp; omega)) | with_reducible refine Cells.alloc ?_ _ | with_reducible refine Cells.far' ?_ (by first | omega | (simp; done) | (simp; omega)) _ | with_reducible refine Cells.drew ?_ | with_reducible refine Cells.drewN ?_ _)) hb1)
  have Rz1 := R1.out.lt
  clear hb1
  obtain ⟨Fq0, Fq1, Fq2, Fq3, Fq4, Fq5⟩ := F1.out.six
  have Flt := F1.out.lt
  obtain ⟨Rq0, Rq1, Rq2, Rq3, Rq4, Rq5⟩ := R1.out.six
  have Rlt := R1.out.lt
  obtain ⟨f0, f1, f2, f3, f4, f5⟩ := R1.out.free6
  go_wp2_with fail
  refine (D.out _).mono ?_
  rintro e wd ⟨rfl, rfl⟩
  go_wp2
  have P := R1.out.put6 (.int .i64 (wrap64 (a + z))) (.int .i64 (s - z)) (.int .i64 2) (.int .i64 0) (.bool false) (.int .u64 0)
  obtain ⟨p0, p1, p2, p3, p4, p5⟩ := P.six
  exact bodyPost_ret (v := .tuple #[.agg #[.int .i64 (wrap64 (a + z)), .int .i64 (s - z), .int .i64 2, .int .i64 0, .bool false, .int .u64 0], .bool true, .int .i64 0])
    (by simp [results, Try.results18, go_sem, p0, p1, p2, p3, p4, p5]) rfl ⟨rfl, (Since.out (by repeat (first | with_reducible exact A1.out | with_reducible exact Since.refl _ | with_reducible refine Since.alloc ?_ _ | with_reducible refine Since.setCell ?_ (by first | omega | (simp; done) | (simp; omega)) _ | with_reducible refine Since.drew ?_ | with_reducible refine Since.drewN ?_ _)))⟩

theorem rrest_all (a s k t : Int) (m : Bool) (x : Int) (w : World) :
    Calls Try.prog 54 #[.agg #[.int .i64 a, .int .i64 s, .int .i64 k, .int .i64 t, .bool m, .int .u64 x], .int .i64 s] w fun e w' => e = .returned (.agg #[.int .i64 0, .int .i64 0, .int .i64 0, .int .i64 0, .bool false, .int .u64 0]) ∧ Below w.heap.size w w' := by
  have A0 := Lib.hid (Since.refl w)
  go_enter Try.func54, Try.ntmps54
  go_wp2
  exact bodyPost_ret (v := .agg #[.int .i64 0, .int .i64 0, .int .i64 0, .int .i64 0, .bool false, .int .u64 0])
    (by simp [results, Try.results54, go_sem]) rfl ⟨rfl, (Since.out (by repeat (first | with_reducible exact A0.out | with_reducible exact Since.refl _ | with_reducible refine Since.alloc ?_ _ | with_reducible refine Since.setCell ?_ (by first | omega | (simp; done) | (simp; omega)) _ | with_reducible refine Since.drew ?_ | with_reducible refine Since.drewN ?_ _)))⟩
theorem rrest_rest (a s k t z : Int) (m : Bool) (x : Int) (w : World) (hs : z < s) (hz : 2 ≤ z) (hs2 : s ≤ 1920) :
    Calls Try.prog 54 #[.agg #[.int .i64 a, .int .i64 s, .int .i64 k, .int .i64 t, .bool m, .int .u64 x], .int .i64 z] w fun e w' => e = .returned (.agg #[.int .i64 (wrap64 (a + z)), .int .i64 (s - z), .int .i64 2, .int .i64 0, .bool false, .int .u64 0]) ∧ Below w.heap.size w w' := by
  have A0 := Lib.hid (Since.refl w)
  have h1 : (s == z) = false := by simp; omega
  go_enter Try.func54, Try.ntmps54
  go_wp2
  exact bodyPost_ret (v := .agg #[.int .i64 (wrap64 (a + z)), .int .i64 (s - z), .int .i64 2, .int .i64 0, .bool false, .int .u64 0])
    (by simp [results, Try.results54, go_sem]) rfl ⟨rfl, (Since.out (by repeat (first | with_reducible exact A0.out | with_reducible exact Since.refl _ | with_reducible refine Since.alloc ?_ _ | with_reducible refine Since.setCell ?_ (by first | omega | (simp; done) | (simp; omega)) _ | with_reducible refine Since.drew ?_ | with_reducible refine Since.drewN ?_ _)))⟩

set_option maxRecDepth 100000 in
theorem rleft_bad (a s k t : Int) (m : Bool) (x : Int) (z : Int) (w : World) (h : ¬ Blk.good ⟨a, s, k, t, m, 0⟩) :
    Calls Try.prog 19 #[.agg #[.int .i64 a, .int .i64 s, .int .i64 k, .int .i64 t, .bool m, .int .u64 x], .int .i64 z] w fun e w' => e = .returned (.tuple #[.agg #[.int .i64 0, .int .i64 0, .int .i64 0, .int .i64 0, .bool false, .int .u64 0], .bool false, .int .i64 8]) ∧ Below w.heap.size w w' := by
  have C := Lib.hid fun W => rcheck_bad a s k t m x W h
  clear h
  have A0 := Lib.hid (Since.refl w)
  go_enter Try.func19, Try.ntmps19
  go_wp2_with fail
  refine (C.out _).mono ?_
  rintro e w1 ⟨rfl, hb1⟩
  have A1 := Lib.hid (show Since w w1 from Since.via (by repeat (first | with_reducible exact A0.out | with_reducible exact Since.refl _ | with_reducible refine Since.alloc ?_ _ | with_reducible refine Since.setCell ?_ (by first | omega | (simp; done) | (simp; omega)) _ | with_reducible refine Since.drew ?_ | with_reducible refine Since.drewN ?_ _)) hb1)
  have s1 := A1.out.size
  have F1 := Lib.hid (show Cells w1 (w.heap.size) 24 (#[.int .i64 a, .int .i64 s, .int .i64 k, .int .i64 t, .bool m, .int .u64 x]) from Cells.kept (by repeat (first | with_reducible exact F0.out | with_reducible exact Cells.at_ _ _ _ (by first | omega | (simp; done) | (simp; omega)) | with_reducible refine Cells.alloc ?_ _ | with_reducible refine Cells.far' ?_ (by first | omega | (simp; done) | (simp; omega)) _ | with_reducible refine Cells.drew ?_ | with_reducible refine Cells.drewN ?_ _)) hb1)
  have Fz1 := F1.out.lt
  have R1 := Lib.hid (show Cells w1 (w.heap.size + 1) 24 (#[.int .i64 0, .int .i64 0, .int .i64 0, .int .i64 0, .bool false, .int .u64 0]) from Cells.kept (by repeat (first | with_reducible exact R0.out | with_reducible exact Cells.at_ _ _ _ (by first | omega | (simp; done) | (simp; omega)) | with_reducible refine Cells.alloc ?_ _ | with_reducible refine Cells.far' ?_ (by first | omega | (simp; done) | (simp; omega)) _ | with_reducible refine Cells.drew ?_ | with_reducible refine Cells.drewN ?_ _)) hb1)
  have Rz1 := R1.out.lt
  clear hb1
  obtain ⟨Fq0, Fq1, Fq2, Fq3, Fq4, Fq5⟩ := F1.out.six
  have Flt := F1.out.lt
  obtain ⟨Rq0, Rq1, Rq2, Rq3, Rq4, Rq5⟩ := R1.out.six
  have Rlt := R1.out.lt
  obtain ⟨f0, f1, f2, f3, f4, f5⟩ := R1.out.free6
  go_wp2
  have P := R1.out.put6 (.int .i64 0) (.int .i64 0) (.int .i64 0) (.int .i64 0) (.bool false) (.int .u64 0)
  obtain ⟨p0, p1, p2, p3, p4, p5⟩ := P.six
  exact bodyPost_ret (v := .tuple #[.agg #[.int .i64 0, .int .i64 0, .int .i64 0, .int .i64 0, .bool false, .int .u64 0], .bool false, .int .i64 8])
    (by simp [results, Try.results19, go_sem, p0, p1, p2, p3, p4, p5]) rfl ⟨rfl, (Since.out (by repeat (first | with_reducible exact A1.out | with_reducible exact Since.refl _ | with_reducible refine Since.alloc ?_ _ | with_reducible refine Since.setCell ?_ (by first | omega | (simp; done) | (simp; omega)) _ | with_reducible refine Since.drew ?_ | with_reducible refine Since.drewN ?_ _)))⟩

set_option maxRecDepth 100000 in
theorem rleft_obj (a s k t : Int) (m : Bool) (x : Int) (z : Int) (w : World) (h : Blk.good ⟨a, s, k, t, m, 0⟩) (hk : k ≠ 2) :
    Calls Try.prog 19 #[.agg #[.int .i64 a, .int .i64 s, .int .i64 k, .int .i64 t, .bool m, .int .u64 x], .int .i64 z] w fun e w' => e = .returned (.tuple #[.agg #[.int .i64 0, .int .i64 0, .int .i64 0, .int .i64 0, .bool false, .int .u64 0], .bool false, .int .i64 8]) ∧ Below w.heap.size w w' := by
  have C := Lib.hid fun W => rcheck_ok a s k t m x W h
  have h2 : (k != 2) = true := by simpa using hk
  clear h hk
  have A0 := Lib.hid (Since.refl w)
  go_enter Try.func19, Try.ntmps19
  go_wp2_with fail
  refine (C.out _).mono ?_
  rintro e w1 ⟨rfl, hb1⟩
  have A1 := Lib.hid (show Since w w1 from Since.via (by repeat (first | with_reducible exact A0.out | with_reducible exact Since.refl _ | with_reducible refine Since.alloc ?_ _ | with_reducible refine Since.setCell ?_ (by first | omega | (simp; done) | (simp; omega)) _ | with_reducible refine Since.drew ?_ | with_reducible refine Since.drewN ?_ _)) hb1)
  have s1 := A1.out.size
  have F1 := Lib.hid (show Cells w1 (w.heap.size) 24 (#[.int .i64 a, .int .i64 s, .int .i64 k, .int .i64 t, .bool m, .int .u64 x]) from Cells.kept (by repeat (first | with_reducible exact F0.out | with_reducible exact Cells.at_ _ _ _ (by first | omega | (simp; done) | (simp; omega)) | with_reducible refine Cells.alloc ?_ _ | with_reducible refine Cells.far' ?_ (by first | omega | (simp; done) | (simp; omega)) _ | with_reducible refine Cells.drew ?_ | with_reducible refine Cells.drewN ?_ _)) hb1)
  have Fz1 := F1.out.lt
  have R1 := Lib.hid (show Cells w1 (w.heap.size + 1) 24 (#[.int .i64 0, .int .i64 0, .int .i64 0, .int .i64 0, .bool false, .int .u64 0]) from Cells.kept (by repeat (first | with_reducible exact R0.out | with_reducible exact Cells.at_ _ _ _ (by first | omega | (simp; done) | (simp; omega)) | with_reducible refine Cells.alloc ?_ _ | with_reducible refine Cells.far' ?_ (by first | omega | (simp; done) | (simp; omega)) _ | with_reducible refine Cells.drew ?_ | with_reducible refine Cells.drewN ?_ _)) hb1)
  have Rz1 := R1.out.lt
  clear hb1
  obtain ⟨Fq0, Fq1, Fq2, Fq3, Fq4, Fq5⟩ := F1.out.six
  have Flt := F1.out.lt
  obtain ⟨Rq0, Rq1, Rq2, Rq3, Rq4, Rq5⟩ := R1.out.six
  have Rlt := R1.out.lt
  obtain ⟨f0, f1, f2, f3, f4, f5⟩ := R1.out.free6
  go_wp2
  have P := R1.out.put6 (.int .i64 0) (.int .i64 0) (.int .i64 0) (.int .i64 0) (.bool false) (.int .u64 0)
  obtain ⟨p0, p1, p2, p3, p4, p5⟩ := P.six
  exact bodyPost_ret (v := .tuple #[.agg #[.int .i64 0, .int .i64 0, .int .i64 0, .int .i64 0, .bool false, .int .u64 0], .bool false, .int .i64 8])
    (by simp [results, Try.results19, go_sem, p0, p1, p2, p3, p4, p5]) rfl ⟨rfl, (Since.out (by repeat (first | with_reducible exact A1.out | with_reducible exact Since.refl _ | with_reducible refine Since.alloc ?_ _ | with_reducible refine Since.setCell ?_ (by first | omega | (simp; done) | (simp; omega)) _ | with_reducible refine Since.drew ?_ | with_reducible refine Since.drewN ?_ _)))⟩

set_option maxRecDepth 100000 in
theorem rleft_size (a s k t : Int) (m : Bool) (x : Int) (z : Int) (w : World) (h : Blk.good ⟨a, s, k, t, m, 0⟩) (hk : k = 2) (hz : ¬ okSize z) :
    Calls Try.prog 19 #[.agg #[.int .i64 a, .int .i64 s, .int .i64 k, .int .i64 t, .bool m, .int .u64 x], .int .i64 z] w fun e w' => e = .returned (.tuple #[.agg #[.int .i64 0, .int .i64 0, .int .i64 0, .int .i64 0, .bool false, .int .u64 0], .bool false, .int .i64 2]) ∧ Below w.heap.size w w' := by
  have C := Lib.hid fun W => rcheck_ok a s k t m x W h
  clear h
  subst hk
  have D := Lib.hid fun W => rsize_no z W hz
  clear hz
  have A0 := Lib.hid (Since.refl w)
  go_enter Try.func19, Try.ntmps19
  go_wp2_with fail
  refine (C.out _).mono ?_
  rintro e w1 ⟨rfl, hb1⟩
  have A1 := Lib.hid (show Since w w1 from Since.via (by repeat (first | with_reducible exact A0.out | with_reducible exact Since.refl _ | with_reducible refine Since.alloc ?_ _ | with_reducible refine Since.setCell ?_ (by first | omega | (simp; done) | (simp; omega)) _ | with_reducible refine Since.drew ?_ | with_reducible refine Since.drewN ?_ _)) hb1)
  have s1 := A1.out.size
  have F1 := Lib.hid (show Cells w1 (w.heap.size) 24 (#[.int .i64 a, .int .i64 s, .int .i64 2, .int .i64 t, .bool m, .int .u64 x]) from Cells.kept (by repeat (first | with_reducible exact F0.out | with_reducible exact Cells.at_ _ _ _ (by first | omega | (simp; done) | (simp; omega)) | with_reducible refine Cells.alloc ?_ _ | with_reducible refine Cells.far' ?_ (by first | omega | (simp; done) | (simp; omega)) _ | with_reducible refine Cells.drew ?_ | with_reducible refine Cells.drewN ?_ _)) hb1)
  have Fz1 := F1.out.lt
  have R1 := Lib.hid (show Cells w1 (w.heap.size + 1) 24 (#[.int .i64 0, .int .i64 0, .int .i64 0, .int .i64 0, .bool false, .int .u64 0]) from Cells.kept (by repeat (first | with_reducible exact R0.out | with_reducible exact Cells.at_ _ _ _ (by first | omega | (simp; done) | (simp; omega)) | with_reducible refine Cells.alloc ?_ _ | with_reducible refine Cells.far' ?_ (by first | omega | (simp; done) | (simp; omega)) _ | with_reducible refine Cells.drew ?_ | with_reducible refine Cells.drewN ?_ _)) hb1)
  have Rz1 := R1.out.lt
  clear hb1
  obtain ⟨Fq0, Fq1, Fq2, Fq3, Fq4, Fq5⟩ := F1.out.six
  have Flt := F1.out.lt
  obtain ⟨Rq0, Rq1, Rq2, Rq3, Rq4, Rq5⟩ := R1.out.six
  have Rlt := R1.out.lt
  obtain ⟨f0, f1, f2, f3, f4, f5⟩ := R1.out.free6
  go_wp2_with fail
  refine (D.out _).mono ?_
  rintro e wd ⟨rfl, rfl⟩
  go_wp2
  have P := R1.out.put6 (.int .i64 0) (.int .i64 0) (.int .i64 0) (.int .i64 0) (.bool false) (.int .u64 0)
  obtain ⟨p0, p1, p2, p3, p4, p5⟩ := P.six
  exact bodyPost_ret (v := .tuple #[.agg #[.int .i64 0, .int .i64 0, .int .i64 0, .int .i64 0, .bool false, .int .u64 0], .bool false, .int .i64 2])
    (by simp [results, Try.results19, go_sem, p0, p1, p2, p3, p4, p5]) rfl ⟨rfl, (Since.out (by repeat (first | with_reducible exact A1.out | with_reducible exact Since.refl _ | with_reducible refine Since.alloc ?_ _ | with_reducible refine Since.setCell ?_ (by first | omega | (simp; done) | (simp; omega)) _ | with_reducible refine Since.drew ?_ | with_reducible refine Since.drewN ?_ _)))⟩

set_option maxRecDepth 100000 in
theorem rleft_more (a s k t : Int) (m : Bool) (x : Int) (z : Int) (w : World) (h : Blk.good ⟨a, s, k, t, m, 0⟩) (hk : k = 2) (hz : okSize z) (hs : s < z) :
    Calls Try.prog 19 #[.agg #[.int .i64 a, .int .i64 s, .int .i64 k, .int .i64 t, .bool m, .int .u64 x], .int .i64 z] w fun e w' => e = .returned (.tuple #[.agg #[.int .i64 0, .int .i64 0, .int .i64 0, .int .i64 0, .bool false, .int .u64 0], .bool false, .int .i64 2]) ∧ Below w.heap.size w w' := by
  have C := Lib.hid fun W => rcheck_ok a s k t m x W h
  clear h
  subst hk
  have D := Lib.hid fun W => rsize_yes z W hz
  clear hz
  have A0 := Lib.hid (Since.refl w)
  go_enter Try.func19, Try.ntmps19
  go_wp2_with fail
  refine (C.out _).mono ?_
  rintro e w1 ⟨rfl, hb1⟩
  have A1 := Lib.hid (show Since w w1 from Since.via (by repeat (first | with_reducible exact A0.out | with_reducible exact Since.refl _ | with_reducible refine Since.alloc ?_ _ | with_reducible refine Since.setCell ?_ (by first | omega | (simp; done) | (simp; omega)) _ | with_reducible refine Since.drew ?_ | with_reducible refine Since.drewN ?_ _)) hb1)
  have s1 := A1.out.size
  have F1 := Lib.hid (show Cells w1 (w.heap.size) 24 (#[.int .i64 a, .int .i64 s, .int .i64 2, .int .i64 t, .bool m, .int .u64 x]) from Cells.kept (by repeat (first | with_reducible exact F0.out | with_reducible exact Cells.at_ _ _ _ (by first | omega | (simp; done) | (simp; omega)) | with_reducible refine Cells.alloc ?_ _ | with_reducible refine Cells.far' ?_ (by first | omega | (simp; done) | (simp; omega)) _ | with_reducible refine Cells.drew ?_ | with_reducible refine Cells.drewN ?_ _)) hb1)
  have Fz1 := F1.out.lt
  have R1 := Lib.hid (show Cells w1 (w.heap.size + 1) 24 (#[.int .i64 0, .int .i64 0, .int .i64 0, .int .i64 0, .bool false, .int .u64 0]) from Cells.kept (by repeat (first | with_reducible exact R0.out | with_reducible exact Cells.at_ _ _ _ (by first | omega | (simp; done) | (simp; omega)) | with_reducible refine Cells.alloc ?_ _ | with_reducible refine Cells.far' ?_ (by first | omega | (simp; done) | (simp; omega)) _ | with_reducible refine Cells.drew ?_ | with_reducible refine Cells.drewN ?_ _)) hb1)
  have Rz1 := R1.out.lt
  clear hb1
  obtain ⟨Fq0, Fq1, Fq2, Fq3, Fq4, Fq5⟩ := F1.out.six
  have Flt := F1.out.lt
  obtain ⟨Rq0, Rq1, Rq2, Rq3, Rq4, Rq5⟩ := R1.out.six
  have Rlt := R1.out.lt
  obtain ⟨f0, f1, f2, f3, f4, f5⟩ := R1.out.free6
  go_wp2_with fail
  refine (D.out _).mono ?_
  rintro e wd ⟨rfl, rfl⟩
  go_wp2
  have P := R1.out.put6 (.int .i64 0) (.int .i64 0) (.int .i64 0) (.int .i64 0) (.bool false) (.int .u64 0)
  obtain ⟨p0, p1, p2, p3, p4, p5⟩ := P.six
  exact bodyPost_ret (v := .tuple #[.agg #[.int .i64 0, .int .i64 0, .int .i64 0, .int .i64 0, .bool false, .int .u64 0], .bool false, .int .i64 2])
    (by simp [results, Try.results19, go_sem, p0, p1, p2, p3, p4, p5]) rfl ⟨rfl, (Since.out (by repeat (first | with_reducible exact A1.out | with_reducible exact Since.refl _ | with_reducible refine Since.alloc ?_ _ | with_reducible refine Since.setCell ?_ (by first | omega | (simp; done) | (simp; omega)) _ | with_reducible refine Since.drew ?_ | with_reducible refine Since.drewN ?_ _)))⟩

set_option maxRecDepth 100000 in
theorem rleft_all (a s k t : Int) (m : Bool) (x : Int) (z : Int) (w : World) (h : Blk.good ⟨a, s, k, t, m, 0⟩) (hk : k = 2) (hz : okSize z) (hs : s = z) :
    Calls Try.prog 19 #[.agg #[.int .i64 a, .int .i64 s, .int .i64 k, .int .i64 t, .bool m, .int .u64 x], .int .i64 z] w fun e w' => e = .returned (.tuple #[.agg #[.int .i64 0, .int .i64 0, .int .i64 0, .int .i64 0, .bool false, .int .u64 0], .bool false, .int .i64 0]) ∧ Below w.heap.size w w' := by
  have C := Lib.hid fun W => rcheck_ok a s k t m x W h
  clear h
  subst hk
  have D := Lib.hid fun W => rsize_yes z W hz
  clear hz
  subst hs
  have E := Lib.hid fun W => rrest_all a s 2 t m x W
  have A0 := Lib.hid (Since.refl w)
  go_enter Try.func19, Try.ntmps19
  go_wp2_with fail
  refine (C.out _).mono ?_
  rintro e w1 ⟨rfl, hb1⟩
  have A1 := Lib.hid (show Since w w1 from Since.via (by repeat (first | with_reducible exact A0.out | with_reducible exact Since.refl _ | with_reducible refine Since.alloc ?_ _ | with_reducible refine Since.setCell ?_ (by first | omega | (simp; done) | (simp; omega)) _ | with_reducible refine Since.drew ?_ | with_reducible refine Since.drewN ?_ _)) hb1)
  have s1 := A1.out.size
  have F1 := Lib.hid (show Cells w1 (w.heap.size) 24 (#[.int .i64 a, .int .i64 s, .int .i64 2, .int .i64 t, .bool m, .int .u64 x]) from Cells.kept (by repeat (first | with_reducible exact F0.out | with_reducible exact Cells.at_ _ _ _ (by first | omega | (simp; done) | (simp; omega)) | with_reducible refine Cells.alloc ?_ _ | with_reducible refine Cells.far' ?_ (by first | omega | (simp; done) | (simp; omega)) _ | with_reducible refine Cells.drew ?_ | with_reducible refine Cells.drewN ?_ _)) hb1)
  have Fz1 := F1.out.lt
  have R1 := Lib.hid (show Cells w1 (w.heap.size + 1) 24 (#[.int .i64 0, .int .i64 0, .int .i64 0, .int .i64 0, .bool false, .int .u64 0]) from Cells.kept (by repeat (first | with_reducible exact R0.out | with_reducible exact Cells.at_ _ _ _ (by first | omega | (simp; done) | (simp; omega)) | with_reducible refine Cells.alloc ?_ _ | with_reducible refine Cells.far' ?_ (by first | omega | (simp; done) | (simp; omega)) _ | with_reducible refine Cells.drew ?_ | with_reducible refine Cells.drewN ?_ _)) hb1)
  have Rz1 := R1.out.lt
  clear hb1
  obtain ⟨Fq0, Fq1, Fq2, Fq3, Fq4, Fq5⟩ := F1.out.six
  have Flt := F1.out.lt
  obtain ⟨Rq0, Rq1, Rq2, Rq3, Rq4, Rq5⟩ := R1.out.six
  have Rlt := R1.out.lt
  obtain ⟨f0, f1, f2, f3, f4, f5⟩ := R1.out.free6
  go_wp2_with fail
  refine (D.out _).mono ?_
  rintro e wd ⟨rfl, rfl⟩
  go_wp2_with fail
  clear f0 f1 f2 f3 f4 f5
  go_region_with ((go_at_call 54; refine (E.out _).mono ?_; rintro e w2 ⟨rfl, hb2⟩; have A2 := Lib.hid (show Since w w2 from Since.via (by repeat (first | with_reducible exact A1.out | with_reducible exact Since.refl _ | with_reducible refine Since.alloc ?_ _ | with_reducible refine Since.setCell ?_ (by first | omega | (simp; done) | (simp; omega)) _ | with_reducible refine Since.drew ?_ | with_reducible refine Since.drewN ?_ _)) hb2); have s2 := A2.out.size; have F2 := Lib.hid (show Cells w2 (w.heap.size) 24 (#[.int .i64 a, .int .i64 s, .int .i64 2, .int .i64 t, .bool m, .int .u64 x]) from Cells.kept (by repeat (first | with_reducible exact F1.out | with_reducible exact Cells.at_ _ _ _ (by first | omega | (simp; done) | (simp; omega)) | with_reducible refine Cells.alloc ?_ _ | with_reducible refine Cells.far' ?_ (by first | omega | (simp; done) | (simp; omega)) _ | with_reducible refine Cells.drew ?_ | with_reducible refine Cells.drewN ?_ _)) hb2); have Fz2 := F2.out.lt; have R2 := Lib.hid (show Cells w2 (w.heap.size + 1) 24 (#[.int .i64 0, .int .i64 0, .int .i64 0, .int .i64 0, .bool false, .int .u64 0]) from Cells.kept (by repeat (first | with_reducible exact R1.out | with_reducible exact Cells.at_ _ _ _ (by first | omega | (simp; done) | (simp; omega)) | with_reducible refine Cells.alloc ?_ _ | with_reducible refine Cells.far' ?_ (by first | omega | (simp; done) | (simp; omega)) _ | with_reducible refine Cells.drew ?_ | with_reducible refine Cells.drewN ?_ _)) hb2); have Rz2 := R2.out.lt; clear hb2; obtain ⟨Fq0, Fq1, Fq2, Fq3, Fq4, Fq5⟩ := F2.out.six; have Flt := F2.out.lt; obtain ⟨Ff0, Ff1, Ff2, Ff3, Ff4, Ff5⟩ := F2.out.free6; obtain ⟨Rq0, Rq1, Rq2, Rq3, Rq4, Rq5⟩ := R2.out.six; have Rlt := R2.out.lt; obtain ⟨Rf0, Rf1, Rf2, Rf3, Rf4, Rf5⟩ := R2.out.free6))
  all_goals
    go_wp2
    have P := R2.out.put6 (.int .i64 0) (.int .i64 0) (.int .i64 0) (.int .i64 0) (.bool false) (.int .u64 0)
    obtain ⟨p0, p1, p2, p3, p4, p5⟩ := P.six
    exact bodyPost_ret (v := .tuple #[.agg #[.int .i64 0, .int .i64 0, .int .i64 0, .int .i64 0, .bool false, .int .u64 0], .bool false, .int .i64 0])
      (by simp [results, Try.results19, go_sem, p0, p1, p2, p3, p4, p5]) rfl ⟨rfl, (Since.out (by repeat (first | with_reducible exact A2.out | with_reducible exact Since.refl _ | with_reducible refine Since.alloc ?_ _ | with_reducible refine Since.setCell ?_ (by first | omega | (simp; done) | (simp; omega)) _ | with_reducible refine Since.drew ?_ | with_reducible refine Since.drewN ?_ _)))⟩

set_option maxRecDepth 100000 in
theorem rleft_rest (a s k t : Int) (m : Bool) (x : Int) (z : Int) (w : World) (h : Blk.good ⟨a, s, k, t, m, 0⟩) (hk : k = 2) (hz : okSize z) (hs : z < s) :
    Calls Try.prog 19 #[.agg #[.int .i64 a, .int .i64 s, .int .i64 k, .int .i64 t, .bool m, .int .u64 x], .int .i64 z] w fun e w' => e = .returned (.tuple #[.agg #[.int .i64 (wrap64 (a + z)), .int .i64 (s - z), .int .i64 2, .int .i64 0, .bool false, .int .u64 0], .bool true, .int .i64 0]) ∧ Below w.heap.size w w' := by
  have hs2 : s ≤ 1920 := by obtain ⟨_, _, h3⟩ := h; simp only at h3; omega
  have C := Lib.hid fun W => rcheck_ok a s k t m x W h
  clear h
  subst hk
  have D := Lib.hid fun W => rsize_yes z W hz
  obtain ⟨hz3, hz4, hz5⟩ := hz
  have E := Lib.hid fun W => rrest_rest a s 2 t z m x W hs hz3 hs2
  clear hz5
  have A0 := Lib.hid (Since.refl w)
  go_enter Try.func19, Try.ntmps19
  go_wp2_with fail
  refine (C.out _).mono ?_
  rintro e w1 ⟨rfl, hb1⟩
  have A1 := Lib.hid (show Since w w1 from Since.via (by repeat (first | with_reducible exact A0.out | with_reducible exact Since.refl _ | with_reducible refine Since.alloc ?_ _ | with_reducible refine Since.setCell ?_ (by first | omega | (simp; done) | (simp; omega)) _ | with_reducible refine Since.drew ?_ | with_reducible refine Since.drewN ?_ _)) hb1)
  have s1 := A1.out.size
  have F1 := Lib.hid (show Cells w1 (w.heap.size) 24 (#[.int .i64 a, .int .i64 s, .int .i64 2, .int .i64 t, .bool m, .int .u64 x]) from Cells.kept (by repeat (first | with_reducible exact F0.out | with_reducible exact Cells.at_ _ _ _ (by first | omega | (simp; done) | (simp; omega)) | with_reducible refine Cells.alloc ?_ _ | with_reducible refine Cells.far' ?_ (by first | omega | (simp; done) | (simp; omega)) _ | with_reducible refine Cells.drew ?_ | with_reducible refine Cells.drewN ?_ _)) hb1)
  have Fz1 := F1.out.lt
  have R1 := Lib.hid (show Cells w1 (w.heap.size + 1) 24 (#[.int .i64 0, .int .i64 0, .int .i64 0, .int .i64 0, .bool false, .int .u64 0]) from Cells.kept (by repeat (first | with_reducible exact R0.out | with_reducible exact Cells.at_ _ _ _ (by first | omega | (simp; done) | (simp; omega)) | with_reducible refine Cells.alloc ?_ _ | with_reducible refine Cells.far' ?_ (by first | omega | (simp; done) | (simp; omega)) _ | with_reducible refine Cells.drew ?_ | with_reducible refine Cells.drewN ?_ _)) hb1)
  have Rz1 := R1.out.lt
  clear hb1
  obtain ⟨Fq0, Fq1, Fq2, Fq3, Fq4, Fq5⟩ := F1.out.six
  have Flt := F1.out.lt
  obtain ⟨Rq0, Rq1, Rq2, Rq3, Rq4, Rq5⟩ := R1.out.six
  have Rlt := R1.out.lt
  obtain ⟨f0, f1, f2, f3, f4, f5⟩ := R1.out.free6
  go_wp2_with fail
  refine (D.out _).mono ?_
  rintro e wd ⟨rfl, rfl⟩
  go_wp2_with fail
  clear f0 f1 f2 f3 f4 f5
  go_region_with ((go_at_call 54; refine (E.out _).mono ?_; rintro e w2 ⟨rfl, hb2⟩; have A2 := Lib.hid (show Since w w2 from Since.via (by repeat (first | with_reducible exact A1.out | with_reducible exact Since.refl _ | with_reducible refine Since.alloc ?_ _ | with_reducible refine Since.setCell ?_ (by first | omega | (simp; done) | (simp; omega)) _ | with_reducible refine Since.drew ?_ | with_reducible refine Since.drewN ?_ _)) hb2); have s2 := A2.out.size; have F2 := Lib.hid (show Cells w2 (w.heap.size) 24 (#[.int .i64 a, .int .i64 s, .int .i64 2, .int .i64 t, .bool m, .int .u64 x]) from Cells.kept (by repeat (first | with_reducible exact F1.out | with_reducible exact Cells.at_ _ _ _ (by first | omega | (simp; done) | (simp; omega)) | with_reducible refine Cells.alloc ?_ _ | with_reducible refine Cells.far' ?_ (by first | omega | (simp; done) | (simp; omega)) _ | with_reducible refine Cells.drew ?_ | with_reducible refine Cells.drewN ?_ _)) hb2); have Fz2 := F2.out.lt; have R2 := Lib.hid (show Cells w2 (w.heap.size + 1) 24 (#[.int .i64 0, .int .i64 0, .int .i64 0, .int .i64 0, .bool false, .int .u64 0]) from Cells.kept (by repeat (first | with_reducible exact R1.out | with_reducible exact Cells.at_ _ _ _ (by first | omega | (simp; done) | (simp; omega)) | with_reducible refine Cells.alloc ?_ _ | with_reducible refine Cells.far' ?_ (by first | omega | (simp; done) | (simp; omega)) _ | with_reducible refine Cells.drew ?_ | with_reducible refine Cells.drewN ?_ _)) hb2); have Rz2 := R2.out.lt; clear hb2; obtain ⟨Fq0, Fq1, Fq2, Fq3, Fq4, Fq5⟩ := F2.out.six; have Flt := F2.out.lt; obtain ⟨Ff0, Ff1, Ff2, Ff3, Ff4, Ff5⟩ := F2.out.free6; obtain ⟨Rq0, Rq1, Rq2, Rq3, Rq4, Rq5⟩ := R2.out.six; have Rlt := R2.out.lt; obtain ⟨Rf0, Rf1, Rf2, Rf3, Rf4, Rf5⟩ := R2.out.free6))
  all_goals
    go_wp2
    have P := R2.out.put6 (.int .i64 (wrap64 (a + z))) (.int .i64 (s - z)) (.int .i64 2) (.int .i64 0) (.bool false) (.int .u64 0)
    obtain ⟨p0, p1, p2, p3, p4, p5⟩ := P.six
    exact bodyPost_ret (v := .tuple #[.agg #[.int .i64 (wrap64 (a + z)), .int .i64 (s - z), .int .i64 2, .int .i64 0, .bool false, .int .u64 0], .bool true, .int .i64 0])
      (by simp [results, Try.results19, go_sem, p0, p1, p2, p3, p4, p5]) rfl ⟨rfl, (Since.out (by repeat (first | with_reducible exact A2.out | with_reducible exact Since.refl _ | with_reducible refine Since.alloc ?_ _ | with_reducible refine Since.setCell ?_ (by first | omega | (simp; done) | (simp; omega)) _ | with_reducible refine Since.drew ?_ | with_reducible refine Since.drewN ?_ _)))⟩

end Go.Proofs.Ytoifalgkeegklaa
