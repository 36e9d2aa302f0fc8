/- The law on what is taken and what is left over, walked. -/
import Derived.Test.YtoifalgkeegklaaAlive21
namespace Go.Proofs.Ytoifalgkeegklaa
open Go.RowKit

set_option maxRecDepth 100000 in
theorem parts_bad (a s k t : Int) (m : Bool) (x : Int) (z : Int) (w : World) (h : ¬ Blk.good ⟨a, s, k, t, m, 0⟩) : Calls Try.prog 4 #[.agg #[.int .i64 a, .int .i64 s, .int .i64 k, .int .i64 t, .bool m, .int .u64 x], .int .i64 z] w fun e w' => e = .returned (.bool true) ∧ Below w.heap.size w w' := by
  have C := Lib.hid fun W => rcheck_bad a s k t m x W h
  clear h
  have A0 := Lib.hid (Since.refl w)
  go_enter Try.func4, Try.ntmps4
  go_wp2_with fail
  refine (alive21 _).mono ?_
  rintro e w1 ⟨rfl, hb1⟩
  have A1 := Lib.hid (show Since w w1 from Since.via (by repeat (first | with_reducible exact A0.out | with_reducible exact Since.refl _ | with_reducible refine Since.alloc ?_ _ | with_reducible refine Since.setCell ?_ (by first | omega | (simp; done) | (simp; omega)) _ | with_reducible refine Since.drew ?_ | with_reducible refine Since.drewN ?_ _)) hb1)
  have s1 := A1.out.size
  have F1 := Lib.hid (show Cells w1 (w.heap.size) 24 (#[.int .i64 a, .int .i64 s, .int .i64 k, .int .i64 t, .bool m, .int .u64 x]) from Cells.kept (by repeat (first | with_reducible exact F0.out | with_reducible exact Cells.at_ _ _ _ (by first | omega | (simp; done) | (simp; omega)) | with_reducible refine Cells.alloc ?_ _ | with_reducible refine Cells.far' ?_ (by first | omega | (simp; done) | (simp; omega)) _ | with_reducible refine Cells.drew ?_ | with_reducible refine Cells.drewN ?_ _)) hb1)
  have Fz1 := F1.out.lt
  clear hb1
  obtain ⟨Fq0, Fq1, Fq2, Fq3, Fq4, Fq5⟩ := F1.out.six
  have Flt := F1.out.lt
  go_wp2_with fail
  refine (C.out _).mono ?_
  rintro e w2 ⟨rfl, hb2⟩
  clear Fq0 Fq1 Fq2 Fq3 Fq4 Fq5 Flt
  have A2 := Lib.hid (show Since w w2 from Since.via (by repeat (first | with_reducible exact A1.out | with_reducible exact Since.refl _ | with_reducible refine Since.alloc ?_ _ | with_reducible refine Since.setCell ?_ (by first | omega | (simp; done) | (simp; omega)) _ | with_reducible refine Since.drew ?_ | with_reducible refine Since.drewN ?_ _)) hb2)
  have s2 := A2.out.size
  have F2 := Lib.hid (show Cells w2 (w.heap.size) 24 (#[.int .i64 a, .int .i64 s, .int .i64 k, .int .i64 t, .bool m, .int .u64 x]) from Cells.kept (by repeat (first | with_reducible exact F1.out | with_reducible exact Cells.at_ _ _ _ (by first | omega | (simp; done) | (simp; omega)) | with_reducible refine Cells.alloc ?_ _ | with_reducible refine Cells.far' ?_ (by first | omega | (simp; done) | (simp; omega)) _ | with_reducible refine Cells.drew ?_ | with_reducible refine Cells.drewN ?_ _)) hb2)
  have Fz2 := F2.out.lt
  clear hb2
  obtain ⟨Fq0, Fq1, Fq2, Fq3, Fq4, Fq5⟩ := F2.out.six
  have Flt := F2.out.lt
  go_wp2
  go_ret
  exact ⟨rfl, (Since.out (by repeat (first | with_reducible exact A2.out | with_reducible exact Since.refl _ | with_reducible refine Since.alloc ?_ _ | with_reducible refine Since.setCell ?_ (by first | omega | (simp; done) | (simp; omega)) _ | with_reducible refine Since.drew ?_ | with_reducible refine Since.drewN ?_ _)))⟩

set_option maxRecDepth 100000 in
theorem parts_low (a s k t : Int) (m : Bool) (x : Int) (z : Int) (w : World) (h : Blk.good ⟨a, s, k, t, m, 0⟩) (ha : a < 0) : Calls Try.prog 4 #[.agg #[.int .i64 a, .int .i64 s, .int .i64 k, .int .i64 t, .bool m, .int .u64 x], .int .i64 z] w fun e w' => e = .returned (.bool true) ∧ Below w.heap.size w w' := by
  have C := Lib.hid fun W => rcheck_ok a s k t m x W h
  clear h
  have A0 := Lib.hid (Since.refl w)
  go_enter Try.func4, Try.ntmps4
  go_wp2_with fail
  refine (alive21 _).mono ?_
  rintro e w1 ⟨rfl, hb1⟩
  have A1 := Lib.hid (show Since w w1 from Since.via (by repeat (first | with_reducible exact A0.out | with_reducible exact Since.refl _ | with_reducible refine Since.alloc ?_ _ | with_reducible refine Since.setCell ?_ (by first | omega | (simp; done) | (simp; omega)) _ | with_reducible refine Since.drew ?_ | with_reducible refine Since.drewN ?_ _)) hb1)
  have s1 := A1.out.size
  have F1 := Lib.hid (show Cells w1 (w.heap.size) 24 (#[.int .i64 a, .int .i64 s, .int .i64 k, .int .i64 t, .bool m, .int .u64 x]) from Cells.kept (by repeat (first | with_reducible exact F0.out | with_reducible exact Cells.at_ _ _ _ (by first | omega | (simp; done) | (simp; omega)) | with_reducible refine Cells.alloc ?_ _ | with_reducible refine Cells.far' ?_ (by first | omega | (simp; done) | (simp; omega)) _ | with_reducible refine Cells.drew ?_ | with_reducible refine Cells.drewN ?_ _)) hb1)
  have Fz1 := F1.out.lt
  clear hb1
  obtain ⟨Fq0, Fq1, Fq2, Fq3, Fq4, Fq5⟩ := F1.out.six
  have Flt := F1.out.lt
  go_wp2_with fail
  refine (C.out _).mono ?_
  rintro e w2 ⟨rfl, hb2⟩
  clear Fq0 Fq1 Fq2 Fq3 Fq4 Fq5 Flt
  have A2 := Lib.hid (show Since w w2 from Since.via (by repeat (first | with_reducible exact A1.out | with_reducible exact Since.refl _ | with_reducible refine Since.alloc ?_ _ | with_reducible refine Since.setCell ?_ (by first | omega | (simp; done) | (simp; omega)) _ | with_reducible refine Since.drew ?_ | with_reducible refine Since.drewN ?_ _)) hb2)
  have s2 := A2.out.size
  have F2 := Lib.hid (show Cells w2 (w.heap.size) 24 (#[.int .i64 a, .int .i64 s, .int .i64 k, .int .i64 t, .bool m, .int .u64 x]) from Cells.kept (by repeat (first | with_reducible exact F1.out | with_reducible exact Cells.at_ _ _ _ (by first | omega | (simp; done) | (simp; omega)) | with_reducible refine Cells.alloc ?_ _ | with_reducible refine Cells.far' ?_ (by first | omega | (simp; done) | (simp; omega)) _ | with_reducible refine Cells.drew ?_ | with_reducible refine Cells.drewN ?_ _)) hb2)
  have Fz2 := F2.out.lt
  clear hb2
  obtain ⟨Fq0, Fq1, Fq2, Fq3, Fq4, Fq5⟩ := F2.out.six
  have Flt := F2.out.lt
  go_wp2
  go_ret
  exact ⟨rfl, (Since.out (by repeat (first | with_reducible exact A2.out | with_reducible exact Since.refl _ | with_reducible refine Since.alloc ?_ _ | with_reducible refine Since.setCell ?_ (by first | omega | (simp; done) | (simp; omega)) _ | with_reducible refine Since.drew ?_ | with_reducible refine Since.drewN ?_ _)))⟩

set_option maxRecDepth 100000 in
theorem parts_high (a s k t : Int) (m : Bool) (x : Int) (z : Int) (w : World) (h : Blk.good ⟨a, s, k, t, m, 0⟩) (ha : 2048 < a) : Calls Try.prog 4 #[.agg #[.int .i64 a, .int .i64 s, .int .i64 k, .int .i64 t, .bool m, .int .u64 x], .int .i64 z] w fun e w' => e = .returned (.bool true) ∧ Below w.heap.size w w' := by
  have C := Lib.hid fun W => rcheck_ok a s k t m x W h
  have n1 : decide (a < 0) = false := by simp; omega
  clear h
  have A0 := Lib.hid (Since.refl w)
  go_enter Try.func4, Try.ntmps4
  go_wp2_with fail
  refine (alive21 _).mono ?_
  rintro e w1 ⟨rfl, hb1⟩
  have A1 := Lib.hid (show Since w w1 from Since.via (by repeat (first | with_reducible exact A0.out | with_reducible exact Since.refl _ | with_reducible refine Since.alloc ?_ _ | with_reducible refine Since.setCell ?_ (by first | omega | (simp; done) | (simp; omega)) _ | with_reducible refine Since.drew ?_ | with_reducible refine Since.drewN ?_ _)) hb1)
  have s1 := A1.out.size
  have F1 := Lib.hid (show Cells w1 (w.heap.size) 24 (#[.int .i64 a, .int .i64 s, .int .i64 k, .int .i64 t, .bool m, .int .u64 x]) from Cells.kept (by repeat (first | with_reducible exact F0.out | with_reducible exact Cells.at_ _ _ _ (by first | omega | (simp; done) | (simp; omega)) | with_reducible refine Cells.alloc ?_ _ | with_reducible refine Cells.far' ?_ (by first | omega | (simp; done) | (simp; omega)) _ | with_reducible refine Cells.drew ?_ | with_reducible refine Cells.drewN ?_ _)) hb1)
  have Fz1 := F1.out.lt
  clear hb1
  obtain ⟨Fq0, Fq1, Fq2, Fq3, Fq4, Fq5⟩ := F1.out.six
  have Flt := F1.out.lt
  go_wp2_with fail
  refine (C.out _).mono ?_
  rintro e w2 ⟨rfl, hb2⟩
  clear Fq0 Fq1 Fq2 Fq3 Fq4 Fq5 Flt
  have A2 := Lib.hid (show Since w w2 from Since.via (by repeat (first | with_reducible exact A1.out | with_reducible exact Since.refl _ | with_reducible refine Since.alloc ?_ _ | with_reducible refine Since.setCell ?_ (by first | omega | (simp; done) | (simp; omega)) _ | with_reducible refine Since.drew ?_ | with_reducible refine Since.drewN ?_ _)) hb2)
  have s2 := A2.out.size
  have F2 := Lib.hid (show Cells w2 (w.heap.size) 24 (#[.int .i64 a, .int .i64 s, .int .i64 k, .int .i64 t, .bool m, .int .u64 x]) from Cells.kept (by repeat (first | with_reducible exact F1.out | with_reducible exact Cells.at_ _ _ _ (by first | omega | (simp; done) | (simp; omega)) | with_reducible refine Cells.alloc ?_ _ | with_reducible refine Cells.far' ?_ (by first | omega | (simp; done) | (simp; omega)) _ | with_reducible refine Cells.drew ?_ | with_reducible refine Cells.drewN ?_ _)) hb2)
  have Fz2 := F2.out.lt
  clear hb2
  obtain ⟨Fq0, Fq1, Fq2, Fq3, Fq4, Fq5⟩ := F2.out.six
  have Flt := F2.out.lt
  go_wp2
  go_ret
  exact ⟨rfl, (Since.out (by repeat (first | with_reducible exact A2.out | with_reducible exact Since.refl _ | with_reducible refine Since.alloc ?_ _ | with_reducible refine Since.setCell ?_ (by first | omega | (simp; done) | (simp; omega)) _ | with_reducible refine Since.drew ?_ | with_reducible refine Since.drewN ?_ _)))⟩

set_option maxRecDepth 100000 in
theorem parts_err (a s k t : Int) (m : Bool) (x : Int) (z : Int) (er : Int) (w : World) (h : Blk.good ⟨a, s, k, t, m, 0⟩) (ha : 0 ≤ a) (ha2 : a ≤ 2048) (he : er ≠ 0)
    (D : Hid (∀ W : World, Calls Try.prog 18 #[.agg #[.int .i64 a, .int .i64 s, .int .i64 k, .int .i64 t, .bool m, .int .u64 x], .int .i64 z] W fun e w' => e = .returned (.tuple #[.agg #[.int .i64 0, .int .i64 0, .int .i64 0, .int .i64 0, .bool false, .int .u64 0], .bool false, .int .i64 er]) ∧ Below W.heap.size W w')) : Calls Try.prog 4 #[.agg #[.int .i64 a, .int .i64 s, .int .i64 k, .int .i64 t, .bool m, .int .u64 x], .int .i64 z] w fun e w' => e = .returned (.bool true) ∧ Below w.heap.size w w' := by
  have C := Lib.hid fun W => rcheck_ok a s k t m x W h
  have n1 : decide (a < 0) = false := by simp; omega
  have n2 : decide (2048 < a) = false := by simp; omega
  have n3 : (er != 0) = true := by simpa using he
  clear h he
  have A0 := Lib.hid (Since.refl w)
  go_enter Try.func4, Try.ntmps4
  go_wp2_with fail
  refine (alive21 _).mono ?_
  rintro e w1 ⟨rfl, hb1⟩
  have A1 := Lib.hid (show Since w w1 from Since.via (by repeat (first | with_reducible exact A0.out | with_reducible exact Since.refl _ | with_reducible refine Since.alloc ?_ _ | with_reducible refine Since.setCell ?_ (by first | omega | (simp; done) | (simp; omega)) _ | with_reducible refine Since.drew ?_ | with_reducible refine Since.drewN ?_ _)) hb1)
  have s1 := A1.out.size
  have F1 := Lib.hid (show Cells w1 (w.heap.size) 24 (#[.int .i64 a, .int .i64 s, .int .i64 k, .int .i64 t, .bool m, .int .u64 x]) from Cells.kept (by repeat (first | with_reducible exact F0.out | with_reducible exact Cells.at_ _ _ _ (by first | omega | (simp; done) | (simp; omega)) | with_reducible refine Cells.alloc ?_ _ | with_reducible refine Cells.far' ?_ (by first | omega | (simp; done) | (simp; omega)) _ | with_reducible refine Cells.drew ?_ | with_reducible refine Cells.drewN ?_ _)) hb1)
  have Fz1 := F1.out.lt
  clear hb1
  obtain ⟨Fq0, Fq1, Fq2, Fq3, Fq4, Fq5⟩ := F1.out.six
  have Flt := F1.out.lt
  go_wp2_with fail
  refine (C.out _).mono ?_
  rintro e w2 ⟨rfl, hb2⟩
  clear Fq0 Fq1 Fq2 Fq3 Fq4 Fq5 Flt
  have A2 := Lib.hid (show Since w w2 from Since.via (by repeat (first | with_reducible exact A1.out | with_reducible exact Since.refl _ | with_reducible refine Since.alloc ?_ _ | with_reducible refine Since.setCell ?_ (by first | omega | (simp; done) | (simp; omega)) _ | with_reducible refine Since.drew ?_ | with_reducible refine Since.drewN ?_ _)) hb2)
  have s2 := A2.out.size
  have F2 := Lib.hid (show Cells w2 (w.heap.size) 24 (#[.int .i64 a, .int .i64 s, .int .i64 k, .int .i64 t, .bool m, .int .u64 x]) from Cells.kept (by repeat (first | with_reducible exact F1.out | with_reducible exact Cells.at_ _ _ _ (by first | omega | (simp; done) | (simp; omega)) | with_reducible refine Cells.alloc ?_ _ | with_reducible refine Cells.far' ?_ (by first | omega | (simp; done) | (simp; omega)) _ | with_reducible refine Cells.drew ?_ | with_reducible refine Cells.drewN ?_ _)) hb2)
  have Fz2 := F2.out.lt
  clear hb2
  obtain ⟨Fq0, Fq1, Fq2, Fq3, Fq4, Fq5⟩ := F2.out.six
  have Flt := F2.out.lt
  go_wp2_with fail
  refine (D.out _).mono ?_
  rintro e w3 ⟨rfl, hb3⟩
  have A3 := Lib.hid (show Since w w3 from Since.via (by repeat (first | with_reducible exact A2.out | with_reducible exact Since.refl _ | with_reducible refine Since.alloc ?_ _ | with_reducible refine Since.setCell ?_ (by first | omega | (simp; done) | (simp; omega)) _ | with_reducible refine Since.drew ?_ | with_reducible refine Since.drewN ?_ _)) hb3)
  have s3 := A3.out.size
  have F3 := Lib.hid (show Cells w3 (w.heap.size) 24 (#[.int .i64 a, .int .i64 s, .int .i64 k, .int .i64 t, .bool m, .int .u64 x]) from Cells.kept (by repeat (first | with_reducible exact F2.out | with_reducible exact Cells.at_ _ _ _ (by first | omega | (simp; done) | (simp; omega)) | with_reducible refine Cells.alloc ?_ _ | with_reducible refine Cells.far' ?_ (by first | omega | (simp; done) | (simp; omega)) _ | with_reducible refine Cells.drew ?_ | with_reducible refine Cells.drewN ?_ _)) hb3)
  have Fz3 := F3.out.lt
  clear hb3
  go_wp2
  go_ret
  exact ⟨rfl, (Since.out (by repeat (first | with_reducible exact A3.out | with_reducible exact Since.refl _ | with_reducible refine Since.alloc ?_ _ | with_reducible refine Since.setCell ?_ (by first | omega | (simp; done) | (simp; omega)) _ | with_reducible refine Since.drew ?_ | with_reducible refine Since.drewN ?_ _)))⟩
set_option maxRecDepth 100000 in
theorem parts_all (a k t : Int) (m : Bool) (x : Int) (s : Int) (w : World) (h : Blk.good ⟨a, s, k, t, m, 0⟩) (ha : 0 ≤ a) (ha2 : a ≤ 2048)
    (D : Hid (∀ W : World, Calls Try.prog 18 #[.agg #[.int .i64 a, .int .i64 s, .int .i64 k, .int .i64 t, .bool m, .int .u64 x], .int .i64 s] W fun e w' => e = .returned (.tuple #[.agg #[.int .i64 0, .int .i64 0, .int .i64 0, .int .i64 0, .bool false, .int .u64 0], .bool false, .int .i64 0]) ∧ Below W.heap.size W w')) : Calls Try.prog 4 #[.agg #[.int .i64 a, .int .i64 s, .int .i64 k, .int .i64 t, .bool m, .int .u64 x], .int .i64 s] w fun e w' => e = .returned (.bool true) ∧ Below w.heap.size w w' := by
  have C := Lib.hid fun W => rcheck_ok a s k t m x W h
  have n1 : decide (a < 0) = false := by simp; omega
  have n2 : decide (2048 < a) = false := by simp; omega
  clear h
  have A0 := Lib.hid (Since.refl w)
  go_enter Try.func4, Try.ntmps4
  go_wp2_with fail
  refine (alive21 _).mono ?_
  rintro e w1 ⟨rfl, hb1⟩
  have A1 := Lib.hid (show Since w w1 from Since.via (by repeat (first | with_reducible exact A0.out | with_reducible exact Since.refl _ | with_reducible refine Since.alloc ?_ _ | with_reducible refine Since.setCell ?_ (by first | omega | (simp; done) | (simp; omega)) _ | with_reducible refine Since.drew ?_ | with_reducible refine Since.drewN ?_ _)) hb1)
  have s1 := A1.out.size
  have F1 := Lib.hid (show Cells w1 (w.heap.size) 24 (#[.int .i64 a, .int .i64 s, .int .i64 k, .int .i64 t, .bool m, .int .u64 x]) from Cells.kept (by repeat (first | with_reducible exact F0.out | with_reducible exact Cells.at_ _ _ _ (by first | omega | (simp; done) | (simp; omega)) | with_reducible refine Cells.alloc ?_ _ | with_reducible refine Cells.far' ?_ (by first | omega | (simp; done) | (simp; omega)) _ | with_reducible refine Cells.drew ?_ | with_reducible refine Cells.drewN ?_ _)) hb1)
  have Fz1 := F1.out.lt
  clear hb1
  obtain ⟨Fq0, Fq1, Fq2, Fq3, Fq4, Fq5⟩ := F1.out.six
  have Flt := F1.out.lt
  go_wp2_with fail
  refine (C.out _).mono ?_
  rintro e w2 ⟨rfl, hb2⟩
  clear Fq0 Fq1 Fq2 Fq3 Fq4 Fq5 Flt
  have A2 := Lib.hid (show Since w w2 from Since.via (by repeat (first | with_reducible exact A1.out | with_reducible exact Since.refl _ | with_reducible refine Since.alloc ?_ _ | with_reducible refine Since.setCell ?_ (by first | omega | (simp; done) | (simp; omega)) _ | with_reducible refine Since.drew ?_ | with_reducible refine Since.drewN ?_ _)) hb2)
  have s2 := A2.out.size
  have F2 := Lib.hid (show Cells w2 (w.heap.size) 24 (#[.int .i64 a, .int .i64 s, .int .i64 k, .int .i64 t, .bool m, .int .u64 x]) from Cells.kept (by repeat (first | with_reducible exact F1.out | with_reducible exact Cells.at_ _ _ _ (by first | omega | (simp; done) | (simp; omega)) | with_reducible refine Cells.alloc ?_ _ | with_reducible refine Cells.far' ?_ (by first | omega | (simp; done) | (simp; omega)) _ | with_reducible refine Cells.drew ?_ | with_reducible refine Cells.drewN ?_ _)) hb2)
  have Fz2 := F2.out.lt
  clear hb2
  obtain ⟨Fq0, Fq1, Fq2, Fq3, Fq4, Fq5⟩ := F2.out.six
  have Flt := F2.out.lt
  clear Fq0 Fq1 Fq2 Fq3 Fq4 Fq5 Flt
  obtain ⟨Fq0, Fq1, Fq2, Fq3, Fq4, Fq5⟩ := F2.out.six
  have Flt := F2.out.lt
  go_wp2_with fail
  refine (D.out _).mono ?_
  rintro e w3 ⟨rfl, hb3⟩
  clear Fq0 Fq1 Fq2 Fq3 Fq4 Fq5 Flt
  have A3 := Lib.hid (show Since w w3 from Since.via (by repeat (first | with_reducible exact A2.out | with_reducible exact Since.refl _ | with_reducible refine Since.alloc ?_ _ | with_reducible refine Since.setCell ?_ (by first | omega | (simp; done) | (simp; omega)) _ | with_reducible refine Since.drew ?_ | with_reducible refine Since.drewN ?_ _)) hb3)
  have s3 := A3.out.size
  have F3 := Lib.hid (show Cells w3 (w.heap.size) 24 (#[.int .i64 a, .int .i64 s, .int .i64 k, .int .i64 t, .bool m, .int .u64 x]) from Cells.kept (by repeat (first | with_reducible exact F2.out | with_reducible exact Cells.at_ _ _ _ (by first | omega | (simp; done) | (simp; omega)) | with_reducible refine Cells.alloc ?_ _ | with_reducible refine Cells.far' ?_ (by first | omega | (simp; done) | (simp; omega)) _ | with_reducible refine Cells.drew ?_ | with_reducible refine Cells.drewN ?_ _)) hb3)
  have Fz3 := F3.out.lt
  clear hb3
  obtain ⟨Fq0, Fq1, Fq2, Fq3, Fq4, Fq5⟩ := F3.out.six
  have Flt := F3.out.lt
  go_wp2
  go_ret
  exact ⟨rfl, (Since.out (by repeat (first | with_reducible exact A3.out | with_reducible exact Since.refl _ | with_reducible refine Since.alloc ?_ _ | with_reducible refine Since.setCell ?_ (by first | omega | (simp; done) | (simp; omega)) _ | with_reducible refine Since.drew ?_ | with_reducible refine Since.drewN ?_ _)))⟩
set_option maxRecDepth 100000 in
theorem parts_rest (a s k t : Int) (m : Bool) (x : Int) (z : Int) (w : World) (h : Blk.good ⟨a, s, k, t, m, 0⟩) (ha : 0 ≤ a) (ha2 : a ≤ 2048) (hz : 2 ≤ z) (hs : z < s) (hs2 : s ≤ 1920) (hg : Blk.good ⟨a + z, s - z, 2, 0, false, 0⟩)
    (D : Hid (∀ W : World, Calls Try.prog 18 #[.agg #[.int .i64 a, .int .i64 s, .int .i64 k, .int .i64 t, .bool m, .int .u64 x], .int .i64 z] W fun e w' => e = .returned (.tuple #[.agg #[.int .i64 (a + z), .int .i64 (s - z), .int .i64 2, .int .i64 0, .bool false, .int .u64 0], .bool true, .int .i64 0]) ∧ Below W.heap.size W w')) : Calls Try.prog 4 #[.agg #[.int .i64 a, .int .i64 s, .int .i64 k, .int .i64 t, .bool m, .int .u64 x], .int .i64 z] w fun e w' => e = .returned (.bool true) ∧ Below w.heap.size w w' := by
  have C := Lib.hid fun W => rcheck_ok a s k t m x W h
  have E := Lib.hid fun W => rcheck_ok (a + z) (s - z) 2 0 false 0 W hg
  have n1 : decide (a < 0) = false := by simp; omega
  have n2 : decide (2048 < a) = false := by simp; omega
  have n3 : s - z + z = s := by omega
  clear h hg
  have A0 := Lib.hid (Since.refl w)
  go_enter Try.func4, Try.ntmps4
  go_wp2_with fail
  refine (alive21 _).mono ?_
  rintro e w1 ⟨rfl, hb1⟩
  have A1 := Lib.hid (show Since w w1 from Since.via (by repeat (first | with_reducible exact A0.out | with_reducible exact Since.refl _ | with_reducible refine Since.alloc ?_ _ | with_reducible refine Since.setCell ?_ (by first | omega | (simp; done) | (simp; omega)) _ | with_reducible refine Since.drew ?_ | with_reducible refine Since.drewN ?_ _)) hb1)
  have s1 := A1.out.size
  have F1 := Lib.hid (show Cells w1 (w.heap.size) 24 (#[.int .i64 a, .int .i64 s, .int .i64 k, .int .i64 t, .bool m, .int .u64 x]) from Cells.kept (by repeat (first | with_reducible exact F0.out | with_reducible exact Cells.at_ _ _ _ (by first | omega | (simp; done) | (simp; omega)) | with_reducible refine Cells.alloc ?_ _ | with_reducible refine Cells.far' ?_ (by first | omega | (simp; done) | (simp; omega)) _ | with_reducible refine Cells.drew ?_ | with_reducible refine Cells.drewN ?_ _)) hb1)
  have Fz1 := F1.out.lt
  clear hb1
  obtain ⟨Fq0, Fq1, Fq2, Fq3, Fq4, Fq5⟩ := F1.out.six
  have Flt := F1.out.lt
  go_wp2_with fail
  refine (C.out _).mono ?_
  rintro e w2 ⟨rfl, hb2⟩
  clear Fq0 Fq1 Fq2 Fq3 Fq4 Fq5 Flt
  have A2 := Lib.hid (show Since w w2 from Since.via (by repeat (first | with_reducible exact A1.out | with_reducible exact Since.refl _ | with_reducible refine Since.alloc ?_ _ | with_reducible refine Since.setCell ?_ (by first | omega | (simp; done) | (simp; omega)) _ | with_reducible refine Since.drew ?_ | with_reducible refine Since.drewN ?_ _)) hb2)
  have s2 := A2.out.size
  have F2 := Lib.hid (show Cells w2 (w.heap.size) 24 (#[.int .i64 a, .int .i64 s, .int .i64 k, .int .i64 t, .bool m, .int .u64 x]) from Cells.kept (by repeat (first | with_reducible exact F1.out | with_reducible exact Cells.at_ _ _ _ (by first | omega | (simp; done) | (simp; omega)) | with_reducible refine Cells.alloc ?_ _ | with_reducible refine Cells.far' ?_ (by first | omega | (simp; done) | (simp; omega)) _ | with_reducible refine Cells.drew ?_ | with_reducible refine Cells.drewN ?_ _)) hb2)
  have Fz2 := F2.out.lt
  clear hb2
  obtain ⟨Fq0, Fq1, Fq2, Fq3, Fq4, Fq5⟩ := F2.out.six
  have Flt := F2.out.lt
  clear Fq0 Fq1 Fq2 Fq3 Fq4 Fq5 Flt
  obtain ⟨Fq0, Fq1, Fq2, Fq3, Fq4, Fq5⟩ := F2.out.six
  have Flt := F2.out.lt
  go_wp2_with fail
  refine (D.out _).mono ?_
  rintro e w3 ⟨rfl, hb3⟩
  clear Fq0 Fq1 Fq2 Fq3 Fq4 Fq5 Flt
  have A3 := Lib.hid (show Since w w3 from Since.via (by repeat (first | with_reducible exact A2.out | with_reducible exact Since.refl _ | with_reducible refine Since.alloc ?_ _ | with_reducible refine Since.setCell ?_ (by first | omega | (simp; done) | (simp; omega)) _ | with_reducible refine Since.drew ?_ | with_reducible refine Since.drewN ?_ _)) hb3)
  have s3 := A3.out.size
  have F3 := Lib.hid (show Cells w3 (w.heap.size) 24 (#[.int .i64 a, .int .i64 s, .int .i64 k, .int .i64 t, .bool m, .int .u64 x]) from Cells.kept (by repeat (first | with_reducible exact F2.out | with_reducible exact Cells.at_ _ _ _ (by first | omega | (simp; done) | (simp; omega)) | with_reducible refine Cells.alloc ?_ _ | with_reducible refine Cells.far' ?_ (by first | omega | (simp; done) | (simp; omega)) _ | with_reducible refine Cells.drew ?_ | with_reducible refine Cells.drewN ?_ _)) hb3)
  have Fz3 := F3.out.lt
  clear hb3
  go_wp2_with fail
  refine (E.out _).mono ?_
  rintro e w4 ⟨rfl, hb4⟩
  have A4 := Lib.hid (show Since w w4 from Since.via (by repeat (first | with_reducible exact A3.out | with_reducible exact Since.refl _ | with_reducible refine Since.alloc ?_ _ | with_reducible refine Since.setCell ?_ (by first | omega | (simp; done) | (simp; omega)) _ | with_reducible refine Since.drew ?_ | with_reducible refine Since.drewN ?_ _)) hb4)
  have s4 := A4.out.size
  have F4 := Lib.hid (show Cells w4 (w.heap.size) 24 (#[.int .i64 a, .int .i64 s, .int .i64 k, .int .i64 t, .bool m, .int .u64 x]) from Cells.kept (by repeat (first | with_reducible exact F3.out | with_reducible exact Cells.at_ _ _ _ (by first | omega | (simp; done) | (simp; omega)) | with_reducible refine Cells.alloc ?_ _ | with_reducible refine Cells.far' ?_ (by first | omega | (simp; done) | (simp; omega)) _ | with_reducible refine Cells.drew ?_ | with_reducible refine Cells.drewN ?_ _)) hb4)
  have Fz4 := F4.out.lt
  have X4 := Lib.hid (show Cells w4 (w3.heap.size) 24 (#[.int .i64 (a + z), .int .i64 (s - z), .int .i64 2, .int .i64 0, .bool false, .int .u64 0]) from Cells.kept (by repeat (first | with_reducible exact X3.out | with_reducible exact Cells.at_ _ _ _ (by first | omega | (simp; done) | (simp; omega)) | with_reducible refine Cells.alloc ?_ _ | with_reducible refine Cells.far' ?_ (by first | omega | (simp; done) | (simp; omega)) _ | with_reducible refine Cells.drew ?_ | with_reducible refine Cells.drewN ?_ _)) hb4)
  have Xz4 := X4.out.lt
  clear hb4
  obtain ⟨Fq0, Fq1, Fq2, Fq3, Fq4, Fq5⟩ := F4.out.six
  have Flt := F4.out.lt
  obtain ⟨Xq0, Xq1, Xq2, Xq3, Xq4, Xq5⟩ := X4.out.six
  have Xlt := X4.out.lt
  go_wp2
  go_ret
  exact ⟨rfl, (Since.out (by repeat (first | with_reducible exact A4.out | with_reducible exact Since.refl _ | with_reducible refine Since.alloc ?_ _ | with_reducible refine Since.setCell ?_ (by first | omega | (simp; done) | (simp; omega)) _ | with_reducible refine Since.drew ?_ | with_reducible refine Since.drewN ?_ _)))⟩

theorem walkFitParts (b : Blk) (z : Int) (w : World) (_hb : b.Fit) (_h1 : -9223372036854775808 ≤ z) (_h2 : z ≤ 9223372036854775807) :
    Calls Try.prog 4 #[b.val, .int .i64 z] w fun e w' => e = .returned (.bool true) ∧ Below w.heap.size w w' := by
  obtain ⟨a, s, k, t, m, n⟩ := b
  unfold Blk.val
  simp only
  by_cases h : Blk.good ⟨a, s, k, t, m, 0⟩
  case neg => exact parts_bad a s k t m n z w h
  by_cases ha : a < 0
  · exact parts_low a s k t m n z w h ha
  by_cases ha2 : 2048 < a
  · exact parts_high a s k t m n z w h ha2
  have h0 : 0 ≤ a := by omega
  have h2 : a ≤ 2048 := by omega
  by_cases hk : k = 2
  case neg => exact parts_err a s k t m n z 8 w h h0 h2 (by decide) (Lib.hid fun W => fleft_obj a s k t m n z W h hk)
  by_cases hz : okSize z
  case neg => exact parts_err a s k t m n z 2 w h h0 h2 (by decide) (Lib.hid fun W => fleft_size a s k t m n z W h hk hz)
  rcases Int.lt_trichotomy s z with hs | hs | hs
  · exact parts_err a s k t m n z 2 w h h0 h2 (by decide) (Lib.hid fun W => fleft_more a s k t m n z W h hk hz hs)
  · subst hs
    exact parts_all a k t m n s w h h0 h2 (Lib.hid fun W => fleft_all a s k t m n s W h hk hz rfl)
  · have hgs := good_size h
    simp only at hgs
    obtain ⟨z1, z2, z3⟩ := hz
    have D := fun W => fleft_rest a s k t m n z W h hk ⟨z1, z2, z3⟩ hs
    rw [show wrap64 (a + z) = a + z by unfold wrap64; omega] at D
    exact parts_rest a s k t m n z w h h0 h2 z1 hs hgs.2.2 ⟨by show 2 ≤ s - z; omega, by show (s - z) % 2 = 0; omega, .inr ⟨rfl, rfl, rfl, by show s - z ≤ 1920; omega⟩⟩ (Lib.hid D)
end Go.Proofs.Ytoifalgkeegklaa
