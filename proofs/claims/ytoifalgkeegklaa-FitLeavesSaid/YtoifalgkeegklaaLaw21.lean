/- The law on what is left over, walked. -/
import Derived.Test.YtoifalgkeegklaaFit
namespace Go.Proofs.Ytoifalgkeegklaa
open Go.RowKit

set_option maxRecDepth 100000 in
theorem leaves_by (a s k t : Int) (m : Bool) (x z a' s' k' t' : Int) (m' : Bool) (x' : Int) (fl : Bool) (er : Int) (w : World)
    (C1 : Hid (∀ W : World, Calls Try.prog 18 #[.agg #[.int .i64 a, .int .i64 s, .int .i64 k, .int .i64 t, .bool m, .int .u64 x], .int .i64 z] W fun e w' => e = .returned (.tuple #[.agg #[.int .i64 a', .int .i64 s', .int .i64 k', .int .i64 t', .bool m', .int .u64 x'], .bool fl, .int .i64 er]) ∧ Below W.heap.size W w'))
    (C2 : Hid (∀ W : World, Calls Try.prog 19 #[.agg #[.int .i64 a, .int .i64 s, .int .i64 k, .int .i64 t, .bool m, .int .u64 x], .int .i64 z] W fun e w' => e = .returned (.tuple #[.agg #[.int .i64 a', .int .i64 s', .int .i64 k', .int .i64 t', .bool m', .int .u64 x'], .bool fl, .int .i64 er]) ∧ Below W.heap.size W w')) :
    Calls Try.prog 3 #[.agg #[.int .i64 a, .int .i64 s, .int .i64 k, .int .i64 t, .bool m, .int .u64 x], .int .i64 z] w fun e w' => e = .returned (.bool true) ∧ Below w.heap.size w w' := by
  have A0 := Lib.hid (Since.refl w)
  go_enter Try.func3, Try.ntmps3
  go_wp2_with fail
  refine (C1.out _).mono ?_
  rintro e w1 ⟨rfl, hb1⟩
  have A1 := Lib.hid (show Since w w1 from Since.via (by repeat (first | with_reducible exact A0.out | with_reducible exact Since.refl _ | with_reducible refine Since.alloc ?_ _ | with_reducible refine Since.setCell ?_ (by first | omega | (simp; done) | (simp; omega)) _ | with_reducible refine Since.drew ?_ | with_reducible refine Since.drewN ?_ _)) hb1)
  have s1 := A1.out.size
  have F1 := Lib.hid (show Cells w1 (w.heap.size) 24 (#[.int .i64 a, .int .i64 s, .int .i64 k, .int .i64 t, .bool m, .int .u64 x]) from Cells.kept (by repeat (first | with_reducible exact F0.out | with_reducible exact Cells.at_ _ _ _ (by first | omega | (simp; done) | (simp; omega)) | with_reducible refine Cells.alloc ?_ _ | with_reducible refine Cells.far' ?_ (by first | omega | (simp; done) | (simp; omega)) _ | with_reducible refine Cells.drew ?_ | with_reducible refine Cells.drewN ?_ _)) hb1)
  have Fz1 := F1.out.lt
  clear hb1
  obtain ⟨Fq0, Fq1, Fq2, Fq3, Fq4, Fq5⟩ := F1.out.six
  have Flt := F1.out.lt
  go_wp2_with fail
  refine (C2.out _).mono ?_
  rintro e w2 ⟨rfl, hb2⟩
  clear Fq0 Fq1 Fq2 Fq3 Fq4 Fq5 Flt
  have A2 := Lib.hid (show Since w w2 from Since.via (by repeat (first | with_reducible exact A1.out | with_reducible exact Since.refl _ | with_reducible refine Since.alloc ?_ _ | with_reducible refine Since.setCell ?_ (by first | omega | (simp; done) | (simp; omega)) _ | with_reducible refine Since.drew ?_ | with_reducible refine Since.drewN ?_ _)) hb2)
  have s2 := A2.out.size
  have F2 := Lib.hid (show Cells w2 (w.heap.size) 24 (#[.int .i64 a, .int .i64 s, .int .i64 k, .int .i64 t, .bool m, .int .u64 x]) from Cells.kept (by repeat (first | with_reducible exact F1.out | with_reducible exact Cells.at_ _ _ _ (by first | omega | (simp; done) | (simp; omega)) | with_reducible refine Cells.alloc ?_ _ | with_reducible refine Cells.far' ?_ (by first | omega | (simp; done) | (simp; omega)) _ | with_reducible refine Cells.drew ?_ | with_reducible refine Cells.drewN ?_ _)) hb2)
  have Fz2 := F2.out.lt
  have X2 := Lib.hid (show Cells w2 (w1.heap.size) 24 (#[.int .i64 a', .int .i64 s', .int .i64 k', .int .i64 t', .bool m', .int .u64 x']) from Cells.kept (by repeat (first | with_reducible exact X1.out | with_reducible exact Cells.at_ _ _ _ (by first | omega | (simp; done) | (simp; omega)) | with_reducible refine Cells.alloc ?_ _ | with_reducible refine Cells.far' ?_ (by first | omega | (simp; done) | (simp; omega)) _ | with_reducible refine Cells.drew ?_ | with_reducible refine Cells.drewN ?_ _)) hb2)
  have Xz2 := X2.out.lt
  clear hb2
  obtain ⟨Xq0, Xq1, Xq2, Xq3, Xq4, Xq5⟩ := X2.out.six
  have Xlt := X2.out.lt
  go_wp2
  go_ret
  exact ⟨rfl, (Since.out (by repeat (first | with_reducible exact A2.out | with_reducible exact Since.refl _ | with_reducible refine Since.alloc ?_ _ | with_reducible refine Since.setCell ?_ (by first | omega | (simp; done) | (simp; omega)) _ | with_reducible refine Since.drew ?_ | with_reducible refine Since.drewN ?_ _)))⟩

theorem walkFitLeaves (b : Blk) (z : Int) (w : World) (_hb : b.Fit) (_h1 : -9223372036854775808 ≤ z) (_h2 : z ≤ 9223372036854775807) :
    Calls Try.prog 3 #[b.val, .int .i64 z] w fun e w' => e = .returned (.bool true) ∧ Below w.heap.size w w' := by
  obtain ⟨a, s, k, t, m, n⟩ := b
  unfold Blk.val
  simp only
  by_cases h : Blk.good ⟨a, s, k, t, m, 0⟩
  case neg => exact leaves_by a s k t m n z _ _ _ _ _ _ _ _ w (Lib.hid fun W => fleft_bad a s k t m n z W h) (Lib.hid fun W => rleft_bad a s k t m n z W h)
  by_cases hk : k = 2
  case neg => exact leaves_by a s k t m n z _ _ _ _ _ _ _ _ w (Lib.hid fun W => fleft_obj a s k t m n z W h hk) (Lib.hid fun W => rleft_obj a s k t m n z W h hk)
  by_cases hz : okSize z
  case neg => exact leaves_by a s k t m n z _ _ _ _ _ _ _ _ w (Lib.hid fun W => fleft_size a s k t m n z W h hk hz) (Lib.hid fun W => rleft_size a s k t m n z W h hk hz)
  rcases Int.lt_trichotomy s z with hs | hs | hs
  · exact leaves_by a s k t m n z _ _ _ _ _ _ _ _ w (Lib.hid fun W => fleft_more a s k t m n z W h hk hz hs) (Lib.hid fun W => rleft_more a s k t m n z W h hk hz hs)
  · exact leaves_by a s k t m n z _ _ _ _ _ _ _ _ w (Lib.hid fun W => fleft_all a s k t m n z W h hk hz hs) (Lib.hid fun W => rleft_all a s k t m n z W h hk hz hs)
  · exact leaves_by a s k t m n z _ _ _ _ _ _ _ _ w (Lib.hid fun W => fleft_rest a s k t m n z W h hk hz hs) (Lib.hid fun W => rleft_rest a s k t m n z W h hk hz hs)
end Go.Proofs.Ytoifalgkeegklaa
