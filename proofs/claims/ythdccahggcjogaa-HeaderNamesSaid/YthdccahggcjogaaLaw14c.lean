/- The laws of package header, walked (3). -/
import Derived.Test.YthdccahggcjogaaLaw14b
namespace Go.Proofs.Ythdccahggcjogaa
open Go.RowKit

set_option maxRecDepth 100000 in
theorem blk_eq (s k t s' k' t' : Int) (m m' : Bool) (w : World) :
    (binOp .eql 24 (.agg #[.int .i64 0, .int .i64 s, .int .i64 k, .int .i64 t, .bool m, .int .u64 0]) (.agg #[.int .i64 0, .int .i64 s', .int .i64 k', .int .i64 t', .bool m', .int .u64 0])).run Try.prog w = .ok (.bool ((s == s') && (k == k') && (t == t') && (m == m'))) w := by
  have hS : Try.prog.underlying 24 = some (.struct (Try.prog.fieldsOf 24)) := by kernel_rfl
  have hp : Try.prog.stoodInHeld 24 = false := by kernel_rfl
  have u3 := Try.underlying3
  have u4 := Try.underlying4
  have u5 := Try.underlying22
  have a3 := Try.isAgg3
  have a4 := Try.isAgg4
  have a5 := Try.isAgg22
  have z3 := Try.sizeOf3
  have z4 := Try.sizeOf4
  have z5 := Try.sizeOf22
  rw [run_eql_struct, show (10000 : Nat) = 9999 + 1 from rfl, run_equalIn_agg w 9999 24 _ _ hS hp]
  simp only [Program.fieldsOf, Try.underlying24]
  go_simp
  by_cases h1 : s = s' <;> by_cases h2 : k = k' <;> by_cases h3 : t = t' <;> by_cases h4 : m = m' <;> simp [h1, h2, h3, h4]

set_option maxRecDepth 100000 in
set_option maxHeartbeats 1000000 in
theorem one_An (w : World) (a s k t a1 s1 k1 t1 : Int) (m m1 : Bool) (n n1 : Int) (x : Nat) (SX : Hid (∀ W : World, Calls Try.prog 23 #[.int .u64 (x : Nat)] W fun e w' => e = .returned (.tuple #[.agg #[.int .i64 0, .int .i64 0, .int .i64 0, .int .i64 0, .bool false, .int .u64 0], .int .i64 50]) ∧ Below W.heap.size W w')) (CK : Hid (∀ W : World, Calls Try.prog 20 #[.agg #[.int .i64 0, .int .i64 s, .int .i64 k, .int .i64 t, .bool m, .int .u64 0]] W fun e w' => e = .returned (.int .i64 8) ∧ Below W.heap.size W w')) :
    Calls Try.prog 4 #[.agg #[.int .i64 a, .int .i64 s, .int .i64 k, .int .i64 t, .bool m, .int .u64 n], .agg #[.int .i64 a1, .int .i64 s1, .int .i64 k1, .int .i64 t1, .bool m1, .int .u64 n1], .int .u64 x] w fun e w' => e = .returned (.bool true) ∧ Below w.heap.size w w' := by
  go_enter Try.func4, Try.ntmps4
  go_wp2_with fail
  refine (alive14 _).mono ?_
  rintro e w1 ⟨rfl, hb1⟩
  have A1 := Lib.hid ((((Below.refl _ _).alloc (Nat.le_refl _) _).alloc (by simp) _).trans (hb1.mono (by simp; omega)) : Below w.heap.size w w1)
  have FB1 := Lib.hid (((Cells.new w 24 #[.int .i64 a, .int .i64 s, .int .i64 k, .int .i64 t, .bool m, .int .u64 n]).alloc (.cells #[.int .i64 a1, .int .i64 s1, .int .i64 k1, .int .i64 t1, .bool m1, .int .u64 n1] 24)).kept hb1)
  have FC1 := Lib.hid ((Cells.at_ (w.alloc (.cells #[.int .i64 a, .int .i64 s, .int .i64 k, .int .i64 t, .bool m, .int .u64 n] 24)) 24 #[.int .i64 a1, .int .i64 s1, .int .i64 k1, .int .i64 t1, .bool m1, .int .u64 n1] (n := w.heap.size + 1) (by simp)).kept hb1)
  obtain ⟨q0, q1, q2, q3, q4, q5⟩ := (FB1.out).six
  obtain ⟨u0, u1, u2, u3, u4, u5⟩ := (FC1.out).six
  obtain ⟨f0, f1, f2, f3, f4, f5⟩ := FB1.out.free6
  obtain ⟨g0, g1, g2, g3, g4, g5⟩ := FC1.out.free6
  go_wp2_with fail
  refine (CK.out _).mono ?_
  rintro e w2 ⟨rfl, hb2⟩
  clear q0 q1 q2 q3 q4 q5 u0 u1 u2 u3 u4 u5
  clear f0 f1 f2 f3 f4 f5 g0 g1 g2 g3 g4 g5
  have A2 : Below w.heap.size w w2 := ((((A1.out.setCell (p := ⟨w.heap.size, 0, none⟩) (Nat.le_refl _) _).setCell (p := ⟨w.heap.size, 5, none⟩) (Nat.le_refl _) _).setCell (p := ⟨w.heap.size + 1, 0, none⟩) (by simp) _).setCell (p := ⟨w.heap.size + 1, 5, none⟩) (by simp) _).trans (hb2.mono (by simpa using A1.out.size))
  have FB2 : Cells w2 w.heap.size 24 #[.int .i64 0, .int .i64 s, .int .i64 k, .int .i64 t, .bool m, .int .u64 0] := by
    have := (((((FB1.out.set_ 0 (.int .i64 0)).set_ 5 (.int .u64 0)).far (p := ⟨w.heap.size + 1, 0, none⟩) (by simp) (.int .i64 0)).far (p := ⟨w.heap.size + 1, 5, none⟩) (by simp) (.int .u64 0))).kept hb2
    simpa using this
  have FC2 : Cells w2 (w.heap.size + 1) 24 #[.int .i64 0, .int .i64 s1, .int .i64 k1, .int .i64 t1, .bool m1, .int .u64 0] := by
    have := (((((FC1.out.far (p := ⟨w.heap.size, 0, none⟩) (by simp) (.int .i64 0)).far (p := ⟨w.heap.size, 5, none⟩) (by simp) (.int .u64 0)).set_ 0 (.int .i64 0)).set_ 5 (.int .u64 0))).kept hb2
    simpa using this
  clear hb1 hb2 FB1 FC1 A1
  have A2' := Lib.hid A2
  have FB2' := Lib.hid FB2
  have FC2' := Lib.hid FC2
  clear A2 FB2 FC2
  go_wp2_with fail
  refine (SX.out _).mono ?_
  rintro e w6 ⟨rfl, hb6⟩
  have A6 := Lib.hid (A2'.out.trans (hb6.mono A2'.out.size))
  obtain ⟨v0, v1, v2, v3, v4, v5⟩ := (Cells.new w6 24 #[.int .i64 0, .int .i64 0, .int .i64 0, .int .i64 0, .bool false, .int .u64 0]).six
  go_wp2
  go_ret
  exact ⟨rfl, A6.out.alloc A6.out.size _⟩

set_option maxRecDepth 100000 in
set_option maxHeartbeats 1000000 in
theorem one_As (w : World) (a s k t a1 s1 k1 t1 : Int) (m m1 : Bool) (n n1 : Int) (x : Nat) (s2 k2 t2 : Int) (m2 : Bool) (SX : Hid (∀ W : World, Calls Try.prog 23 #[.int .u64 (x : Nat)] W fun e w' => e = .returned (.tuple #[.agg #[.int .i64 0, .int .i64 s2, .int .i64 k2, .int .i64 t2, .bool m2, .int .u64 0], .int .i64 0]) ∧ Below W.heap.size W w')) (W2 : Hid (∀ W : World, Calls Try.prog 18 #[.agg #[.int .i64 0, .int .i64 s2, .int .i64 k2, .int .i64 t2, .bool m2, .int .u64 0]] W fun e w' => e = .returned (.tuple #[.int .u64 (x : Nat), .int .i64 0]) ∧ Below W.heap.size W w')) (C2 : Hid (∀ W : World, Calls Try.prog 20 #[.agg #[.int .i64 0, .int .i64 s2, .int .i64 k2, .int .i64 t2, .bool m2, .int .u64 0]] W fun e w' => e = .returned (.int .i64 0) ∧ Below W.heap.size W w')) (CK : Hid (∀ W : World, Calls Try.prog 20 #[.agg #[.int .i64 0, .int .i64 s, .int .i64 k, .int .i64 t, .bool m, .int .u64 0]] W fun e w' => e = .returned (.int .i64 8) ∧ Below W.heap.size W w')) :
    Calls Try.prog 4 #[.agg #[.int .i64 a, .int .i64 s, .int .i64 k, .int .i64 t, .bool m, .int .u64 n], .agg #[.int .i64 a1, .int .i64 s1, .int .i64 k1, .int .i64 t1, .bool m1, .int .u64 n1], .int .u64 x] w fun e w' => e = .returned (.bool true) ∧ Below w.heap.size w w' := by
  go_enter Try.func4, Try.ntmps4
  go_wp2_with fail
  refine (alive14 _).mono ?_
  rintro e w1 ⟨rfl, hb1⟩
  have A1 := Lib.hid ((((Below.refl _ _).alloc (Nat.le_refl _) _).alloc (by simp) _).trans (hb1.mono (by simp; omega)) : Below w.heap.size w w1)
  have FB1 := Lib.hid (((Cells.new w 24 #[.int .i64 a, .int .i64 s, .int .i64 k, .int .i64 t, .bool m, .int .u64 n]).alloc (.cells #[.int .i64 a1, .int .i64 s1, .int .i64 k1, .int .i64 t1, .bool m1, .int .u64 n1] 24)).kept hb1)
  have FC1 := Lib.hid ((Cells.at_ (w.alloc (.cells #[.int .i64 a, .int .i64 s, .int .i64 k, .int .i64 t, .bool m, .int .u64 n] 24)) 24 #[.int .i64 a1, .int .i64 s1, .int .i64 k1, .int .i64 t1, .bool m1, .int .u64 n1] (n := w.heap.size + 1) (by simp)).kept hb1)
  obtain ⟨q0, q1, q2, q3, q4, q5⟩ := (FB1.out).six
  obtain ⟨u0, u1, u2, u3, u4, u5⟩ := (FC1.out).six
  obtain ⟨f0, f1, f2, f3, f4, f5⟩ := FB1.out.free6
  obtain ⟨g0, g1, g2, g3, g4, g5⟩ := FC1.out.free6
  go_wp2_with fail
  refine (CK.out _).mono ?_
  rintro e w2 ⟨rfl, hb2⟩
  clear q0 q1 q2 q3 q4 q5 u0 u1 u2 u3 u4 u5
  clear f0 f1 f2 f3 f4 f5 g0 g1 g2 g3 g4 g5
  have A2 : Below w.heap.size w w2 := ((((A1.out.setCell (p := ⟨w.heap.size, 0, none⟩) (Nat.le_refl _) _).setCell (p := ⟨w.heap.size, 5, none⟩) (Nat.le_refl _) _).setCell (p := ⟨w.heap.size + 1, 0, none⟩) (by simp) _).setCell (p := ⟨w.heap.size + 1, 5, none⟩) (by simp) _).trans (hb2.mono (by simpa using A1.out.size))
  have FB2 : Cells w2 w.heap.size 24 #[.int .i64 0, .int .i64 s, .int .i64 k, .int .i64 t, .bool m, .int .u64 0] := by
    have := (((((FB1.out.set_ 0 (.int .i64 0)).set_ 5 (.int .u64 0)).far (p := ⟨w.heap.size + 1, 0, none⟩) (by simp) (.int .i64 0)).far (p := ⟨w.heap.size + 1, 5, none⟩) (by simp) (.int .u64 0))).kept hb2
    simpa using this
  have FC2 : Cells w2 (w.heap.size + 1) 24 #[.int .i64 0, .int .i64 s1, .int .i64 k1, .int .i64 t1, .bool m1, .int .u64 0] := by
    have := (((((FC1.out.far (p := ⟨w.heap.size, 0, none⟩) (by simp) (.int .i64 0)).far (p := ⟨w.heap.size, 5, none⟩) (by simp) (.int .u64 0)).set_ 0 (.int .i64 0)).set_ 5 (.int .u64 0))).kept hb2
    simpa using this
  clear hb1 hb2 FB1 FC1 A1
  have A2' := Lib.hid A2
  have FB2' := Lib.hid FB2
  have FC2' := Lib.hid FC2
  clear A2 FB2 FC2
  go_wp2_with fail
  refine (SX.out _).mono ?_
  rintro e w6 ⟨rfl, hb6⟩
  have A6 := Lib.hid (A2'.out.trans (hb6.mono A2'.out.size))
  obtain ⟨v0, v1, v2, v3, v4, v5⟩ := (Cells.new w6 24 #[.int .i64 0, .int .i64 s2, .int .i64 k2, .int .i64 t2, .bool m2, .int .u64 0]).six
  go_wp2_with fail
  refine (W2.out _).mono ?_
  rintro e w7 ⟨rfl, hb7⟩
  clear v0 v1 v2 v3 v4 v5
  have A7 := Lib.hid ((A6.out.alloc A6.out.size (.cells #[.int .i64 0, .int .i64 s2, .int .i64 k2, .int .i64 t2, .bool m2, .int .u64 0] 24)).trans (hb7.mono (by have := A6.out.size; simp; omega)))
  obtain ⟨v0, v1, v2, v3, v4, v5⟩ := ((Cells.new w6 24 #[.int .i64 0, .int .i64 s2, .int .i64 k2, .int .i64 t2, .bool m2, .int .u64 0]).kept hb7).six
  go_wp2_with fail
  refine (C2.out _).mono ?_
  rintro e w8 ⟨rfl, hb8⟩
  go_wp2
  go_ret
  exact ⟨rfl, A7.out.trans (hb8.mono A7.out.size)⟩

set_option maxRecDepth 100000 in
set_option maxHeartbeats 1000000 in
theorem one_Bn (w : World) (a s k t a1 s1 k1 t1 : Int) (m m1 : Bool) (n n1 : Int) (x : Nat) (r : Nat) (SX : Hid (∀ W : World, Calls Try.prog 23 #[.int .u64 (x : Nat)] W fun e w' => e = .returned (.tuple #[.agg #[.int .i64 0, .int .i64 0, .int .i64 0, .int .i64 0, .bool false, .int .u64 0], .int .i64 50]) ∧ Below W.heap.size W w')) (CK : Hid (∀ W : World, Calls Try.prog 20 #[.agg #[.int .i64 0, .int .i64 s, .int .i64 k, .int .i64 t, .bool m, .int .u64 0]] W fun e w' => e = .returned (.int .i64 0) ∧ Below W.heap.size W w')) (WD : Hid (∀ W : World, Calls Try.prog 18 #[.agg #[.int .i64 0, .int .i64 s, .int .i64 k, .int .i64 t, .bool m, .int .u64 0]] W fun e w' => e = .returned (.tuple #[.int .u64 (r : Nat), .int .i64 0]) ∧ Below W.heap.size W w')) (SP : Hid (∀ W : World, Calls Try.prog 23 #[.int .u64 (r : Nat)] W fun e w' => e = .returned (.tuple #[.agg #[.int .i64 0, .int .i64 s, .int .i64 k, .int .i64 t, .bool m, .int .u64 0], .int .i64 0]) ∧ Below W.heap.size W w')) (WC : Hid (∀ W : World, Calls Try.prog 18 #[.agg #[.int .i64 0, .int .i64 s1, .int .i64 k1, .int .i64 t1, .bool m1, .int .u64 0]] W fun e w' => e = .returned (.tuple #[.int .u64 0, .int .i64 8]) ∧ Below W.heap.size W w')) :
    Calls Try.prog 4 #[.agg #[.int .i64 a, .int .i64 s, .int .i64 k, .int .i64 t, .bool m, .int .u64 n], .agg #[.int .i64 a1, .int .i64 s1, .int .i64 k1, .int .i64 t1, .bool m1, .int .u64 n1], .int .u64 x] w fun e w' => e = .returned (.bool true) ∧ Below w.heap.size w w' := by
  go_enter Try.func4, Try.ntmps4
  go_wp2_with fail
  refine (alive14 _).mono ?_
  rintro e w1 ⟨rfl, hb1⟩
  have A1 := Lib.hid ((((Below.refl _ _).alloc (Nat.le_refl _) _).alloc (by simp) _).trans (hb1.mono (by simp; omega)) : Below w.heap.size w w1)
  have FB1 := Lib.hid (((Cells.new w 24 #[.int .i64 a, .int .i64 s, .int .i64 k, .int .i64 t, .bool m, .int .u64 n]).alloc (.cells #[.int .i64 a1, .int .i64 s1, .int .i64 k1, .int .i64 t1, .bool m1, .int .u64 n1] 24)).kept hb1)
  have FC1 := Lib.hid ((Cells.at_ (w.alloc (.cells #[.int .i64 a, .int .i64 s, .int .i64 k, .int .i64 t, .bool m, .int .u64 n] 24)) 24 #[.int .i64 a1, .int .i64 s1, .int .i64 k1, .int .i64 t1, .bool m1, .int .u64 n1] (n := w.heap.size + 1) (by simp)).kept hb1)
  obtain ⟨q0, q1, q2, q3, q4, q5⟩ := (FB1.out).six
  obtain ⟨u0, u1, u2, u3, u4, u5⟩ := (FC1.out).six
  obtain ⟨f0, f1, f2, f3, f4, f5⟩ := FB1.out.free6
  obtain ⟨g0, g1, g2, g3, g4, g5⟩ := FC1.out.free6
  go_wp2_with fail
  refine (CK.out _).mono ?_
  rintro e w2 ⟨rfl, hb2⟩
  clear q0 q1 q2 q3 q4 q5 u0 u1 u2 u3 u4 u5
  clear f0 f1 f2 f3 f4 f5 g0 g1 g2 g3 g4 g5
  have A2 : Below w.heap.size w w2 := ((((A1.out.setCell (p := ⟨w.heap.size, 0, none⟩) (Nat.le_refl _) _).setCell (p := ⟨w.heap.size, 5, none⟩) (Nat.le_refl _) _).setCell (p := ⟨w.heap.size + 1, 0, none⟩) (by simp) _).setCell (p := ⟨w.heap.size + 1, 5, none⟩) (by simp) _).trans (hb2.mono (by simpa using A1.out.size))
  have FB2 : Cells w2 w.heap.size 24 #[.int .i64 0, .int .i64 s, .int .i64 k, .int .i64 t, .bool m, .int .u64 0] := by
    have := (((((FB1.out.set_ 0 (.int .i64 0)).set_ 5 (.int .u64 0)).far (p := ⟨w.heap.size + 1, 0, none⟩) (by simp) (.int .i64 0)).far (p := ⟨w.heap.size + 1, 5, none⟩) (by simp) (.int .u64 0))).kept hb2
    simpa using this
  have FC2 : Cells w2 (w.heap.size + 1) 24 #[.int .i64 0, .int .i64 s1, .int .i64 k1, .int .i64 t1, .bool m1, .int .u64 0] := by
    have := (((((FC1.out.far (p := ⟨w.heap.size, 0, none⟩) (by simp) (.int .i64 0)).far (p := ⟨w.heap.size, 5, none⟩) (by simp) (.int .u64 0)).set_ 0 (.int .i64 0)).set_ 5 (.int .u64 0))).kept hb2
    simpa using this
  clear hb1 hb2 FB1 FC1 A1
  have A2' := Lib.hid A2
  have FB2' := Lib.hid FB2
  have FC2' := Lib.hid FC2
  clear A2 FB2 FC2
  obtain ⟨q0, q1, q2, q3, q4, q5⟩ := (FB2'.out).six
  go_wp2_with fail
  refine (WD.out _).mono ?_
  rintro e w3 ⟨rfl, hb3⟩
  clear q0 q1 q2 q3 q4 q5
  have A3 := A2'.out.trans (hb3.mono A2'.out.size)
  have FB3 := FB2'.out.kept hb3
  have FC3 := FC2'.out.kept hb3
  clear hb3
  have A3' := Lib.hid A3
  have FB3' := Lib.hid FB3
  have FC3' := Lib.hid FC3
  clear A3 FB3 FC3
  go_wp2_with fail
  refine (SP.out _).mono ?_
  rintro e w4 ⟨rfl, hb4⟩
  have A4 := A3'.out.trans (hb4.mono A3'.out.size)
  have FB4 := FB3'.out.kept hb4
  have FC4 := FC3'.out.kept hb4
  clear hb4
  have A4' := Lib.hid A4
  have FB4' := Lib.hid FB4
  have FC4' := Lib.hid FC4
  clear A4 FB4 FC4
  obtain ⟨q0, q1, q2, q3, q4, q5⟩ := (FB4'.out.alloc (.cells #[.int .i64 0, .int .i64 s, .int .i64 k, .int .i64 t, .bool m, .int .u64 0] 24)).six
  obtain ⟨u0, u1, u2, u3, u4, u5⟩ := (FC4'.out.alloc (.cells #[.int .i64 0, .int .i64 s, .int .i64 k, .int .i64 t, .bool m, .int .u64 0] 24)).six
  obtain ⟨v0, v1, v2, v3, v4, v5⟩ := (Cells.new w4 24 #[.int .i64 0, .int .i64 s, .int .i64 k, .int .i64 t, .bool m, .int .u64 0]).six
  go_wp2_with fail
  refine (WC.out _).mono ?_
  rintro e w5 ⟨rfl, hb5⟩
  clear q0 q1 q2 q3 q4 q5 u0 u1 u2 u3 u4 u5 v0 v1 v2 v3 v4 v5
  have A5 := (A4'.out.alloc A4'.out.size (.cells #[.int .i64 0, .int .i64 s, .int .i64 k, .int .i64 t, .bool m, .int .u64 0] 24)).trans (hb5.mono (by have := A4'.out.size; simp; omega))
  have FB5 := (FB4'.out.alloc (.cells #[.int .i64 0, .int .i64 s, .int .i64 k, .int .i64 t, .bool m, .int .u64 0] 24)).kept hb5
  have FC5 := (FC4'.out.alloc (.cells #[.int .i64 0, .int .i64 s, .int .i64 k, .int .i64 t, .bool m, .int .u64 0] 24)).kept hb5
  clear hb5
  have A5' := Lib.hid A5
  have FB5' := Lib.hid FB5
  have FC5' := Lib.hid FC5
  clear A5 FB5 FC5
  obtain ⟨q0, q1, q2, q3, q4, q5⟩ := (FB5'.out).six
  obtain ⟨u0, u1, u2, u3, u4, u5⟩ := (FC5'.out).six
  go_wp2_with fail
  refine (SX.out _).mono ?_
  rintro e w6 ⟨rfl, hb6⟩
  clear q0 q1 q2 q3 q4 q5 u0 u1 u2 u3 u4 u5
  have A6 := Lib.hid (A5'.out.trans (hb6.mono A5'.out.size))
  obtain ⟨v0, v1, v2, v3, v4, v5⟩ := (Cells.new w6 24 #[.int .i64 0, .int .i64 0, .int .i64 0, .int .i64 0, .bool false, .int .u64 0]).six
  go_wp2
  go_ret
  exact ⟨rfl, A6.out.alloc A6.out.size _⟩

set_option maxRecDepth 100000 in
set_option maxHeartbeats 1000000 in
theorem one_Bs (w : World) (a s k t a1 s1 k1 t1 : Int) (m m1 : Bool) (n n1 : Int) (x : Nat) (s2 k2 t2 : Int) (m2 : Bool) (r : Nat) (SX : Hid (∀ W : World, Calls Try.prog 23 #[.int .u64 (x : Nat)] W fun e w' => e = .returned (.tuple #[.agg #[.int .i64 0, .int .i64 s2, .int .i64 k2, .int .i64 t2, .bool m2, .int .u64 0], .int .i64 0]) ∧ Below W.heap.size W w')) (W2 : Hid (∀ W : World, Calls Try.prog 18 #[.agg #[.int .i64 0, .int .i64 s2, .int .i64 k2, .int .i64 t2, .bool m2, .int .u64 0]] W fun e w' => e = .returned (.tuple #[.int .u64 (x : Nat), .int .i64 0]) ∧ Below W.heap.size W w')) (C2 : Hid (∀ W : World, Calls Try.prog 20 #[.agg #[.int .i64 0, .int .i64 s2, .int .i64 k2, .int .i64 t2, .bool m2, .int .u64 0]] W fun e w' => e = .returned (.int .i64 0) ∧ Below W.heap.size W w')) (CK : Hid (∀ W : World, Calls Try.prog 20 #[.agg #[.int .i64 0, .int .i64 s, .int .i64 k, .int .i64 t, .bool m, .int .u64 0]] W fun e w' => e = .returned (.int .i64 0) ∧ Below W.heap.size W w')) (WD : Hid (∀ W : World, Calls Try.prog 18 #[.agg #[.int .i64 0, .int .i64 s, .int .i64 k, .int .i64 t, .bool m, .int .u64 0]] W fun e w' => e = .returned (.tuple #[.int .u64 (r : Nat), .int .i64 0]) ∧ Below W.heap.size W w')) (SP : Hid (∀ W : World, Calls Try.prog 23 #[.int .u64 (r : Nat)] W fun e w' => e = .returned (.tuple #[.agg #[.int .i64 0, .int .i64 s, .int .i64 k, .int .i64 t, .bool m, .int .u64 0], .int .i64 0]) ∧ Below W.heap.size W w')) (WC : Hid (∀ W : World, Calls Try.prog 18 #[.agg #[.int .i64 0, .int .i64 s1, .int .i64 k1, .int .i64 t1, .bool m1, .int .u64 0]] W fun e w' => e = .returned (.tuple #[.int .u64 0, .int .i64 8]) ∧ Below W.heap.size W w')) :
    Calls Try.prog 4 #[.agg #[.int .i64 a, .int .i64 s, .int .i64 k, .int .i64 t, .bool m, .int .u64 n], .agg #[.int .i64 a1, .int .i64 s1, .int .i64 k1, .int .i64 t1, .bool m1, .int .u64 n1], .int .u64 x] w fun e w' => e = .returned (.bool true) ∧ Below w.heap.size w w' := by
  go_enter Try.func4, Try.ntmps4
  go_wp2_with fail
  refine (alive14 _).mono ?_
  rintro e w1 ⟨rfl, hb1⟩
  have A1 := Lib.hid ((((Below.refl _ _).alloc (Nat.le_refl _) _).alloc (by simp) _).trans (hb1.mono (by simp; omega)) : Below w.heap.size w w1)
  have FB1 := Lib.hid (((Cells.new w 24 #[.int .i64 a, .int .i64 s, .int .i64 k, .int .i64 t, .bool m, .int .u64 n]).alloc (.cells #[.int .i64 a1, .int .i64 s1, .int .i64 k1, .int .i64 t1, .bool m1, .int .u64 n1] 24)).kept hb1)
  have FC1 := Lib.hid ((Cells.at_ (w.alloc (.cells #[.int .i64 a, .int .i64 s, .int .i64 k, .int .i64 t, .bool m, .int .u64 n] 24)) 24 #[.int .i64 a1, .int .i64 s1, .int .i64 k1, .int .i64 t1, .bool m1, .int .u64 n1] (n := w.heap.size + 1) (by simp)).kept hb1)
  obtain ⟨q0, q1, q2, q3, q4, q5⟩ := (FB1.out).six
  obtain ⟨u0, u1, u2, u3, u4, u5⟩ := (FC1.out).six
  obtain ⟨f0, f1, f2, f3, f4, f5⟩ := FB1.out.free6
  obtain ⟨g0, g1, g2, g3, g4, g5⟩ := FC1.out.free6
  go_wp2_with fail
  refine (CK.out _).mono ?_
  rintro e w2 ⟨rfl, hb2⟩
  clear q0 q1 q2 q3 q4 q5 u0 u1 u2 u3 u4 u5
  clear f0 f1 f2 f3 f4 f5 g0 g1 g2 g3 g4 g5
  have A2 : Below w.heap.size w w2 := ((((A1.out.setCell (p := ⟨w.heap.size, 0, none⟩) (Nat.le_refl _) _).setCell (p := ⟨w.heap.size, 5, none⟩) (Nat.le_refl _) _).setCell (p := ⟨w.heap.size + 1, 0, none⟩) (by simp) _).setCell (p := ⟨w.heap.size + 1, 5, none⟩) (by simp) _).trans (hb2.mono (by simpa using A1.out.size))
  have FB2 : Cells w2 w.heap.size 24 #[.int .i64 0, .int .i64 s, .int .i64 k, .int .i64 t, .bool m, .int .u64 0] := by
    have := (((((FB1.out.set_ 0 (.int .i64 0)).set_ 5 (.int .u64 0)).far (p := ⟨w.heap.size + 1, 0, none⟩) (by simp) (.int .i64 0)).far (p := ⟨w.heap.size + 1, 5, none⟩) (by simp) (.int .u64 0))).kept hb2
    simpa using this
  have FC2 : Cells w2 (w.heap.size + 1) 24 #[.int .i64 0, .int .i64 s1, .int .i64 k1, .int .i64 t1, .bool m1, .int .u64 0] := by
    have := (((((FC1.out.far (p := ⟨w.heap.size, 0, none⟩) (by simp) (.int .i64 0)).far (p := ⟨w.heap.size, 5, none⟩) (by simp) (.int .u64 0)).set_ 0 (.int .i64 0)).set_ 5 (.int .u64 0))).kept hb2
    simpa using this
  clear hb1 hb2 FB1 FC1 A1
  have A2' := Lib.hid A2
  have FB2' := Lib.hid FB2
  have FC2' := Lib.hid FC2
  clear A2 FB2 FC2
  obtain ⟨q0, q1, q2, q3, q4, q5⟩ := (FB2'.out).six
  go_wp2_with fail
  refine (WD.out _).mono ?_
  rintro e w3 ⟨rfl, hb3⟩
  clear q0 q1 q2 q3 q4 q5
  have A3 := A2'.out.trans (hb3.mono A2'.out.size)
  have FB3 := FB2'.out.kept hb3
  have FC3 := FC2'.out.kept hb3
  clear hb3
  have A3' := Lib.hid A3
  have FB3' := Lib.hid FB3
  have FC3' := Lib.hid FC3
  clear A3 FB3 FC3
  go_wp2_with fail
  refine (SP.out _).mono ?_
  rintro e w4 ⟨rfl, hb4⟩
  have A4 := A3'.out.trans (hb4.mono A3'.out.size)
  have FB4 := FB3'.out.kept hb4
  have FC4 := FC3'.out.kept hb4
  clear hb4
  have A4' := Lib.hid A4
  have FB4' := Lib.hid FB4
  have FC4' := Lib.hid FC4
  clear A4 FB4 FC4
  obtain ⟨q0, q1, q2, q3, q4, q5⟩ := (FB4'.out.alloc (.cells #[.int .i64 0, .int .i64 s, .int .i64 k, .int .i64 t, .bool m, .int .u64 0] 24)).six
  obtain ⟨u0, u1, u2, u3, u4, u5⟩ := (FC4'.out.alloc (.cells #[.int .i64 0, .int .i64 s, .int .i64 k, .int .i64 t, .bool m, .int .u64 0] 24)).six
  obtain ⟨v0, v1, v2, v3, v4, v5⟩ := (Cells.new w4 24 #[.int .i64 0, .int .i64 s, .int .i64 k, .int .i64 t, .bool m, .int .u64 0]).six
  go_wp2_with fail
  refine (WC.out _).mono ?_
  rintro e w5 ⟨rfl, hb5⟩
  clear q0 q1 q2 q3 q4 q5 u0 u1 u2 u3 u4 u5 v0 v1 v2 v3 v4 v5
  have A5 := (A4'.out.alloc A4'.out.size (.cells #[.int .i64 0, .int .i64 s, .int .i64 k, .int .i64 t, .bool m, .int .u64 0] 24)).trans (hb5.mono (by have := A4'.out.size; simp; omega))
  have FB5 := (FB4'.out.alloc (.cells #[.int .i64 0, .int .i64 s, .int .i64 k, .int .i64 t, .bool m, .int .u64 0] 24)).kept hb5
  have FC5 := (FC4'.out.alloc (.cells #[.int .i64 0, .int .i64 s, .int .i64 k, .int .i64 t, .bool m, .int .u64 0] 24)).kept hb5
  clear hb5
  have A5' := Lib.hid A5
  have FB5' := Lib.hid FB5
  have FC5' := Lib.hid FC5
  clear A5 FB5 FC5
  obtain ⟨q0, q1, q2, q3, q4, q5⟩ := (FB5'.out).six
  obtain ⟨u0, u1, u2, u3, u4, u5⟩ := (FC5'.out).six
  go_wp2_with fail
  refine (SX.out _).mono ?_
  rintro e w6 ⟨rfl, hb6⟩
  clear q0 q1 q2 q3 q4 q5 u0 u1 u2 u3 u4 u5
  have A6 := Lib.hid (A5'.out.trans (hb6.mono A5'.out.size))
  obtain ⟨v0, v1, v2, v3, v4, v5⟩ := (Cells.new w6 24 #[.int .i64 0, .int .i64 s2, .int .i64 k2, .int .i64 t2, .bool m2, .int .u64 0]).six
  go_wp2_with fail
  refine (W2.out _).mono ?_
  rintro e w7 ⟨rfl, hb7⟩
  clear v0 v1 v2 v3 v4 v5
  have A7 := Lib.hid ((A6.out.alloc A6.out.size (.cells #[.int .i64 0, .int .i64 s2, .int .i64 k2, .int .i64 t2, .bool m2, .int .u64 0] 24)).trans (hb7.mono (by have := A6.out.size; simp; omega)))
  obtain ⟨v0, v1, v2, v3, v4, v5⟩ := ((Cells.new w6 24 #[.int .i64 0, .int .i64 s2, .int .i64 k2, .int .i64 t2, .bool m2, .int .u64 0]).kept hb7).six
  go_wp2_with fail
  refine (C2.out _).mono ?_
  rintro e w8 ⟨rfl, hb8⟩
  go_wp2
  go_ret
  exact ⟨rfl, A7.out.trans (hb8.mono A7.out.size)⟩

set_option maxRecDepth 100000 in
set_option maxHeartbeats 1000000 in
theorem one_Cn (w : World) (a s k t a1 s1 k1 t1 : Int) (m m1 : Bool) (n n1 : Int) (x : Nat) (r : Nat) (r1 : Nat) (SX : Hid (∀ W : World, Calls Try.prog 23 #[.int .u64 (x : Nat)] W fun e w' => e = .returned (.tuple #[.agg #[.int .i64 0, .int .i64 0, .int .i64 0, .int .i64 0, .bool false, .int .u64 0], .int .i64 50]) ∧ Below W.heap.size W w')) (CK : Hid (∀ W : World, Calls Try.prog 20 #[.agg #[.int .i64 0, .int .i64 s, .int .i64 k, .int .i64 t, .bool m, .int .u64 0]] W fun e w' => e = .returned (.int .i64 0) ∧ Below W.heap.size W w')) (WD : Hid (∀ W : World, Calls Try.prog 18 #[.agg #[.int .i64 0, .int .i64 s, .int .i64 k, .int .i64 t, .bool m, .int .u64 0]] W fun e w' => e = .returned (.tuple #[.int .u64 (r : Nat), .int .i64 0]) ∧ Below W.heap.size W w')) (SP : Hid (∀ W : World, Calls Try.prog 23 #[.int .u64 (r : Nat)] W fun e w' => e = .returned (.tuple #[.agg #[.int .i64 0, .int .i64 s, .int .i64 k, .int .i64 t, .bool m, .int .u64 0], .int .i64 0]) ∧ Below W.heap.size W w')) (WC : Hid (∀ W : World, Calls Try.prog 18 #[.agg #[.int .i64 0, .int .i64 s1, .int .i64 k1, .int .i64 t1, .bool m1, .int .u64 0]] W fun e w' => e = .returned (.tuple #[.int .u64 (r1 : Nat), .int .i64 0]) ∧ Below W.heap.size W w')) (hxy : (((r : Nat) : Int) == ((r1 : Nat) : Int)) = false) (he : ∀ W : World, (binOp .eql 24 (.agg #[.int .i64 0, .int .i64 s, .int .i64 k, .int .i64 t, .bool m, .int .u64 0]) (.agg #[.int .i64 0, .int .i64 s1, .int .i64 k1, .int .i64 t1, .bool m1, .int .u64 0])).run Try.prog W = .ok (.bool false) W) :
    Calls Try.prog 4 #[.agg #[.int .i64 a, .int .i64 s, .int .i64 k, .int .i64 t, .bool m, .int .u64 n], .agg #[.int .i64 a1, .int .i64 s1, .int .i64 k1, .int .i64 t1, .bool m1, .int .u64 n1], .int .u64 x] w fun e w' => e = .returned (.bool true) ∧ Below w.heap.size w w' := by
  go_enter Try.func4, Try.ntmps4
  go_wp2_with fail
  refine (alive14 _).mono ?_
  rintro e w1 ⟨rfl, hb1⟩
  have A1 := Lib.hid ((((Below.refl _ _).alloc (Nat.le_refl _) _).alloc (by simp) _).trans (hb1.mono (by simp; omega)) : Below w.heap.size w w1)
  have FB1 := Lib.hid (((Cells.new w 24 #[.int .i64 a, .int .i64 s, .int .i64 k, .int .i64 t, .bool m, .int .u64 n]).alloc (.cells #[.int .i64 a1, .int .i64 s1, .int .i64 k1, .int .i64 t1, .bool m1, .int .u64 n1] 24)).kept hb1)
  have FC1 := Lib.hid ((Cells.at_ (w.alloc (.cells #[.int .i64 a, .int .i64 s, .int .i64 k, .int .i64 t, .bool m, .int .u64 n] 24)) 24 #[.int .i64 a1, .int .i64 s1, .int .i64 k1, .int .i64 t1, .bool m1, .int .u64 n1] (n := w.heap.size + 1) (by simp)).kept hb1)
  obtain ⟨q0, q1, q2, q3, q4, q5⟩ := (FB1.out).six
  obtain ⟨u0, u1, u2, u3, u4, u5⟩ := (FC1.out).six
  obtain ⟨f0, f1, f2, f3, f4, f5⟩ := FB1.out.free6
  obtain ⟨g0, g1, g2, g3, g4, g5⟩ := FC1.out.free6
  go_wp2_with fail
  refine (CK.out _).mono ?_
  rintro e w2 ⟨rfl, hb2⟩
  clear q0 q1 q2 q3 q4 q5 u0 u1 u2 u3 u4 u5
  clear f0 f1 f2 f3 f4 f5 g0 g1 g2 g3 g4 g5
  have A2 : Below w.heap.size w w2 := ((((A1.out.setCell (p := ⟨w.heap.size, 0, none⟩) (Nat.le_refl _) _).setCell (p := ⟨w.heap.size, 5, none⟩) (Nat.le_refl _) _).setCell (p := ⟨w.heap.size + 1, 0, none⟩) (by simp) _).setCell (p := ⟨w.heap.size + 1, 5, none⟩) (by simp) _).trans (hb2.mono (by simpa using A1.out.size))
  have FB2 : Cells w2 w.heap.size 24 #[.int .i64 0, .int .i64 s, .int .i64 k, .int .i64 t, .bool m, .int .u64 0] := by
    have := (((((FB1.out.set_ 0 (.int .i64 0)).set_ 5 (.int .u64 0)).far (p := ⟨w.heap.size + 1, 0, none⟩) (by simp) (.int .i64 0)).far (p := ⟨w.heap.size + 1, 5, none⟩) (by simp) (.int .u64 0))).kept hb2
    simpa using this
  have FC2 : Cells w2 (w.heap.size + 1) 24 #[.int .i64 0, .int .i64 s1, .int .i64 k1, .int .i64 t1, .bool m1, .int .u64 0] := by
    have := (((((FC1.out.far (p := ⟨w.heap.size, 0, none⟩) (by simp) (.int .i64 0)).far (p := ⟨w.heap.size, 5, none⟩) (by simp) (.int .u64 0)).set_ 0 (.int .i64 0)).set_ 5 (.int .u64 0))).kept hb2
    simpa using this
  clear hb1 hb2 FB1 FC1 A1
  have A2' := Lib.hid A2
  have FB2' := Lib.hid FB2
  have FC2' := Lib.hid FC2
  clear A2 FB2 FC2
  obtain ⟨q0, q1, q2, q3, q4, q5⟩ := (FB2'.out).six
  go_wp2_with fail
  refine (WD.out _).mono ?_
  rintro e w3 ⟨rfl, hb3⟩
  clear q0 q1 q2 q3 q4 q5
  have A3 := A2'.out.trans (hb3.mono A2'.out.size)
  have FB3 := FB2'.out.kept hb3
  have FC3 := FC2'.out.kept hb3
  clear hb3
  have A3' := Lib.hid A3
  have FB3' := Lib.hid FB3
  have FC3' := Lib.hid FC3
  clear A3 FB3 FC3
  go_wp2_with fail
  refine (SP.out _).mono ?_
  rintro e w4 ⟨rfl, hb4⟩
  have A4 := A3'.out.trans (hb4.mono A3'.out.size)
  have FB4 := FB3'.out.kept hb4
  have FC4 := FC3'.out.kept hb4
  clear hb4
  have A4' := Lib.hid A4
  have FB4' := Lib.hid FB4
  have FC4' := Lib.hid FC4
  clear A4 FB4 FC4
  obtain ⟨q0, q1, q2, q3, q4, q5⟩ := (FB4'.out.alloc (.cells #[.int .i64 0, .int .i64 s, .int .i64 k, .int .i64 t, .bool m, .int .u64 0] 24)).six
  obtain ⟨u0, u1, u2, u3, u4, u5⟩ := (FC4'.out.alloc (.cells #[.int .i64 0, .int .i64 s, .int .i64 k, .int .i64 t, .bool m, .int .u64 0] 24)).six
  obtain ⟨v0, v1, v2, v3, v4, v5⟩ := (Cells.new w4 24 #[.int .i64 0, .int .i64 s, .int .i64 k, .int .i64 t, .bool m, .int .u64 0]).six
  go_wp2_with fail
  refine (WC.out _).mono ?_
  rintro e w5 ⟨rfl, hb5⟩
  clear q0 q1 q2 q3 q4 q5 u0 u1 u2 u3 u4 u5 v0 v1 v2 v3 v4 v5
  have A5 := (A4'.out.alloc A4'.out.size (.cells #[.int .i64 0, .int .i64 s, .int .i64 k, .int .i64 t, .bool m, .int .u64 0] 24)).trans (hb5.mono (by have := A4'.out.size; simp; omega))
  have FB5 := (FB4'.out.alloc (.cells #[.int .i64 0, .int .i64 s, .int .i64 k, .int .i64 t, .bool m, .int .u64 0] 24)).kept hb5
  have FC5 := (FC4'.out.alloc (.cells #[.int .i64 0, .int .i64 s, .int .i64 k, .int .i64 t, .bool m, .int .u64 0] 24)).kept hb5
  clear hb5
  have A5' := Lib.hid A5
  have FB5' := Lib.hid FB5
  have FC5' := Lib.hid FC5
  clear A5 FB5 FC5
  obtain ⟨q0, q1, q2, q3, q4, q5⟩ := (FB5'.out).six
  obtain ⟨u0, u1, u2, u3, u4, u5⟩ := (FC5'.out).six
  go_wp2_with fail
  refine (SX.out _).mono ?_
  rintro e w6 ⟨rfl, hb6⟩
  clear q0 q1 q2 q3 q4 q5 u0 u1 u2 u3 u4 u5
  have A6 := Lib.hid (A5'.out.trans (hb6.mono A5'.out.size))
  obtain ⟨v0, v1, v2, v3, v4, v5⟩ := (Cells.new w6 24 #[.int .i64 0, .int .i64 0, .int .i64 0, .int .i64 0, .bool false, .int .u64 0]).six
  go_wp2
  go_ret
  exact ⟨rfl, A6.out.alloc A6.out.size _⟩

set_option maxRecDepth 100000 in
set_option maxHeartbeats 1000000 in
theorem one_Cs (w : World) (a s k t a1 s1 k1 t1 : Int) (m m1 : Bool) (n n1 : Int) (x : Nat) (s2 k2 t2 : Int) (m2 : Bool) (r : Nat) (r1 : Nat) (SX : Hid (∀ W : World, Calls Try.prog 23 #[.int .u64 (x : Nat)] W fun e w' => e = .returned (.tuple #[.agg #[.int .i64 0, .int .i64 s2, .int .i64 k2, .int .i64 t2, .bool m2, .int .u64 0], .int .i64 0]) ∧ Below W.heap.size W w')) (W2 : Hid (∀ W : World, Calls Try.prog 18 #[.agg #[.int .i64 0, .int .i64 s2, .int .i64 k2, .int .i64 t2, .bool m2, .int .u64 0]] W fun e w' => e = .returned (.tuple #[.int .u64 (x : Nat), .int .i64 0]) ∧ Below W.heap.size W w')) (C2 : Hid (∀ W : World, Calls Try.prog 20 #[.agg #[.int .i64 0, .int .i64 s2, .int .i64 k2, .int .i64 t2, .bool m2, .int .u64 0]] W fun e w' => e = .returned (.int .i64 0) ∧ Below W.heap.size W w')) (CK : Hid (∀ W : World, Calls Try.prog 20 #[.agg #[.int .i64 0, .int .i64 s, .int .i64 k, .int .i64 t, .bool m, .int .u64 0]] W fun e w' => e = .returned (.int .i64 0) ∧ Below W.heap.size W w')) (WD : Hid (∀ W : World, Calls Try.prog 18 #[.agg #[.int .i64 0, .int .i64 s, .int .i64 k, .int .i64 t, .bool m, .int .u64 0]] W fun e w' => e = .returned (.tuple #[.int .u64 (r : Nat), .int .i64 0]) ∧ Below W.heap.size W w')) (SP : Hid (∀ W : World, Calls Try.prog 23 #[.int .u64 (r : Nat)] W fun e w' => e = .returned (.tuple #[.agg #[.int .i64 0, .int .i64 s, .int .i64 k, .int .i64 t, .bool m, .int .u64 0], .int .i64 0]) ∧ Below W.heap.size W w')) (WC : Hid (∀ W : World, Calls Try.prog 18 #[.agg #[.int .i64 0, .int .i64 s1, .int .i64 k1, .int .i64 t1, .bool m1, .int .u64 0]] W fun e w' => e = .returned (.tuple #[.int .u64 (r1 : Nat), .int .i64 0]) ∧ Below W.heap.size W w')) (hxy : (((r : Nat) : Int) == ((r1 : Nat) : Int)) = false) (he : ∀ W : World, (binOp .eql 24 (.agg #[.int .i64 0, .int .i64 s, .int .i64 k, .int .i64 t, .bool m, .int .u64 0]) (.agg #[.int .i64 0, .int .i64 s1, .int .i64 k1, .int .i64 t1, .bool m1, .int .u64 0])).run Try.prog W = .ok (.bool false) W) :
    Calls Try.prog 4 #[.agg #[.int .i64 a, .int .i64 s, .int .i64 k, .int .i64 t, .bool m, .int .u64 n], .agg #[.int .i64 a1, .int .i64 s1, .int .i64 k1, .int .i64 t1, .bool m1, .int .u64 n1], .int .u64 x] w fun e w' => e = .returned (.bool true) ∧ Below w.heap.size w w' := by
  go_enter Try.func4, Try.ntmps4
  go_wp2_with fail
  refine (alive14 _).mono ?_
  rintro e w1 ⟨rfl, hb1⟩
  have A1 := Lib.hid ((((Below.refl _ _).alloc (Nat.le_refl _) _).alloc (by simp) _).trans (hb1.mono (by simp; omega)) : Below w.heap.size w w1)
  have FB1 := Lib.hid (((Cells.new w 24 #[.int .i64 a, .int .i64 s, .int .i64 k, .int .i64 t, .bool m, .int .u64 n]).alloc (.cells #[.int .i64 a1, .int .i64 s1, .int .i64 k1, .int .i64 t1, .bool m1, .int .u64 n1] 24)).kept hb1)
  have FC1 := Lib.hid ((Cells.at_ (w.alloc (.cells #[.int .i64 a, .int .i64 s, .int .i64 k, .int .i64 t, .bool m, .int .u64 n] 24)) 24 #[.int .i64 a1, .int .i64 s1, .int .i64 k1, .int .i64 t1, .bool m1, .int .u64 n1] (n := w.heap.size + 1) (by simp)).kept hb1)
  obtain ⟨q0, q1, q2, q3, q4, q5⟩ := (FB1.out).six
  obtain ⟨u0, u1, u2, u3, u4, u5⟩ := (FC1.out).six
  obtain ⟨f0, f1, f2, f3, f4, f5⟩ := FB1.out.free6
  obtain ⟨g0, g1, g2, g3, g4, g5⟩ := FC1.out.free6
  go_wp2_with fail
  refine (CK.out _).mono ?_
  rintro e w2 ⟨rfl, hb2⟩
  clear q0 q1 q2 q3 q4 q5 u0 u1 u2 u3 u4 u5
  clear f0 f1 f2 f3 f4 f5 g0 g1 g2 g3 g4 g5
  have A2 : Below w.heap.size w w2 := ((((A1.out.setCell (p := ⟨w.heap.size, 0, none⟩) (Nat.le_refl _) _).setCell (p := ⟨w.heap.size, 5, none⟩) (Nat.le_refl _) _).setCell (p := ⟨w.heap.size + 1, 0, none⟩) (by simp) _).setCell (p := ⟨w.heap.size + 1, 5, none⟩) (by simp) _).trans (hb2.mono (by simpa using A1.out.size))
  have FB2 : Cells w2 w.heap.size 24 #[.int .i64 0, .int .i64 s, .int .i64 k, .int .i64 t, .bool m, .int .u64 0] := by
    have := (((((FB1.out.set_ 0 (.int .i64 0)).set_ 5 (.int .u64 0)).far (p := ⟨w.heap.size + 1, 0, none⟩) (by simp) (.int .i64 0)).far (p := ⟨w.heap.size + 1, 5, none⟩) (by simp) (.int .u64 0))).kept hb2
    simpa using this
  have FC2 : Cells w2 (w.heap.size + 1) 24 #[.int .i64 0, .int .i64 s1, .int .i64 k1, .int .i64 t1, .bool m1, .int .u64 0] := by
    have := (((((FC1.out.far (p := ⟨w.heap.size, 0, none⟩) (by simp) (.int .i64 0)).far (p := ⟨w.heap.size, 5, none⟩) (by simp) (.int .u64 0)).set_ 0 (.int .i64 0)).set_ 5 (.int .u64 0))).kept hb2
    simpa using this
  clear hb1 hb2 FB1 FC1 A1
  have A2' := Lib.hid A2
  have FB2' := Lib.hid FB2
  have FC2' := Lib.hid FC2
  clear A2 FB2 FC2
  obtain ⟨q0, q1, q2, q3, q4, q5⟩ := (FB2'.out).six
  go_wp2_with fail
  refine (WD.out _).mono ?_
  rintro e w3 ⟨rfl, hb3⟩
  clear q0 q1 q2 q3 q4 q5
  have A3 := A2'.out.trans (hb3.mono A2'.out.size)
  have FB3 := FB2'.out.kept hb3
  have FC3 := FC2'.out.kept hb3
  clear hb3
  have A3' := Lib.hid A3
  have FB3' := Lib.hid FB3
  have FC3' := Lib.hid FC3
  clear A3 FB3 FC3
  go_wp2_with fail
  refine (SP.out _).mono ?_
  rintro e w4 ⟨rfl, hb4⟩
  have A4 := A3'.out.trans (hb4.mono A3'.out.size)
  have FB4 := FB3'.out.kept hb4
  have FC4 := FC3'.out.kept hb4
  clear hb4
  have A4' := Lib.hid A4
  have FB4' := Lib.hid FB4
  have FC4' := Lib.hid FC4
  clear A4 FB4 FC4
  obtain ⟨q0, q1, q2, q3, q4, q5⟩ := (FB4'.out.alloc (.cells #[.int .i64 0, .int .i64 s, .int .i64 k, .int .i64 t, .bool m, .int .u64 0] 24)).six
  obtain ⟨u0, u1, u2, u3, u4, u5⟩ := (FC4'.out.alloc (.cells #[.int .i64 0, .int .i64 s, .int .i64 k, .int .i64 t, .bool m, .int .u64 0] 24)).six
  obtain ⟨v0, v1, v2, v3, v4, v5⟩ := (Cells.new w4 24 #[.int .i64 0, .int .i64 s, .int .i64 k, .int .i64 t, .bool m, .int .u64 0]).six
  go_wp2_with fail
  refine (WC.out _).mono ?_
  rintro e w5 ⟨rfl, hb5⟩
  clear q0 q1 q2 q3 q4 q5 u0 u1 u2 u3 u4 u5 v0 v1 v2 v3 v4 v5
  have A5 := (A4'.out.alloc A4'.out.size (.cells #[.int .i64 0, .int .i64 s, .int .i64 k, .int .i64 t, .bool m, .int .u64 0] 24)).trans (hb5.mono (by have := A4'.out.size; simp; omega))
  have FB5 := (FB4'.out.alloc (.cells #[.int .i64 0, .int .i64 s, .int .i64 k, .int .i64 t, .bool m, .int .u64 0] 24)).kept hb5
  have FC5 := (FC4'.out.alloc (.cells #[.int .i64 0, .int .i64 s, .int .i64 k, .int .i64 t, .bool m, .int .u64 0] 24)).kept hb5
  clear hb5
  have A5' := Lib.hid A5
  have FB5' := Lib.hid FB5
  have FC5' := Lib.hid FC5
  clear A5 FB5 FC5
  obtain ⟨q0, q1, q2, q3, q4, q5⟩ := (FB5'.out).six
  obtain ⟨u0, u1, u2, u3, u4, u5⟩ := (FC5'.out).six
  go_wp2_with fail
  refine (SX.out _).mono ?_
  rintro e w6 ⟨rfl, hb6⟩
  clear q0 q1 q2 q3 q4 q5 u0 u1 u2 u3 u4 u5
  have A6 := Lib.hid (A5'.out.trans (hb6.mono A5'.out.size))
  obtain ⟨v0, v1, v2, v3, v4, v5⟩ := (Cells.new w6 24 #[.int .i64 0, .int .i64 s2, .int .i64 k2, .int .i64 t2, .bool m2, .int .u64 0]).six
  go_wp2_with fail
  refine (W2.out _).mono ?_
  rintro e w7 ⟨rfl, hb7⟩
  clear v0 v1 v2 v3 v4 v5
  have A7 := Lib.hid ((A6.out.alloc A6.out.size (.cells #[.int .i64 0, .int .i64 s2, .int .i64 k2, .int .i64 t2, .bool m2, .int .u64 0] 24)).trans (hb7.mono (by have := A6.out.size; simp; omega)))
  obtain ⟨v0, v1, v2, v3, v4, v5⟩ := ((Cells.new w6 24 #[.int .i64 0, .int .i64 s2, .int .i64 k2, .int .i64 t2, .bool m2, .int .u64 0]).kept hb7).six
  go_wp2_with fail
  refine (C2.out _).mono ?_
  rintro e w8 ⟨rfl, hb8⟩
  go_wp2
  go_ret
  exact ⟨rfl, A7.out.trans (hb8.mono A7.out.size)⟩

set_option maxRecDepth 100000 in
set_option maxHeartbeats 1000000 in
theorem one_Dn (w : World) (a s k t a1 : Int) (m : Bool) (n n1 : Int) (x : Nat) (r : Nat) (SX : Hid (∀ W : World, Calls Try.prog 23 #[.int .u64 (x : Nat)] W fun e w' => e = .returned (.tuple #[.agg #[.int .i64 0, .int .i64 0, .int .i64 0, .int .i64 0, .bool false, .int .u64 0], .int .i64 50]) ∧ Below W.heap.size W w')) (CK : Hid (∀ W : World, Calls Try.prog 20 #[.agg #[.int .i64 0, .int .i64 s, .int .i64 k, .int .i64 t, .bool m, .int .u64 0]] W fun e w' => e = .returned (.int .i64 0) ∧ Below W.heap.size W w')) (WD : Hid (∀ W : World, Calls Try.prog 18 #[.agg #[.int .i64 0, .int .i64 s, .int .i64 k, .int .i64 t, .bool m, .int .u64 0]] W fun e w' => e = .returned (.tuple #[.int .u64 (r : Nat), .int .i64 0]) ∧ Below W.heap.size W w')) (SP : Hid (∀ W : World, Calls Try.prog 23 #[.int .u64 (r : Nat)] W fun e w' => e = .returned (.tuple #[.agg #[.int .i64 0, .int .i64 s, .int .i64 k, .int .i64 t, .bool m, .int .u64 0], .int .i64 0]) ∧ Below W.heap.size W w')) :
    Calls Try.prog 4 #[.agg #[.int .i64 a, .int .i64 s, .int .i64 k, .int .i64 t, .bool m, .int .u64 n], .agg #[.int .i64 a1, .int .i64 s, .int .i64 k, .int .i64 t, .bool m, .int .u64 n1], .int .u64 x] w fun e w' => e = .returned (.bool true) ∧ Below w.heap.size w w' := by
  go_enter Try.func4, Try.ntmps4
  go_wp2_with fail
  refine (alive14 _).mono ?_
  rintro e w1 ⟨rfl, hb1⟩
  have A1 := Lib.hid ((((Below.refl _ _).alloc (Nat.le_refl _) _).alloc (by simp) _).trans (hb1.mono (by simp; omega)) : Below w.heap.size w w1)
  have FB1 := Lib.hid (((Cells.new w 24 #[.int .i64 a, .int .i64 s, .int .i64 k, .int .i64 t, .bool m, .int .u64 n]).alloc (.cells #[.int .i64 a1, .int .i64 s, .int .i64 k, .int .i64 t, .bool m, .int .u64 n1] 24)).kept hb1)
  have FC1 := Lib.hid ((Cells.at_ (w.alloc (.cells #[.int .i64 a, .int .i64 s, .int .i64 k, .int .i64 t, .bool m, .int .u64 n] 24)) 24 #[.int .i64 a1, .int .i64 s, .int .i64 k, .int .i64 t, .bool m, .int .u64 n1] (n := w.heap.size + 1) (by simp)).kept hb1)
  obtain ⟨q0, q1, q2, q3, q4, q5⟩ := (FB1.out).six
  obtain ⟨u0, u1, u2, u3, u4, u5⟩ := (FC1.out).six
  obtain ⟨f0, f1, f2, f3, f4, f5⟩ := FB1.out.free6
  obtain ⟨g0, g1, g2, g3, g4, g5⟩ := FC1.out.free6
  go_wp2_with fail
  refine (CK.out _).mono ?_
  rintro e w2 ⟨rfl, hb2⟩
  clear q0 q1 q2 q3 q4 q5 u0 u1 u2 u3 u4 u5
  clear f0 f1 f2 f3 f4 f5 g0 g1 g2 g3 g4 g5
  have A2 : Below w.heap.size w w2 := ((((A1.out.setCell (p := ⟨w.heap.size, 0, none⟩) (Nat.le_refl _) _).setCell (p := ⟨w.heap.size, 5, none⟩) (Nat.le_refl _) _).setCell (p := ⟨w.heap.size + 1, 0, none⟩) (by simp) _).setCell (p := ⟨w.heap.size + 1, 5, none⟩) (by simp) _).trans (hb2.mono (by simpa using A1.out.size))
  have FB2 : Cells w2 w.heap.size 24 #[.int .i64 0, .int .i64 s, .int .i64 k, .int .i64 t, .bool m, .int .u64 0] := by
    have := (((((FB1.out.set_ 0 (.int .i64 0)).set_ 5 (.int .u64 0)).far (p := ⟨w.heap.size + 1, 0, none⟩) (by simp) (.int .i64 0)).far (p := ⟨w.heap.size + 1, 5, none⟩) (by simp) (.int .u64 0))).kept hb2
    simpa using this
  have FC2 : Cells w2 (w.heap.size + 1) 24 #[.int .i64 0, .int .i64 s, .int .i64 k, .int .i64 t, .bool m, .int .u64 0] := by
    have := (((((FC1.out.far (p := ⟨w.heap.size, 0, none⟩) (by simp) (.int .i64 0)).far (p := ⟨w.heap.size, 5, none⟩) (by simp) (.int .u64 0)).set_ 0 (.int .i64 0)).set_ 5 (.int .u64 0))).kept hb2
    simpa using this
  clear hb1 hb2 FB1 FC1 A1
  have A2' := Lib.hid A2
  have FB2' := Lib.hid FB2
  have FC2' := Lib.hid FC2
  clear A2 FB2 FC2
  obtain ⟨q0, q1, q2, q3, q4, q5⟩ := (FB2'.out).six
  go_wp2_with fail
  refine (WD.out _).mono ?_
  rintro e w3 ⟨rfl, hb3⟩
  clear q0 q1 q2 q3 q4 q5
  have A3 := A2'.out.trans (hb3.mono A2'.out.size)
  have FB3 := FB2'.out.kept hb3
  have FC3 := FC2'.out.kept hb3
  clear hb3
  have A3' := Lib.hid A3
  have FB3' := Lib.hid FB3
  have FC3' := Lib.hid FC3
  clear A3 FB3 FC3
  go_wp2_with fail
  refine (SP.out _).mono ?_
  rintro e w4 ⟨rfl, hb4⟩
  have A4 := A3'.out.trans (hb4.mono A3'.out.size)
  have FB4 := FB3'.out.kept hb4
  have FC4 := FC3'.out.kept hb4
  clear hb4
  have A4' := Lib.hid A4
  have FB4' := Lib.hid FB4
  have FC4' := Lib.hid FC4
  clear A4 FB4 FC4
  obtain ⟨q0, q1, q2, q3, q4, q5⟩ := (FB4'.out.alloc (.cells #[.int .i64 0, .int .i64 s, .int .i64 k, .int .i64 t, .bool m, .int .u64 0] 24)).six
  obtain ⟨u0, u1, u2, u3, u4, u5⟩ := (FC4'.out.alloc (.cells #[.int .i64 0, .int .i64 s, .int .i64 k, .int .i64 t, .bool m, .int .u64 0] 24)).six
  obtain ⟨v0, v1, v2, v3, v4, v5⟩ := (Cells.new w4 24 #[.int .i64 0, .int .i64 s, .int .i64 k, .int .i64 t, .bool m, .int .u64 0]).six
  go_wp2_with fail
  refine (WD.out _).mono ?_
  rintro e w5 ⟨rfl, hb5⟩
  clear q0 q1 q2 q3 q4 q5 u0 u1 u2 u3 u4 u5 v0 v1 v2 v3 v4 v5
  have A5 := (A4'.out.alloc A4'.out.size (.cells #[.int .i64 0, .int .i64 s, .int .i64 k, .int .i64 t, .bool m, .int .u64 0] 24)).trans (hb5.mono (by have := A4'.out.size; simp; omega))
  have FB5 := (FB4'.out.alloc (.cells #[.int .i64 0, .int .i64 s, .int .i64 k, .int .i64 t, .bool m, .int .u64 0] 24)).kept hb5
  have FC5 := (FC4'.out.alloc (.cells #[.int .i64 0, .int .i64 s, .int .i64 k, .int .i64 t, .bool m, .int .u64 0] 24)).kept hb5
  clear hb5
  have A5' := Lib.hid A5
  have FB5' := Lib.hid FB5
  have FC5' := Lib.hid FC5
  clear A5 FB5 FC5
  obtain ⟨q0, q1, q2, q3, q4, q5⟩ := (FB5'.out).six
  obtain ⟨u0, u1, u2, u3, u4, u5⟩ := (FC5'.out).six
  go_wp2_with fail
  refine (SX.out _).mono ?_
  rintro e w6 ⟨rfl, hb6⟩
  clear q0 q1 q2 q3 q4 q5 u0 u1 u2 u3 u4 u5
  have A6 := Lib.hid (A5'.out.trans (hb6.mono A5'.out.size))
  obtain ⟨v0, v1, v2, v3, v4, v5⟩ := (Cells.new w6 24 #[.int .i64 0, .int .i64 0, .int .i64 0, .int .i64 0, .bool false, .int .u64 0]).six
  go_wp2
  go_ret
  exact ⟨rfl, A6.out.alloc A6.out.size _⟩

set_option maxRecDepth 100000 in
set_option maxHeartbeats 1000000 in
theorem one_Ds (w : World) (a s k t a1 : Int) (m : Bool) (n n1 : Int) (x : Nat) (s2 k2 t2 : Int) (m2 : Bool) (r : Nat) (SX : Hid (∀ W : World, Calls Try.prog 23 #[.int .u64 (x : Nat)] W fun e w' => e = .returned (.tuple #[.agg #[.int .i64 0, .int .i64 s2, .int .i64 k2, .int .i64 t2, .bool m2, .int .u64 0], .int .i64 0]) ∧ Below W.heap.size W w')) (W2 : Hid (∀ W : World, Calls Try.prog 18 #[.agg #[.int .i64 0, .int .i64 s2, .int .i64 k2, .int .i64 t2, .bool m2, .int .u64 0]] W fun e w' => e = .returned (.tuple #[.int .u64 (x : Nat), .int .i64 0]) ∧ Below W.heap.size W w')) (C2 : Hid (∀ W : World, Calls Try.prog 20 #[.agg #[.int .i64 0, .int .i64 s2, .int .i64 k2, .int .i64 t2, .bool m2, .int .u64 0]] W fun e w' => e = .returned (.int .i64 0) ∧ Below W.heap.size W w')) (CK : Hid (∀ W : World, Calls Try.prog 20 #[.agg #[.int .i64 0, .int .i64 s, .int .i64 k, .int .i64 t, .bool m, .int .u64 0]] W fun e w' => e = .returned (.int .i64 0) ∧ Below W.heap.size W w')) (WD : Hid (∀ W : World, Calls Try.prog 18 #[.agg #[.int .i64 0, .int .i64 s, .int .i64 k, .int .i64 t, .bool m, .int .u64 0]] W fun e w' => e = .returned (.tuple #[.int .u64 (r : Nat), .int .i64 0]) ∧ Below W.heap.size W w')) (SP : Hid (∀ W : World, Calls Try.prog 23 #[.int .u64 (r : Nat)] W fun e w' => e = .returned (.tuple #[.agg #[.int .i64 0, .int .i64 s, .int .i64 k, .int .i64 t, .bool m, .int .u64 0], .int .i64 0]) ∧ Below W.heap.size W w')) :
    Calls Try.prog 4 #[.agg #[.int .i64 a, .int .i64 s, .int .i64 k, .int .i64 t, .bool m, .int .u64 n], .agg #[.int .i64 a1, .int .i64 s, .int .i64 k, .int .i64 t, .bool m, .int .u64 n1], .int .u64 x] w fun e w' => e = .returned (.bool true) ∧ Below w.heap.size w w' := by
  go_enter Try.func4, Try.ntmps4
  go_wp2_with fail
  refine (alive14 _).mono ?_
  rintro e w1 ⟨rfl, hb1⟩
  have A1 := Lib.hid ((((Below.refl _ _).alloc (Nat.le_refl _) _).alloc (by simp) _).trans (hb1.mono (by simp; omega)) : Below w.heap.size w w1)
  have FB1 := Lib.hid (((Cells.new w 24 #[.int .i64 a, .int .i64 s, .int .i64 k, .int .i64 t, .bool m, .int .u64 n]).alloc (.cells #[.int .i64 a1, .int .i64 s, .int .i64 k, .int .i64 t, .bool m, .int .u64 n1] 24)).kept hb1)
  have FC1 := Lib.hid ((Cells.at_ (w.alloc (.cells #[.int .i64 a, .int .i64 s, .int .i64 k, .int .i64 t, .bool m, .int .u64 n] 24)) 24 #[.int .i64 a1, .int .i64 s, .int .i64 k, .int .i64 t, .bool m, .int .u64 n1] (n := w.heap.size + 1) (by simp)).kept hb1)
  obtain ⟨q0, q1, q2, q3, q4, q5⟩ := (FB1.out).six
  obtain ⟨u0, u1, u2, u3, u4, u5⟩ := (FC1.out).six
  obtain ⟨f0, f1, f2, f3, f4, f5⟩ := FB1.out.free6
  obtain ⟨g0, g1, g2, g3, g4, g5⟩ := FC1.out.free6
  go_wp2_with fail
  refine (CK.out _).mono ?_
  rintro e w2 ⟨rfl, hb2⟩
  clear q0 q1 q2 q3 q4 q5 u0 u1 u2 u3 u4 u5
  clear f0 f1 f2 f3 f4 f5 g0 g1 g2 g3 g4 g5
  have A2 : Below w.heap.size w w2 := ((((A1.out.setCell (p := ⟨w.heap.size, 0, none⟩) (Nat.le_refl _) _).setCell (p := ⟨w.heap.size, 5, none⟩) (Nat.le_refl _) _).setCell (p := ⟨w.heap.size + 1, 0, none⟩) (by simp) _).setCell (p := ⟨w.heap.size + 1, 5, none⟩) (by simp) _).trans (hb2.mono (by simpa using A1.out.size))
  have FB2 : Cells w2 w.heap.size 24 #[.int .i64 0, .int .i64 s, .int .i64 k, .int .i64 t, .bool m, .int .u64 0] := by
    have := (((((FB1.out.set_ 0 (.int .i64 0)).set_ 5 (.int .u64 0)).far (p := ⟨w.heap.size + 1, 0, none⟩) (by simp) (.int .i64 0)).far (p := ⟨w.heap.size + 1, 5, none⟩) (by simp) (.int .u64 0))).kept hb2
    simpa using this
  have FC2 : Cells w2 (w.heap.size + 1) 24 #[.int .i64 0, .int .i64 s, .int .i64 k, .int .i64 t, .bool m, .int .u64 0] := by
    have := (((((FC1.out.far (p := ⟨w.heap.size, 0, none⟩) (by simp) (.int .i64 0)).far (p := ⟨w.heap.size, 5, none⟩) (by simp) (.int .u64 0)).set_ 0 (.int .i64 0)).set_ 5 (.int .u64 0))).kept hb2
    simpa using this
  clear hb1 hb2 FB1 FC1 A1
  have A2' := Lib.hid A2
  have FB2' := Lib.hid FB2
  have FC2' := Lib.hid FC2
  clear A2 FB2 FC2
  obtain ⟨q0, q1, q2, q3, q4, q5⟩ := (FB2'.out).six
  go_wp2_with fail
  refine (WD.out _).mono ?_
  rintro e w3 ⟨rfl, hb3⟩
  clear q0 q1 q2 q3 q4 q5
  have A3 := A2'.out.trans (hb3.mono A2'.out.size)
  have FB3 := FB2'.out.kept hb3
  have FC3 := FC2'.out.kept hb3
  clear hb3
  have A3' := Lib.hid A3
  have FB3' := Lib.hid FB3
  have FC3' := Lib.hid FC3
  clear A3 FB3 FC3
  go_wp2_with fail
  refine (SP.out _).mono ?_
  rintro e w4 ⟨rfl, hb4⟩
  have A4 := A3'.out.trans (hb4.mono A3'.out.size)
  have FB4 := FB3'.out.kept hb4
  have FC4 := FC3'.out.kept hb4
  clear hb4
  have A4' := Lib.hid A4
  have FB4' := Lib.hid FB4
  have FC4' := Lib.hid FC4
  clear A4 FB4 FC4
  obtain ⟨q0, q1, q2, q3, q4, q5⟩ := (FB4'.out.alloc (.cells #[.int .i64 0, .int .i64 s, .int .i64 k, .int .i64 t, .bool m, .int .u64 0] 24)).six
  obtain ⟨u0, u1, u2, u3, u4, u5⟩ := (FC4'.out.alloc (.cells #[.int .i64 0, .int .i64 s, .int .i64 k, .int .i64 t, .bool m, .int .u64 0] 24)).six
  obtain ⟨v0, v1, v2, v3, v4, v5⟩ := (Cells.new w4 24 #[.int .i64 0, .int .i64 s, .int .i64 k, .int .i64 t, .bool m, .int .u64 0]).six
  go_wp2_with fail
  refine (WD.out _).mono ?_
  rintro e w5 ⟨rfl, hb5⟩
  clear q0 q1 q2 q3 q4 q5 u0 u1 u2 u3 u4 u5 v0 v1 v2 v3 v4 v5
  have A5 := (A4'.out.alloc A4'.out.size (.cells #[.int .i64 0, .int .i64 s, .int .i64 k, .int .i64 t, .bool m, .int .u64 0] 24)).trans (hb5.mono (by have := A4'.out.size; simp; omega))
  have FB5 := (FB4'.out.alloc (.cells #[.int .i64 0, .int .i64 s, .int .i64 k, .int .i64 t, .bool m, .int .u64 0] 24)).kept hb5
  have FC5 := (FC4'.out.alloc (.cells #[.int .i64 0, .int .i64 s, .int .i64 k, .int .i64 t, .bool m, .int .u64 0] 24)).kept hb5
  clear hb5
  have A5' := Lib.hid A5
  have FB5' := Lib.hid FB5
  have FC5' := Lib.hid FC5
  clear A5 FB5 FC5
  obtain ⟨q0, q1, q2, q3, q4, q5⟩ := (FB5'.out).six
  obtain ⟨u0, u1, u2, u3, u4, u5⟩ := (FC5'.out).six
  go_wp2_with fail
  refine (SX.out _).mono ?_
  rintro e w6 ⟨rfl, hb6⟩
  clear q0 q1 q2 q3 q4 q5 u0 u1 u2 u3 u4 u5
  have A6 := Lib.hid (A5'.out.trans (hb6.mono A5'.out.size))
  obtain ⟨v0, v1, v2, v3, v4, v5⟩ := (Cells.new w6 24 #[.int .i64 0, .int .i64 s2, .int .i64 k2, .int .i64 t2, .bool m2, .int .u64 0]).six
  go_wp2_with fail
  refine (W2.out _).mono ?_
  rintro e w7 ⟨rfl, hb7⟩
  clear v0 v1 v2 v3 v4 v5
  have A7 := Lib.hid ((A6.out.alloc A6.out.size (.cells #[.int .i64 0, .int .i64 s2, .int .i64 k2, .int .i64 t2, .bool m2, .int .u64 0] 24)).trans (hb7.mono (by have := A6.out.size; simp; omega)))
  obtain ⟨v0, v1, v2, v3, v4, v5⟩ := ((Cells.new w6 24 #[.int .i64 0, .int .i64 s2, .int .i64 k2, .int .i64 t2, .bool m2, .int .u64 0]).kept hb7).six
  go_wp2_with fail
  refine (C2.out _).mono ?_
  rintro e w8 ⟨rfl, hb8⟩
  go_wp2
  go_ret
  exact ⟨rfl, A7.out.trans (hb8.mono A7.out.size)⟩

theorem walkHeaderOne (b c : Blk) (x : Nat) (w : World) (_hb : b.Fit) (_hc : c.Fit) (hx : x < 18446744073709551616) :
    Calls Try.prog 4 #[b.val, c.val, .int .u64 x] w fun e w' => e = .returned (.bool true) ∧ Below w.heap.size w w' := by
  clear _hb _hc
  obtain ⟨a, s, k, t, m, n⟩ := b
  obtain ⟨a1, s1, k1, t1, m1, n1⟩ := c
  unfold Blk.val
  simp only
  by_cases hb : Blk.good ⟨0, s, k, t, m, 0⟩
  case neg =>
    have CK := Lib.hid fun W => hcheck_bad 0 s k t m 0 W hb
    cases hs : split x with
    | none => exact one_An w a s k t a1 s1 k1 t1 m m1 n n1 x (Lib.hid fun W => hsplit_no x W hx hs) CK
    | some d =>
      obtain ⟨a2, s2, k2, t2, m2, n2⟩ := d
      obtain ⟨g, e, e1, e2, _⟩ := split_some hs
      simp only at e1 e2
      subst e1 e2
      have W2 := Lib.hid fun W => hword_ok 0 s2 k2 t2 m2 0 W g
      rw [e] at W2
      exact one_As w a s k t a1 s1 k1 t1 m m1 n n1 x s2 k2 t2 m2 (Lib.hid fun W => hsplit_ok x _ W hx hs) W2 (Lib.hid fun W => hcheck_ok 0 s2 k2 t2 m2 0 W g) CK
  have CK := Lib.hid fun W => hcheck_ok 0 s k t m 0 W hb
  have WD := Lib.hid fun W => hword_ok 0 s k t m 0 W hb
  have SP := Lib.hid fun W => hsplit_ok _ _ W (hdr_lt hb) (split_hdr hb)
  simp only at SP
  by_cases hc : Blk.good ⟨0, s1, k1, t1, m1, 0⟩
  case neg =>
    have WC := Lib.hid fun W => hword_bad 0 s1 k1 t1 m1 0 W hc
    cases hs : split x with
    | none => exact one_Bn w a s k t a1 s1 k1 t1 m m1 n n1 x _ (Lib.hid fun W => hsplit_no x W hx hs) CK WD SP WC
    | some d =>
      obtain ⟨a2, s2, k2, t2, m2, n2⟩ := d
      obtain ⟨g, e, e1, e2, _⟩ := split_some hs
      simp only at e1 e2
      subst e1 e2
      have W2 := Lib.hid fun W => hword_ok 0 s2 k2 t2 m2 0 W g
      rw [e] at W2
      exact one_Bs w a s k t a1 s1 k1 t1 m m1 n n1 x s2 k2 t2 m2 _ (Lib.hid fun W => hsplit_ok x _ W hx hs) W2 (Lib.hid fun W => hcheck_ok 0 s2 k2 t2 m2 0 W g) CK WD SP WC
  have WC := Lib.hid fun W => hword_ok 0 s1 k1 t1 m1 0 W hc
  by_cases he : s = s1 ∧ k = k1 ∧ t = t1 ∧ m = m1
  · obtain ⟨rfl, rfl, rfl, rfl⟩ := he
    cases hs : split x with
    | none => exact one_Dn w a s k t a1 m n n1 x _ (Lib.hid fun W => hsplit_no x W hx hs) CK WD SP
    | some d =>
      obtain ⟨a2, s2, k2, t2, m2, n2⟩ := d
      obtain ⟨g, e, e1, e2, _⟩ := split_some hs
      simp only at e1 e2
      subst e1 e2
      have W2 := Lib.hid fun W => hword_ok 0 s2 k2 t2 m2 0 W g
      rw [e] at W2
      exact one_Ds w a s k t a1 m n n1 x s2 k2 t2 m2 _ (Lib.hid fun W => hsplit_ok x _ W hx hs) W2 (Lib.hid fun W => hcheck_ok 0 s2 k2 t2 m2 0 W g) CK WD SP
  have hn : (((Blk.hdr ⟨0, s, k, t, m, 0⟩ : Nat) : Int) == ((Blk.hdr ⟨0, s1, k1, t1, m1, 0⟩ : Nat) : Int)) = false := by
    have : Blk.hdr ⟨0, s, k, t, m, 0⟩ ≠ Blk.hdr ⟨0, s1, k1, t1, m1, 0⟩ := fun e => by
      have := hdr_inj hb hc e
      injection this with _ h2 h3 h4 h5
      exact he ⟨h2, h3, h4, h5⟩
    simp; omega
  have hq : ∀ W : World, (binOp .eql 24 (.agg #[.int .i64 0, .int .i64 s, .int .i64 k, .int .i64 t, .bool m, .int .u64 0]) (.agg #[.int .i64 0, .int .i64 s1, .int .i64 k1, .int .i64 t1, .bool m1, .int .u64 0])).run Try.prog W = .ok (.bool false) W := fun W => by
    rw [blk_eq]
    congr 2
    simp
    intro h2 h3 h4 h5
    exact he ⟨h2, h3, h4, h5⟩
  cases hs : split x with
  | none => exact one_Cn w a s k t a1 s1 k1 t1 m m1 n n1 x _ _ (Lib.hid fun W => hsplit_no x W hx hs) CK WD SP WC hn hq
  | some d =>
    obtain ⟨a2, s2, k2, t2, m2, n2⟩ := d
    obtain ⟨g, e, e1, e2, _⟩ := split_some hs
    simp only at e1 e2
    subst e1 e2
    have W2 := Lib.hid fun W => hword_ok 0 s2 k2 t2 m2 0 W g
    rw [e] at W2
    exact one_Cs w a s k t a1 s1 k1 t1 m m1 n n1 x s2 k2 t2 m2 _ _ (Lib.hid fun W => hsplit_ok x _ W hx hs) W2 (Lib.hid fun W => hcheck_ok 0 s2 k2 t2 m2 0 W g) CK WD SP WC hn hq
end Go.Proofs.Ythdccahggcjogaa
