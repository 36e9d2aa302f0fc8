/- The laws of package header, walked (4): the limits and errors. -/
import Derived.Test.YthdccahggcjogaaLaw14c
namespace Go.Proofs.Ythdccahggcjogaa
open Go.RowKit

theorem free14 (z : Int) (w : World) : Calls Try.prog 27 #[.int .i64 z] w fun e w' => e = .returned (.agg #[.int .i64 0, .int .i64 z, .int .i64 2, .int .i64 0, .bool false, .int .u64 0]) ∧ Below w.heap.size w w' := by
  go_enter Try.func27, Try.ntmps27
  go_wp2
  exact bodyPost_ret (v := .agg #[.int .i64 0, .int .i64 z, .int .i64 2, .int .i64 0, .bool false, .int .u64 0])
    (by simp [results, Try.results27, go_sem]) rfl ⟨rfl, (Below.refl _ _).alloc (Nat.le_refl _) _⟩

theorem bad14_0 : ¬ Blk.good ⟨0, 0, 1, 7, true, 0⟩ := by unfold Blk.good; simp
theorem bad14_1 : ¬ Blk.good ⟨0, 1, 1, 7, true, 0⟩ := by unfold Blk.good; simp
theorem bad14_2 : ¬ Blk.good ⟨0, 12, 1, 7, true, 0⟩ := by unfold Blk.good; simp
theorem bad14_3 : ¬ Blk.good ⟨0, 5, 1, 7, true, 0⟩ := by unfold Blk.good; simp
theorem bad14_4 : ¬ Blk.good ⟨0, 10, 1, 8, true, 0⟩ := by unfold Blk.good; simp
theorem bad14_5 : ¬ Blk.good ⟨0, 10, 1, (-1), true, 0⟩ := by unfold Blk.good; simp
theorem bad14_6 : ¬ Blk.good ⟨0, 10, 0, 7, true, 0⟩ := by unfold Blk.good; simp
theorem bad14_7 : ¬ Blk.good ⟨0, 10, 3, 7, true, 0⟩ := by unfold Blk.good; simp
theorem bad14_8 : ¬ Blk.good ⟨0, 1922, 2, 0, false, 0⟩ := by unfold Blk.good; simp
theorem bad14_9 : ¬ Blk.good ⟨0, 3, 2, 0, false, 0⟩ := by unfold Blk.good; simp
theorem bad14_10 : ¬ Blk.good ⟨0, 4, 2, 0, true, 0⟩ := by unfold Blk.good; simp
theorem bad14_11 : ¬ Blk.good ⟨0, 4, 2, 1, false, 0⟩ := by unfold Blk.good; simp
theorem bad14_12 : ¬ Blk.good ⟨0, (-2), 1, 7, true, 0⟩ := by unfold Blk.good; simp
theorem bad14_13 : ¬ Blk.good ⟨0, 10, 257, 7, true, 0⟩ := by unfold Blk.good; simp

theorem good_most : Blk.good ⟨0, 1920, 2, 0, false, 0⟩ := by decide
theorem good_least : Blk.good ⟨0, 2, 2, 0, false, 0⟩ := by decide
theorem most14 (W : World) : Calls Try.prog 18 #[.agg #[.int .i64 0, .int .i64 1920, .int .i64 2, .int .i64 0, .bool false, .int .u64 0]] W fun e w' => e = .returned (.tuple #[.int .u64 (Blk.hdr ⟨0, 1920, 2, 0, false, 0⟩ : Nat), .int .i64 0]) ∧ Below W.heap.size W w' :=
  hword_ok 0 1920 2 0 false 0 W good_most
theorem most32 : bits .and .u64 ((Blk.hdr ⟨0, 1920, 2, 0, false, 0⟩ : Nat) : Int) 4294967295 = 125829122 := by
  rw [and32 _ good_most]
  decide
theorem least14 (W : World) : Calls Try.prog 18 #[.agg #[.int .i64 0, .int .i64 2, .int .i64 2, .int .i64 0, .bool false, .int .u64 0]] W fun e w' => e = .returned (.tuple #[.int .u64 (Blk.hdr ⟨0, 2, 2, 0, false, 0⟩ : Nat), .int .i64 0]) ∧ Below W.heap.size W w' :=
  hword_ok 0 2 2 0 false 0 W good_least
theorem least_on (W : World) : Calls Try.prog 25 #[.int .u64 (Blk.hdr ⟨0, 2, 2, 0, false, 0⟩ : Nat), .bool true] W fun e w' => e = .returned (.tuple #[.int .u64 0, .int .i64 8]) ∧ Below W.heap.size W w' :=
  hmarked_bad _ _ true W (hdr_lt good_least) (split_hdr good_least) (by decide)
theorem least_off (W : World) : Calls Try.prog 25 #[.int .u64 (Blk.hdr ⟨0, 2, 2, 0, false, 0⟩ : Nat), .bool false] W fun e w' => e = .returned (.tuple #[.int .u64 (Blk.hdr ⟨0, 2, 2, 0, false, 0⟩ : Nat), .int .i64 0]) ∧ Below W.heap.size W w' := by
  have h := hmarked_ok (Blk.hdr ⟨0, 2, 2, 0, false, 0⟩) ⟨0, 2, 2, 0, false, 0⟩ false W (hdr_lt good_least) (split_hdr good_least) good_least
  rw [show Blk.set_ ⟨0, 2, 2, 0, false, 0⟩ false = ⟨0, 2, 2, 0, false, 0⟩ from rfl] at h
  exact h
theorem zero_off (W : World) : Calls Try.prog 25 #[.int .u64 0, .bool false] W fun e w' => e = .returned (.tuple #[.int .u64 0, .int .i64 50]) ∧ Below W.heap.size W w' :=
  hmarked_no 0 false W (by omega) (by decide)
theorem split131073 (W : World) : Calls Try.prog 23 #[.int .u64 131073] W fun e w' => e = .returned (.tuple #[.agg #[.int .i64 0, .int .i64 0, .int .i64 0, .int .i64 0, .bool false, .int .u64 0], .int .i64 50]) ∧ Below W.heap.size W w' :=
  hsplit_no 131073 W (by omega) (by decide +kernel)
theorem split_sum (W : World) : Calls Try.prog 23 #[.int .u64 15344336260614062081] W fun e w' => e = .returned (.tuple #[.agg #[.int .i64 0, .int .i64 0, .int .i64 0, .int .i64 0, .bool false, .int .u64 0], .int .i64 50]) ∧ Below W.heap.size W w' :=
  hsplit_no 15344336260614062081 W (by omega) (by decide +kernel)
theorem or_sum : bits .or .u64 786433 15344336260613275648 = 15344336260614062081 := by decide
theorem low_sum (n : Nat) (W : World) (h : Words W (some ⟨n, 0, none⟩) 1 1 [786433]) : Calls Try.prog 29 #[.slice (some ⟨n, 0, none⟩) 1 1, .int .i64 32] W fun e w' => e = .returned (.tuple #[.int .u64 3572631688, .int .i64 0]) ∧ Below W.heap.size W w' := by
  have C := low_ok _ 1 1 [786433] 32 W h (by omega) (by omega) (by omega)
  rw [show fld (beh 14695981039346656037 [786433]) 0 32 = 3572631688 by decide +kernel] at C
  exact C

set_option maxRecDepth 100000 in
set_option maxHeartbeats 40000000 in
theorem walkHeaderNames (w : World) : Calls Try.prog 7 #[] w fun e w' => e = .returned (.bool true) ∧ Below w.heap.size w w' := by
  go_enter Try.func7, Try.ntmps7
  go_wp2
  go_loopw [2] (fun i wr => ∃ k : Nat, k ≤ 14 ∧ i = .int .i64 k ∧ Below w.heap.size w wr) (fun i _ => 14 - (intOf i).toNat)
  case atStart => exact ⟨0, Nat.zero_le _, rfl, Below.refl _ _⟩
  case round =>
    obtain ⟨k, hk, rfl, hnx⟩ := hrel
    by_cases hlt : k < 14
    · have hk14 : k = 0 ∨ k = 1 ∨ k = 2 ∨ k = 3 ∨ k = 4 ∨ k = 5 ∨ k = 6 ∨ k = 7 ∨ k = 8 ∨ k = 9 ∨ k = 10 ∨ k = 11 ∨ k = 12 ∨ k = 13 := by omega
      clear hk hlt
      rcases hk14 with rfl | rfl | rfl | rfl | rfl | rfl | rfl | rfl | rfl | rfl | rfl | rfl | rfl | rfl
      · -- 0
        have N := Lib.hid hnx
        clear hnx
        go_wp2_with fail
        refine (obj14 7 10 true _).mono ?_
        rintro e w1 ⟨rfl, hb1⟩
        have N1 := Lib.hid (N.out.trans (hb1.mono N.out.size))
        have hs1 : w.heap.size ≤ w1.heap.size := N1.out.size
        have K3 := Lib.hid (Cells.new w1 24 #[.int .i64 0, .int .i64 0, .int .i64 1, .int .i64 7, .bool true, .int .u64 0])
        have N3 := Lib.hid (N1.out.alloc N1.out.size (.cells #[.int .i64 0, .int .i64 0, .int .i64 1, .int .i64 7, .bool true, .int .u64 0] 24))
        go_wp2_with fail
        refine (hword_bad 0 0 1 7 true 0 _ bad14_0).mono ?_
        rintro e w4 ⟨rfl, hb4⟩
        have K4 : Cells w4 w1.heap.size 24 #[.int .i64 0, .int .i64 0, .int .i64 1, .int .i64 7, .bool true, .int .u64 0] := by have := K3.out.kept hb4; simpa using this
        have N4 := Lib.hid (N3.out.trans (hb4.mono N3.out.size))
        clear hb4
        obtain ⟨q0, q1, q2, q3, q4, q5⟩ := K4.six
        clear K4
        go_wp2_with fail
        refine (hcheck_bad 0 0 1 7 true 0 _ bad14_0).mono ?_
        rintro e w5 ⟨rfl, hb5⟩
        clear q0 q1 q2 q3 q4 q5
        go_wp2_with fail
        go_roundw
        case rel => exact ⟨1, by omega, by go_num, N4.out.trans (hb5.mono N4.out.size)⟩
        case measure => simp [intOf]
      · -- 1
        have N := Lib.hid hnx
        clear hnx
        go_wp2_with fail
        refine (obj14 7 10 true _).mono ?_
        rintro e w1 ⟨rfl, hb1⟩
        have N1 := Lib.hid (N.out.trans (hb1.mono N.out.size))
        have hs1 : w.heap.size ≤ w1.heap.size := N1.out.size
        have K3 := Lib.hid (Cells.new w1 24 #[.int .i64 0, .int .i64 1, .int .i64 1, .int .i64 7, .bool true, .int .u64 0])
        have N3 := Lib.hid (N1.out.alloc N1.out.size (.cells #[.int .i64 0, .int .i64 1, .int .i64 1, .int .i64 7, .bool true, .int .u64 0] 24))
        go_wp2_with fail
        refine (hword_bad 0 1 1 7 true 0 _ bad14_1).mono ?_
        rintro e w4 ⟨rfl, hb4⟩
        have K4 : Cells w4 w1.heap.size 24 #[.int .i64 0, .int .i64 1, .int .i64 1, .int .i64 7, .bool true, .int .u64 0] := by have := K3.out.kept hb4; simpa using this
        have N4 := Lib.hid (N3.out.trans (hb4.mono N3.out.size))
        clear hb4
        obtain ⟨q0, q1, q2, q3, q4, q5⟩ := K4.six
        clear K4
        go_wp2_with fail
        refine (hcheck_bad 0 1 1 7 true 0 _ bad14_1).mono ?_
        rintro e w5 ⟨rfl, hb5⟩
        clear q0 q1 q2 q3 q4 q5
        go_wp2_with fail
        go_roundw
        case rel => exact ⟨2, by omega, by go_num, N4.out.trans (hb5.mono N4.out.size)⟩
        case measure => simp [intOf]
      · -- 2
        have N := Lib.hid hnx
        clear hnx
        go_wp2_with fail
        refine (obj14 7 10 true _).mono ?_
        rintro e w1 ⟨rfl, hb1⟩
        have N1 := Lib.hid (N.out.trans (hb1.mono N.out.size))
        have hs1 : w.heap.size ≤ w1.heap.size := N1.out.size
        have K3 := Lib.hid (Cells.new w1 24 #[.int .i64 0, .int .i64 12, .int .i64 1, .int .i64 7, .bool true, .int .u64 0])
        have N3 := Lib.hid (N1.out.alloc N1.out.size (.cells #[.int .i64 0, .int .i64 12, .int .i64 1, .int .i64 7, .bool true, .int .u64 0] 24))
        go_wp2_with fail
        refine (hword_bad 0 12 1 7 true 0 _ bad14_2).mono ?_
        rintro e w4 ⟨rfl, hb4⟩
        have K4 : Cells w4 w1.heap.size 24 #[.int .i64 0, .int .i64 12, .int .i64 1, .int .i64 7, .bool true, .int .u64 0] := by have := K3.out.kept hb4; simpa using this
        have N4 := Lib.hid (N3.out.trans (hb4.mono N3.out.size))
        clear hb4
        obtain ⟨q0, q1, q2, q3, q4, q5⟩ := K4.six
        clear K4
        go_wp2_with fail
        refine (hcheck_bad 0 12 1 7 true 0 _ bad14_2).mono ?_
        rintro e w5 ⟨rfl, hb5⟩
        clear q0 q1 q2 q3 q4 q5
        go_wp2_with fail
        go_roundw
        case rel => exact ⟨3, by omega, by go_num, N4.out.trans (hb5.mono N4.out.size)⟩
        case measure => simp [intOf]
      · -- 3
        have N := Lib.hid hnx
        clear hnx
        go_wp2_with fail
        refine (obj14 7 10 true _).mono ?_
        rintro e w1 ⟨rfl, hb1⟩
        have N1 := Lib.hid (N.out.trans (hb1.mono N.out.size))
        have hs1 : w.heap.size ≤ w1.heap.size := N1.out.size
        have K3 := Lib.hid (Cells.new w1 24 #[.int .i64 0, .int .i64 5, .int .i64 1, .int .i64 7, .bool true, .int .u64 0])
        have N3 := Lib.hid (N1.out.alloc N1.out.size (.cells #[.int .i64 0, .int .i64 5, .int .i64 1, .int .i64 7, .bool true, .int .u64 0] 24))
        go_wp2_with fail
        refine (hword_bad 0 5 1 7 true 0 _ bad14_3).mono ?_
        rintro e w4 ⟨rfl, hb4⟩
        have K4 : Cells w4 w1.heap.size 24 #[.int .i64 0, .int .i64 5, .int .i64 1, .int .i64 7, .bool true, .int .u64 0] := by have := K3.out.kept hb4; simpa using this
        have N4 := Lib.hid (N3.out.trans (hb4.mono N3.out.size))
        clear hb4
        obtain ⟨q0, q1, q2, q3, q4, q5⟩ := K4.six
        clear K4
        go_wp2_with fail
        refine (hcheck_bad 0 5 1 7 true 0 _ bad14_3).mono ?_
        rintro e w5 ⟨rfl, hb5⟩
        clear q0 q1 q2 q3 q4 q5
        go_wp2_with fail
        go_roundw
        case rel => exact ⟨4, by omega, by go_num, N4.out.trans (hb5.mono N4.out.size)⟩
        case measure => simp [intOf]
      · -- 4
        have N := Lib.hid hnx
        clear hnx
        go_wp2_with fail
        refine (obj14 7 10 true _).mono ?_
        rintro e w1 ⟨rfl, hb1⟩
        have N1 := Lib.hid (N.out.trans (hb1.mono N.out.size))
        have hs1 : w.heap.size ≤ w1.heap.size := N1.out.size
        have K3 := Lib.hid (Cells.new w1 24 #[.int .i64 0, .int .i64 10, .int .i64 1, .int .i64 8, .bool true, .int .u64 0])
        have N3 := Lib.hid (N1.out.alloc N1.out.size (.cells #[.int .i64 0, .int .i64 10, .int .i64 1, .int .i64 8, .bool true, .int .u64 0] 24))
        go_wp2_with fail
        refine (hword_bad 0 10 1 8 true 0 _ bad14_4).mono ?_
        rintro e w4 ⟨rfl, hb4⟩
        have K4 : Cells w4 w1.heap.size 24 #[.int .i64 0, .int .i64 10, .int .i64 1, .int .i64 8, .bool true, .int .u64 0] := by have := K3.out.kept hb4; simpa using this
        have N4 := Lib.hid (N3.out.trans (hb4.mono N3.out.size))
        clear hb4
        obtain ⟨q0, q1, q2, q3, q4, q5⟩ := K4.six
        clear K4
        go_wp2_with fail
        refine (hcheck_bad 0 10 1 8 true 0 _ bad14_4).mono ?_
        rintro e w5 ⟨rfl, hb5⟩
        clear q0 q1 q2 q3 q4 q5
        go_wp2_with fail
        go_roundw
        case rel => exact ⟨5, by omega, by go_num, N4.out.trans (hb5.mono N4.out.size)⟩
        case measure => simp [intOf]
      · -- 5
        have N := Lib.hid hnx
        clear hnx
        go_wp2_with fail
        refine (obj14 7 10 true _).mono ?_
        rintro e w1 ⟨rfl, hb1⟩
        have N1 := Lib.hid (N.out.trans (hb1.mono N.out.size))
        have hs1 : w.heap.size ≤ w1.heap.size := N1.out.size
        have K3 := Lib.hid (Cells.new w1 24 #[.int .i64 0, .int .i64 10, .int .i64 1, .int .i64 (-1), .bool true, .int .u64 0])
        have N3 := Lib.hid (N1.out.alloc N1.out.size (.cells #[.int .i64 0, .int .i64 10, .int .i64 1, .int .i64 (-1), .bool true, .int .u64 0] 24))
        go_wp2_with fail
        refine (hword_bad 0 10 1 (-1) true 0 _ bad14_5).mono ?_
        rintro e w4 ⟨rfl, hb4⟩
        have K4 : Cells w4 w1.heap.size 24 #[.int .i64 0, .int .i64 10, .int .i64 1, .int .i64 (-1), .bool true, .int .u64 0] := by have := K3.out.kept hb4; simpa using this
        have N4 := Lib.hid (N3.out.trans (hb4.mono N3.out.size))
        clear hb4
        obtain ⟨q0, q1, q2, q3, q4, q5⟩ := K4.six
        clear K4
        go_wp2_with fail
        refine (hcheck_bad 0 10 1 (-1) true 0 _ bad14_5).mono ?_
        rintro e w5 ⟨rfl, hb5⟩
        clear q0 q1 q2 q3 q4 q5
        go_wp2_with fail
        go_roundw
        case rel => exact ⟨6, by omega, by go_num, N4.out.trans (hb5.mono N4.out.size)⟩
        case measure => simp [intOf]
      · -- 6
        have N := Lib.hid hnx
        clear hnx
        go_wp2_with fail
        refine (obj14 7 10 true _).mono ?_
        rintro e w1 ⟨rfl, hb1⟩
        have N1 := Lib.hid (N.out.trans (hb1.mono N.out.size))
        have hs1 : w.heap.size ≤ w1.heap.size := N1.out.size
        have K3 := Lib.hid (Cells.new w1 24 #[.int .i64 0, .int .i64 10, .int .i64 0, .int .i64 7, .bool true, .int .u64 0])
        have N3 := Lib.hid (N1.out.alloc N1.out.size (.cells #[.int .i64 0, .int .i64 10, .int .i64 0, .int .i64 7, .bool true, .int .u64 0] 24))
        go_wp2_with fail
        refine (hword_bad 0 10 0 7 true 0 _ bad14_6).mono ?_
        rintro e w4 ⟨rfl, hb4⟩
        have K4 : Cells w4 w1.heap.size 24 #[.int .i64 0, .int .i64 10, .int .i64 0, .int .i64 7, .bool true, .int .u64 0] := by have := K3.out.kept hb4; simpa using this
        have N4 := Lib.hid (N3.out.trans (hb4.mono N3.out.size))
        clear hb4
        obtain ⟨q0, q1, q2, q3, q4, q5⟩ := K4.six
        clear K4
        go_wp2_with fail
        refine (hcheck_bad 0 10 0 7 true 0 _ bad14_6).mono ?_
        rintro e w5 ⟨rfl, hb5⟩
        clear q0 q1 q2 q3 q4 q5
        go_wp2_with fail
        go_roundw
        case rel => exact ⟨7, by omega, by go_num, N4.out.trans (hb5.mono N4.out.size)⟩
        case measure => simp [intOf]
      · -- 7
        have N := Lib.hid hnx
        clear hnx
        go_wp2_with fail
        refine (obj14 7 10 true _).mono ?_
        rintro e w1 ⟨rfl, hb1⟩
        have N1 := Lib.hid (N.out.trans (hb1.mono N.out.size))
        have hs1 : w.heap.size ≤ w1.heap.size := N1.out.size
        have K3 := Lib.hid (Cells.new w1 24 #[.int .i64 0, .int .i64 10, .int .i64 3, .int .i64 7, .bool true, .int .u64 0])
        have N3 := Lib.hid (N1.out.alloc N1.out.size (.cells #[.int .i64 0, .int .i64 10, .int .i64 3, .int .i64 7, .bool true, .int .u64 0] 24))
        go_wp2_with fail
        refine (hword_bad 0 10 3 7 true 0 _ bad14_7).mono ?_
        rintro e w4 ⟨rfl, hb4⟩
        have K4 : Cells w4 w1.heap.size 24 #[.int .i64 0, .int .i64 10, .int .i64 3, .int .i64 7, .bool true, .int .u64 0] := by have := K3.out.kept hb4; simpa using this
        have N4 := Lib.hid (N3.out.trans (hb4.mono N3.out.size))
        clear hb4
        obtain ⟨q0, q1, q2, q3, q4, q5⟩ := K4.six
        clear K4
        go_wp2_with fail
        refine (hcheck_bad 0 10 3 7 true 0 _ bad14_7).mono ?_
        rintro e w5 ⟨rfl, hb5⟩
        clear q0 q1 q2 q3 q4 q5
        go_wp2_with fail
        go_roundw
        case rel => exact ⟨8, by omega, by go_num, N4.out.trans (hb5.mono N4.out.size)⟩
        case measure => simp [intOf]
      · -- 8
        have N := Lib.hid hnx
        clear hnx
        go_wp2_with fail
        refine (obj14 7 10 true _).mono ?_
        rintro e w1 ⟨rfl, hb1⟩
        have N1 := Lib.hid (N.out.trans (hb1.mono N.out.size))
        go_wp2_with fail
        refine (free14 1922 _).mono ?_
        rintro e w2 ⟨rfl, hb2⟩
        have B2 := Lib.hid ((Cells.new w1 24 #[.int .i64 0, .int .i64 10, .int .i64 1, .int .i64 7, .bool true, .int .u64 0]).kept hb2)
        have hs1 : w.heap.size ≤ w1.heap.size := N1.out.size
        have N2 := Lib.hid ((N1.out.alloc N1.out.size (.cells #[.int .i64 0, .int .i64 10, .int .i64 1, .int .i64 7, .bool true, .int .u64 0] 24)).trans (hb2.mono (by simp; omega)) : Below w.heap.size w w2)
        obtain ⟨q0, q1, q2, q3, q4, q5⟩ := B2.out.six
        obtain ⟨f0, f1, f2, f3, f4, f5⟩ := B2.out.free6
        have K3 := Lib.hid (B2.out.put6 (.int .i64 0) (.int .i64 1922) (.int .i64 2) (.int .i64 0) (.bool false) (.int .u64 0))
        have N3 := Lib.hid (below_put6 N2.out hs1 (.int .i64 0) (.int .i64 1922) (.int .i64 2) (.int .i64 0) (.bool false) (.int .u64 0))
        go_wp2_with fail
        refine (hword_bad 0 1922 2 0 false 0 _ bad14_8).mono ?_
        rintro e w4 ⟨rfl, hb4⟩
        have K4 : Cells w4 w1.heap.size 24 #[.int .i64 0, .int .i64 1922, .int .i64 2, .int .i64 0, .bool false, .int .u64 0] := by have := K3.out.kept hb4; simpa using this
        have N4 := Lib.hid (N3.out.trans (hb4.mono N3.out.size))
        clear hb4
        clear q0 q1 q2 q3 q4 q5 f0 f1 f2 f3 f4 f5
        obtain ⟨q0, q1, q2, q3, q4, q5⟩ := K4.six
        clear K4
        go_wp2_with fail
        refine (hcheck_bad 0 1922 2 0 false 0 _ bad14_8).mono ?_
        rintro e w5 ⟨rfl, hb5⟩
        clear q0 q1 q2 q3 q4 q5
        go_wp2_with fail
        go_roundw
        case rel => exact ⟨9, by omega, by go_num, N4.out.trans (hb5.mono N4.out.size)⟩
        case measure => simp [intOf]
      · -- 9
        have N := Lib.hid hnx
        clear hnx
        go_wp2_with fail
        refine (obj14 7 10 true _).mono ?_
        rintro e w1 ⟨rfl, hb1⟩
        have N1 := Lib.hid (N.out.trans (hb1.mono N.out.size))
        go_wp2_with fail
        refine (free14 3 _).mono ?_
        rintro e w2 ⟨rfl, hb2⟩
        have B2 := Lib.hid ((Cells.new w1 24 #[.int .i64 0, .int .i64 10, .int .i64 1, .int .i64 7, .bool true, .int .u64 0]).kept hb2)
        have hs1 : w.heap.size ≤ w1.heap.size := N1.out.size
        have N2 := Lib.hid ((N1.out.alloc N1.out.size (.cells #[.int .i64 0, .int .i64 10, .int .i64 1, .int .i64 7, .bool true, .int .u64 0] 24)).trans (hb2.mono (by simp; omega)) : Below w.heap.size w w2)
        obtain ⟨q0, q1, q2, q3, q4, q5⟩ := B2.out.six
        obtain ⟨f0, f1, f2, f3, f4, f5⟩ := B2.out.free6
        have K3 := Lib.hid (B2.out.put6 (.int .i64 0) (.int .i64 3) (.int .i64 2) (.int .i64 0) (.bool false) (.int .u64 0))
        have N3 := Lib.hid (below_put6 N2.out hs1 (.int .i64 0) (.int .i64 3) (.int .i64 2) (.int .i64 0) (.bool false) (.int .u64 0))
        go_wp2_with fail
        refine (hword_bad 0 3 2 0 false 0 _ bad14_9).mono ?_
        rintro e w4 ⟨rfl, hb4⟩
        have K4 : Cells w4 w1.heap.size 24 #[.int .i64 0, .int .i64 3, .int .i64 2, .int .i64 0, .bool false, .int .u64 0] := by have := K3.out.kept hb4; simpa using this
        have N4 := Lib.hid (N3.out.trans (hb4.mono N3.out.size))
        clear hb4
        clear q0 q1 q2 q3 q4 q5 f0 f1 f2 f3 f4 f5
        obtain ⟨q0, q1, q2, q3, q4, q5⟩ := K4.six
        clear K4
        go_wp2_with fail
        refine (hcheck_bad 0 3 2 0 false 0 _ bad14_9).mono ?_
        rintro e w5 ⟨rfl, hb5⟩
        clear q0 q1 q2 q3 q4 q5
        go_wp2_with fail
        go_roundw
        case rel => exact ⟨10, by omega, by go_num, N4.out.trans (hb5.mono N4.out.size)⟩
        case measure => simp [intOf]
      · -- 10
        have N := Lib.hid hnx
        clear hnx
        go_wp2_with fail
        refine (obj14 7 10 true _).mono ?_
        rintro e w1 ⟨rfl, hb1⟩
        have N1 := Lib.hid (N.out.trans (hb1.mono N.out.size))
        go_wp2_with fail
        refine (free14 4 _).mono ?_
        rintro e w2 ⟨rfl, hb2⟩
        have B2 := Lib.hid ((Cells.new w1 24 #[.int .i64 0, .int .i64 10, .int .i64 1, .int .i64 7, .bool true, .int .u64 0]).kept hb2)
        have hs1 : w.heap.size ≤ w1.heap.size := N1.out.size
        have N2 := Lib.hid ((N1.out.alloc N1.out.size (.cells #[.int .i64 0, .int .i64 10, .int .i64 1, .int .i64 7, .bool true, .int .u64 0] 24)).trans (hb2.mono (by simp; omega)) : Below w.heap.size w w2)
        obtain ⟨q0, q1, q2, q3, q4, q5⟩ := B2.out.six
        obtain ⟨f0, f1, f2, f3, f4, f5⟩ := B2.out.free6
        have K2 := (B2.out.put6 (.int .i64 0) (.int .i64 4) (.int .i64 2) (.int .i64 0) (.bool false) (.int .u64 0))
        have M2 := (below_put6 N2.out hs1 (.int .i64 0) (.int .i64 4) (.int .i64 2) (.int .i64 0) (.bool false) (.int .u64 0))
        obtain ⟨w3, hE⟩ : ∃ w3, ((((((w2.setCell ⟨w1.heap.size, 0, none⟩ (.int .i64 0)).setCell ⟨w1.heap.size, 1, none⟩ (.int .i64 4)).setCell ⟨w1.heap.size, 2, none⟩ (.int .i64 2)).setCell ⟨w1.heap.size, 3, none⟩ (.int .i64 0)).setCell ⟨w1.heap.size, 4, none⟩ (.bool false)).setCell ⟨w1.heap.size, 5, none⟩ (.int .u64 0)) = w3 := ⟨_, rfl⟩
        rw [hE] at K2 M2
        obtain ⟨v0, v1, v2, v3, v4, v5⟩ := K2.six
        obtain ⟨g0, g1, g2, g3, g4, g5⟩ := K2.free6
        have K2' := Lib.hid K2
        have M2' := Lib.hid M2
        clear K2 M2
        have K3 := Lib.hid (K2'.out.set_ 4 (.bool true))
        have N3 := Lib.hid (M2'.out.setCell (p := ⟨w1.heap.size, 4, none⟩) hs1 (.bool true))
        go_wp2_with fail
        refine (hword_bad 0 4 2 0 true 0 _ bad14_10).mono ?_
        rintro e w4 ⟨rfl, hb4⟩
        have K4 : Cells w4 w1.heap.size 24 #[.int .i64 0, .int .i64 4, .int .i64 2, .int .i64 0, .bool true, .int .u64 0] := by have := K3.out.kept hb4; simpa using this
        have N4 := Lib.hid (N3.out.trans (hb4.mono N3.out.size))
        clear hb4
        clear q0 q1 q2 q3 q4 q5 f0 f1 f2 f3 f4 f5 hE v0 v1 v2 v3 v4 v5 g0 g1 g2 g3 g4 g5
        obtain ⟨q0, q1, q2, q3, q4, q5⟩ := K4.six
        clear K4
        go_wp2_with fail
        refine (hcheck_bad 0 4 2 0 true 0 _ bad14_10).mono ?_
        rintro e w5 ⟨rfl, hb5⟩
        clear q0 q1 q2 q3 q4 q5
        go_wp2_with fail
        go_roundw
        case rel => exact ⟨11, by omega, by go_num, N4.out.trans (hb5.mono N4.out.size)⟩
        case measure => simp [intOf]
      · -- 11
        have N := Lib.hid hnx
        clear hnx
        go_wp2_with fail
        refine (obj14 7 10 true _).mono ?_
        rintro e w1 ⟨rfl, hb1⟩
        have N1 := Lib.hid (N.out.trans (hb1.mono N.out.size))
        go_wp2_with fail
        refine (free14 4 _).mono ?_
        rintro e w2 ⟨rfl, hb2⟩
        have B2 := Lib.hid ((Cells.new w1 24 #[.int .i64 0, .int .i64 10, .int .i64 1, .int .i64 7, .bool true, .int .u64 0]).kept hb2)
        have hs1 : w.heap.size ≤ w1.heap.size := N1.out.size
        have N2 := Lib.hid ((N1.out.alloc N1.out.size (.cells #[.int .i64 0, .int .i64 10, .int .i64 1, .int .i64 7, .bool true, .int .u64 0] 24)).trans (hb2.mono (by simp; omega)) : Below w.heap.size w w2)
        obtain ⟨q0, q1, q2, q3, q4, q5⟩ := B2.out.six
        obtain ⟨f0, f1, f2, f3, f4, f5⟩ := B2.out.free6
        have K2 := (B2.out.put6 (.int .i64 0) (.int .i64 4) (.int .i64 2) (.int .i64 0) (.bool false) (.int .u64 0))
        have M2 := (below_put6 N2.out hs1 (.int .i64 0) (.int .i64 4) (.int .i64 2) (.int .i64 0) (.bool false) (.int .u64 0))
        obtain ⟨w3, hE⟩ : ∃ w3, ((((((w2.setCell ⟨w1.heap.size, 0, none⟩ (.int .i64 0)).setCell ⟨w1.heap.size, 1, none⟩ (.int .i64 4)).setCell ⟨w1.heap.size, 2, none⟩ (.int .i64 2)).setCell ⟨w1.heap.size, 3, none⟩ (.int .i64 0)).setCell ⟨w1.heap.size, 4, none⟩ (.bool false)).setCell ⟨w1.heap.size, 5, none⟩ (.int .u64 0)) = w3 := ⟨_, rfl⟩
        rw [hE] at K2 M2
        obtain ⟨v0, v1, v2, v3, v4, v5⟩ := K2.six
        obtain ⟨g0, g1, g2, g3, g4, g5⟩ := K2.free6
        have K2' := Lib.hid K2
        have M2' := Lib.hid M2
        clear K2 M2
        have K3 := Lib.hid (K2'.out.set_ 3 (.int .i64 1))
        have N3 := Lib.hid (M2'.out.setCell (p := ⟨w1.heap.size, 3, none⟩) hs1 (.int .i64 1))
        go_wp2_with fail
        refine (hword_bad 0 4 2 1 false 0 _ bad14_11).mono ?_
        rintro e w4 ⟨rfl, hb4⟩
        have K4 : Cells w4 w1.heap.size 24 #[.int .i64 0, .int .i64 4, .int .i64 2, .int .i64 1, .bool false, .int .u64 0] := by have := K3.out.kept hb4; simpa using this
        have N4 := Lib.hid (N3.out.trans (hb4.mono N3.out.size))
        clear hb4
        clear q0 q1 q2 q3 q4 q5 f0 f1 f2 f3 f4 f5 hE v0 v1 v2 v3 v4 v5 g0 g1 g2 g3 g4 g5
        obtain ⟨q0, q1, q2, q3, q4, q5⟩ := K4.six
        clear K4
        go_wp2_with fail
        refine (hcheck_bad 0 4 2 1 false 0 _ bad14_11).mono ?_
        rintro e w5 ⟨rfl, hb5⟩
        clear q0 q1 q2 q3 q4 q5
        go_wp2_with fail
        go_roundw
        case rel => exact ⟨12, by omega, by go_num, N4.out.trans (hb5.mono N4.out.size)⟩
        case measure => simp [intOf]
      · -- 12
        have N := Lib.hid hnx
        clear hnx
        go_wp2_with fail
        refine (obj14 7 10 true _).mono ?_
        rintro e w1 ⟨rfl, hb1⟩
        have N1 := Lib.hid (N.out.trans (hb1.mono N.out.size))
        have hs1 : w.heap.size ≤ w1.heap.size := N1.out.size
        have K3 := Lib.hid (Cells.new w1 24 #[.int .i64 0, .int .i64 (-2), .int .i64 1, .int .i64 7, .bool true, .int .u64 0])
        have N3 := Lib.hid (N1.out.alloc N1.out.size (.cells #[.int .i64 0, .int .i64 (-2), .int .i64 1, .int .i64 7, .bool true, .int .u64 0] 24))
        go_wp2_with fail
        refine (hword_bad 0 (-2) 1 7 true 0 _ bad14_12).mono ?_
        rintro e w4 ⟨rfl, hb4⟩
        have K4 : Cells w4 w1.heap.size 24 #[.int .i64 0, .int .i64 (-2), .int .i64 1, .int .i64 7, .bool true, .int .u64 0] := by have := K3.out.kept hb4; simpa using this
        have N4 := Lib.hid (N3.out.trans (hb4.mono N3.out.size))
        clear hb4
        obtain ⟨q0, q1, q2, q3, q4, q5⟩ := K4.six
        clear K4
        go_wp2_with fail
        refine (hcheck_bad 0 (-2) 1 7 true 0 _ bad14_12).mono ?_
        rintro e w5 ⟨rfl, hb5⟩
        clear q0 q1 q2 q3 q4 q5
        go_wp2_with fail
        go_roundw
        case rel => exact ⟨13, by omega, by go_num, N4.out.trans (hb5.mono N4.out.size)⟩
        case measure => simp [intOf]
      · -- 13
        have N := Lib.hid hnx
        clear hnx
        go_wp2_with fail
        refine (obj14 7 10 true _).mono ?_
        rintro e w1 ⟨rfl, hb1⟩
        have N1 := Lib.hid (N.out.trans (hb1.mono N.out.size))
        have hs1 : w.heap.size ≤ w1.heap.size := N1.out.size
        have K3 := Lib.hid (Cells.new w1 24 #[.int .i64 0, .int .i64 10, .int .i64 257, .int .i64 7, .bool true, .int .u64 0])
        have N3 := Lib.hid (N1.out.alloc N1.out.size (.cells #[.int .i64 0, .int .i64 10, .int .i64 257, .int .i64 7, .bool true, .int .u64 0] 24))
        go_wp2_with fail
        refine (hword_bad 0 10 257 7 true 0 _ bad14_13).mono ?_
        rintro e w4 ⟨rfl, hb4⟩
        have K4 : Cells w4 w1.heap.size 24 #[.int .i64 0, .int .i64 10, .int .i64 257, .int .i64 7, .bool true, .int .u64 0] := by have := K3.out.kept hb4; simpa using this
        have N4 := Lib.hid (N3.out.trans (hb4.mono N3.out.size))
        clear hb4
        obtain ⟨q0, q1, q2, q3, q4, q5⟩ := K4.six
        clear K4
        go_wp2_with fail
        refine (hcheck_bad 0 10 257 7 true 0 _ bad14_13).mono ?_
        rintro e w5 ⟨rfl, hb5⟩
        clear q0 q1 q2 q3 q4 q5
        go_wp2_with fail
        go_roundw
        case rel => exact ⟨14, by omega, by go_num, N4.out.trans (hb5.mono N4.out.size)⟩
        case measure => simp [intOf]
    · obtain rfl : k = 14 := by omega
      have N := Lib.hid hnx
      clear hnx
      have D1 := Lib.hid most14
      have X := most32
      have D2 := Lib.hid least14
      have D3 := Lib.hid least_on
      have D4 := Lib.hid least_off
      generalize Blk.hdr ⟨0, 1920, 2, 0, false, 0⟩ = most at D1 X
      generalize Blk.hdr ⟨0, 2, 2, 0, false, 0⟩ = least at D2 D3 D4
      go_wp2_with fail
      refine (free14 1920 _).mono ?_
      rintro e x1 ⟨rfl, hc1⟩
      have L1 := Lib.hid (N.out.trans (hc1.mono N.out.size))
      go_wp2_with fail
      refine (D1.out _).mono ?_
      rintro e x2 ⟨rfl, hc2⟩
      have L2 := Lib.hid (L1.out.trans (hc2.mono L1.out.size))
      go_wp2_with fail
      refine (free14 2 _).mono ?_
      rintro e x3 ⟨rfl, hc3⟩
      have L3 := Lib.hid (L2.out.trans (hc3.mono L2.out.size))
      go_wp2_with fail
      refine (D2.out _).mono ?_
      rintro e x4 ⟨rfl, hc4⟩
      have L4 := Lib.hid (L3.out.trans (hc4.mono L3.out.size))
      go_wp2_with fail
      refine (D3.out _).mono ?_
      rintro e x5 ⟨rfl, hc5⟩
      have L5 := Lib.hid (L4.out.trans (hc5.mono L4.out.size))
      go_wp2_with fail
      refine (D4.out _).mono ?_
      rintro e x6 ⟨rfl, hc6⟩
      have L6 := Lib.hid (L5.out.trans (hc6.mono L5.out.size))
      go_wp2_with fail
      refine (zero_off _).mono ?_
      rintro e x7 ⟨rfl, hc7⟩
      have L7 := Lib.hid (L6.out.trans (hc7.mono L6.out.size))
      go_wp2_with fail
      refine (split131073 _).mono ?_
      rintro e x8 ⟨rfl, hc8⟩
      have L8 := Lib.hid (L7.out.trans (hc8.mono L7.out.size))
      have LA := Lib.hid (L8.out.alloc L8.out.size (.cells #[.int .i64 0, .int .i64 0, .int .i64 0, .int .i64 0, .bool false, .int .u64 0] 24))
      have WW := Lib.hid (Words.one (x8.alloc (.cells #[.int .i64 0, .int .i64 0, .int .i64 0, .int .i64 0, .bool false, .int .u64 0] 24)) 786433 22 (by omega))
      have LB := Lib.hid (LA.out.alloc LA.out.size (.cells #[.int .u64 786433] 22))
      go_wp2_with fail
      refine (low_sum _ _ (by simpa using WW.out)).mono ?_
      rintro e x9 ⟨rfl, hc9⟩
      have L9 := Lib.hid (LB.out.trans (hc9.mono LB.out.size))
      clear hc9
      go_wp2_with fail
      rw [or_sum]
      refine (split_sum _).mono ?_
      rintro e x10 ⟨rfl, hc10⟩
      have L10 := Lib.hid (L9.out.trans (hc10.mono L9.out.size))
      have LC := Lib.hid (L10.out.alloc L10.out.size (.cells #[.int .i64 0, .int .i64 0, .int .i64 0, .int .i64 0, .bool false, .int .u64 0] 24))
      go_wp2_with fail
      refine (alive14 _).mono ?_
      rintro e x11 ⟨rfl, hc11⟩
      have L11 := Lib.hid (LC.out.trans (hc11.mono LC.out.size))
      go_wp2
      go_ret
      exact ⟨rfl, L11.out⟩
end Go.Proofs.Ythdccahggcjogaa
