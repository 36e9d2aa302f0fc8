/- The laws of package word, walked (5). -/
import Derived.Test.YtofigngilcgojaaLaw01c
namespace Go.Proofs.Ytofigngilcgojaa
open Go.RowKit
attribute [local go_sem ↓] Go.wp_at_zero Go.wp_at_succ

theorem names0 (W : World) : Calls Try.prog 22 #[.int .u64 18446744073709551615, .int .i64 0, .int .i64 64] W fun e w' => e = .returned (.tuple #[.int .u64 18446744073709551615, .int .i64 0]) ∧ W = w' := by
  have h := get_ok 18446744073709551615 0 64 W (by decide) (by decide) (by decide)
  rw [show fld 18446744073709551615 0 64 = 18446744073709551615 by decide] at h
  exact h
theorem names1 (W : World) : Calls Try.prog 24 #[.int .u64 5, .int .i64 0, .int .i64 64, .int .u64 18446744073709551615] W fun e w' => e = .returned (.tuple #[.int .u64 18446744073709551615, .int .i64 0]) ∧ W = w' := by
  have h := set_ok 5 0 64 18446744073709551615 W (by decide) (by decide) (by decide) (by decide)
  rw [show setf 5 0 64 18446744073709551615 = 18446744073709551615 by decide] at h
  exact h
theorem names2 (W : World) : Calls Try.prog 22 #[.int .u64 9223372036854775808, .int .i64 63, .int .i64 1] W fun e w' => e = .returned (.tuple #[.int .u64 1, .int .i64 0]) ∧ W = w' := by
  have h := get_ok 9223372036854775808 63 1 W (by decide) (by decide) (by decide)
  rw [show fld 9223372036854775808 63 1 = 1 by decide] at h
  exact h
theorem names3 (W : World) : Calls Try.prog 24 #[.int .u64 0, .int .i64 63, .int .i64 1, .int .u64 1] W fun e w' => e = .returned (.tuple #[.int .u64 9223372036854775808, .int .i64 0]) ∧ W = w' := by
  have h := set_ok 0 63 1 1 W (by decide) (by decide) (by decide) (by decide)
  rw [show setf 0 63 1 1 = 9223372036854775808 by decide] at h
  exact h
theorem names4 (W : World) : Calls Try.prog 24 #[.int .u64 0, .int .i64 63, .int .i64 1, .int .u64 2] W fun e w' => e = .returned (.tuple #[.int .u64 0, .int .i64 16]) ∧ W = w' := by
  have h := set_range 0 63 1 2 W (by decide) (by decide) (by decide)
  exact h
theorem names5 (W : World) : Calls Try.prog 24 #[.int .u64 0, .int .i64 0, .int .i64 63, .int .u64 9223372036854775808] W fun e w' => e = .returned (.tuple #[.int .u64 0, .int .i64 16]) ∧ W = w' := by
  have h := set_range 0 0 63 9223372036854775808 W (by decide) (by decide) (by decide)
  exact h
theorem names6 (W : World) : Calls Try.prog 24 #[.int .u64 0, .int .i64 1, .int .i64 63, .int .u64 9223372036854775807] W fun e w' => e = .returned (.tuple #[.int .u64 18446744073709551614, .int .i64 0]) ∧ W = w' := by
  have h := set_ok 0 1 63 9223372036854775807 W (by decide) (by decide) (by decide) (by decide)
  rw [show setf 0 1 63 9223372036854775807 = 18446744073709551614 by decide] at h
  exact h

theorem get1_no (f n : Int) (W : World) (hf : -9223372036854775808 ≤ f ∧ f ≤ 9223372036854775807 ∧ -9223372036854775808 ≤ n ∧ n ≤ 9223372036854775807) (h : ¬ Fld f n) : Calls Try.prog 22 #[.int .u64 1, .int .i64 f, .int .i64 n] W fun e w' => e = .returned (.tuple #[.int .u64 0, .int .i64 2]) ∧ W = w' :=
  get_no 1 f n W hf.1 hf.2.1 hf.2.2.1 hf.2.2.2 h
theorem set1_no (f n : Int) (W : World) (hf : -9223372036854775808 ≤ f ∧ f ≤ 9223372036854775807 ∧ -9223372036854775808 ≤ n ∧ n ≤ 9223372036854775807) (h : ¬ Fld f n) : Calls Try.prog 24 #[.int .u64 1, .int .i64 f, .int .i64 n, .int .u64 0] W fun e w' => e = .returned (.tuple #[.int .u64 0, .int .i64 2]) ∧ W = w' :=
  set_no 1 0 f n W hf.1 hf.2.1 hf.2.2.1 hf.2.2.2 h
theorem set2_no (f n : Int) (W : World) (hf : -9223372036854775808 ≤ f ∧ f ≤ 9223372036854775807 ∧ -9223372036854775808 ≤ n ∧ n ≤ 9223372036854775807) (h : ¬ Fld f n) : Calls Try.prog 24 #[.int .u64 1, .int .i64 f, .int .i64 n, .int .u64 18446744073709551615] W fun e w' => e = .returned (.tuple #[.int .u64 0, .int .i64 2]) ∧ W = w' :=
  set_no 1 18446744073709551615 f n W hf.1 hf.2.1 hf.2.2.1 hf.2.2.2 h

set_option maxRecDepth 100000 in
set_option maxHeartbeats 4000000 in
theorem walkWordNames (w : World) : Calls Try.prog 7 #[] w fun e w' => e = .returned (.bool true) ∧ Below w.heap.size w w' := by
  go_enter Try.func7, Try.ntmps7
  go_wp2_with fail
  refine wp_loop_rounds 10 ?_
  rw [rounds_succ]
  go_wp2_with fail
  go_region_held3 (fun w' => w'.cell? ⟨w.heap.size, 0, none⟩ = some (.int .i64 (-1)) ∧ w'.cell? ⟨w.heap.size + 1, 0, none⟩ = some (.int .i64 1)) (simp [go_sem]) (first | (go_at_call 22; refine (get1_no _ _ _ (by decide) (by unfold Fld; decide)).mono ?_; rintro e w' ⟨rfl, rfl⟩))
  go_wp2_with fail
  go_region_held3 (fun w' => w'.cell? ⟨w.heap.size, 0, none⟩ = some (.int .i64 (-1)) ∧ w'.cell? ⟨w.heap.size + 1, 0, none⟩ = some (.int .i64 1)) (simp [go_sem]) (first | (go_at_call 24; refine (set1_no _ _ _ (by decide) (by unfold Fld; decide)).mono ?_; rintro e w' ⟨rfl, rfl⟩))
  go_wp2_with fail
  go_region_held3 (fun w' => w'.cell? ⟨w.heap.size, 0, none⟩ = some (.int .i64 (-1)) ∧ w'.cell? ⟨w.heap.size + 1, 0, none⟩ = some (.int .i64 1)) (simp [go_sem]) (first | (go_at_call 24; refine (set2_no _ _ _ (by decide) (by unfold Fld; decide)).mono ?_; rintro e w' ⟨rfl, rfl⟩))
  go_wp2_with fail
  rw [rounds_succ]
  go_wp2_with fail
  go_region_held3 (fun w' => w'.cell? ⟨w.heap.size, 1, none⟩ = some (.int .i64 64) ∧ w'.cell? ⟨w.heap.size + 1, 1, none⟩ = some (.int .i64 1)) (simp [go_sem]) (first | (go_at_call 22; refine (get1_no _ _ _ (by decide) (by unfold Fld; decide)).mono ?_; rintro e w' ⟨rfl, rfl⟩))
  go_wp2_with fail
  go_region_held3 (fun w' => w'.cell? ⟨w.heap.size, 1, none⟩ = some (.int .i64 64) ∧ w'.cell? ⟨w.heap.size + 1, 1, none⟩ = some (.int .i64 1)) (simp [go_sem]) (first | (go_at_call 24; refine (set1_no _ _ _ (by decide) (by unfold Fld; decide)).mono ?_; rintro e w' ⟨rfl, rfl⟩))
  go_wp2_with fail
  go_region_held3 (fun w' => w'.cell? ⟨w.heap.size, 1, none⟩ = some (.int .i64 64) ∧ w'.cell? ⟨w.heap.size + 1, 1, none⟩ = some (.int .i64 1)) (simp [go_sem]) (first | (go_at_call 24; refine (set2_no _ _ _ (by decide) (by unfold Fld; decide)).mono ?_; rintro e w' ⟨rfl, rfl⟩))
  go_wp2_with fail
  rw [rounds_succ]
  go_wp2_with fail
  go_region_held3 (fun w' => w'.cell? ⟨w.heap.size, 2, none⟩ = some (.int .i64 0) ∧ w'.cell? ⟨w.heap.size + 1, 2, none⟩ = some (.int .i64 0)) (simp [go_sem]) (first | (go_at_call 22; refine (get1_no _ _ _ (by decide) (by unfold Fld; decide)).mono ?_; rintro e w' ⟨rfl, rfl⟩))
  go_wp2_with fail
  go_region_held3 (fun w' => w'.cell? ⟨w.heap.size, 2, none⟩ = some (.int .i64 0) ∧ w'.cell? ⟨w.heap.size + 1, 2, none⟩ = some (.int .i64 0)) (simp [go_sem]) (first | (go_at_call 24; refine (set1_no _ _ _ (by decide) (by unfold Fld; decide)).mono ?_; rintro e w' ⟨rfl, rfl⟩))
  go_wp2_with fail
  go_region_held3 (fun w' => w'.cell? ⟨w.heap.size, 2, none⟩ = some (.int .i64 0) ∧ w'.cell? ⟨w.heap.size + 1, 2, none⟩ = some (.int .i64 0)) (simp [go_sem]) (first | (go_at_call 24; refine (set2_no _ _ _ (by decide) (by unfold Fld; decide)).mono ?_; rintro e w' ⟨rfl, rfl⟩))
  go_wp2_with fail
  rw [rounds_succ]
  go_wp2_with fail
  go_region_held3 (fun w' => w'.cell? ⟨w.heap.size, 3, none⟩ = some (.int .i64 0) ∧ w'.cell? ⟨w.heap.size + 1, 3, none⟩ = some (.int .i64 65)) (simp [go_sem]) (first | (go_at_call 22; refine (get1_no _ _ _ (by decide) (by unfold Fld; decide)).mono ?_; rintro e w' ⟨rfl, rfl⟩))
  go_wp2_with fail
  go_region_held3 (fun w' => w'.cell? ⟨w.heap.size, 3, none⟩ = some (.int .i64 0) ∧ w'.cell? ⟨w.heap.size + 1, 3, none⟩ = some (.int .i64 65)) (simp [go_sem]) (first | (go_at_call 24; refine (set1_no _ _ _ (by decide) (by unfold Fld; decide)).mono ?_; rintro e w' ⟨rfl, rfl⟩))
  go_wp2_with fail
  go_region_held3 (fun w' => w'.cell? ⟨w.heap.size, 3, none⟩ = some (.int .i64 0) ∧ w'.cell? ⟨w.heap.size + 1, 3, none⟩ = some (.int .i64 65)) (simp [go_sem]) (first | (go_at_call 24; refine (set2_no _ _ _ (by decide) (by unfold Fld; decide)).mono ?_; rintro e w' ⟨rfl, rfl⟩))
  go_wp2_with fail
  rw [rounds_succ]
  go_wp2_with fail
  go_region_held3 (fun w' => w'.cell? ⟨w.heap.size, 4, none⟩ = some (.int .i64 0) ∧ w'.cell? ⟨w.heap.size + 1, 4, none⟩ = some (.int .i64 (-1))) (simp [go_sem]) (first | (go_at_call 22; refine (get1_no _ _ _ (by decide) (by unfold Fld; decide)).mono ?_; rintro e w' ⟨rfl, rfl⟩))
  go_wp2_with fail
  go_region_held3 (fun w' => w'.cell? ⟨w.heap.size, 4, none⟩ = some (.int .i64 0) ∧ w'.cell? ⟨w.heap.size + 1, 4, none⟩ = some (.int .i64 (-1))) (simp [go_sem]) (first | (go_at_call 24; refine (set1_no _ _ _ (by decide) (by unfold Fld; decide)).mono ?_; rintro e w' ⟨rfl, rfl⟩))
  go_wp2_with fail
  go_region_held3 (fun w' => w'.cell? ⟨w.heap.size, 4, none⟩ = some (.int .i64 0) ∧ w'.cell? ⟨w.heap.size + 1, 4, none⟩ = some (.int .i64 (-1))) (simp [go_sem]) (first | (go_at_call 24; refine (set2_no _ _ _ (by decide) (by unfold Fld; decide)).mono ?_; rintro e w' ⟨rfl, rfl⟩))
  go_wp2_with fail
  rw [rounds_succ]
  go_wp2_with fail
  go_region_held3 (fun w' => w'.cell? ⟨w.heap.size, 5, none⟩ = some (.int .i64 63) ∧ w'.cell? ⟨w.heap.size + 1, 5, none⟩ = some (.int .i64 2)) (simp [go_sem]) (first | (go_at_call 22; refine (get1_no _ _ _ (by decide) (by unfold Fld; decide)).mono ?_; rintro e w' ⟨rfl, rfl⟩))
  go_wp2_with fail
  go_region_held3 (fun w' => w'.cell? ⟨w.heap.size, 5, none⟩ = some (.int .i64 63) ∧ w'.cell? ⟨w.heap.size + 1, 5, none⟩ = some (.int .i64 2)) (simp [go_sem]) (first | (go_at_call 24; refine (set1_no _ _ _ (by decide) (by unfold Fld; decide)).mono ?_; rintro e w' ⟨rfl, rfl⟩))
  go_wp2_with fail
  go_region_held3 (fun w' => w'.cell? ⟨w.heap.size, 5, none⟩ = some (.int .i64 63) ∧ w'.cell? ⟨w.heap.size + 1, 5, none⟩ = some (.int .i64 2)) (simp [go_sem]) (first | (go_at_call 24; refine (set2_no _ _ _ (by decide) (by unfold Fld; decide)).mono ?_; rintro e w' ⟨rfl, rfl⟩))
  go_wp2_with fail
  rw [rounds_succ]
  go_wp2_with fail
  go_region_held3 (fun w' => w'.cell? ⟨w.heap.size, 6, none⟩ = some (.int .i64 1) ∧ w'.cell? ⟨w.heap.size + 1, 6, none⟩ = some (.int .i64 64)) (simp [go_sem]) (first | (go_at_call 22; refine (get1_no _ _ _ (by decide) (by unfold Fld; decide)).mono ?_; rintro e w' ⟨rfl, rfl⟩))
  go_wp2_with fail
  go_region_held3 (fun w' => w'.cell? ⟨w.heap.size, 6, none⟩ = some (.int .i64 1) ∧ w'.cell? ⟨w.heap.size + 1, 6, none⟩ = some (.int .i64 64)) (simp [go_sem]) (first | (go_at_call 24; refine (set1_no _ _ _ (by decide) (by unfold Fld; decide)).mono ?_; rintro e w' ⟨rfl, rfl⟩))
  go_wp2_with fail
  go_region_held3 (fun w' => w'.cell? ⟨w.heap.size, 6, none⟩ = some (.int .i64 1) ∧ w'.cell? ⟨w.heap.size + 1, 6, none⟩ = some (.int .i64 64)) (simp [go_sem]) (first | (go_at_call 24; refine (set2_no _ _ _ (by decide) (by unfold Fld; decide)).mono ?_; rintro e w' ⟨rfl, rfl⟩))
  go_wp2_with fail
  rw [rounds_succ]
  go_wp2_with fail
  go_region_held3 (fun w' => w'.cell? ⟨w.heap.size, 7, none⟩ = some (.int .i64 9223372036854775807) ∧ w'.cell? ⟨w.heap.size + 1, 7, none⟩ = some (.int .i64 1)) (simp [go_sem]) (first | (go_at_call 22; refine (get1_no _ _ _ (by decide) (by unfold Fld; decide)).mono ?_; rintro e w' ⟨rfl, rfl⟩))
  go_wp2_with fail
  go_region_held3 (fun w' => w'.cell? ⟨w.heap.size, 7, none⟩ = some (.int .i64 9223372036854775807) ∧ w'.cell? ⟨w.heap.size + 1, 7, none⟩ = some (.int .i64 1)) (simp [go_sem]) (first | (go_at_call 24; refine (set1_no _ _ _ (by decide) (by unfold Fld; decide)).mono ?_; rintro e w' ⟨rfl, rfl⟩))
  go_wp2_with fail
  go_region_held3 (fun w' => w'.cell? ⟨w.heap.size, 7, none⟩ = some (.int .i64 9223372036854775807) ∧ w'.cell? ⟨w.heap.size + 1, 7, none⟩ = some (.int .i64 1)) (simp [go_sem]) (first | (go_at_call 24; refine (set2_no _ _ _ (by decide) (by unfold Fld; decide)).mono ?_; rintro e w' ⟨rfl, rfl⟩))
  go_wp2_with fail
  rw [rounds_succ]
  go_wp2_with fail
  go_region_held3 (fun w' => w'.cell? ⟨w.heap.size, 8, none⟩ = some (.int .i64 5) ∧ w'.cell? ⟨w.heap.size + 1, 8, none⟩ = some (.int .i64 (-9223372036854775808))) (simp [go_sem]) (first | (go_at_call 22; refine (get1_no _ _ _ (by decide) (by unfold Fld; decide)).mono ?_; rintro e w' ⟨rfl, rfl⟩))
  go_wp2_with fail
  go_region_held3 (fun w' => w'.cell? ⟨w.heap.size, 8, none⟩ = some (.int .i64 5) ∧ w'.cell? ⟨w.heap.size + 1, 8, none⟩ = some (.int .i64 (-9223372036854775808))) (simp [go_sem]) (first | (go_at_call 24; refine (set1_no _ _ _ (by decide) (by unfold Fld; decide)).mono ?_; rintro e w' ⟨rfl, rfl⟩))
  go_wp2_with fail
  go_region_held3 (fun w' => w'.cell? ⟨w.heap.size, 8, none⟩ = some (.int .i64 5) ∧ w'.cell? ⟨w.heap.size + 1, 8, none⟩ = some (.int .i64 (-9223372036854775808))) (simp [go_sem]) (first | (go_at_call 24; refine (set2_no _ _ _ (by decide) (by unfold Fld; decide)).mono ?_; rintro e w' ⟨rfl, rfl⟩))
  go_wp2_with fail
  rw [rounds_succ]
  go_wp2_with fail
  refine (names0 _).mono ?_
  rintro e w' ⟨rfl, rfl⟩
  go_wp2_with fail
  refine (names1 _).mono ?_
  rintro e w' ⟨rfl, rfl⟩
  go_wp2_with fail
  refine (names2 _).mono ?_
  rintro e w' ⟨rfl, rfl⟩
  go_wp2_with fail
  refine (names3 _).mono ?_
  rintro e w' ⟨rfl, rfl⟩
  go_wp2_with fail
  refine (names4 _).mono ?_
  rintro e w' ⟨rfl, rfl⟩
  go_wp2_with fail
  refine (names5 _).mono ?_
  rintro e w' ⟨rfl, rfl⟩
  go_wp2_with fail
  refine (names6 _).mono ?_
  rintro e w' ⟨rfl, rfl⟩
  go_wp2_with fail
  refine (alive01 _).mono ?_
  rintro e w' ⟨rfl, hb⟩
  go_wp2
  go_ret
  refine ⟨rfl, Below.trans ?_ (hb.mono ?_)⟩
  · repeat (first | exact Below.refl _ _ | refine Below.drew ?_ | refine Below.alloc ?_ (by simp) _)
  · simp; omega
end Go.Proofs.Ytofigngilcgojaa
