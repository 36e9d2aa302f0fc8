/- Bounds of classes, their reference, and the laws on one size, walked. -/
import Derived.Test.YtoifalgkeegklaaClass
import Derived.Test.YtoifalgkeegklaaMem
import Derived.BigRegion
namespace Go.Proofs.Ytoifalgkeegklaa
open Go.RowKit

def hiN (k : Nat) : Nat := min (2 ^ (k + 1) - 1) 1920
theorem bounds_bad (k : Int) (w : World) (h : k < 1 ∨ 10 < k) : Calls Try.prog 47 #[.int .i64 k] w fun e w' => e = .returned (.tuple #[.int .i64 0, .int .i64 0, .int .i64 2]) ∧ Below w.heap.size w w' := by
  rcases h with h | h
  · go_enter Try.func47, Try.ntmps47
    go_wp2
    go_ret3
    exact ⟨rfl, Below.refl _ _⟩
  · have h2 : ¬ k < 1 := by omega
    go_enter Try.func47, Try.ntmps47
    go_wp2
    go_ret3
    exact ⟨rfl, Below.refl _ _⟩
theorem ten {k : Nat} (h1 : 1 ≤ k) (h2 : k ≤ 10) : k = 1 ∨ k = 2 ∨ k = 3 ∨ k = 4 ∨ k = 5 ∨ k = 6 ∨ k = 7 ∨ k = 8 ∨ k = 9 ∨ k = 10 := by omega
set_option maxRecDepth 100000 in
theorem bounds_ok (k : Nat) (w : World) (h1 : 1 ≤ k) (h2 : k ≤ 10) : Calls Try.prog 47 #[.int .i64 k] w fun e w' => e = .returned (.tuple #[.int .i64 (2 ^ k : Nat), .int .i64 (hiN k : Nat), .int .i64 0]) ∧ Below w.heap.size w w' := by
  rcases ten h1 h2 with rfl | rfl | rfl | rfl | rfl | rfl | rfl | rfl | rfl | rfl <;>
  · clear h1 h2
    go_enter Try.func47, Try.ntmps47
    go_wp2
    go_region
    all_goals
      go_wp2
      go_ret3
      exact ⟨rfl, (Below.refl _ _).drew⟩

theorem log_range (s : Nat) (h : 2 ≤ s) (h2 : s ≤ 1920) : 1 ≤ Nat.log2 s ∧ Nat.log2 s ≤ 10 := by
  have l1 : Nat.log2 s < 11 := (Nat.log2_lt (by omega)).2 (by omega)
  have l2 : 2 ^ 1 ≤ s := h
  have := (Nat.le_log2 (by omega)).2 l2
  omega


theorem is_yes (n k : Nat) (w : World) (h : 2 ≤ n) (h2 : n ≤ 1920) (hk : Nat.log2 n = k) : Calls Try.prog 67 #[.int .i64 n, .int .i64 k] w fun e w' => e = .returned (.bool true) ∧ w = w' := by
  have C := Lib.hid (class_ok n w h h2)
  rw [hk] at C
  clear hk
  go_enter Try.func67, Try.ntmps67
  go_wp2_with fail
  refine C.out.mono ?_
  rintro e wd ⟨rfl, rfl⟩
  go_wp2
  go_ret
  exact ⟨rfl, rfl⟩
theorem alive17 (w : World) : Calls Try.prog 48 #[] w fun e w' => e = .returned (.bool true) ∧ w = w' := by
  have c1 := Lib.hid (is_yes 2 1 w (by decide) (by decide) (by decide))
  have c2 := Lib.hid (is_yes 3 1 w (by decide) (by decide) (by decide))
  have c3 := Lib.hid (is_yes 4 2 w (by decide) (by decide) (by decide))
  have c4 := Lib.hid (is_yes 7 2 w (by decide) (by decide) (by decide))
  have c5 := Lib.hid (is_yes 100 6 w (by decide) (by decide) (by decide))
  have c6 := Lib.hid (is_yes 1024 10 w (by decide) (by decide) (by decide))
  have c7 := Lib.hid (is_yes 1920 10 w (by decide) (by decide) (by decide))
  go_enter Try.func48, Try.ntmps48
  go_wp2_with fail
  refine c1.out.mono ?_
  rintro e wd ⟨rfl, rfl⟩
  go_wp2_with fail
  refine c2.out.mono ?_
  rintro e wd ⟨rfl, rfl⟩
  go_wp2_with fail
  refine c3.out.mono ?_
  rintro e wd ⟨rfl, rfl⟩
  go_wp2_with fail
  refine c4.out.mono ?_
  rintro e wd ⟨rfl, rfl⟩
  go_wp2_with fail
  refine c5.out.mono ?_
  rintro e wd ⟨rfl, rfl⟩
  go_wp2_with fail
  refine c6.out.mono ?_
  rintro e wd ⟨rfl, rfl⟩
  go_wp2_with fail
  refine c7.out.mono ?_
  rintro e wd ⟨rfl, rfl⟩
  go_wp2
  go_ret
  exact ⟨rfl, rfl⟩
end Go.Proofs.Ytoifalgkeegklaa
