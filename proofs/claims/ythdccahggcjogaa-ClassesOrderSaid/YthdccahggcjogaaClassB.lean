/- Bounds of classes, their reference, and the laws on one size, walked. -/
import Derived.Test.YthdccahggcjogaaClass
import Derived.Test.YthdccahggcjogaaMem
import Derived.BigRegion
namespace Go.Proofs.Ythdccahggcjogaa
open Go.RowKit

def hiN (k : Nat) : Nat := min (2 ^ (k + 1) - 1) 1920
theorem bounds_bad (k : Int) (w : World) (h : k < 1 ∨ 10 < k) : Calls Try.prog 47 #[.int .i64 k] w fun e w' => e = .returned (.tuple #[.int .i64 0, .int .i64 0, .int .i64 2]) ∧ Below w.heap.size w w' := by
  rcases h with h | h
  · go_enter Try.func47, Try.ntmps47
    go_wp2
    go_ret3
    exact ⟨rfl, Below.refl _ _⟩
  · have h2 : ¬ k < 1 := by omega
    go_enter Try.func47, Try.ntmps47
    go_wp2
    go_ret3
    exact ⟨rfl, Below.refl _ _⟩
theorem ten {k : Nat} (h1 : 1 ≤ k) (h2 : k ≤ 10) : k = 1 ∨ k = 2 ∨ k = 3 ∨ k = 4 ∨ k = 5 ∨ k = 6 ∨ k = 7 ∨ k = 8 ∨ k = 9 ∨ k = 10 := by omega
set_option maxRecDepth 100000 in
theorem bounds_ok (k : Nat) (w : World) (h1 : 1 ≤ k) (h2 : k ≤ 10) : Calls Try.prog 47 #[.int .i64 k] w fun e w' => e = .returned (.tuple #[.int .i64 (2 ^ k : Nat), .int .i64 (hiN k : Nat), .int .i64 0]) ∧ Below w.heap.size w w' := by
  rcases ten h1 h2 with rfl | rfl | rfl | rfl | rfl | rfl | rfl | rfl | rfl | rfl <;>
  · clear h1 h2
    go_enter Try.func47, Try.ntmps47
    go_wp2
    go_region
    all_goals
      go_wp2
      go_ret3
      exact ⟨rfl, (Below.refl _ _).drew⟩

/-- What the reference has found among the sizes from 2 on. -/
def bF (k : Int) : Nat → Nat × Nat
  | 0 => (0, 0)
  | m + 1 => if (Nat.log2 (m + 2) : Int) = k then (if (bF k m).1 = 0 then m + 2 else (bF k m).1, m + 2) else bF k m
theorem bF_yes {k : Int} {m : Nat} (h : (Nat.log2 (m + 2) : Int) = k) : bF k (m + 1) = (if (bF k m).1 = 0 then m + 2 else (bF k m).1, m + 2) := by
  conv => lhs; unfold bF
  rw [if_pos h]
theorem bF_no {k : Int} {m : Nat} (h : (Nat.log2 (m + 2) : Int) ≠ k) : bF k (m + 1) = bF k m := by
  conv => lhs; unfold bF
  rw [if_neg h]
theorem bF_ten : ∀ k : Fin 10, bF ((k.val + 1 : Nat) : Int) 1919 = (2 ^ (k.val + 1), hiN (k.val + 1)) := by decide +kernel
theorem log_range (s : Nat) (h : 2 ≤ s) (h2 : s ≤ 1920) : 1 ≤ Nat.log2 s ∧ Nat.log2 s ≤ 10 := by
  have l1 : Nat.log2 s < 11 := (Nat.log2_lt (by omega)).2 (by omega)
  have l2 : 2 ^ 1 ≤ s := h
  have := (Nat.le_log2 (by omega)).2 l2
  omega
theorem bF_none {k : Int} (h : k < 1 ∨ 10 < k) : ∀ m, m ≤ 1919 → bF k m = (0, 0)
  | 0, _ => rfl
  | m + 1, hm => by
    have := log_range (m + 2) (by omega) (by omega)
    rw [bF_no (by omega), bF_none h m (by omega)]
theorem rbounds_any (k : Int) (w : World) :
    Calls Try.prog 48 #[.int .i64 k] w fun e w' => e = .returned (if (bF k 1919).1 = 0 then .tuple #[.int .i64 0, .int .i64 0, .int .i64 2] else .tuple #[.int .i64 ((bF k 1919).1 : Nat), .int .i64 ((bF k 1919).2 : Nat), .int .i64 0]) ∧ w = w' := by
  obtain ⟨R, hR⟩ : ∃ R, R = (if (bF k 1919).1 = 0 then Value.tuple #[.int .i64 0, .int .i64 0, .int .i64 2] else .tuple #[.int .i64 ((bF k 1919).1 : Nat), .int .i64 ((bF k 1919).2 : Nat), .int .i64 0]) := ⟨_, rfl⟩
  rw [← hR]
  have HR := Lib.hid hR
  clear hR
  go_enter Try.func48, Try.ntmps48
  go_wp2
  go_loopw [5, 6, 7] (fun a b c wr => ∃ m lo hi : Nat, c = .int .i64 ((m : Int) + 2) ∧ a = .int .i64 lo ∧ b = .int .i64 hi ∧ m ≤ 1919 ∧ Hid (bF k m = (lo, hi)) ∧ wr = w) (fun _ _ c _ => (2000 - intOf c).toNat)
  case atStart => exact ⟨0, 0, 0, rfl, rfl, rfl, by omega, rfl, rfl⟩
  case round =>
    obtain ⟨m, lo, hi, rfl, rfl, rfl, hm, hB, rfl⟩ := hrel
    by_cases hlt : m < 1919
    · have C := Lib.hid fun W => rclass_any (m + 2) W (by omega)
      have e2 : ((m + 2 : Nat) : Int) = (m : Int) + 2 := by omega
      rw [e2] at C
      have hle : (m : Int) + 2 ≤ 1920 := by omega
      by_cases hy : (Nat.log2 (m + 2) : Int) = k
      · have BY := Lib.hid (bF_yes hy)
        have hne : (((Nat.log2 (m + 2) : Nat) : Int) != k) = false := by simpa using hy
        by_cases h0 : lo = 0
        · subst h0
          generalize Nat.log2 (m + 2) = g at *
          clear hy e2
          go_wp2_with fail
          refine (C.out _).mono ?_
          rintro e wd ⟨rfl, rfl⟩
          go_wp2
          go_roundw
          case rel => exact ⟨m + 1, m + 2, m + 2, by go_num, by go_num, by go_num, by omega, Lib.hid (by rw [BY.out, hB.out]; rfl), trivial⟩
          case measure => simp [intOf]; omega
        · have h1 : (((lo : Nat) : Int) == 0) = false := by simpa using h0
          have BE := Lib.hid (show bF k (m + 1) = (lo, m + 2) by rw [BY.out, hB.out]; simp only; rw [if_neg h0])
          generalize Nat.log2 (m + 2) = g at *
          clear hy e2 h0
          go_wp2_with fail
          refine (C.out _).mono ?_
          rintro e wd ⟨rfl, rfl⟩
          go_wp2
          go_roundw
          case rel => exact ⟨m + 1, lo, m + 2, by go_num, by go_num, by go_num, by omega, BE, trivial⟩
          case measure => simp [intOf]; omega
      · have BN := Lib.hid (bF_no hy)
        have hne : (((Nat.log2 (m + 2) : Nat) : Int) != k) = true := by simpa using hy
        generalize Nat.log2 (m + 2) = g at *
        clear hy e2
        go_wp2_with fail
        refine (C.out _).mono ?_
        rintro e wd ⟨rfl, rfl⟩
        go_wp2
        go_roundw
        case rel => exact ⟨m + 1, lo, hi, by go_num, rfl, rfl, by omega, Lib.hid (by rw [BN.out, hB.out]), trivial⟩
        case measure => simp [intOf]; omega
    · obtain rfl : m = 1919 := by omega
      have hgt : ¬ ((1919 : Nat) : Int) + 2 ≤ 1920 := by omega
      have hr := HR.out
      rw [hB.out] at hr
      simp only at hr
      by_cases h0 : lo = 0
      · subst h0
        rw [if_pos rfl] at hr
        have HR2 := Lib.hid hr
        clear hr
        go_wp2
        go_ret3
        rw [HR2.out]
        exact ⟨rfl, rfl⟩
      · rw [if_neg h0] at hr
        have h1 : (((lo : Nat) : Int) == 0) = false := by simpa using h0
        have HR2 := Lib.hid hr
        clear hr h0
        go_wp2
        go_ret3
        rw [HR2.out]
        exact ⟨rfl, rfl⟩
theorem rbounds_bad (k : Int) (w : World) (h : k < 1 ∨ 10 < k) : Calls Try.prog 48 #[.int .i64 k] w fun e w' => e = .returned (.tuple #[.int .i64 0, .int .i64 0, .int .i64 2]) ∧ w = w' := by
  have := rbounds_any k w
  rw [bF_none h 1919 (Nat.le_refl _)] at this
  exact this
theorem rbounds_ok (k : Nat) (w : World) (h1 : 1 ≤ k) (h2 : k ≤ 10) : Calls Try.prog 48 #[.int .i64 k] w fun e w' => e = .returned (.tuple #[.int .i64 (2 ^ k : Nat), .int .i64 (hiN k : Nat), .int .i64 0]) ∧ w = w' := by
  have := rbounds_any k w
  have e := bF_ten ⟨k - 1, by omega⟩
  simp only [show k - 1 + 1 = k by omega] at e
  have hp : 2 ^ k ≠ 0 := by have := Nat.two_pow_pos k; omega
  rw [e, if_neg hp] at this
  exact this
theorem rcls_bad (n : Int) (w : World) (h : n < 2 ∨ 1920 < n) :
    Calls Try.prog 46 #[.int .i64 n] w fun e w' => e = .returned (.tuple #[.int .i64 0, .int .i64 2]) ∧ w = w' := by
  rcases h with h | h
  · go_enter Try.func46, Try.ntmps46
    go_wp2
    go_ret2
    exact ⟨rfl, rfl⟩
  · have h2 : ¬ n < 2 := by omega
    go_enter Try.func46, Try.ntmps46
    go_wp2
    go_ret2
    exact ⟨rfl, rfl⟩
theorem rcls_ok (n : Nat) (w : World) (h : 2 ≤ n) (h2 : n ≤ 1920) :
    Calls Try.prog 46 #[.int .i64 n] w fun e w' => e = .returned (.tuple #[.int .i64 (Nat.log2 n : Nat), .int .i64 0]) ∧ w = w' := by
  have C := Lib.hid (rclass_any n w (by omega))
  generalize Nat.log2 n = k at *
  go_enter Try.func46, Try.ntmps46
  go_wp2_with fail
  refine C.out.mono ?_
  rintro e wd ⟨rfl, rfl⟩
  go_wp2
  go_ret2
  exact ⟨rfl, rfl⟩

theorem is_yes (n k : Nat) (w : World) (h : 2 ≤ n) (h2 : n ≤ 1920) (hk : Nat.log2 n = k) : Calls Try.prog 50 #[.int .i64 n, .int .i64 k] w fun e w' => e = .returned (.bool true) ∧ w = w' := by
  have C := Lib.hid (class_ok n w h h2)
  rw [hk] at C
  clear hk
  go_enter Try.func50, Try.ntmps50
  go_wp2_with fail
  refine C.out.mono ?_
  rintro e wd ⟨rfl, rfl⟩
  go_wp2
  go_ret
  exact ⟨rfl, rfl⟩
theorem alive17 (w : World) : Calls Try.prog 49 #[] w fun e w' => e = .returned (.bool true) ∧ w = w' := by
  have c1 := Lib.hid (is_yes 2 1 w (by decide) (by decide) (by decide))
  have c2 := Lib.hid (is_yes 3 1 w (by decide) (by decide) (by decide))
  have c3 := Lib.hid (is_yes 4 2 w (by decide) (by decide) (by decide))
  have c4 := Lib.hid (is_yes 7 2 w (by decide) (by decide) (by decide))
  have c5 := Lib.hid (is_yes 100 6 w (by decide) (by decide) (by decide))
  have c6 := Lib.hid (is_yes 1024 10 w (by decide) (by decide) (by decide))
  have c7 := Lib.hid (is_yes 1920 10 w (by decide) (by decide) (by decide))
  go_enter Try.func49, Try.ntmps49
  go_wp2_with fail
  refine c1.out.mono ?_
  rintro e wd ⟨rfl, rfl⟩
  go_wp2_with fail
  refine c2.out.mono ?_
  rintro e wd ⟨rfl, rfl⟩
  go_wp2_with fail
  refine c3.out.mono ?_
  rintro e wd ⟨rfl, rfl⟩
  go_wp2_with fail
  refine c4.out.mono ?_
  rintro e wd ⟨rfl, rfl⟩
  go_wp2_with fail
  refine c5.out.mono ?_
  rintro e wd ⟨rfl, rfl⟩
  go_wp2_with fail
  refine c6.out.mono ?_
  rintro e wd ⟨rfl, rfl⟩
  go_wp2_with fail
  refine c7.out.mono ?_
  rintro e wd ⟨rfl, rfl⟩
  go_wp2
  go_ret
  exact ⟨rfl, rfl⟩
end Go.Proofs.Ythdccahggcjogaa
