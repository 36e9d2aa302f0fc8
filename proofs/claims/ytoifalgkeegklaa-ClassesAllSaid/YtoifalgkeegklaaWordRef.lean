/- The functions of the reference of package word, walked. -/
import Derived.Test.YtoifalgkeegklaaWord
import Derived.IntWalk
namespace Go.Proofs.Ytoifalgkeegklaa
open Go.RowKit

theorem rbit_any (x i : Nat) (w : World) (hx : x < 18446744073709551616) (hi : i ≤ 9223372036854775807) :
    Calls Try.prog 84 #[.int .u64 x, .int .i64 i] w fun e w' => e = .returned (.int .u64 (x / 2 ^ i % 2 : Nat)) ∧ w = w' := by
  go_enter Try.func84, Try.ntmps84
  go_wp2
  go_loop [0, 5] (fun t j => ∃ k : Nat, k ≤ i ∧ j = .int .i64 k ∧ t = .int .u64 (x / 2 ^ k : Nat)) (fun _ j => i - (intOf j).toNat)
  case atStart => exact ⟨0, Nat.zero_le _, rfl, by simp⟩
  case round =>
    obtain ⟨k, hk, rfl, rfl⟩ := hrel
    have hb : x / 2 ^ k < 18446744073709551616 := Nat.lt_of_le_of_lt (Nat.div_le_self _ _) hx
    have H := Lib.hid (div_succ x k)
    obtain ⟨y, hy⟩ : ∃ y, y = x / 2 ^ k := ⟨_, rfl⟩
    rw [← hy] at hb H ⊢
    have Hy := Lib.hid hy
    clear hy
    by_cases hlt : k < i
    · go_wp2
      go_round
      case rel => exact ⟨k + 1, by omega, by go_num, by rw [H.out]; go_num⟩
      case measure => simp [intOf]; omega
    · obtain rfl : k = i := by omega
      go_wp2
      go_ret
      exact ⟨ret_int (by rw [Hy.out]; simp), rfl⟩

theorem rpower_any (i : Nat) (w : World) (hi : i ≤ 63) :
    Calls Try.prog 85 #[.int .i64 i] w fun e w' => e = .returned (.int .u64 (2 ^ i : Nat)) ∧ w = w' := by
  go_enter Try.func85, Try.ntmps85
  go_wp2
  go_loop [3, 4] (fun t j => ∃ k : Nat, k ≤ i ∧ j = .int .i64 k ∧ t = .int .u64 (2 ^ k : Nat)) (fun _ j => i - (intOf j).toNat)
  case atStart => exact ⟨0, Nat.zero_le _, rfl, by simp⟩
  case round =>
    obtain ⟨k, hk, rfl, rfl⟩ := hrel
    have hb : k < i → 2 ^ k * 2 < 18446744073709551616 := fun h => by
      have := Nat.pow_le_pow_right (n := 2) (by decide) (show k + 1 ≤ 63 by omega)
      rw [Nat.pow_succ] at this; omega
    have H := Lib.hid (Nat.pow_succ 2 k)
    obtain ⟨y, hy⟩ : ∃ y, y = 2 ^ k := ⟨_, rfl⟩
    rw [← hy] at hb H ⊢
    have Hy := Lib.hid hy
    clear hy
    by_cases hlt : k < i
    · have hb := hb hlt
      go_wp2
      go_round
      case rel => exact ⟨k + 1, by omega, by go_num, by rw [H.out]; go_num⟩
      case measure => simp [intOf]; omega
    · obtain rfl : k = i := by omega
      go_wp2
      go_ret
      exact ⟨ret_int (by rw [Hy.out]; simp), rfl⟩

theorem rbit_int (x : Nat) (i : Int) (w : World) (hx : x < 18446744073709551616) (h0 : 0 ≤ i) (hi : i ≤ 9223372036854775807) :
    Calls Try.prog 84 #[.int .u64 x, .int .i64 i] w fun e w' => e = .returned (.int .u64 (x / 2 ^ i.toNat % 2 : Nat)) ∧ w = w' := by
  obtain ⟨n, rfl⟩ := Int.eq_ofNat_of_zero_le h0
  rw [Int.toNat_natCast]
  exact rbit_any x n w hx (by omega)
theorem rpower_int (i : Int) (w : World) (h0 : 0 ≤ i) (hi : i ≤ 63) :
    Calls Try.prog 85 #[.int .i64 i] w fun e w' => e = .returned (.int .u64 (2 ^ i.toNat : Nat)) ∧ w = w' := by
  obtain ⟨n, rfl⟩ := Int.eq_ofNat_of_zero_le h0
  rw [Int.toNat_natCast]
  exact rpower_any n w (by omega)

theorem rvalue_any (x f n : Nat) (w : World) (hx : x < 18446744073709551616) (h : f + n ≤ 64) :
    Calls Try.prog 86 #[.int .u64 x, .int .i64 f, .int .i64 n] w fun e w' => e = .returned (.int .u64 (fld x f n : Nat)) ∧ w = w' := by
  go_enter Try.func86, Try.ntmps86
  go_wp2
  go_loop [7, 8] (fun t j => ∃ k : Nat, k ≤ n ∧ j = .int .i64 k ∧ t = .int .u64 (fld x f k : Nat)) (fun _ j => n - (intOf j).toNat)
  case atStart => exact ⟨0, Nat.zero_le _, rfl, by simp [fld, Nat.mod_one]⟩
  case round =>
    obtain ⟨k, hk, rfl, rfl⟩ := hrel
    by_cases hlt : k < n
    · obtain ⟨S, hS⟩ : ∃ S, S = fld x f k := ⟨_, rfl⟩
      obtain ⟨B, hB⟩ : ∃ B, B = x / 2 ^ (f + k) % 2 := ⟨_, rfl⟩
      obtain ⟨P, hP⟩ : ∃ P, P = 2 ^ k := ⟨_, rfl⟩
      have hs : fld x f (k + 1) = S + B * P := by rw [hS, hB, hP]; exact fld_succ x f k
      have hb : B * P < 18446744073709551616 ∧ S + B * P < 18446744073709551616 ∧ B < 2 := by
        have h1 := fld_lt x f (k + 1)
        have h2 : 2 ^ (k + 1) ≤ 18446744073709551616 := Nat.le_trans (Nat.pow_le_pow_right (by decide) (show k + 1 ≤ 64 by omega)) (by decide)
        rw [hs] at h1
        exact ⟨by omega, by omega, by rw [hB]; omega⟩
      have hm : ((B : Int) * (P : Int)) = ((B * P : Nat) : Int) := by simp
      rw [← hS]
      have e1 : ((f : Int) + (k : Int)).toNat = f + k := by omega
      have HS := Lib.hid hS
      have HB := Lib.hid hB
      have HP := Lib.hid hP
      have Hs := Lib.hid hs
      have E1 := Lib.hid e1
      have HM := Lib.hid hm
      clear hS hB hP hs e1 hm
      go_wp2_with fail
      refine (rbit_int x _ _ hx (by omega) (by omega)).mono ?_
      rintro e w' ⟨rfl, rfl⟩
      rw [E1.out, ← HB.out]
      go_wp2_with fail
      refine (rpower_int _ _ (by omega) (by omega)).mono ?_
      rintro e w' ⟨rfl, rfl⟩
      rw [Int.toNat_natCast, ← HP.out]
      go_wp2_with fail
      go_round
      case rel => exact ⟨k + 1, by omega, by go_num, by rw [Hs.out]; go_num⟩
      case measure => simp [intOf]; omega
    · obtain rfl : k = n := by omega
      go_wp2
      go_ret
      exact ⟨rfl, rfl⟩

theorem rwith_any (x f n v : Nat) (w : World) (hx : x < 18446744073709551616) (h : f + n ≤ 64) (hv : v < 2 ^ n) (hv64 : v < 18446744073709551616) :
    Calls Try.prog 75 #[.int .u64 x, .int .i64 f, .int .i64 n, .int .u64 v] w fun e w' => e = .returned (.int .u64 (setf x f n v : Nat)) ∧ w = w' := by
  have HV := Lib.hid hv
  clear hv
  go_enter Try.func75, Try.ntmps75
  go_wp2
  go_loop [0, 9] (fun t j => ∃ k : Nat, k ≤ n ∧ j = .int .i64 k ∧ t = .int .u64 (setf x f k (v % 2 ^ k) : Nat)) (fun _ j => n - (intOf j).toNat)
  case atStart => exact ⟨0, Nat.zero_le _, rfl, by rw [setf_zero]⟩
  case round =>
    obtain ⟨k, hk, rfl, rfl⟩ := hrel
    by_cases hlt : k < n
    · have F := setf_step x f k v
      have l1 : setf x f k (v % 2 ^ k) < 18446744073709551616 := setf_lt x f k _ hx (by omega) (Nat.mod_lt _ (Nat.two_pow_pos k))
      have l2 : setf x f (k + 1) (v % 2 ^ (k + 1)) < 18446744073709551616 := setf_lt x f (k + 1) _ hx (by omega) (Nat.mod_lt _ (Nat.two_pow_pos _))
      have l3 : 2 ^ (f + k) < 18446744073709551616 := Nat.lt_of_le_of_lt (Nat.pow_le_pow_right (by decide) (show f + k ≤ 63 by omega)) (by decide)
      obtain ⟨Y, hY⟩ : ∃ Y, Y = setf x f k (v % 2 ^ k) := ⟨_, rfl⟩
      obtain ⟨Z, hZ⟩ : ∃ Z, Z = setf x f (k + 1) (v % 2 ^ (k + 1)) := ⟨_, rfl⟩
      obtain ⟨B, hB⟩ : ∃ B, B = Y / 2 ^ (f + k) % 2 := ⟨_, rfl⟩
      obtain ⟨C, hC⟩ : ∃ C, C = v / 2 ^ k % 2 := ⟨_, rfl⟩
      obtain ⟨P, hP⟩ : ∃ P, P = 2 ^ (f + k) := ⟨_, rfl⟩
      have f1 : B * P ≤ Y := by rw [hB, hP, hY]; exact F.1
      have f2 : Z + B * P = Y + C * P := by rw [hB, hP, hY, hZ, hC]; exact F.2
      have f3 : B < 2 ∧ C < 2 ∧ Y < 18446744073709551616 ∧ Z < 18446744073709551616 ∧ P < 18446744073709551616 := ⟨by omega, by omega, by omega, by omega, by omega⟩
      have f4 : C * P ≤ Z ∧ B * P < 18446744073709551616 ∧ C * P < 18446744073709551616 := ⟨by omega, by omega, by omega⟩
      obtain ⟨f31, f32, f33, f34, f35⟩ := f3
      obtain ⟨f41, f42, f43⟩ := f4
      rw [← hY]
      have e1 : ((f : Int) + (k : Int)).toNat = f + k := by omega
      have HY := Lib.hid hY
      have HZ := Lib.hid hZ
      have HB := Lib.hid hB
      have HP := Lib.hid hP
      have HC := Lib.hid hC
      have E1 := Lib.hid e1
      have F2 := Lib.hid f2
      have f5 : Y - B * P + C * P < 18446744073709551616 := by omega
      clear hY hZ hB hP hC e1 f2 F l1 l2 l3
      go_wp2_with fail
      refine (rbit_int Y _ _ f33 (by omega) (by omega)).mono ?_
      rintro e w' ⟨rfl, rfl⟩
      rw [E1.out, ← HB.out]
      go_wp2_with fail
      refine (rpower_int _ _ (by omega) (by omega)).mono ?_
      rintro e w' ⟨rfl, rfl⟩
      rw [E1.out, ← HP.out]
      go_wp2_with fail
      refine (rbit_int v _ _ hv64 (by omega) (by omega)).mono ?_
      rintro e w' ⟨rfl, rfl⟩
      rw [Int.toNat_natCast, ← HC.out]
      go_wp2_with fail
      refine (rpower_int _ _ (by omega) (by omega)).mono ?_
      rintro e w' ⟨rfl, rfl⟩
      rw [E1.out, ← HP.out]
      go_wp2_with fail
      go_round
      case rel => exact ⟨k + 1, by omega, by go_num, by rw [← HZ.out]; have := F2.out; exact congrArg (Value.int .u64) (by omega)⟩
      case measure => simp [intOf]; omega
    · obtain rfl : k = n := by omega
      go_wp2
      go_ret
      exact ⟨ret_int (by rw [Nat.mod_eq_of_lt HV.out]), rfl⟩

end Go.Proofs.Ytoifalgkeegklaa
