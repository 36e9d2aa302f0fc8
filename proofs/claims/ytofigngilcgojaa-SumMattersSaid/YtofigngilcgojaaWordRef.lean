/- The functions of the reference of package word, walked. -/
import Derived.Test.YtofigngilcgojaaWord
import Derived.IntWalk
namespace Go.Proofs.Ytofigngilcgojaa
open Go.RowKit

theorem rbit_any (x i : Nat) (w : World) (hx : x < 18446744073709551616) (hi : i ≤ 9223372036854775807) :
    Calls Try.prog 43 #[.int .u64 x, .int .i64 i] w fun e w' => e = .returned (.int .u64 (x / 2 ^ i % 2 : Nat)) ∧ w = w' := by
  go_enter Try.func43, Try.ntmps43
  go_wp2
  go_loop [0, 5] (fun t j => ∃ k : Nat, k ≤ i ∧ j = .int .i64 k ∧ t = .int .u64 (x / 2 ^ k : Nat)) (fun _ j => i - (intOf j).toNat)
  case atStart => exact ⟨0, Nat.zero_le _, rfl, by simp⟩
  case round =>
    obtain ⟨k, hk, rfl, rfl⟩ := hrel
    have hb : x / 2 ^ k < 18446744073709551616 := Nat.lt_of_le_of_lt (Nat.div_le_self _ _) hx
    have H := Lib.hid (div_succ x k)
    obtain ⟨y, hy⟩ : ∃ y, y = x / 2 ^ k := ⟨_, rfl⟩
    rw [← hy] at hb H ⊢
    have Hy := Lib.hid hy
    clear hy
    by_cases hlt : k < i
    · go_wp2
      go_round
      case rel => exact ⟨k + 1, by omega, by go_num, by rw [H.out]; go_num⟩
      case measure => simp [intOf]; omega
    · obtain rfl : k = i := by omega
      go_wp2
      go_ret
      exact ⟨ret_int (by rw [Hy.out]; simp), rfl⟩

theorem rpower_any (i : Nat) (w : World) (hi : i ≤ 63) :
    Calls Try.prog 44 #[.int .i64 i] w fun e w' => e = .returned (.int .u64 (2 ^ i : Nat)) ∧ w = w' := by
  go_enter Try.func44, Try.ntmps44
  go_wp2
  go_loop [3, 4] (fun t j => ∃ k : Nat, k ≤ i ∧ j = .int .i64 k ∧ t = .int .u64 (2 ^ k : Nat)) (fun _ j => i - (intOf j).toNat)
  case atStart => exact ⟨0, Nat.zero_le _, rfl, by simp⟩
  case round =>
    obtain ⟨k, hk, rfl, rfl⟩ := hrel
    have hb : k < i → 2 ^ k * 2 < 18446744073709551616 := fun h => by
      have := Nat.pow_le_pow_right (n := 2) (by decide) (show k + 1 ≤ 63 by omega)
      rw [Nat.pow_succ] at this; omega
    have H := Lib.hid (Nat.pow_succ 2 k)
    obtain ⟨y, hy⟩ : ∃ y, y = 2 ^ k := ⟨_, rfl⟩
    rw [← hy] at hb H ⊢
    have Hy := Lib.hid hy
    clear hy
    by_cases hlt : k < i
    · have hb := hb hlt
      go_wp2
      go_round
      case rel => exact ⟨k + 1, by omega, by go_num, by rw [H.out]; go_num⟩
      case measure => simp [intOf]; omega
    · obtain rfl : k = i := by omega
      go_wp2
      go_ret
      exact ⟨ret_int (by rw [Hy.out]; simp), rfl⟩

theorem rbit_int (x : Nat) (i : Int) (w : World) (hx : x < 18446744073709551616) (h0 : 0 ≤ i) (hi : i ≤ 9223372036854775807) :
    Calls Try.prog 43 #[.int .u64 x, .int .i64 i] w fun e w' => e = .returned (.int .u64 (x / 2 ^ i.toNat % 2 : Nat)) ∧ w = w' := by
  obtain ⟨n, rfl⟩ := Int.eq_ofNat_of_zero_le h0
  rw [Int.toNat_natCast]
  exact rbit_any x n w hx (by omega)
theorem rpower_int (i : Int) (w : World) (h0 : 0 ≤ i) (hi : i ≤ 63) :
    Calls Try.prog 44 #[.int .i64 i] w fun e w' => e = .returned (.int .u64 (2 ^ i.toNat : Nat)) ∧ w = w' := by
  obtain ⟨n, rfl⟩ := Int.eq_ofNat_of_zero_le h0
  rw [Int.toNat_natCast]
  exact rpower_any n w (by omega)

theorem rvalue_any (x f n : Nat) (w : World) (hx : x < 18446744073709551616) (h : f + n ≤ 64) :
    Calls Try.prog 37 #[.int .u64 x, .int .i64 f, .int .i64 n] w fun e w' => e = .returned (.int .u64 (fld x f n : Nat)) ∧ w = w' := by
  go_enter Try.func37, Try.ntmps37
  go_wp2
  go_loop [7, 8] (fun t j => ∃ k : Nat, k ≤ n ∧ j = .int .i64 k ∧ t = .int .u64 (fld x f k : Nat)) (fun _ j => n - (intOf j).toNat)
  case atStart => exact ⟨0, Nat.zero_le _, rfl, by simp [fld, Nat.mod_one]⟩
  case round =>
    obtain ⟨k, hk, rfl, rfl⟩ := hrel
    by_cases hlt : k < n
    · obtain ⟨S, hS⟩ : ∃ S, S = fld x f k := ⟨_, rfl⟩
      obtain ⟨B, hB⟩ : ∃ B, B = x / 2 ^ (f + k) % 2 := ⟨_, rfl⟩
      obtain ⟨P, hP⟩ : ∃ P, P = 2 ^ k := ⟨_, rfl⟩
      have hs : fld x f (k + 1) = S + B * P := by rw [hS, hB, hP]; exact fld_succ x f k
      have hb : B * P < 18446744073709551616 ∧ S + B * P < 18446744073709551616 ∧ B < 2 := by
        have h1 := fld_lt x f (k + 1)
        have h2 : 2 ^ (k + 1) ≤ 18446744073709551616 := Nat.le_trans (Nat.pow_le_pow_right (by decide) (show k + 1 ≤ 64 by omega)) (by decide)
        rw [hs] at h1
        exact ⟨by omega, by omega, by rw [hB]; omega⟩
      have hm : ((B : Int) * (P : Int)) = ((B * P : Nat) : Int) := by simp
      rw [← hS]
      have e1 : ((f : Int) + (k : Int)).toNat = f + k := by omega
      have HS := Lib.hid hS
      have HB := Lib.hid hB
      have HP := Lib.hid hP
      have Hs := Lib.hid hs
      have E1 := Lib.hid e1
      have HM := Lib.hid hm
      clear hS hB hP hs e1 hm
      go_wp2_with fail
      refine (rbit_int x _ _ hx (by omega) (by omega)).mono ?_
      rintro e w' ⟨rfl, rfl⟩
      rw [E1.out, ← HB.out]
      go_wp2_with fail
      refine (rpower_int _ _ (by omega) (by omega)).mono ?_
      rintro e w' ⟨rfl, rfl⟩
      rw [Int.toNat_natCast, ← HP.out]
      go_wp2_with fail
      go_round
      case rel => exact ⟨k + 1, by omega, by go_num, by rw [Hs.out]; go_num⟩
      case measure => simp [intOf]; omega
    · obtain rfl : k = n := by omega
      go_wp2
      go_ret
      exact ⟨rfl, rfl⟩

theorem rwith_any (x f n v : Nat) (w : World) (hx : x < 18446744073709551616) (h : f + n ≤ 64) (hv : v < 2 ^ n) (hv64 : v < 18446744073709551616) :
    Calls Try.prog 39 #[.int .u64 x, .int .i64 f, .int .i64 n, .int .u64 v] w fun e w' => e = .returned (.int .u64 (setf x f n v : Nat)) ∧ w = w' := by
  have HV := Lib.hid hv
  clear hv
  go_enter Try.func39, Try.ntmps39
  go_wp2
  go_loop [0, 9] (fun t j => ∃ k : Nat, k ≤ n ∧ j = .int .i64 k ∧ t = .int .u64 (setf x f k (v % 2 ^ k) : Nat)) (fun _ j => n - (intOf j).toNat)
  case atStart => exact ⟨0, Nat.zero_le _, rfl, by rw [setf_zero]⟩
  case round =>
    obtain ⟨k, hk, rfl, rfl⟩ := hrel
    by_cases hlt : k < n
    · have F := setf_step x f k v
      have l1 : setf x f k (v % 2 ^ k) < 18446744073709551616 := setf_lt x f k _ hx (by omega) (Nat.mod_lt _ (Nat.two_pow_pos k))
      have l2 : setf x f (k + 1) (v % 2 ^ (k + 1)) < 18446744073709551616 := setf_lt x f (k + 1) _ hx (by omega) (Nat.mod_lt _ (Nat.two_pow_pos _))
      have l3 : 2 ^ (f + k) < 18446744073709551616 := Nat.lt_of_le_of_lt (Nat.pow_le_pow_right (by decide) (show f + k ≤ 63 by omega)) (by decide)
      obtain ⟨Y, hY⟩ : ∃ Y, Y = setf x f k (v % 2 ^ k) := ⟨_, rfl⟩
      obtain ⟨Z, hZ⟩ : ∃ Z, Z = setf x f (k + 1) (v % 2 ^ (k + 1)) := ⟨_, rfl⟩
      obtain ⟨B, hB⟩ : ∃ B, B = Y / 2 ^ (f + k) % 2 := ⟨_, rfl⟩
      obtain ⟨C, hC⟩ : ∃ C, C = v / 2 ^ k % 2 := ⟨_, rfl⟩
      obtain ⟨P, hP⟩ : ∃ P, P = 2 ^ (f + k) := ⟨_, rfl⟩
      have f1 : B * P ≤ Y := by rw [hB, hP, hY]; exact F.1
      have f2 : Z + B * P = Y + C * P := by rw [hB, hP, hY, hZ, hC]; exact F.2
      have f3 : B < 2 ∧ C < 2 ∧ Y < 18446744073709551616 ∧ Z < 18446744073709551616 ∧ P < 18446744073709551616 := ⟨by omega, by omega, by omega, by omega, by omega⟩
      have f4 : C * P ≤ Z ∧ B * P < 18446744073709551616 ∧ C * P < 18446744073709551616 := ⟨by omega, by omega, by omega⟩
      obtain ⟨f31, f32, f33, f34, f35⟩ := f3
      obtain ⟨f41, f42, f43⟩ := f4
      rw [← hY]
      have e1 : ((f : Int) + (k : Int)).toNat = f + k := by omega
      have HY := Lib.hid hY
      have HZ := Lib.hid hZ
      have HB := Lib.hid hB
      have HP := Lib.hid hP
      have HC := Lib.hid hC
      have E1 := Lib.hid e1
      have F2 := Lib.hid f2
      have f5 : Y - B * P + C * P < 18446744073709551616 := by omega
      clear hY hZ hB hP hC e1 f2 F l1 l2 l3
      go_wp2_with fail
      refine (rbit_int Y _ _ f33 (by omega) (by omega)).mono ?_
      rintro e w' ⟨rfl, rfl⟩
      rw [E1.out, ← HB.out]
      go_wp2_with fail
      refine (rpower_int _ _ (by omega) (by omega)).mono ?_
      rintro e w' ⟨rfl, rfl⟩
      rw [E1.out, ← HP.out]
      go_wp2_with fail
      refine (rbit_int v _ _ hv64 (by omega) (by omega)).mono ?_
      rintro e w' ⟨rfl, rfl⟩
      rw [Int.toNat_natCast, ← HC.out]
      go_wp2_with fail
      refine (rpower_int _ _ (by omega) (by omega)).mono ?_
      rintro e w' ⟨rfl, rfl⟩
      rw [E1.out, ← HP.out]
      go_wp2_with fail
      go_round
      case rel => exact ⟨k + 1, by omega, by go_num, by rw [← HZ.out]; have := F2.out; exact congrArg (Value.int .u64) (by omega)⟩
      case measure => simp [intOf]; omega
    · obtain rfl : k = n := by omega
      go_wp2
      go_ret
      exact ⟨ret_int (by rw [Nat.mod_eq_of_lt HV.out]), rfl⟩

theorem rfits_any (v n : Nat) (w : World) (hv : v < 18446744073709551616) (hn : n ≤ 64) :
    Calls Try.prog 38 #[.int .u64 v, .int .i64 n] w fun e w' => e = .returned (.bool (decide (v < 2 ^ n))) ∧ w = w' := by
  by_cases h64 : n = 64
  · subst h64
    have e1 : decide (v < 2 ^ 64) = true := by simpa using hv
    go_enter Try.func38, Try.ntmps38
    go_wp2
    go_ret
    exact ⟨by rw [e1]; rfl, rfl⟩
  · have h5 : ((n : Int) == 64) = false := by simp; omega
    have h63 : n ≤ 63 := by omega
    clear h64
    go_enter Try.func38, Try.ntmps38
    go_wp2_with (go_at_call 44; refine (rpower_any n _ h63).mono ?_; rintro e w' ⟨rfl, rfl⟩)
    go_ret
    exact ⟨by
      have e : ((2 : Int) ^ n) = ((2 ^ n : Nat) : Int) := by simp
      have e2 : ((v : Int) < 2 ^ n) = (v < 2 ^ n) := by rw [e]; exact propext Int.ofNat_lt
      show Ending.returned (.bool (decide ((v : Int) < 2 ^ n))) = _
      simp only [e2], rfl⟩

theorem rfield_yes (f n : Int) (w : World) (h : Fld f n) : Calls Try.prog 27 #[.int .i64 f, .int .i64 n] w fun e w' => e = .returned (.bool true) ∧ w = w' := by
  obtain ⟨h1, h2, h3, h4⟩ := h
  go_enter Try.func27, Try.ntmps27
  go_wp2
  go_ret
  exact ⟨rfl, rfl⟩

theorem rfield_no (f n : Int) (w : World) (hf : -9223372036854775808 ≤ f) (hf2 : f ≤ 9223372036854775807) (hn : -9223372036854775808 ≤ n) (hn2 : n ≤ 9223372036854775807) (h : ¬ Fld f n) :
    Calls Try.prog 27 #[.int .i64 f, .int .i64 n] w fun e w' => e = .returned (.bool false) ∧ w = w' := by
  unfold Fld at h
  by_cases h1 : f < 0
  · clear h
    go_enter Try.func27, Try.ntmps27
    go_wp2
    go_ret
    exact ⟨rfl, rfl⟩
  by_cases h2 : 63 < f
  · clear h
    go_enter Try.func27, Try.ntmps27
    go_wp2
    go_ret
    exact ⟨rfl, rfl⟩
  by_cases h3 : n < 1
  · clear h
    go_enter Try.func27, Try.ntmps27
    go_wp2
    go_ret
    exact ⟨rfl, rfl⟩
  have h4 : 64 - f < n := by omega
  clear h
  go_enter Try.func27, Try.ntmps27
  go_wp2
  go_ret
  exact ⟨by simp; omega, rfl⟩

theorem rget_no (x : Nat) (f n : Int) (w : World) (hf : -9223372036854775808 ≤ f) (hf2 : f ≤ 9223372036854775807) (hn : -9223372036854775808 ≤ n) (hn2 : n ≤ 9223372036854775807) (h : ¬ Fld f n) :
    Calls Try.prog 23 #[.int .u64 x, .int .i64 f, .int .i64 n] w fun e w' => e = .returned (.tuple #[.int .u64 0, .int .i64 2]) ∧ w = w' := by
  have H := Lib.hid h
  clear h
  go_enter Try.func23, Try.ntmps23
  go_wp2_with (go_at_call 27; refine (rfield_no f n _ hf hf2 hn hn2 H.out).mono ?_; rintro e w' ⟨rfl, rfl⟩)
  go_ret2
  exact ⟨rfl, rfl⟩
theorem fld_mk (f n : Nat) (h1 : 1 ≤ n) (h2 : f + n ≤ 64) : Fld (f : Int) (n : Int) := ⟨by omega, by omega, by omega, by omega⟩
theorem rget_ok (x f n : Nat) (w : World) (hx : x < 18446744073709551616) (h1 : 1 ≤ n) (h2 : f + n ≤ 64) :
    Calls Try.prog 23 #[.int .u64 x, .int .i64 f, .int .i64 n] w fun e w' => e = .returned (.tuple #[.int .u64 (fld x f n : Nat), .int .i64 0]) ∧ w = w' := by
  go_enter Try.func23, Try.ntmps23
  go_wp2_with (first | (go_at_call 27; refine (rfield_yes f n _ (fld_mk f n h1 h2)).mono ?_; rintro e w' ⟨rfl, rfl⟩) | (go_at_call 37; refine (rvalue_any x f n _ hx h2).mono ?_; rintro e w' ⟨rfl, rfl⟩))
  go_ret2
  exact ⟨rfl, rfl⟩
theorem rset_no (x v : Nat) (f n : Int) (w : World) (hf : -9223372036854775808 ≤ f) (hf2 : f ≤ 9223372036854775807) (hn : -9223372036854775808 ≤ n) (hn2 : n ≤ 9223372036854775807) (h : ¬ Fld f n) :
    Calls Try.prog 25 #[.int .u64 x, .int .i64 f, .int .i64 n, .int .u64 v] w fun e w' => e = .returned (.tuple #[.int .u64 0, .int .i64 2]) ∧ w = w' := by
  have H := Lib.hid h
  clear h
  go_enter Try.func25, Try.ntmps25
  go_wp2_with (go_at_call 27; refine (rfield_no f n _ hf hf2 hn hn2 H.out).mono ?_; rintro e w' ⟨rfl, rfl⟩)
  go_ret2
  exact ⟨rfl, rfl⟩
theorem rset_range (x f n v : Nat) (w : World) (hv64 : v < 18446744073709551616) (h1 : 1 ≤ n) (h2 : f + n ≤ 64) (hv : 2 ^ n ≤ v) :
    Calls Try.prog 25 #[.int .u64 x, .int .i64 f, .int .i64 n, .int .u64 v] w fun e w' => e = .returned (.tuple #[.int .u64 0, .int .i64 16]) ∧ w = w' := by
  have hd : decide (v < 2 ^ n) = false := by simpa using hv
  have HD := Lib.hid hd
  clear hd hv
  go_enter Try.func25, Try.ntmps25
  go_wp2_with (first | (go_at_call 27; refine (rfield_yes f n _ (fld_mk f n h1 h2)).mono ?_; rintro e w' ⟨rfl, rfl⟩) | (go_at_call 38; refine (rfits_any v n _ hv64 (by omega)).mono ?_; rintro e w' ⟨rfl, rfl⟩; rw [HD.out]))
  go_ret2
  exact ⟨rfl, rfl⟩
theorem rset_ok (x f n v : Nat) (w : World) (hx : x < 18446744073709551616) (hv64 : v < 18446744073709551616) (h1 : 1 ≤ n) (h2 : f + n ≤ 64) (hv : v < 2 ^ n) :
    Calls Try.prog 25 #[.int .u64 x, .int .i64 f, .int .i64 n, .int .u64 v] w fun e w' => e = .returned (.tuple #[.int .u64 (setf x f n v : Nat), .int .i64 0]) ∧ w = w' := by
  have hd : decide (v < 2 ^ n) = true := by simpa using hv
  have HD := Lib.hid hd
  have HV := Lib.hid hv
  clear hd hv
  go_enter Try.func25, Try.ntmps25
  go_wp2_with (first | (go_at_call 27; refine (rfield_yes f n _ (fld_mk f n h1 h2)).mono ?_; rintro e w' ⟨rfl, rfl⟩) | (go_at_call 38; refine (rfits_any v n _ hv64 (by omega)).mono ?_; rintro e w' ⟨rfl, rfl⟩; rw [HD.out]) | (go_at_call 39; refine (rwith_any x f n v _ hx h2 HV.out hv64).mono ?_; rintro e w' ⟨rfl, rfl⟩))
  go_ret2
  exact ⟨rfl, rfl⟩
end Go.Proofs.Ytofigngilcgojaa
