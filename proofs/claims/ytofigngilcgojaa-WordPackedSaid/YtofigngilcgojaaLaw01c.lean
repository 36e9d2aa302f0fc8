/- The laws of package word, walked (3). -/
import Derived.Test.YtofigngilcgojaaLaw01b
namespace Go.Proofs.Ytofigngilcgojaa
open Go.RowKit
attribute [local go_sem ↓] Go.wp_at_zero Go.wp_at_succ

theorem inside_cast (V d : Nat) (hV : V < 18446744073709551616) : (V : Int) / 2 ^ d % 2 = bits .and .u64 ((V : Int) / 2 ^ d) 1 := by
  have h := u64_and_nat (V / 2 ^ d) 1 (Nat.lt_of_le_of_lt (Nat.div_le_self _ _) hV) (by decide)
  rw [nat_mask1] at h
  have e : ((V / 2 ^ d : Nat) : Int) = (V : Int) / 2 ^ d := by simp
  have e1 : ((1 : Nat) : Int) = 1 := rfl
  rw [e, e1] at h
  rw [h]; simp

set_option maxRecDepth 100000 in
theorem walkWordPacked (x : Nat) (f n : Int) (v u : Nat) (k : Int) (w : World) (hx : x < 18446744073709551616) (hf : -9223372036854775808 ≤ f) (hf2 : f ≤ 9223372036854775807) (hn : -9223372036854775808 ≤ n) (hn2 : n ≤ 9223372036854775807)
    (hv : v < 18446744073709551616) (hu : u < 18446744073709551616) (hk : -9223372036854775808 ≤ k) (hk2 : k ≤ 9223372036854775807) :
    Calls Try.prog 8 #[.int .u64 x, .int .i64 f, .int .i64 n, .int .u64 v, .int .u64 u, .int .i64 k] w fun e w' => e = .returned (.bool true) ∧ Below w.heap.size w w' := by
  by_cases h1 : Fld f n
  case neg =>
    have H1 := Lib.hid h1
    clear h1
    go_enter Try.func8, Try.ntmps8
    go_wp2_with (first | (go_at_call 26; refine (alive01 _).mono ?_; rintro e w' ⟨rfl, hb⟩) | (go_at_call 27; refine (rfield_no f n _ hf hf2 hn hn2 H1.out).mono ?_; rintro e w' ⟨rfl, rfl⟩))
    go_ret
    exact ⟨rfl, by assumption⟩
  by_cases h2 : k < 0
  · have H1 := Lib.hid h1
    clear h1
    go_enter Try.func8, Try.ntmps8
    go_wp2_with (first | (go_at_call 26; refine (alive01 _).mono ?_; rintro e w' ⟨rfl, hb⟩) | (go_at_call 27; refine (rfield_yes f n _ H1.out).mono ?_; rintro e w' ⟨rfl, rfl⟩))
    go_ret
    exact ⟨rfl, by assumption⟩
  by_cases h3 : 63 < k
  · have H1 := Lib.hid h1
    clear h1
    go_enter Try.func8, Try.ntmps8
    go_wp2_with (first | (go_at_call 26; refine (alive01 _).mono ?_; rintro e w' ⟨rfl, hb⟩) | (go_at_call 27; refine (rfield_yes f n _ H1.out).mono ?_; rintro e w' ⟨rfl, rfl⟩))
    go_ret
    exact ⟨rfl, by assumption⟩
  obtain ⟨F, N, rfl, rfl, hN, hFN⟩ := fld_nat h1
  obtain ⟨K, rfl⟩ := Int.eq_ofNat_of_zero_le (show 0 ≤ k by omega)
  have H1 := Lib.hid h1
  have hK : K ≤ 63 := by omega
  clear h1 h2 h3 hf hf2 hn hn2 hk hk2
  have p1 : v % 2 ^ N < 2 ^ N := Nat.mod_lt _ (Nat.two_pow_pos N)
  have p2 : u % 2 ^ N < 2 ^ N := Nat.mod_lt _ (Nat.two_pow_pos N)
  have p3 := fld_lt x F N
  have b1 := setf_lt x F N _ hx hFN p1
  have c1 := set_ok x F N _ w hx hN hFN p1
  have c2 := set_ok _ F N _ w b1 hN hFN p2
  have c3 := set_ok x F N _ w hx hN hFN p2
  have c4 := get_ok _ F N w b1 hN hFN
  have c5 := get_ok _ K 1 w b1 (by omega) (by omega)
  have c6 := get_ok x K 1 w hx (by omega) (by omega)
  have c7 := get_ok x F N w hx hN hFN
  have c8 := set_ok x F N _ w hx hN hFN p3
  rw [setf_setf _ _ _ _ _ p1 p2] at c2
  rw [fld_setf _ _ _ _ p1] at c4
  rw [setf_own] at c8
  rw [bit_setf _ _ _ _ _ p1] at c5
  have hV64 : v % 2 ^ N < 18446744073709551616 := Nat.lt_of_le_of_lt (Nat.mod_le _ _) hv
  have e1 : ((1 : Nat) : Int) = 1 := rfl
  rw [e1] at c5 c6
  clear b1 p1 p2 p3 e1
  generalize hV : v % 2 ^ N = V at c1 c2 c3 c4 c5 c6 c7 c8 hV64
  generalize hU : u % 2 ^ N = U at c1 c2 c3 c4 c5 c6 c7 c8
  generalize hX : setf x F N V = X at c1 c2 c3 c4 c5 c6 c7 c8
  generalize hY : setf x F N U = Y at c1 c2 c3 c4 c5 c6 c7 c8
  generalize hO : fld x F N = O at c1 c2 c3 c4 c5 c6 c7 c8
  clear hX hY hO
  have HV := Lib.hid hV
  have HU := Lib.hid hU
  have C1 := Lib.hid c1
  have C2 := Lib.hid c2
  have C3 := Lib.hid c3
  have C4 := Lib.hid c4
  have C6 := Lib.hid c6
  have C7 := Lib.hid c7
  have C8 := Lib.hid c8
  clear c1 c2 c3 c4 c6 c7 c8 hV hU
  by_cases h5 : F ≤ K ∧ K < F + N
  · rw [if_pos h5] at c5
    have C5 := Lib.hid c5
    clear c5
    obtain ⟨h6, h7⟩ := h5
    have h8 : (F : Int) ≤ K := by omega
    have h9 : (K : Int) - F < N := by omega
    go_enter Try.func8, Try.ntmps8
    go_wp2_with fail
    refine (rfield_yes _ _ _ H1.out).mono ?_
    rintro e w' ⟨rfl, rfl⟩
    go_wp2_with fail
    refine (cut_any v N _ hv (by omega)).mono ?_
    rintro e w' ⟨rfl, rfl⟩
    rw [HV.out]
    go_wp2_with fail
    refine (cut_any u N _ hu (by omega)).mono ?_
    rintro e w' ⟨rfl, rfl⟩
    rw [HU.out]
    go_wp2_with fail
    refine C1.out.mono ?_
    rintro e w' ⟨rfl, rfl⟩
    go_wp2_with fail
    refine C2.out.mono ?_
    rintro e w' ⟨rfl, rfl⟩
    go_wp2_with fail
    refine C3.out.mono ?_
    rintro e w' ⟨rfl, rfl⟩
    go_wp2_with fail
    refine C4.out.mono ?_
    rintro e w' ⟨rfl, rfl⟩
    go_wp2_with fail
    refine C5.out.mono ?_
    rintro e w' ⟨rfl, rfl⟩
    go_wp2_with fail
    refine C6.out.mono ?_
    rintro e w' ⟨rfl, rfl⟩
    go_wp2_with fail
    refine C7.out.mono ?_
    rintro e w' ⟨rfl, rfl⟩
    go_wp2_with fail
    refine C8.out.mono ?_
    rintro e w' ⟨rfl, rfl⟩
    go_wp2_with fail
    · refine (alive01 _).mono ?_
      rintro e w' ⟨rfl, hb⟩
      go_wp2
      go_ret
      exact ⟨rfl, hb⟩
    · exact absurd (inside_cast V (K - F) hV64) ‹_›
  · rw [if_neg h5] at c5
    have C5 := Lib.hid c5
    clear c5
    by_cases h6 : K < F
    · have h8 : (K : Int) < F := by omega
      clear h5
      go_enter Try.func8, Try.ntmps8
      go_wp2_with fail
      refine (rfield_yes _ _ _ H1.out).mono ?_
      rintro e w' ⟨rfl, rfl⟩
      go_wp2_with fail
      refine (cut_any v N _ hv (by omega)).mono ?_
      rintro e w' ⟨rfl, rfl⟩
      rw [HV.out]
      go_wp2_with fail
      refine (cut_any u N _ hu (by omega)).mono ?_
      rintro e w' ⟨rfl, rfl⟩
      rw [HU.out]
      go_wp2_with fail
      refine C1.out.mono ?_
      rintro e w' ⟨rfl, rfl⟩
      go_wp2_with fail
      refine C2.out.mono ?_
      rintro e w' ⟨rfl, rfl⟩
      go_wp2_with fail
      refine C3.out.mono ?_
      rintro e w' ⟨rfl, rfl⟩
      go_wp2_with fail
      refine C4.out.mono ?_
      rintro e w' ⟨rfl, rfl⟩
      go_wp2_with fail
      refine C5.out.mono ?_
      rintro e w' ⟨rfl, rfl⟩
      go_wp2_with fail
      refine C6.out.mono ?_
      rintro e w' ⟨rfl, rfl⟩
      go_wp2_with fail
      refine C7.out.mono ?_
      rintro e w' ⟨rfl, rfl⟩
      go_wp2_with fail
      refine C8.out.mono ?_
      rintro e w' ⟨rfl, rfl⟩
      go_wp2_with fail
      refine (alive01 _).mono ?_
      rintro e w' ⟨rfl, hb⟩
      go_wp2
      go_ret
      exact ⟨rfl, hb⟩
    · have h8 : (F : Int) ≤ K := by omega
      have h9 : ¬ (K : Int) - F < N := by omega
      clear h5
      go_enter Try.func8, Try.ntmps8
      go_wp2_with fail
      refine (rfield_yes _ _ _ H1.out).mono ?_
      rintro e w' ⟨rfl, rfl⟩
      go_wp2_with fail
      refine (cut_any v N _ hv (by omega)).mono ?_
      rintro e w' ⟨rfl, rfl⟩
      rw [HV.out]
      go_wp2_with fail
      refine (cut_any u N _ hu (by omega)).mono ?_
      rintro e w' ⟨rfl, rfl⟩
      rw [HU.out]
      go_wp2_with fail
      refine C1.out.mono ?_
      rintro e w' ⟨rfl, rfl⟩
      go_wp2_with fail
      refine C2.out.mono ?_
      rintro e w' ⟨rfl, rfl⟩
      go_wp2_with fail
      refine C3.out.mono ?_
      rintro e w' ⟨rfl, rfl⟩
      go_wp2_with fail
      refine C4.out.mono ?_
      rintro e w' ⟨rfl, rfl⟩
      go_wp2_with fail
      refine C5.out.mono ?_
      rintro e w' ⟨rfl, rfl⟩
      go_wp2_with fail
      refine C6.out.mono ?_
      rintro e w' ⟨rfl, rfl⟩
      go_wp2_with fail
      refine C7.out.mono ?_
      rintro e w' ⟨rfl, rfl⟩
      go_wp2_with fail
      refine C8.out.mono ?_
      rintro e w' ⟨rfl, rfl⟩
      go_wp2_with fail
      refine (alive01 _).mono ?_
      rintro e w' ⟨rfl, hb⟩
      go_wp2
      go_ret
      exact ⟨rfl, hb⟩

/-- A byte as a field. -/
theorem get_byte (x i : Nat) (w : World) (hx : x < 18446744073709551616) (hi : i < 8) :
    Calls Try.prog 22 #[.int .u64 x, .int .i64 (8 * i : Nat), .int .i64 8] w fun e w' => e = .returned (.tuple #[.int .u64 (byt x i : Nat), .int .i64 0]) ∧ w = w' := by
  have h := get_ok x (8 * i) 8 w hx (by omega) (by omega)
  have e : fld x (8 * i) 8 = byt x i := by unfold fld byt; rw [Nat.pow_mul]
  rw [e] at h
  exact h
theorem byt_of (y0 y1 y2 y3 y4 y5 y6 y7 : Nat) (h : y0 < 256 ∧ y1 < 256 ∧ y2 < 256 ∧ y3 < 256 ∧ y4 < 256 ∧ y5 < 256 ∧ y6 < 256 ∧ y7 < 256) : bytV (ofB y0 y1 y2 y3 y4 y5 y6 y7) = arrV y0 y1 y2 y3 y4 y5 y6 y7 := by
  obtain ⟨h0, h1, h2, h3, h4, h5, h6, h7⟩ := h
  have e0 : byt (ofB y0 y1 y2 y3 y4 y5 y6 y7) 0 = y0 := by unfold byt ofB; omega
  have e1 : byt (ofB y0 y1 y2 y3 y4 y5 y6 y7) 1 = y1 := by unfold byt ofB; omega
  have e2 : byt (ofB y0 y1 y2 y3 y4 y5 y6 y7) 2 = y2 := by unfold byt ofB; omega
  have e3 : byt (ofB y0 y1 y2 y3 y4 y5 y6 y7) 3 = y3 := by unfold byt ofB; omega
  have e4 : byt (ofB y0 y1 y2 y3 y4 y5 y6 y7) 4 = y4 := by unfold byt ofB; omega
  have e5 : byt (ofB y0 y1 y2 y3 y4 y5 y6 y7) 5 = y5 := by unfold byt ofB; omega
  have e6 : byt (ofB y0 y1 y2 y3 y4 y5 y6 y7) 6 = y6 := by unfold byt ofB; omega
  have e7 : byt (ofB y0 y1 y2 y3 y4 y5 y6 y7) 7 = y7 := by unfold byt ofB; omega
  unfold bytV arrV
  rw [e0, e1, e2, e3, e4, e5, e6, e7]
theorem of_byt (x : Nat) (hx : x < 18446744073709551616) : ofB (byt x 0) (byt x 1) (byt x 2) (byt x 3) (byt x 4) (byt x 5) (byt x 6) (byt x 7) = x := by
  unfold ofB byt; omega
theorem ofB_lt (y0 y1 y2 y3 y4 y5 y6 y7 : Nat) (h : y0 < 256 ∧ y1 < 256 ∧ y2 < 256 ∧ y3 < 256 ∧ y4 < 256 ∧ y5 < 256 ∧ y6 < 256 ∧ y7 < 256) : ofB y0 y1 y2 y3 y4 y5 y6 y7 < 18446744073709551616 := by
  unfold ofB; omega

theorem walkWordBytes (x : Nat) (y0 y1 y2 y3 y4 y5 y6 y7 : Nat) (w : World) (hx : x < 18446744073709551616) (h : y0 < 256 ∧ y1 < 256 ∧ y2 < 256 ∧ y3 < 256 ∧ y4 < 256 ∧ y5 < 256 ∧ y6 < 256 ∧ y7 < 256) :
    Calls Try.prog 3 #[.int .u64 x, .agg #[.int .u8 y0, .int .u8 y1, .int .u8 y2, .int .u8 y3, .int .u8 y4, .int .u8 y5, .int .u8 y6, .int .u8 y7]] w fun e w' => e = .returned (.bool true) ∧ Below w.heap.size w w' := by
  have H := Lib.hid h
  clear h
  have ae := arr_eq (byt x 0) (byt x 1) (byt x 2) (byt x 3) (byt x 4) (byt x 5) (byt x 6) (byt x 7)
  go_enter Try.func3, Try.ntmps3
  go_wp2
  go_region_held3 (fun w' => w.heap.size < w'.heap.size ∧ Below w.heap.size w w' ∧ w'.cell? ⟨w.heap.size, 0, none⟩ = some (.int .u8 y0) ∧ w'.cell? ⟨w.heap.size, 1, none⟩ = some (.int .u8 y1) ∧ w'.cell? ⟨w.heap.size, 2, none⟩ = some (.int .u8 y2) ∧ w'.cell? ⟨w.heap.size, 3, none⟩ = some (.int .u8 y3) ∧ w'.cell? ⟨w.heap.size, 4, none⟩ = some (.int .u8 y4) ∧ w'.cell? ⟨w.heap.size, 5, none⟩ = some (.int .u8 y5) ∧ w'.cell? ⟨w.heap.size, 6, none⟩ = some (.int .u8 y6) ∧ w'.cell? ⟨w.heap.size, 7, none⟩ = some (.int .u8 y7))
    (((try go_split_ands); refine ⟨?_, ?_, ?_, ?_, ?_, ?_, ?_, ?_, ?_, ?_⟩ <;> first | assumption | (simp [go_sem]; done) | exact ((Below.refl _ _).alloc (Nat.le_refl _) _).drew | exact Nat.lt_of_lt_of_le (by assumption) hb.size | exact Below.trans (by assumption) (hb.mono (Nat.le_of_lt (by assumption))) | (rw [hb.cell (by assumption)]; assumption)))
    (first | (go_at_call 16; refine (bytes_any x _ hx).mono ?_; rintro e w' ⟨rfl, hb⟩; unfold bytV) | (go_at_call 17; refine (rbytes_any x _ hx).mono ?_; rintro e w' ⟨rfl, hb⟩; unfold bytV) | (go_at_call 18; refine (of_any y0 y1 y2 y3 y4 y5 y6 y7 _ H.out).mono ?_; rintro e w' ⟨rfl, hb⟩) | (go_at_call 19; refine (rof_any y0 y1 y2 y3 y4 y5 y6 y7 _ H.out).mono ?_; rintro e w' ⟨rfl, hb⟩))
  go_wp2
  go_ret
  go_split_ands
  exact ⟨rfl, by assumption⟩
end Go.Proofs.Ytofigngilcgojaa
