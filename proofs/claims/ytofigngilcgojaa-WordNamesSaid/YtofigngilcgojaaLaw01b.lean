/- The laws of package word, walked (2). -/
import Derived.Test.YtofigngilcgojaaWordRefB
import Derived.Test.YtofigngilcgojaaLaw01
import Derived.Deep.RegionHeld3
import Derived.Deep.DrawnRows
import Derived.Deep.RegionWith
import Derived.BigQuiet
import Derived.ChangeKeysEq
import Derived.Laws.StructEq
namespace Go.Proofs.Ytofigngilcgojaa
open Go.RowKit
attribute [local go_sem ↓] Go.wp_at_zero Go.wp_at_succ

/-- Equal arrays are equal. -/
theorem arr_eq (a0 a1 a2 a3 a4 a5 a6 a7 : Int) (w : World) : (binOp .eql 23 (.agg #[.int .u8 a0, .int .u8 a1, .int .u8 a2, .int .u8 a3, .int .u8 a4, .int .u8 a5, .int .u8 a6, .int .u8 a7]) (.agg #[.int .u8 a0, .int .u8 a1, .int .u8 a2, .int .u8 a3, .int .u8 a4, .int .u8 a5, .int .u8 a6, .int .u8 a7])).run Try.prog w = .ok (.bool true) w := by
  have h : ∀ d : Nat, (Op.equalIn (d + 2) 23 (.agg #[.int .u8 a0, .int .u8 a1, .int .u8 a2, .int .u8 a3, .int .u8 a4, .int .u8 a5, .int .u8 a6, .int .u8 a7]) (.agg #[.int .u8 a0, .int .u8 a1, .int .u8 a2, .int .u8 a3, .int .u8 a4, .int .u8 a5, .int .u8 a6, .int .u8 a7])).run Try.prog w = .ok true w := fun d => by
    have hs : (Try.prog.info? 5).isSome = true := by kernel_rfl
    obtain ⟨i, hi⟩ := Option.isSome_iff_exists.1 hs
    have hc : Try.prog.cellsOf 5 = 1 := by kernel_rfl
    rw [run_equalIn_array w (d + 1) _ _ Try.underlying23 hi, hc]
    simp only [List.range, List.range.loop, Op.eqItems]
    simp [go_sem, Try.underlying5]
  simp only [binOp]
  simp [Op.equal, Op.maxDepth, h 9998]

/-- The chapter's examples hold. -/
theorem alive01 (w : World) : Calls Try.prog 26 #[] w fun e w' => e = .returned (.bool true) ∧ Below w.heap.size w w' := by
  have e1 : fld 4660 4 8 = 35 := by decide
  have e2 : setf 4660 4 8 255 = 8180 := by decide
  have c1 : ∀ W : World, Calls Try.prog 22 #[.int .u64 4660, .int .i64 4, .int .i64 8] W fun e w' => e = .returned (.tuple #[.int .u64 35, .int .i64 0]) ∧ W = w' := fun W => by
    have := get_ok 4660 4 8 W (by decide) (by decide) (by decide)
    rw [e1] at this; exact this
  have c2 : ∀ W : World, Calls Try.prog 24 #[.int .u64 4660, .int .i64 4, .int .i64 8, .int .u64 255] W fun e w' => e = .returned (.tuple #[.int .u64 8180, .int .i64 0]) ∧ W = w' := fun W => by
    have := set_ok 4660 4 8 255 W (by decide) (by decide) (by decide) (by decide)
    rw [e2] at this; exact this
  have c3 : ∀ W : World, Calls Try.prog 16 #[.int .u64 258] W fun e w' => e = .returned (.agg #[.int .u8 2, .int .u8 1, .int .u8 0, .int .u8 0, .int .u8 0, .int .u8 0, .int .u8 0, .int .u8 0]) ∧ Below W.heap.size W w' := fun W => bytes_any 258 W (by decide)
  have C1 := Lib.hid c1
  have C2 := Lib.hid c2
  have C3 := Lib.hid c3
  clear c1 c2 c3 e1 e2
  have ae := arr_eq 2 1 0 0 0 0 0 0
  go_enter Try.func26, Try.ntmps26
  go_wp2_with (first | (go_at_call 22; refine (C1.out _).mono ?_; rintro e w' ⟨rfl, rfl⟩) | (go_at_call 24; refine (C2.out _).mono ?_; rintro e w' ⟨rfl, rfl⟩) | (go_at_call 16; refine (C3.out _).mono ?_; rintro e w' ⟨rfl, hb⟩))
  go_ret
  exact ⟨rfl, hb⟩

theorem cut_cast (v n : Nat) (hv : v < 18446744073709551616) (hn : n < 64) : bits .and .u64 (v : Int) (IntKind.u64.wrap (IntKind.u64.wrap (2 ^ n) - 1)) = ((v % 2 ^ n : Nat) : Int) := by
  have h1 := Nat.two_pow_pos n
  have h2 : 2 ^ n < 18446744073709551616 := Nat.lt_of_le_of_lt (Nat.pow_le_pow_right (by decide) (show n ≤ 63 by omega)) (by decide)
  have e : ((2 : Int) ^ n) = ((2 ^ n : Nat) : Int) := by simp
  have e2 : IntKind.u64.wrap (IntKind.u64.wrap ((2 ^ n : Nat) : Int) - 1) = ((2 ^ n - 1 : Nat) : Int) := by
    rw [IntKind.wrap_u64, IntKind.wrap_u64]; omega
  rw [e, e2, u64_and_nat _ _ hv (by omega), Nat.and_two_pow_sub_one_eq_mod]
theorem parts_cast (x f a b : Nat) (h : a + b ≤ 64) : ((fld x f (a + b) : Nat) : Int) = IntKind.u64.wrap ((fld x f a : Nat) + IntKind.u64.wrap ((fld x (f + a) b : Nat) * 2 ^ a)) := by
  have h1 := fld_parts x f a b
  have h2 := fld_lt x f (a + b)
  have h3 : 2 ^ (a + b) ≤ 18446744073709551616 := Nat.le_trans (Nat.pow_le_pow_right (by decide) h) (by decide)
  have e : ((fld x (f + a) b : Nat) : Int) * 2 ^ a = ((fld x (f + a) b * 2 ^ a : Nat) : Int) := by simp
  rw [e, IntKind.wrap_u64, IntKind.wrap_u64]
  omega

theorem cut_any (v n : Nat) (w : World) (hv : v < 18446744073709551616) (hn : n ≤ 64) :
    Calls Try.prog 28 #[.int .u64 v, .int .i64 n] w fun e w' => e = .returned (.int .u64 (v % 2 ^ n : Nat)) ∧ w = w' := by
  by_cases h : 64 ≤ n
  · obtain rfl : n = 64 := by omega
    go_enter Try.func28, Try.ntmps28
    go_wp2
    go_ret
    exact ⟨ret_int (by rw [Nat.mod_eq_of_lt (by rw [two64]; exact hv)]), rfl⟩
  · go_enter Try.func28, Try.ntmps28
    go_wp2
    go_ret
    exact ⟨ret_int (cut_cast v n hv (by omega)), rfl⟩

theorem walkWordParts (x : Nat) (f a b : Int) (w : World) (hx : x < 18446744073709551616) (hf : -9223372036854775808 ≤ f) (hf2 : f ≤ 9223372036854775807) (ha : -9223372036854775808 ≤ a) (ha2 : a ≤ 9223372036854775807) (hb : -9223372036854775808 ≤ b) (hb2 : b ≤ 9223372036854775807) :
    Calls Try.prog 10 #[.int .u64 x, .int .i64 f, .int .i64 a, .int .i64 b] w fun e w' => e = .returned (.bool true) ∧ Below w.heap.size w w' := by
  by_cases h1 : a < 1
  · go_enter Try.func10, Try.ntmps10
    go_wp2_with (go_at_call 26; refine (alive01 _).mono ?_; rintro e w' ⟨rfl, hb⟩)
    go_ret
    exact ⟨rfl, by assumption⟩
  by_cases h2 : b < 1
  · go_enter Try.func10, Try.ntmps10
    go_wp2_with (go_at_call 26; refine (alive01 _).mono ?_; rintro e w' ⟨rfl, hb⟩)
    go_ret
    exact ⟨rfl, by assumption⟩
  by_cases h3 : 64 < a
  · go_enter Try.func10, Try.ntmps10
    go_wp2_with (go_at_call 26; refine (alive01 _).mono ?_; rintro e w' ⟨rfl, hb⟩)
    go_ret
    exact ⟨rfl, by assumption⟩
  by_cases h4 : 64 < b
  · go_enter Try.func10, Try.ntmps10
    go_wp2_with (go_at_call 26; refine (alive01 _).mono ?_; rintro e w' ⟨rfl, hb⟩)
    go_ret
    exact ⟨rfl, by assumption⟩
  by_cases h5 : Fld f (a + b)
  · obtain ⟨F, rfl⟩ := Int.eq_ofNat_of_zero_le h5.1
    obtain ⟨A, rfl⟩ := Int.eq_ofNat_of_zero_le (show 0 ≤ a by omega)
    obtain ⟨B, rfl⟩ := Int.eq_ofNat_of_zero_le (show 0 ≤ b by omega)
    have h6 : F + A + B ≤ 64 := by have := h5.2.2.2; omega
    have H5 := Lib.hid h5
    clear h5 hf hf2 ha ha2 hb hb2
    have g1 := get_ok x F (A + B) w hx (by omega) (by omega)
    have g2 := get_ok x F A w hx (by omega) (by omega)
    have g3 := get_ok x (F + A) B w hx (by omega) (by omega)
    have ec : ((A + B : Nat) : Int) = (A : Int) + (B : Int) := by omega
    have ed : ((F + A : Nat) : Int) = (F : Int) + (A : Int) := by omega
    rw [ec] at g1
    rw [ed] at g3
    have G1 := Lib.hid g1
    have G2 := Lib.hid g2
    have G3 := Lib.hid g3
    clear g1 g2 g3 ec ed
    go_enter Try.func10, Try.ntmps10
    go_wp2_with fail
    refine (rfield_yes _ _ _ H5.out).mono ?_
    rintro e w' ⟨rfl, rfl⟩
    go_wp2_with fail
    refine G1.out.mono ?_
    rintro e w' ⟨rfl, rfl⟩
    go_wp2_with fail
    refine G2.out.mono ?_
    rintro e w' ⟨rfl, rfl⟩
    go_wp2_with fail
    refine G3.out.mono ?_
    rintro e w' ⟨rfl, rfl⟩
    go_wp2_with fail
    · refine (alive01 _).mono ?_
      rintro e w' ⟨rfl, hb⟩
      go_wp2
      go_ret
      exact ⟨rfl, hb⟩
    · exact absurd (parts_cast x F A B (by omega)) ‹_›
  · have H5 := Lib.hid h5
    clear h5
    go_enter Try.func10, Try.ntmps10
    go_wp2_with (first | (go_at_call 26; refine (alive01 _).mono ?_; rintro e w' ⟨rfl, hb⟩) | (go_at_call 27; refine (rfield_no f (a + b) _ hf hf2 (by omega) (by omega) H5.out).mono ?_; rintro e w' ⟨rfl, rfl⟩))
    go_ret
    exact ⟨rfl, by assumption⟩

theorem walkWordApart (x : Nat) (f n g m : Int) (v u : Nat) (w : World) (hx : x < 18446744073709551616) (hf : -9223372036854775808 ≤ f) (hf2 : f ≤ 9223372036854775807) (hn : -9223372036854775808 ≤ n) (hn2 : n ≤ 9223372036854775807)
    (hg : -9223372036854775808 ≤ g) (hg2 : g ≤ 9223372036854775807) (hm : -9223372036854775808 ≤ m) (hm2 : m ≤ 9223372036854775807) (hv : v < 18446744073709551616) (hu : u < 18446744073709551616) :
    Calls Try.prog 9 #[.int .u64 x, .int .i64 f, .int .i64 n, .int .i64 g, .int .i64 m, .int .u64 v, .int .u64 u] w fun e w' => e = .returned (.bool true) ∧ Below w.heap.size w w' := by
  by_cases h1 : Fld f n
  case neg =>
    have H1 := Lib.hid h1
    clear h1
    go_enter Try.func9, Try.ntmps9
    go_wp2_with (first | (go_at_call 26; refine (alive01 _).mono ?_; rintro e w' ⟨rfl, hb⟩) | (go_at_call 27; refine (rfield_no f n _ hf hf2 hn hn2 H1.out).mono ?_; rintro e w' ⟨rfl, rfl⟩))
    go_ret
    exact ⟨rfl, by assumption⟩
  by_cases h2 : Fld g m
  case neg =>
    have H1 := Lib.hid h1
    have H2 := Lib.hid h2
    clear h1 h2
    go_enter Try.func9, Try.ntmps9
    go_wp2_with fail
    refine (rfield_yes _ _ _ H1.out).mono ?_
    rintro e w' ⟨rfl, rfl⟩
    go_wp2_with fail
    refine (rfield_no g m _ hg hg2 hm hm2 H2.out).mono ?_
    rintro e w' ⟨rfl, rfl⟩
    go_wp2_with (go_at_call 26; refine (alive01 _).mono ?_; rintro e w' ⟨rfl, hb⟩)
    go_ret
    exact ⟨rfl, by assumption⟩
  obtain ⟨F, N, rfl, rfl, hN, hFN⟩ := fld_nat h1
  obtain ⟨G, M, rfl, rfl, hM, hGM⟩ := fld_nat h2
  have H1 := Lib.hid h1
  have H2 := Lib.hid h2
  clear h1 h2 hf hf2 hn hn2 hg hg2 hm hm2
  by_cases h3 : (G : Int) < F + N ∧ (F : Int) < G + M
  · obtain ⟨h4, h5⟩ := h3
    go_enter Try.func9, Try.ntmps9
    go_wp2_with fail
    refine (rfield_yes _ _ _ H1.out).mono ?_
    rintro e w' ⟨rfl, rfl⟩
    go_wp2_with fail
    refine (rfield_yes _ _ _ H2.out).mono ?_
    rintro e w' ⟨rfl, rfl⟩
    go_wp2_with (go_at_call 26; refine (alive01 _).mono ?_; rintro e w' ⟨rfl, hb⟩)
    go_ret
    exact ⟨rfl, by assumption⟩
  have h4 : G + M ≤ F ∨ F + N ≤ G := by omega
  have p1 : v % 2 ^ N < 2 ^ N := Nat.mod_lt _ (Nat.two_pow_pos N)
  have p2 : u % 2 ^ M < 2 ^ M := Nat.mod_lt _ (Nat.two_pow_pos M)
  have b1 := setf_lt x F N _ hx hFN p1
  have b2 := setf_lt x G M _ hx hGM p2
  have b3 := setf_lt _ G M _ b1 hGM p2
  have c1 := set_ok x F N _ w hx hN hFN p1
  have c2 := set_ok _ G M _ w b1 hM hGM p2
  have c3 := set_ok x G M _ w hx hM hGM p2
  have c4 := set_ok _ F N _ w b2 hN hFN p1
  have c5 := get_ok _ F N w b3 hN hFN
  have c6 := get_ok _ G M w b3 hM hGM
  rw [setf_comm x F N G M _ _ p1 p2 h4] at c2 c5 c6
  rw [fld_setf _ _ _ _ p1] at c5
  rw [fld_setf_out _ _ _ _ _ _ p1 h4, fld_setf _ _ _ _ p2] at c6
  clear b1 b2 b3 p1 p2
  generalize hV : v % 2 ^ N = V at c1 c2 c3 c4 c5 c6
  generalize hU : u % 2 ^ M = U at c1 c2 c3 c4 c5 c6
  generalize hX : setf x F N V = X at c1 c2 c3 c4 c5 c6
  generalize hY : setf x G M U = Y at c1 c2 c3 c4 c5 c6
  generalize hZ : setf Y F N V = Z at c1 c2 c3 c4 c5 c6
  have HV := Lib.hid hV
  have HU := Lib.hid hU
  have C1 := Lib.hid c1
  have C2 := Lib.hid c2
  have C3 := Lib.hid c3
  have C4 := Lib.hid c4
  have C5 := Lib.hid c5
  have C6 := Lib.hid c6
  clear c1 c2 c3 c4 c5 c6 hV hU hX hY hZ
  have side : ¬ ((G : Int) < F + N ∧ (F : Int) < G + M) := h3
  by_cases h5 : (G : Int) < F + N
  · have h6 : ¬ (F : Int) < G + M := fun h => h3 ⟨h5, h⟩
    clear h3 side h4
    go_enter Try.func9, Try.ntmps9
    go_wp2_with fail
    refine (rfield_yes _ _ _ H1.out).mono ?_
    rintro e w' ⟨rfl, rfl⟩
    go_wp2_with fail
    refine (rfield_yes _ _ _ H2.out).mono ?_
    rintro e w' ⟨rfl, rfl⟩
    go_wp2_with fail
    refine (cut_any v N _ hv (by omega)).mono ?_
    rintro e w' ⟨rfl, rfl⟩
    rw [HV.out]
    go_wp2_with fail
    refine (cut_any u M _ hu (by omega)).mono ?_
    rintro e w' ⟨rfl, rfl⟩
    rw [HU.out]
    go_wp2_with fail
    refine C1.out.mono ?_
    rintro e w' ⟨rfl, rfl⟩
    go_wp2_with fail
    refine C2.out.mono ?_
    rintro e w' ⟨rfl, rfl⟩
    go_wp2_with fail
    refine C3.out.mono ?_
    rintro e w' ⟨rfl, rfl⟩
    go_wp2_with fail
    refine C4.out.mono ?_
    rintro e w' ⟨rfl, rfl⟩
    go_wp2_with fail
    refine C5.out.mono ?_
    rintro e w' ⟨rfl, rfl⟩
    go_wp2_with fail
    refine C6.out.mono ?_
    rintro e w' ⟨rfl, rfl⟩
    go_wp2_with (go_at_call 26; refine (alive01 _).mono ?_; rintro e w' ⟨rfl, hb⟩)
    go_ret
    exact ⟨rfl, by assumption⟩
  · clear h3 side h4
    go_enter Try.func9, Try.ntmps9
    go_wp2_with fail
    refine (rfield_yes _ _ _ H1.out).mono ?_
    rintro e w' ⟨rfl, rfl⟩
    go_wp2_with fail
    refine (rfield_yes _ _ _ H2.out).mono ?_
    rintro e w' ⟨rfl, rfl⟩
    go_wp2_with fail
    refine (cut_any v N _ hv (by omega)).mono ?_
    rintro e w' ⟨rfl, rfl⟩
    rw [HV.out]
    go_wp2_with fail
    refine (cut_any u M _ hu (by omega)).mono ?_
    rintro e w' ⟨rfl, rfl⟩
    rw [HU.out]
    go_wp2_with fail
    refine C1.out.mono ?_
    rintro e w' ⟨rfl, rfl⟩
    go_wp2_with fail
    refine C2.out.mono ?_
    rintro e w' ⟨rfl, rfl⟩
    go_wp2_with fail
    refine C3.out.mono ?_
    rintro e w' ⟨rfl, rfl⟩
    go_wp2_with fail
    refine C4.out.mono ?_
    rintro e w' ⟨rfl, rfl⟩
    go_wp2_with fail
    refine C5.out.mono ?_
    rintro e w' ⟨rfl, rfl⟩
    go_wp2_with fail
    refine C6.out.mono ?_
    rintro e w' ⟨rfl, rfl⟩
    go_wp2_with (go_at_call 26; refine (alive01 _).mono ?_; rintro e w' ⟨rfl, hb⟩)
    go_ret
    exact ⟨rfl, by assumption⟩
end Go.Proofs.Ytofigngilcgojaa
