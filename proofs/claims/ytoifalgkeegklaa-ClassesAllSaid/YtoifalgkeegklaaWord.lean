/- The functions of package word, and of its reference, walked: each returns what the plain functions of WordPlain say. -/
import Derived.Test.YtoifalgkeegklaaChecked
import Derived.Test.YtoifalgkeegklaaWordPlain
import Derived.WalkKit
import Derived.WalkSpells
import Derived.WalkLawsBesides
import Derived.LoopTactic
import Derived.Outline
import Derived.Lib.Hide
namespace Go.Proofs.Ytoifalgkeegklaa
open Go.RowKit

theorem ret_int {k : IntKind} {a b : Int} (h : a = b) : Ending.returned (.int k a) = .returned (.int k b) := by rw [h]
theorem mask_cast (f n : Nat) (h : f + n ≤ 64) : (18446744073709551615 : Int) / 2 ^ (64 - n) * 2 ^ f % 18446744073709551616 = ((msk f n : Nat) : Int) := by
  rw [← mask_code f n h]; simp
theorem ret_tup {k : IntKind} {a b : Int} {v : Value} (h : a = b) : Ending.returned (.tuple #[.int k a, v]) = .returned (.tuple #[.int k b, v]) := by rw [h]
theorem msk_shr_cast (f n : Nat) : ((msk f n : Nat) : Int) / 2 ^ f = ((2 ^ n - 1 : Nat) : Int) := by
  rw [← msk_shr f n]; simp
theorem get_cast (x f n : Nat) (hx : x < 18446744073709551616) (h : f + n ≤ 64) : bits .and .u64 (x : Int) ((msk f n : Nat) : Int) / 2 ^ f = ((fld x f n : Nat) : Int) := by
  rw [u64_and_nat _ _ hx (msk_lt f n h), ← get_code]; simp
theorem set_cast (x f n v : Nat) (hx : x < 18446744073709551616) (h : f + n ≤ 64) (hv : v < 2 ^ n) :
    bits .or .u64 (bits .andNot .u64 (x : Int) ((msk f n : Nat) : Int)) (IntKind.u64.wrap ((v : Int) * 2 ^ f)) = ((setf x f n v : Nat) : Int) := by
  have e : IntKind.u64.wrap ((v : Int) * 2 ^ f) = ((v * 2 ^ f : Nat) : Int) := by
    rw [IntKind.wrap_u64]
    have := shl_lt f n v h hv
    rw [show (v : Int) * 2 ^ f = ((v * 2 ^ f : Nat) : Int) by simp]
    omega
  have l : x &&& (18446744073709551615 - msk f n) < 18446744073709551616 := Nat.lt_of_le_of_lt Nat.and_le_left hx
  rw [e, u64_andNot_nat _ _ hx (msk_lt f n h), u64_or_nat _ _ l (shl_lt f n v h hv), set_code x f n v hx h hv]

/-- The bytes of a word, as a value. -/
def bytV (x : Nat) : Value := .agg #[.int .u8 (byt x 0 : Nat), .int .u8 (byt x 1 : Nat), .int .u8 (byt x 2 : Nat), .int .u8 (byt x 3 : Nat), .int .u8 (byt x 4 : Nat), .int .u8 (byt x 5 : Nat), .int .u8 (byt x 6 : Nat), .int .u8 (byt x 7 : Nat)]

def ofB (y0 y1 y2 y3 y4 y5 y6 y7 : Nat) : Nat := y0 + 256 * (y1 + 256 * (y2 + 256 * (y3 + 256 * (y4 + 256 * (y5 + 256 * (y6 + 256 * y7))))))

def arrV (y0 y1 y2 y3 y4 y5 y6 y7 : Nat) : Value := .agg #[.int .u8 y0, .int .u8 y1, .int .u8 y2, .int .u8 y3, .int .u8 y4, .int .u8 y5, .int .u8 y6, .int .u8 y7]
theorem bytV_eq (x : Nat) (hx : x < 18446744073709551616) : bytV x = .agg #[.int .u8 (x % 256 : Int), .int .u8 (x / 256 % 256 : Int), .int .u8 (x / 65536 % 256 : Int), .int .u8 (x / 16777216 % 256 : Int), .int .u8 (x / 4294967296 % 256 : Int), .int .u8 (x / 1099511627776 % 256 : Int), .int .u8 (x / 281474976710656 % 256 : Int), .int .u8 (x / 72057594037927936 : Int)] := by
  have e : byt x 7 = x / 72057594037927936 := by unfold byt; omega
  unfold bytV
  rw [e]
  simp [byt]

theorem or_step (a y c i : Nat) (hc : c = 2 ^ i) (ha : a < c) (h : a + y * c < 18446744073709551616) :
    bits .or .u64 (a : Int) ((y : Int) * (c : Int)) = ((a + y * c : Nat) : Int) := by
  rw [show (y : Int) * (c : Int) = ((y * c : Nat) : Int) by simp, u64_or_nat _ _ (by omega) (by omega)]
  rw [Nat.or_comm, nat_join i (y * c) a (by rw [hc]; exact Nat.mul_mod_left _ _) (by rw [← hc]; exact ha), Nat.add_comm]
theorem of_cast (y0 y1 y2 y3 y4 y5 y6 y7 : Nat) (h0 : y0 < 256) (h1 : y1 < 256) (h2 : y2 < 256) (h3 : y3 < 256) (h4 : y4 < 256) (h5 : y5 < 256) (h6 : y6 < 256) (h7 : y7 < 256) :
    bits .or .u64 (bits .or .u64 (bits .or .u64 (bits .or .u64 (bits .or .u64 (bits .or .u64 (bits .or .u64 (bits .or .u64 0 (y0 : Int)) ((y1 : Int) * 256)) ((y2 : Int) * 65536)) ((y3 : Int) * 16777216)) ((y4 : Int) * 4294967296)) ((y5 : Int) * 1099511627776)) ((y6 : Int) * 281474976710656)) ((y7 : Int) * 72057594037927936)
      = ((ofB y0 y1 y2 y3 y4 y5 y6 y7 : Nat) : Int) := by
  have e0 : bits .or .u64 0 (y0 : Int) = (y0 : Int) := by
    have := u64_or_nat 0 y0 (by omega) (by omega)
    simpa using this
  have e1 := or_step y0 y1 256 8 (by decide) (by omega) (by omega)
  have e2 := or_step (y0 + y1 * 256) y2 65536 16 (by decide) (by omega) (by omega)
  have e3 := or_step (y0 + y1 * 256 + y2 * 65536) y3 16777216 24 (by decide) (by omega) (by omega)
  have e4 := or_step (y0 + y1 * 256 + y2 * 65536 + y3 * 16777216) y4 4294967296 32 (by decide) (by omega) (by omega)
  have e5 := or_step (y0 + y1 * 256 + y2 * 65536 + y3 * 16777216 + y4 * 4294967296) y5 1099511627776 40 (by decide) (by omega) (by omega)
  have e6 := or_step (y0 + y1 * 256 + y2 * 65536 + y3 * 16777216 + y4 * 4294967296 + y5 * 1099511627776) y6 281474976710656 48 (by decide) (by omega) (by omega)
  have e7 := or_step (y0 + y1 * 256 + y2 * 65536 + y3 * 16777216 + y4 * 4294967296 + y5 * 1099511627776 + y6 * 281474976710656) y7 72057594037927936 56 (by decide) (by omega) (by omega)
  rw [e0]
  rw [show ((256 : Nat) : Int) = 256 from rfl] at e1
  rw [show ((65536 : Nat) : Int) = 65536 from rfl] at e2
  rw [show ((16777216 : Nat) : Int) = 16777216 from rfl] at e3
  rw [show ((4294967296 : Nat) : Int) = 4294967296 from rfl] at e4
  rw [show ((1099511627776 : Nat) : Int) = 1099511627776 from rfl] at e5
  rw [show ((281474976710656 : Nat) : Int) = 281474976710656 from rfl] at e6
  rw [show ((72057594037927936 : Nat) : Int) = 72057594037927936 from rfl] at e7
  rw [e1, e2, e3, e4, e5, e6, e7]
  unfold ofB
  congr 1
  omega

def Fld (f n : Int) : Prop := 0 ≤ f ∧ f ≤ 63 ∧ 1 ≤ n ∧ n ≤ 64 - f

theorem mask_no (f n : Int) (w : World) (hf : -9223372036854775808 ≤ f) (hf2 : f ≤ 9223372036854775807) (hn : -9223372036854775808 ≤ n) (hn2 : n ≤ 9223372036854775807) (h : ¬ Fld f n) :
    Calls Try.prog 89 #[.int .i64 f, .int .i64 n] w fun e w' => e = .returned (.int .u64 0) ∧ w = w' := by
  unfold Fld at h
  by_cases h1 : f < 0
  · go_enter Try.func89, Try.ntmps89
    go_wp2
    go_ret
    exact ⟨rfl, rfl⟩
  by_cases h2 : 63 < f
  · go_enter Try.func89, Try.ntmps89
    go_wp2
    go_ret
    exact ⟨rfl, rfl⟩
  by_cases h3 : n < 1
  · go_enter Try.func89, Try.ntmps89
    go_wp2
    go_ret
    exact ⟨rfl, rfl⟩
  have h4 : 64 - f < n := by omega
  clear h
  go_enter Try.func89, Try.ntmps89
  go_wp2
  go_ret
  exact ⟨rfl, rfl⟩

theorem mask_ok (f n : Nat) (w : World) (h1 : 1 ≤ n) (h2 : f + n ≤ 64) :
    Calls Try.prog 89 #[.int .i64 f, .int .i64 n] w fun e w' => e = .returned (.int .u64 (msk f n : Nat)) ∧ w = w' := by
  have h3 : f ≤ 63 := by omega
  have h5 : n ≤ 64 := by omega
  have h4 : (n : Int) ≤ 64 - f := by omega
  go_enter Try.func89, Try.ntmps89
  go_wp2
  go_ret
  exact ⟨ret_int (by rw [IntKind.wrap_u64]; exact mask_cast f n h2), rfl⟩

theorem get_no (x : Nat) (f n : Int) (w : World) (hf : -9223372036854775808 ≤ f) (hf2 : f ≤ 9223372036854775807) (hn : -9223372036854775808 ≤ n) (hn2 : n ≤ 9223372036854775807) (h : ¬ Fld f n) :
    Calls Try.prog 82 #[.int .u64 x, .int .i64 f, .int .i64 n] w fun e w' => e = .returned (.tuple #[.int .u64 0, .int .i64 2]) ∧ w = w' := by
  have H := Lib.hid h
  clear h
  go_enter Try.func82, Try.ntmps82
  go_wp2_with (go_at_call 89; refine (mask_no f n _ hf hf2 hn hn2 H.out).mono ?_; rintro e w' ⟨rfl, rfl⟩)
  go_ret2
  exact ⟨rfl, rfl⟩

theorem get_ok (x f n : Nat) (w : World) (hx : x < 18446744073709551616) (h1 : 1 ≤ n) (h2 : f + n ≤ 64) :
    Calls Try.prog 82 #[.int .u64 x, .int .i64 f, .int .i64 n] w fun e w' => e = .returned (.tuple #[.int .u64 (fld x f n : Nat), .int .i64 0]) ∧ w = w' := by
  have h3 : (f : Int) ≤ 63 := by omega
  have hm := msk_pos f n h1
  have hm2 : (((msk f n : Nat) : Int) == 0) = false := by simp; omega
  have H := Lib.hid hm
  clear hm
  go_enter Try.func82, Try.ntmps82
  go_wp2_with (go_at_call 89; refine (mask_ok f n _ h1 h2).mono ?_; rintro e w' ⟨rfl, rfl⟩)
  go_ret2
  exact ⟨ret_tup (get_cast x f n hx h2), rfl⟩

set_option maxRecDepth 100000 in
theorem bytes_any (x : Nat) (w : World) (hx : x < 18446744073709551616) :
    Calls Try.prog 92 #[.int .u64 x] w fun e w' => e = .returned (bytV x) ∧ Below w.heap.size w w' := by
  rw [bytV_eq x hx]
  go_enter Try.func92, Try.ntmps92
  go_wp2
  refine wp_loop_rounds 9 ?_
  iterate 9 (rw [rounds_succ]; go_wp2)
  exact bodyPost_ret (v := .agg #[.int .u8 (x % 256 : Int), .int .u8 (x / 256 % 256 : Int), .int .u8 (x / 65536 % 256 : Int), .int .u8 (x / 16777216 % 256 : Int), .int .u8 (x / 4294967296 % 256 : Int), .int .u8 (x / 1099511627776 % 256 : Int), .int .u8 (x / 281474976710656 % 256 : Int), .int .u8 (x / 72057594037927936 : Int)])
    (by simp [results, Try.results92, go_sem]) rfl ⟨rfl, ((Below.refl _ _).alloc (Nat.le_refl _) _).alloc (by simp) _⟩

end Go.Proofs.Ytoifalgkeegklaa
