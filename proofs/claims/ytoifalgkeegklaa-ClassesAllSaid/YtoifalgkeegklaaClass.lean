/- The class of a size; its reference by halving. -/
import Derived.Test.YtoifalgkeegklaaLen
import Derived.Test.YtoifalgkeegklaaWord
import Derived.RegionTactic
namespace Go.Proofs.Ytoifalgkeegklaa
open Go.RowKit

theorem bitLen_log : ∀ n : Fin 2048, 2 ≤ n.val → Lib.bitLen n.val = Nat.log2 n.val + 1 := by decide +kernel

set_option maxRecDepth 100000 in
theorem len_small (x : Int) (w : World) (h0 : 0 ≤ x) (hx : x < 65536) :
    Calls Try.prog 66 #[.int .u64 x] w fun e w' => e = .returned (.int .i64 (Lib.bitLen x.toNat)) ∧ w' = w := by
  have C := Lib.hid (len64_small x w h0 hx)
  go_enter Try.func66, Try.ntmps66
  go_wp2_with fail
  refine C.out.mono ?_
  rintro e w' ⟨rfl, rfl⟩
  go_wp2
  go_ret
  exact ⟨rfl, rfl⟩

theorem class_bad (n : Int) (w : World) (h : n < 2 ∨ 1920 < n) :
    Calls Try.prog 46 #[.int .i64 n] w fun e w' => e = .returned (.tuple #[.int .i64 0, .int .i64 2]) ∧ w = w' := by
  rcases h with h | h
  · go_enter Try.func46, Try.ntmps46
    go_wp2
    go_ret2
    exact ⟨rfl, rfl⟩
  · have h2 : ¬ n < 2 := by omega
    go_enter Try.func46, Try.ntmps46
    go_wp2
    go_ret2
    exact ⟨rfl, rfl⟩
theorem class_ok (n : Nat) (w : World) (h : 2 ≤ n) (h2 : n ≤ 1920) :
    Calls Try.prog 46 #[.int .i64 n] w fun e w' => e = .returned (.tuple #[.int .i64 (Nat.log2 n : Nat), .int .i64 0]) ∧ w = w' := by
  have C := Lib.hid (len_small n w (by omega) (by omega))
  have e := bitLen_log ⟨n, by omega⟩ h
  simp only [Int.toNat_natCast] at C
  rw [e] at C
  simp only at C
  have hl : Nat.log2 n < 11 := (Nat.log2_lt (by omega)).2 (by omega)
  generalize Nat.log2 n = k at C hl ⊢
  clear e
  go_enter Try.func46, Try.ntmps46
  go_wp2_with fail
  refine C.out.mono ?_
  rintro e w' ⟨rfl, rfl⟩
  go_wp2
  go_ret2
  exact ⟨ret_tup (by omega), rfl⟩

/-! The reference. -/
theorem log2_half (m : Nat) (h : 2 ≤ m) : Nat.log2 m = Nat.log2 (m / 2) + 1 := by rw [Nat.log2_def, if_pos h]
theorem log2_small (m : Nat) (h : m ≤ 1) : Nat.log2 m = 0 := by rw [Nat.log2_def, if_neg (by omega)]
set_option maxRecDepth 100000 in
theorem rclass_any (n : Nat) (w : World) (h : n < 4611686018427387904) :
    Calls Try.prog 65 #[.int .i64 n] w fun e w' => e = .returned (.int .i64 (Nat.log2 n : Nat)) ∧ w = w' := by
  have hb : Nat.log2 n < 62 ∨ n = 0 := by
    by_cases h0 : n = 0
    · exact .inr h0
    · exact .inl ((Nat.log2_lt h0).2 (by omega))
  have hb62 : Nat.log2 n < 62 := by
    rcases hb with hb | rfl
    · exact hb
    · decide
  clear hb
  have HB := Lib.hid hb62
  clear hb62
  go_enter Try.func65, Try.ntmps65
  go_wp2
  go_loopw [0, 3] (fun a b wr => ∃ m k : Nat, a = .int .i64 m ∧ b = .int .i64 k ∧ m ≤ n ∧ k < 100 ∧ Nat.log2 n = k + Nat.log2 m ∧ wr = w) (fun a _ _ => (intOf a).toNat)
  case atStart => exact ⟨n, 0, rfl, rfl, Nat.le_refl _, by omega, by omega, rfl⟩
  case round =>
    obtain ⟨m, k, rfl, rfl, hm, hk, hlog, rfl⟩ := hrel
    have L := Lib.hid hlog
    clear hlog
    by_cases hlt : 1 < m
    · go_wp2
      go_roundw
      case rel => exact ⟨m / 2, k + 1, by go_num, by go_num, by omega, by have := HB.out; have := L.out; omega, by rw [L.out, log2_half m (by omega)]; omega, trivial⟩
      case measure => simp [intOf]; omega
    · go_wp2
      go_ret
      exact ⟨ret_int (by rw [L.out, log2_small m (by omega)]; omega), rfl⟩
end Go.Proofs.Ytoifalgkeegklaa
