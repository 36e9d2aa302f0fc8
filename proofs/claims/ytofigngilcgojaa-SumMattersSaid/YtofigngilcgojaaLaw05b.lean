/- The laws of package sum, walked (2). -/
import Derived.Test.YtofigngilcgojaaLaw05
import Derived.Test.YtofigngilcgojaaOwn
namespace Go.Proofs.Ytofigngilcgojaa
open Go.RowKit

theorem beh_zero (s : Nat) : stw s 0 = stp (stp (stp (stp (stp (stp (stp (stp s 0) 0) 0) 0) 0) 0) 0) 0 := by
  unfold stw
  simp [byt]
/-- Steps with the byte 0. -/
def stz (s : Nat) : Nat → Nat
  | 0 => s
  | k + 1 => stp (stz s k) 0
theorem stz_add (s a b : Nat) : stz s (a + b) = stz (stz s a) b := by
  induction b with
  | zero => rfl
  | succ b ih => show stp (stz s (a + b)) 0 = stp (stz (stz s a) b) 0; rw [ih]
theorem beh_zeros (s n : Nat) : beh s (List.replicate n 0) = stz s (8 * n) := by
  induction n generalizing s with
  | zero => rfl
  | succ n ih =>
    have e : beh s (List.replicate (n + 1) 0) = beh (stw s 0) (List.replicate n 0) := by unfold beh; rw [List.replicate_succ, List.foldl_cons]
    rw [e, ih, beh_zero, show 8 * (n + 1) = 8 + 8 * n by omega, stz_add]
    rfl
theorem stz_lt (s k : Nat) (hs : s < 18446744073709551616) : stz s k < 18446744073709551616 := by
  cases k with
  | zero => exact hs
  | succ k => exact stp_lt _ _
theorem zero_cast (s : Nat) : IntKind.u64.wrap ((s : Int) * 1099511628211) = ((stp s 0 : Nat) : Int) := by
  rw [stp_zero, IntKind.wrap_u64]; omega

set_option maxRecDepth 100000 in
theorem walkSumZeros (s : Nat) (n : Int) (w : World) (hs : s < 18446744073709551616) (hn : -9223372036854775808 ≤ n) (hn2 : n ≤ 9223372036854775807) :
    Calls Try.prog 5 #[.int .u64 s, .int .i64 n] w fun e w' => e = .returned (.bool true) ∧ Below w.heap.size w w' := by
  by_cases h1 : n < 0
  · go_enter Try.func5, Try.ntmps5
    go_wp2_with fail
    refine (alive05 _).mono ?_
    rintro e w1 ⟨rfl, hb1⟩
    go_wp2
    go_ret
    exact ⟨rfl, hb1⟩
  by_cases h2 : 50 < n
  · go_enter Try.func5, Try.ntmps5
    go_wp2_with fail
    refine (alive05 _).mono ?_
    rintro e w1 ⟨rfl, hb1⟩
    go_wp2
    go_ret
    exact ⟨rfl, hb1⟩
  obtain ⟨N, rfl⟩ := Int.eq_ofNat_of_zero_le (show 0 ≤ n by omega)
  have hmk := mk_words N (by omega)
  have C := Lib.hid fun W => next_ok s (some ⟨W.heap.size, 0, none⟩) N N (List.replicate N 0) (W.alloc (.cells (madeCells #[.int .u64 0] N) 22)) (Words.zeros W N _ (by omega)) (by omega) hs
  rw [beh_zeros] at C
  go_enter Try.func5, Try.ntmps5
  go_wp2_with fail
  refine (C.out _).mono ?_
  rintro e w1 ⟨rfl, hb1⟩
  have A1 := Lib.hid (((Below.refl _ _).alloc (Nat.le_refl _) _).trans (hb1.mono (by simp)) : Below w.heap.size w w1)
  clear hmk
  go_wp2_with fail
  go_loopw [0, 7] (fun t i wr => ∃ k : Nat, k ≤ 8 * N ∧ i = .int .i64 k ∧ t = .int .u64 (stz s k : Nat) ∧ wr = w1) (fun _ i _ => 8 * N - (intOf i).toNat)
  case atStart => exact ⟨0, Nat.zero_le _, rfl, rfl, rfl⟩
  case round =>
    obtain ⟨k, hk, rfl, rfl, rfl⟩ := hrel
    by_cases hlt : k < 8 * N
    · have Z := Lib.hid (zero_cast (stz s k))
      go_wp2_with fail
      rw [Z.out]
      go_roundw
      case rel => exact ⟨k + 1, by omega, by go_num, rfl, trivial⟩
      case measure => simp [intOf]; omega
    · obtain rfl : k = 8 * N := by omega
      go_wp2_with fail
      refine (alive05 _).mono ?_
      rintro e w2 ⟨rfl, hb2⟩
      go_wp2
      go_ret
      exact ⟨rfl, A1.out.trans (hb2.mono A1.out.size)⟩
end Go.Proofs.Ytofigngilcgojaa
