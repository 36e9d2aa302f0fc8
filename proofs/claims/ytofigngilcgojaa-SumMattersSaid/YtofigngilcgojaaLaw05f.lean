/- The laws of package sum, walked (6). -/
import Derived.Test.YtofigngilcgojaaLaw05e
import Derived.StillTailTactics
import Derived.Deep.AppendLies
namespace Go.Proofs.Ytofigngilcgojaa
open Go.RowKit

theorem xor_shl5 (r c A : Nat) (hr : r < 18446744073709551616) (hc : c < 256) (hA : A ≤ 7) : bits .xor .u64 (r : Int) (IntKind.u64.wrap ((c : Int) * 2 ^ (8 * A))) = ((r ^^^ c * 256 ^ A : Nat) : Int) := by
  have hp : (256 : Nat) ^ A = 2 ^ (8 * A) := by rw [Nat.pow_mul]
  have hl : c * 2 ^ (8 * A) < 18446744073709551616 := shl_lt (8 * A) 8 c (by omega) hc
  have e : IntKind.u64.wrap ((c : Int) * 2 ^ (8 * A)) = ((c * 2 ^ (8 * A) : Nat) : Int) := by
    rw [IntKind.wrap_u64, show (c : Int) * 2 ^ (8 * A) = ((c * 2 ^ (8 * A) : Nat) : Int) by simp]
    omega
  rw [e, u64_xor_nat _ _ hr hl, hp]

theorem beh_mod (s : Nat) (ws : List Nat) (hs : s < 18446744073709551616) : beh s ws % 2 ^ 64 = beh s ws := Nat.mod_eq_of_lt (beh_lt s ws hs)
/-- A list with one word changed in one byte. -/
theorem beh_set (s : Nat) (ws : List Nat) (i : Nat) (hi : i < ws.length) (c a k : Nat) (h : k ≤ 64) (h8 : 8 ≤ k) (ha : a < 8) (hc : c < 256) (h0 : c ≠ 0) :
    beh s ws % 2 ^ k ≠ beh s (ws.set i (ws[i] ^^^ c * 256 ^ a)) % 2 ^ k := by
  have e1 : ws = ws.take i ++ ws[i] :: ws.drop (i + 1) := by simp
  have e2 : ws.set i (ws[i] ^^^ c * 256 ^ a) = ws.take i ++ (ws[i] ^^^ c * 256 ^ a) :: ws.drop (i + 1) := List.set_eq_take_append_cons_drop .. |>.trans (by rw [if_pos hi])
  have := beh_byte (ws.take i) (ws.drop (i + 1)) s ws[i] c a k h h8 ha hc h0
  rw [← e1, ← e2] at this
  exact this
theorem fld_mod (x d : Nat) : fld x 0 d = x % 2 ^ d := by unfold fld; simp

set_option maxRecDepth 100000 in
set_option maxHeartbeats 4000000 in
theorem early05 (s o : Nat) (A : Option Addr) (n c : Nat) (ws : List Nat) (i b : Int) (ch : Nat) (d : Int) (w : World) (h : Words w A n c ws)
    (hx : n < 1 ∨ (1 ≤ n ∧ 100 < n) ∨ (1 ≤ n ∧ n ≤ 100 ∧ i < 0) ∨ (1 ≤ n ∧ n ≤ 100 ∧ 0 ≤ i ∧ n ≤ i) ∨ (1 ≤ n ∧ n ≤ 100 ∧ 0 ≤ i ∧ i < n ∧ b < 0) ∨ (1 ≤ n ∧ n ≤ 100 ∧ 0 ≤ i ∧ i < n ∧ 0 ≤ b ∧ 7 < b) ∨ (1 ≤ n ∧ n ≤ 100 ∧ 0 ≤ i ∧ i < n ∧ 0 ≤ b ∧ b ≤ 7 ∧ d < 8) ∨ (1 ≤ n ∧ n ≤ 100 ∧ 0 ≤ i ∧ i < n ∧ 0 ≤ b ∧ b ≤ 7 ∧ 8 ≤ d ∧ 64 < d)) :
    Calls Try.prog 15 #[.int .u64 s, .int .u64 o, .slice A n c, .int .i64 i, .int .i64 b, .int .u8 ch, .int .i64 d] w fun e w' => e = .returned (.bool true) ∧ Below w.heap.size w w' := by
  have hm := h.most
  have hc := h.cap
  clear h
  rcases hx with h1 | ⟨h1, h2⟩ | ⟨h1, h2, h3⟩ | ⟨h1, h2, h3, h4⟩ | ⟨h1, h2, h3, h4, h5⟩ | ⟨h1, h2, h3, h4, h5, h6⟩ | ⟨h1, h2, h3, h4, h5, h6, h7⟩ | ⟨h1, h2, h3, h4, h5, h6, h7, h8⟩
  · go_enter Try.func15, Try.ntmps15
    go_wp2_with fail
    refine (alive05 _).mono ?_
    rintro e w1 ⟨rfl, hb1⟩
    go_wp2
    go_ret
    exact ⟨rfl, hb1⟩
  · go_enter Try.func15, Try.ntmps15
    go_wp2_with fail
    refine (alive05 _).mono ?_
    rintro e w1 ⟨rfl, hb1⟩
    go_wp2
    go_ret
    exact ⟨rfl, hb1⟩
  · go_enter Try.func15, Try.ntmps15
    go_wp2_with fail
    refine (alive05 _).mono ?_
    rintro e w1 ⟨rfl, hb1⟩
    go_wp2
    go_ret
    exact ⟨rfl, hb1⟩
  · go_enter Try.func15, Try.ntmps15
    go_wp2_with fail
    refine (alive05 _).mono ?_
    rintro e w1 ⟨rfl, hb1⟩
    go_wp2
    go_ret
    exact ⟨rfl, hb1⟩
  · go_enter Try.func15, Try.ntmps15
    go_wp2_with fail
    refine (alive05 _).mono ?_
    rintro e w1 ⟨rfl, hb1⟩
    go_wp2
    go_ret
    exact ⟨rfl, hb1⟩
  · go_enter Try.func15, Try.ntmps15
    go_wp2_with fail
    refine (alive05 _).mono ?_
    rintro e w1 ⟨rfl, hb1⟩
    go_wp2
    go_ret
    exact ⟨rfl, hb1⟩
  · go_enter Try.func15, Try.ntmps15
    go_wp2_with fail
    refine (alive05 _).mono ?_
    rintro e w1 ⟨rfl, hb1⟩
    go_wp2
    go_ret
    exact ⟨rfl, hb1⟩
  · go_enter Try.func15, Try.ntmps15
    go_wp2_with fail
    refine (alive05 _).mono ?_
    rintro e w1 ⟨rfl, hb1⟩
    go_wp2
    go_ret
    exact ⟨rfl, hb1⟩

end Go.Proofs.Ytofigngilcgojaa
