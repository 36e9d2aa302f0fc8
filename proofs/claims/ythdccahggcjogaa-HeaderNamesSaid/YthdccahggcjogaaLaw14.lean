/- The laws of package header, walked. -/
import Derived.Test.YthdccahggcjogaaHeadD
namespace Go.Proofs.Ythdccahggcjogaa
open Go.RowKit

set_option maxRecDepth 100000 in
theorem walkHeaderWords (b : Blk) (w : World) (_hb : b.Fit) : Calls Try.prog 3 #[b.val] w fun e w' => e = .returned (.bool true) ∧ Below w.heap.size w w' := by
  clear _hb
  obtain ⟨a, s, k, t, m, n⟩ := b
  unfold Blk.val
  simp only
  by_cases h : Blk.good ⟨a, s, k, t, m, 0⟩
  · have C1 := Lib.hid fun W => hword_ok a s k t m n W h
    have C2 := Lib.hid fun W => rcheck_ok a s k t m n W h
    have C3 := Lib.hid fun W => rof_ok a s k t m n W h
    have C4 := Lib.hid fun W => hcheck_ok a s k t m n W h
    generalize Blk.hdr ⟨a, s, k, t, m, 0⟩ = r at C1 C3
    clear h
    go_enter Try.func3, Try.ntmps3
    go_wp2_with fail
    refine (C1.out _).mono ?_
    rintro e w1 ⟨rfl, hb1⟩
    have A1 := Lib.hid (((Below.refl _ _).alloc (Nat.le_refl _) _).trans (hb1.mono (by simp)) : Below w.heap.size w w1)
    have B1 := Lib.hid ((Cells.new w 24 _).kept hb1)
    obtain ⟨q0, q1, q2, q3, q4, q5⟩ := B1.out.six
    go_wp2_with fail
    refine (C2.out _).mono ?_
    rintro e w2 ⟨rfl, hb2⟩
    clear q0 q1 q2 q3 q4 q5
    have A2 := Lib.hid (A1.out.trans (hb2.mono A1.out.size))
    have B2 := Lib.hid (B1.out.kept hb2)
    obtain ⟨q0, q1, q2, q3, q4, q5⟩ := B2.out.six
    go_wp2_with fail
    refine (C3.out _).mono ?_
    rintro e w3 ⟨rfl, hb3⟩
    clear q0 q1 q2 q3 q4 q5
    have A3 := Lib.hid (A2.out.trans (hb3.mono A2.out.size))
    have B3 := Lib.hid (B2.out.kept hb3)
    obtain ⟨q0, q1, q2, q3, q4, q5⟩ := B3.out.six
    go_wp2_with fail
    refine (C4.out _).mono ?_
    rintro e w4 ⟨rfl, hb4⟩
    clear q0 q1 q2 q3 q4 q5
    have A4 := Lib.hid (A3.out.trans (hb4.mono A3.out.size))
    have B4 := Lib.hid (B3.out.kept hb4)
    obtain ⟨q0, q1, q2, q3, q4, q5⟩ := B4.out.six
    go_wp2
    go_ret
    exact ⟨rfl, A4.out⟩
  · have C1 := Lib.hid fun W => hword_bad a s k t m n W h
    have C2 := Lib.hid fun W => rcheck_bad a s k t m n W h
    have C4 := Lib.hid fun W => hcheck_bad a s k t m n W h
    clear h
    go_enter Try.func3, Try.ntmps3
    go_wp2_with fail
    refine (C1.out _).mono ?_
    rintro e w1 ⟨rfl, hb1⟩
    have A1 := Lib.hid (((Below.refl _ _).alloc (Nat.le_refl _) _).trans (hb1.mono (by simp)) : Below w.heap.size w w1)
    have B1 := Lib.hid ((Cells.new w 24 _).kept hb1)
    obtain ⟨q0, q1, q2, q3, q4, q5⟩ := B1.out.six
    go_wp2_with fail
    refine (C2.out _).mono ?_
    rintro e w2 ⟨rfl, hb2⟩
    clear q0 q1 q2 q3 q4 q5
    have A2 := Lib.hid (A1.out.trans (hb2.mono A1.out.size))
    have B2 := Lib.hid (B1.out.kept hb2)
    obtain ⟨q0, q1, q2, q3, q4, q5⟩ := B2.out.six
    go_wp2_with fail
    refine (C2.out _).mono ?_
    rintro e w3 ⟨rfl, hb3⟩
    clear q0 q1 q2 q3 q4 q5
    have A3 := Lib.hid (A2.out.trans (hb3.mono A2.out.size))
    have B3 := Lib.hid (B2.out.kept hb3)
    obtain ⟨q0, q1, q2, q3, q4, q5⟩ := B3.out.six
    go_wp2_with fail
    refine (C4.out _).mono ?_
    rintro e w4 ⟨rfl, hb4⟩
    clear q0 q1 q2 q3 q4 q5
    have A4 := Lib.hid (A3.out.trans (hb4.mono A3.out.size))
    have B4 := Lib.hid (B3.out.kept hb4)
    obtain ⟨q0, q1, q2, q3, q4, q5⟩ := B4.out.six
    go_wp2
    go_ret
    exact ⟨rfl, A4.out⟩

theorem walkHeaderSplits (x : Nat) (mk : Bool) (w : World) (hx : x < 18446744073709551616) : Calls Try.prog 6 #[.int .u64 x, .bool mk] w fun e w' => e = .returned (.bool true) ∧ Below w.heap.size w w' := by
  cases h : split x with
  | none =>
    have C1 := Lib.hid fun W => hsplit_no x W hx h
    have C2 := Lib.hid fun W => rsplit_no x W hx h
    have C3 := Lib.hid fun W => hmarked_no x mk W hx h
    have C4 := Lib.hid fun W => rmarked_no x mk W hx h
    clear h
    go_enter Try.func6, Try.ntmps6
    go_wp2_with fail
    refine (C1.out _).mono ?_
    rintro e w1 ⟨rfl, hb1⟩
    go_wp2_with fail
    refine (C2.out _).mono ?_
    rintro e w2 ⟨rfl, hb2⟩
    have A1 := Lib.hid hb1
    have A2 := Lib.hid ((hb1.alloc hb1.size _).trans (hb2.mono (by have := hb1.size; simp; omega)) : Below w.heap.size w w2)
    have B1 := Lib.hid ((Cells.new w1 24 _).kept hb2)
    go_wp2_with fail
    refine (C3.out _).mono ?_
    rintro e w3 ⟨rfl, hb3⟩
    have A3 := Lib.hid ((A2.out.alloc A2.out.size _).trans (hb3.mono (by have := A2.out.size; simp; omega)) : Below w.heap.size w w3)
    have B2 := Lib.hid ((Cells.new w2 24 _).kept hb3)
    have B3 := Lib.hid ((B1.out.alloc _).kept hb3)
    go_wp2_with fail
    refine (C4.out _).mono ?_
    rintro e w4 ⟨rfl, hb4⟩
    have A4 := Lib.hid (A3.out.trans (hb4.mono A3.out.size))
    obtain ⟨q0, q1, q2, q3, q4, q5⟩ := (B3.out.kept hb4).six
    obtain ⟨r0, r1, r2, r3, r4, r5⟩ := (B2.out.kept hb4).six
    go_wp2
    go_ret
    exact ⟨rfl, A4.out⟩
  | some b =>
    by_cases hg : (b.set_ mk).good
    · have C1 := Lib.hid fun W => hsplit_ok x b W hx h
      have C2 := Lib.hid fun W => rsplit_ok x b W hx h
      have C3 := Lib.hid fun W => hmarked_ok x b mk W hx h hg
      have C4 := Lib.hid fun W => rmarked_ok x b mk W hx h hg
      generalize b.size = s at C1 C2
      generalize b.kind = k at C1 C2
      generalize b.typ = t at C1 C2
      generalize b.mark = m at C1 C2
      generalize (b.set_ mk).hdr = r at C3 C4
      clear h hg
      go_enter Try.func6, Try.ntmps6
      go_wp2_with fail
      refine (C1.out _).mono ?_
      rintro e w1 ⟨rfl, hb1⟩
      go_wp2_with fail
      refine (C2.out _).mono ?_
      rintro e w2 ⟨rfl, hb2⟩
      have A1 := Lib.hid hb1
      have A2 := Lib.hid ((hb1.alloc hb1.size _).trans (hb2.mono (by have := hb1.size; simp; omega)) : Below w.heap.size w w2)
      have B1 := Lib.hid ((Cells.new w1 24 _).kept hb2)
      go_wp2_with fail
      refine (C3.out _).mono ?_
      rintro e w3 ⟨rfl, hb3⟩
      have A3 := Lib.hid ((A2.out.alloc A2.out.size _).trans (hb3.mono (by have := A2.out.size; simp; omega)) : Below w.heap.size w w3)
      have B2 := Lib.hid ((Cells.new w2 24 _).kept hb3)
      have B3 := Lib.hid ((B1.out.alloc _).kept hb3)
      go_wp2_with fail
      refine (C4.out _).mono ?_
      rintro e w4 ⟨rfl, hb4⟩
      have A4 := Lib.hid (A3.out.trans (hb4.mono A3.out.size))
      obtain ⟨q0, q1, q2, q3, q4, q5⟩ := (B3.out.kept hb4).six
      obtain ⟨r0, r1, r2, r3, r4, r5⟩ := (B2.out.kept hb4).six
      go_wp2
      go_ret
      exact ⟨rfl, A4.out⟩
    · have C1 := Lib.hid fun W => hsplit_ok x b W hx h
      have C2 := Lib.hid fun W => rsplit_ok x b W hx h
      have C3 := Lib.hid fun W => hmarked_bad x b mk W hx h hg
      have C4 := Lib.hid fun W => rmarked_bad x b mk W hx h hg
      generalize b.size = s at C1 C2
      generalize b.kind = k at C1 C2
      generalize b.typ = t at C1 C2
      generalize b.mark = m at C1 C2
      clear h hg
      go_enter Try.func6, Try.ntmps6
      go_wp2_with fail
      refine (C1.out _).mono ?_
      rintro e w1 ⟨rfl, hb1⟩
      go_wp2_with fail
      refine (C2.out _).mono ?_
      rintro e w2 ⟨rfl, hb2⟩
      have A1 := Lib.hid hb1
      have A2 := Lib.hid ((hb1.alloc hb1.size _).trans (hb2.mono (by have := hb1.size; simp; omega)) : Below w.heap.size w w2)
      have B1 := Lib.hid ((Cells.new w1 24 _).kept hb2)
      go_wp2_with fail
      refine (C3.out _).mono ?_
      rintro e w3 ⟨rfl, hb3⟩
      have A3 := Lib.hid ((A2.out.alloc A2.out.size _).trans (hb3.mono (by have := A2.out.size; simp; omega)) : Below w.heap.size w w3)
      have B2 := Lib.hid ((Cells.new w2 24 _).kept hb3)
      have B3 := Lib.hid ((B1.out.alloc _).kept hb3)
      go_wp2_with fail
      refine (C4.out _).mono ?_
      rintro e w4 ⟨rfl, hb4⟩
      have A4 := Lib.hid (A3.out.trans (hb4.mono A3.out.size))
      obtain ⟨q0, q1, q2, q3, q4, q5⟩ := (B3.out.kept hb4).six
      obtain ⟨r0, r1, r2, r3, r4, r5⟩ := (B2.out.kept hb4).six
      go_wp2
      go_ret
      exact ⟨rfl, A4.out⟩

theorem xor_shl (r c A : Nat) (hr : r < 18446744073709551616) (hc : c < 256) (hA : A ≤ 7) : bits .xor .u64 (r : Int) (IntKind.u64.wrap ((c : Int) * 2 ^ (8 * A))) = ((r ^^^ c * 256 ^ A : Nat) : Int) := by
  have hp : (256 : Nat) ^ A = 2 ^ (8 * A) := by rw [Nat.pow_mul]
  have hl : c * 2 ^ (8 * A) < 18446744073709551616 := shl_lt (8 * A) 8 c (by omega) hc
  have e : IntKind.u64.wrap ((c : Int) * 2 ^ (8 * A)) = ((c * 2 ^ (8 * A) : Nat) : Int) := by
    rw [IntKind.wrap_u64, show (c : Int) * 2 ^ (8 * A) = ((c * 2 ^ (8 * A) : Nat) : Int) by simp]
    omega
  rw [e, u64_xor_nat _ _ hr hl, hp]

set_option maxRecDepth 100000 in
theorem walkHeaderSpoilt (b : Blk) (at_ : Int) (c : Nat) (w : World) (_hb : b.Fit) (ha : -9223372036854775808 ≤ at_) (ha2 : at_ ≤ 9223372036854775807) (hc : c < 256) :
    Calls Try.prog 5 #[b.val, .int .i64 at_, .int .u8 c] w fun e w' => e = .returned (.bool true) ∧ Below w.heap.size w w' := by
  clear _hb
  obtain ⟨a, s, k, t, m, n⟩ := b
  unfold Blk.val
  simp only
  by_cases h : Blk.good ⟨a, s, k, t, m, 0⟩
  case neg =>
    have C4 := Lib.hid fun W => hcheck_bad a s k t m n W h
    clear h
    go_enter Try.func5, Try.ntmps5
    go_wp2_with fail
    refine (alive14 _).mono ?_
    rintro e w1 ⟨rfl, hb1⟩
    have A1 := Lib.hid (((Below.refl _ _).alloc (Nat.le_refl _) _).trans (hb1.mono (by simp)) : Below w.heap.size w w1)
    have B1 := Lib.hid ((Cells.new w 24 _).kept hb1)
    obtain ⟨q0, q1, q2, q3, q4, q5⟩ := B1.out.six
    go_wp2_with fail
    refine (C4.out _).mono ?_
    rintro e w2 ⟨rfl, hb2⟩
    clear q0 q1 q2 q3 q4 q5
    have A2 := Lib.hid (A1.out.trans (hb2.mono A1.out.size))
    have B2 := Lib.hid (B1.out.kept hb2)
    obtain ⟨q0, q1, q2, q3, q4, q5⟩ := B2.out.six
    go_wp2
    go_ret
    exact ⟨rfl, A2.out⟩
  have C4 := Lib.hid fun W => hcheck_ok a s k t m n W h
  by_cases h1 : at_ < 0
  · clear h
    go_enter Try.func5, Try.ntmps5
    go_wp2_with fail
    refine (alive14 _).mono ?_
    rintro e w1 ⟨rfl, hb1⟩
    have A1 := Lib.hid (((Below.refl _ _).alloc (Nat.le_refl _) _).trans (hb1.mono (by simp)) : Below w.heap.size w w1)
    have B1 := Lib.hid ((Cells.new w 24 _).kept hb1)
    obtain ⟨q0, q1, q2, q3, q4, q5⟩ := B1.out.six
    go_wp2_with fail
    refine (C4.out _).mono ?_
    rintro e w2 ⟨rfl, hb2⟩
    clear q0 q1 q2 q3 q4 q5
    have A2 := Lib.hid (A1.out.trans (hb2.mono A1.out.size))
    have B2 := Lib.hid (B1.out.kept hb2)
    obtain ⟨q0, q1, q2, q3, q4, q5⟩ := B2.out.six
    go_wp2
    go_ret
    exact ⟨rfl, A2.out⟩
  by_cases h2 : 7 < at_
  · clear h
    go_enter Try.func5, Try.ntmps5
    go_wp2_with fail
    refine (alive14 _).mono ?_
    rintro e w1 ⟨rfl, hb1⟩
    have A1 := Lib.hid (((Below.refl _ _).alloc (Nat.le_refl _) _).trans (hb1.mono (by simp)) : Below w.heap.size w w1)
    have B1 := Lib.hid ((Cells.new w 24 _).kept hb1)
    obtain ⟨q0, q1, q2, q3, q4, q5⟩ := B1.out.six
    go_wp2_with fail
    refine (C4.out _).mono ?_
    rintro e w2 ⟨rfl, hb2⟩
    clear q0 q1 q2 q3 q4 q5
    have A2 := Lib.hid (A1.out.trans (hb2.mono A1.out.size))
    have B2 := Lib.hid (B1.out.kept hb2)
    obtain ⟨q0, q1, q2, q3, q4, q5⟩ := B2.out.six
    go_wp2
    go_ret
    exact ⟨rfl, A2.out⟩
  by_cases h3 : c = 0
  · subst h3
    clear h
    go_enter Try.func5, Try.ntmps5
    go_wp2_with fail
    refine (alive14 _).mono ?_
    rintro e w1 ⟨rfl, hb1⟩
    have A1 := Lib.hid (((Below.refl _ _).alloc (Nat.le_refl _) _).trans (hb1.mono (by simp)) : Below w.heap.size w w1)
    have B1 := Lib.hid ((Cells.new w 24 _).kept hb1)
    obtain ⟨q0, q1, q2, q3, q4, q5⟩ := B1.out.six
    go_wp2_with fail
    refine (C4.out _).mono ?_
    rintro e w2 ⟨rfl, hb2⟩
    clear q0 q1 q2 q3 q4 q5
    have A2 := Lib.hid (A1.out.trans (hb2.mono A1.out.size))
    have B2 := Lib.hid (B1.out.kept hb2)
    obtain ⟨q0, q1, q2, q3, q4, q5⟩ := B2.out.six
    go_wp2
    go_ret
    exact ⟨rfl, A2.out⟩
  obtain ⟨A, rfl⟩ := Int.eq_ofNat_of_zero_le (show 0 ≤ at_ by omega)
  have hA : A ≤ 7 := by omega
  have h4 : ((c : Int) == 0) = false := by simp; omega
  have C1 := Lib.hid fun W => hword_ok a s k t m n W h
  have hr := hdr_lt h
  have S := split_spoilt h (show A < 8 by omega) hc h3
  have hx : Blk.hdr ⟨a, s, k, t, m, 0⟩ ^^^ c * 256 ^ A < 18446744073709551616 := by
    refine xor_lt64 hr ?_
    have hp : (256 : Nat) ^ A = 2 ^ (8 * A) := by rw [Nat.pow_mul]
    rw [hp]; exact shl_lt (8 * A) 8 c (by omega) hc
  have C5 := Lib.hid fun W => hsplit_no _ W hx S
  have X := Lib.hid (xor_shl (Blk.hdr ⟨a, s, k, t, m, 0⟩) c A hr hc hA)
  generalize hY : Blk.hdr ⟨a, s, k, t, m, 0⟩ ^^^ c * 256 ^ A = y at C5 X
  generalize Blk.hdr ⟨a, s, k, t, m, 0⟩ = r at C1 hr X
  clear h hY S hx h3 hr
  go_enter Try.func5, Try.ntmps5
  go_wp2_with fail
  refine (alive14 _).mono ?_
  rintro e w1 ⟨rfl, hb1⟩
  have A1 := Lib.hid (((Below.refl _ _).alloc (Nat.le_refl _) _).trans (hb1.mono (by simp)) : Below w.heap.size w w1)
  have B1 := Lib.hid ((Cells.new w 24 _).kept hb1)
  obtain ⟨q0, q1, q2, q3, q4, q5⟩ := B1.out.six
  go_wp2_with fail
  refine (C4.out _).mono ?_
  rintro e w2 ⟨rfl, hb2⟩
  clear q0 q1 q2 q3 q4 q5
  have A2 := Lib.hid (A1.out.trans (hb2.mono A1.out.size))
  have B2 := Lib.hid (B1.out.kept hb2)
  obtain ⟨q0, q1, q2, q3, q4, q5⟩ := B2.out.six
  go_wp2_with fail
  refine (C1.out _).mono ?_
  rintro e w3 ⟨rfl, hb3⟩
  clear q0 q1 q2 q3 q4 q5
  have A3 := Lib.hid (A2.out.trans (hb3.mono A2.out.size))
  have B3 := Lib.hid (B2.out.kept hb3)
  obtain ⟨q0, q1, q2, q3, q4, q5⟩ := B3.out.six
  go_wp2_with fail
  rw [X.out]
  refine (C5.out _).mono ?_
  rintro e w4 ⟨rfl, hb4⟩
  have A4 := Lib.hid (A3.out.trans (hb4.mono A3.out.size))
  go_wp2
  go_ret
  exact ⟨rfl, A4.out.alloc A4.out.size _⟩
end Go.Proofs.Ythdccahggcjogaa
