/- The laws of package header, walked (2). -/
import Derived.Test.YthdccahggcjogaaLaw14
namespace Go.Proofs.Ythdccahggcjogaa
open Go.RowKit

theorem nine_xor (q r v : Nat) (hr : r < 512) (hv : v < 512) : (512 * q + r) ^^^ v = 512 * q + (r ^^^ v) := by
  have hx : r ^^^ v < 2 ^ 9 := Nat.xor_lt_two_pow (by simpa using hr) (by simpa using hv)
  apply Nat.eq_of_testBit_eq; intro i
  rw [show (512 : Nat) = 2 ^ 9 by decide, Nat.testBit_xor, Nat.testBit_two_pow_mul_add _ (by simpa using hr), Nat.testBit_two_pow_mul_add _ hx, Nat.testBit_xor]
  by_cases h : i < 9
  · rw [if_pos h, if_pos h]
  · rw [if_neg h, if_neg h]
    have : v.testBit i = false := Nat.testBit_lt_two_pow (Nat.lt_of_lt_of_le hv (by rw [show (512 : Nat) = 2 ^ 9 by decide]; exact Nat.pow_le_pow_right (by decide) (by omega)))
    rw [this]; simp
/-- The mark is one bit of the lower half. -/
theorem mark_xor (s t : Int) : Blk.low ⟨0, s, 1, t, true, 0⟩ ^^^ Blk.low ⟨0, s, 1, t, false, 0⟩ = 256 := by
  have e1 : Blk.low ⟨0, s, 1, t, true, 0⟩ = 512 * (t.toNat + s.toNat * 128) + 257 := by show lowN 1 t.toNat s.toNat true = _; unfold lowN mk01; simp; omega
  have e0 : Blk.low ⟨0, s, 1, t, false, 0⟩ = 512 * (t.toNat + s.toNat * 128) + 1 := by show lowN 1 t.toNat s.toNat false = _; unfold lowN mk01; simp; omega
  have e2 := nine_xor (t.toNat + s.toNat * 128) 1 256 (by decide) (by decide)
  rw [show 1 ^^^ 256 = 257 by decide] at e2
  rw [e1, e0, ← e2, Nat.xor_comm, ← Nat.xor_assoc, Nat.xor_self, Nat.zero_xor]

theorem mark_bits (s t : Int) (h1 : Blk.good ⟨0, s, 1, t, true, 0⟩) (h0 : Blk.good ⟨0, s, 1, t, false, 0⟩) :
    bits .and .u64 (bits .xor .u64 ((Blk.hdr ⟨0, s, 1, t, true, 0⟩ : Nat) : Int) ((Blk.hdr ⟨0, s, 1, t, false, 0⟩ : Nat) : Int)) 4294967295 = 256 := by
  have l1 := hdr_lt h1
  have l0 := hdr_lt h0
  rw [u64_xor_nat _ _ l1 l0]
  have e := and_cast (Blk.hdr ⟨0, s, 1, t, true, 0⟩ ^^^ Blk.hdr ⟨0, s, 1, t, false, 0⟩) 4294967295 32 (xor_lt64 l1 l0) rfl (by decide) 1
  simp only [Nat.div_one, show ((1 : Nat) : Int) = 1 from rfl, Int.ediv_one, mod_xor] at e
  rw [two32, (hdr_parts (low_lt h1)).1, (hdr_parts (low_lt h0)).1, mark_xor s t] at e
  exact e

set_option maxRecDepth 100000 in
set_option maxHeartbeats 1000000 in
theorem walkHeaderMarks (b : Blk) (w : World) (_hb : b.Fit) :
    Calls Try.prog 8 #[b.val] w fun e w' => e = .returned (.bool true) ∧ Below w.heap.size w w' := by
  clear _hb
  obtain ⟨a, s, k, t, m, n⟩ := b
  unfold Blk.val
  simp only
  by_cases h : Blk.good ⟨a, s, k, t, m, 0⟩
  case neg =>
    have C4 := Lib.hid fun W => hcheck_bad a s k t m n W h
    clear h
    go_enter Try.func8, Try.ntmps8
    go_wp2_with fail
    refine (alive14 _).mono ?_
    rintro e w1 ⟨rfl, hb1⟩
    have A1 := Lib.hid (((Below.refl _ _).alloc (Nat.le_refl _) _).trans (hb1.mono (by simp)) : Below w.heap.size w w1)
    have B1 := Lib.hid ((Cells.new w 24 _).kept hb1)
    obtain ⟨q0, q1, q2, q3, q4, q5⟩ := B1.out.six
    go_wp2_with fail
    refine (C4.out _).mono ?_
    rintro e w2 ⟨rfl, hb2⟩
    clear q0 q1 q2 q3 q4 q5
    have A2 := Lib.hid (A1.out.trans (hb2.mono A1.out.size))
    have B2 := Lib.hid (B1.out.kept hb2)
    obtain ⟨q0, q1, q2, q3, q4, q5⟩ := B2.out.six
    go_wp2
    go_ret
    exact ⟨rfl, A2.out⟩
  have C4 := Lib.hid fun W => hcheck_ok a s k t m n W h
  by_cases hk : k = 1
  case neg =>
    have h1 : (k == 1) = false := by simp; omega
    have h2 : (k != 1) = true := by simp; omega
    clear h
    go_enter Try.func8, Try.ntmps8
    go_wp2_with fail
    refine (alive14 _).mono ?_
    rintro e w1 ⟨rfl, hb1⟩
    have A1 := Lib.hid (((Below.refl _ _).alloc (Nat.le_refl _) _).trans (hb1.mono (by simp)) : Below w.heap.size w w1)
    have B1 := Lib.hid ((Cells.new w 24 _).kept hb1)
    obtain ⟨q0, q1, q2, q3, q4, q5⟩ := B1.out.six
    go_wp2_with fail
    refine (C4.out _).mono ?_
    rintro e w2 ⟨rfl, hb2⟩
    clear q0 q1 q2 q3 q4 q5
    have A2 := Lib.hid (A1.out.trans (hb2.mono A1.out.size))
    have B2 := Lib.hid (B1.out.kept hb2)
    obtain ⟨q0, q1, q2, q3, q4, q5⟩ := B2.out.six
    go_wp2
    go_ret
    exact ⟨rfl, A2.out⟩
  subst hk
  have gm : ∀ mm, Blk.good ⟨0, s, 1, t, mm, 0⟩ := fun mm => by
    obtain ⟨h1, h2, h3⟩ := h
    refine ⟨h1, h2, .inl ⟨rfl, ?_⟩⟩
    simp at h3 ⊢
    omega
  have C1 := Lib.hid fun W => hword_ok 0 s 1 t m 0 W (gm m)
  have M : ∀ (m1 m2 : Bool) (W : World), Calls Try.prog 25 #[.int .u64 (Blk.hdr ⟨0, s, 1, t, m1, 0⟩ : Nat), .bool m2] W fun e w' => e = .returned (.tuple #[.int .u64 (Blk.hdr ⟨0, s, 1, t, m2, 0⟩ : Nat), .int .i64 0]) ∧ Below W.heap.size W w' := fun m1 m2 W =>
    hmarked_ok _ _ m2 W (hdr_lt (gm m1)) (split_hdr (gm m1)) (gm m2)
  have D := Lib.hid fun W => hsplit_ok _ _ W (hdr_lt (gm true)) (split_hdr (gm true))
  have X := mark_bits s t (gm true) (gm false)
  have hne : Blk.hdr ⟨0, s, 1, t, false, 0⟩ ≠ Blk.hdr ⟨0, s, 1, t, true, 0⟩ := fun e => by
    have := hdr_inj (gm false) (gm true) e
    injection this with _ _ _ _ h5
    cases h5
  have M1 := Lib.hid fun W => M m true W
  have M2 := Lib.hid fun W => M true true W
  have M3 := Lib.hid fun W => M true false W
  have M4 := Lib.hid fun W => M false m W
  simp only at D
  generalize Blk.hdr ⟨0, s, 1, t, m, 0⟩ = r at C1 M1 M4
  generalize Blk.hdr ⟨0, s, 1, t, true, 0⟩ = r1 at M1 M2 M3 D X hne
  generalize Blk.hdr ⟨0, s, 1, t, false, 0⟩ = r0 at M3 M4 X hne
  have hn : (((r0 : Nat) : Int) != ((r1 : Nat) : Int)) = true := by simp; omega
  clear M gm h hne
  go_enter Try.func8, Try.ntmps8
  go_wp2_with fail
  refine (alive14 _).mono ?_
  rintro e w1 ⟨rfl, hb1⟩
  have A1 := Lib.hid (((Below.refl _ _).alloc (Nat.le_refl _) _).trans (hb1.mono (by simp)) : Below w.heap.size w w1)
  have B1 := Lib.hid ((Cells.new w 24 _).kept hb1)
  obtain ⟨q0, q1, q2, q3, q4, q5⟩ := B1.out.six
  go_wp2_with fail
  refine (C4.out _).mono ?_
  rintro e w2 ⟨rfl, hb2⟩
  clear q0 q1 q2 q3 q4 q5
  have A2 := Lib.hid (A1.out.trans (hb2.mono A1.out.size))
  have B2 := Lib.hid (B1.out.kept hb2)
  obtain ⟨q0, q1, q2, q3, q4, q5⟩ := B2.out.six
  obtain ⟨f0, f1, f2, f3, f4, f5⟩ := B2.out.free6
  go_wp2_with fail
  refine (C1.out _).mono ?_
  rintro e w3 ⟨rfl, hb3⟩
  clear q0 q1 q2 q3 q4 q5 f0 f1 f2 f3 f4 f5
  have hg2 : w.heap.size ≤ w.heap.size := Nat.le_refl _
  have A3 := Lib.hid ((((A2.out.setCell (p := ⟨w.heap.size, 0, none⟩) hg2 _).setCell (p := ⟨w.heap.size, 5, none⟩) hg2 _).trans (hb3.mono (by simpa using A2.out.size))) : Below w.heap.size w w3)
  have K3 : Cells w3 w.heap.size 24 #[.int .i64 0, .int .i64 s, .int .i64 1, .int .i64 t, .bool m, .int .u64 0] := by
    have := ((B2.out.set_ 0 (.int .i64 0)).set_ 5 (.int .u64 0)).kept hb3
    simpa using this
  have B3 := Lib.hid K3
  clear K3
  obtain ⟨q0, q1, q2, q3, q4, q5⟩ := B3.out.six
  go_wp2_with fail
  refine (M1.out _).mono ?_
  rintro e w4 ⟨rfl, hb4⟩
  clear q0 q1 q2 q3 q4 q5
  have A4 := Lib.hid (A3.out.trans (hb4.mono A3.out.size))
  have B4 := Lib.hid (B3.out.kept hb4)
  obtain ⟨q0, q1, q2, q3, q4, q5⟩ := B4.out.six
  go_wp2_with fail
  refine (M2.out _).mono ?_
  rintro e w5 ⟨rfl, hb5⟩
  clear q0 q1 q2 q3 q4 q5
  have A5 := Lib.hid (A4.out.trans (hb5.mono A4.out.size))
  have B5 := Lib.hid (B4.out.kept hb5)
  obtain ⟨q0, q1, q2, q3, q4, q5⟩ := B5.out.six
  go_wp2_with fail
  refine (M3.out _).mono ?_
  rintro e w6 ⟨rfl, hb6⟩
  clear q0 q1 q2 q3 q4 q5
  have A6 := Lib.hid (A5.out.trans (hb6.mono A5.out.size))
  have B6 := Lib.hid (B5.out.kept hb6)
  obtain ⟨q0, q1, q2, q3, q4, q5⟩ := B6.out.six
  go_wp2_with fail
  refine (M4.out _).mono ?_
  rintro e w7 ⟨rfl, hb7⟩
  clear q0 q1 q2 q3 q4 q5
  have A7 := Lib.hid (A6.out.trans (hb7.mono A6.out.size))
  have B7 := Lib.hid (B6.out.kept hb7)
  obtain ⟨q0, q1, q2, q3, q4, q5⟩ := B7.out.six
  go_wp2_with fail
  refine (D.out _).mono ?_
  rintro e w8 ⟨rfl, hb8⟩
  clear q0 q1 q2 q3 q4 q5
  have A8 := Lib.hid (A7.out.trans (hb8.mono A7.out.size))
  have B8 := Lib.hid (B7.out.kept hb8)
  obtain ⟨q0, q1, q2, q3, q4, q5⟩ := B8.out.six
  have G2 := ((B8.out.alloc (.cells #[.int .i64 0, .int .i64 s, .int .i64 1, .int .i64 t, .bool true, .int .u64 0] 24)).frozen 4)
  have hlt : w.heap.size < w8.heap.size := B8.out.lt
  have G3 : Cells ((w8.alloc (.cells #[.int .i64 0, .int .i64 s, .int .i64 1, .int .i64 t, .bool true, .int .u64 0] 24)).setCell ⟨w.heap.size, 4, none⟩ (.bool true)) w8.heap.size 24 #[.int .i64 0, .int .i64 s, .int .i64 1, .int .i64 t, .bool true, .int .u64 0] :=
    (Cells.new w8 _ _).far (by simp; omega) _
  have G4 : Cells ((w8.alloc (.cells #[.int .i64 0, .int .i64 s, .int .i64 1, .int .i64 t, .bool true, .int .u64 0] 24)).setCell ⟨w.heap.size, 4, none⟩ (.bool true)) w.heap.size 24 #[.int .i64 0, .int .i64 s, .int .i64 1, .int .i64 t, .bool true, .int .u64 0] := by
    have := (B8.out.alloc (.cells #[.int .i64 0, .int .i64 s, .int .i64 1, .int .i64 t, .bool true, .int .u64 0] 24)).set_ 4 (.bool true)
    simpa using this
  obtain ⟨k0, k1, k2, k3, k4, k5⟩ := G3.six
  obtain ⟨j0, j1, j2, j3, j4, j5⟩ := G4.six
  clear G3 G4
  have G2' := Lib.hid G2
  clear G2
  have G2 := G2'.out
  clear G2'
  go_wp2
  go_ret
  exact ⟨rfl, (A8.out.setCell (p := ⟨w.heap.size, 4, none⟩) hg2 _).alloc (by simpa using A8.out.size) _⟩
end Go.Proofs.Ythdccahggcjogaa
