/- The functions of package header, and of its reference, walked (3). -/
import Derived.Test.YtoifalgkeegklaaHeadB
namespace Go.Proofs.Ytoifalgkeegklaa
open Go.RowKit

set_option maxRecDepth 100000 in
theorem hsplit_no (x : Nat) (w : World) (hx : x < 18446744073709551616) (h : split x = none) :
    Calls Try.prog 80 #[.int .u64 x] w fun e w' => e = .returned (.tuple #[.agg #[.int .i64 0, .int .i64 0, .int .i64 0, .int .i64 0, .bool false, .int .u64 0], .int .i64 50]) ∧ Below w.heap.size w w' := by
  obtain ⟨d1, d2, d3, d4, d5, d6, d7, d8, d9, d10⟩ := dec_bits x hx
  have e : dec x = ⟨0, (dec x).size, (dec x).kind, (dec x).typ, (dec x).mark, 0⟩ := rfl
  unfold split at h
  rw [e] at h
  generalize (dec x).size = s at *
  generalize (dec x).kind = k at *
  generalize (dec x).typ = t at *
  generalize (dec x).mark = m at *
  clear e
  by_cases hg : Blk.good ⟨0, s, k, t, m, 0⟩
  · have C := Lib.hid fun W => hword_ok 0 s k t m 0 W hg
    have hne : Blk.hdr ⟨0, s, k, t, m, 0⟩ ≠ x := fun e => by rw [if_pos ⟨hg, e⟩] at h; cases h
    generalize Blk.hdr ⟨0, s, k, t, m, 0⟩ = r at C hne
    have hn : (((r : Nat) : Int) != (x : Int)) = true := by simp; omega
    clear h hg hne
    go_enter Try.func80, Try.ntmps80
    go_wp2_with fail
    refine (C.out _).mono ?_
    rintro e w1 ⟨rfl, hb1⟩
    have hz := hb1.size
    simp only [World.size_alloc] at hz
    have Z := ((Cells.new w 24 #[.int .i64 0, .int .i64 0, .int .i64 0, .int .i64 0, .bool false, .int .u64 0]).alloc _).kept hb1
    obtain ⟨r0, r1, r2, r3, r4, r5⟩ := Z.six
    obtain ⟨f0, f1, f2, f3, f4, f5⟩ := Z.free6
    have HZ := Lib.hid Z
    clear Z
    go_wp2
    have P := HZ.out.put6 (.int .i64 0) (.int .i64 0) (.int .i64 0) (.int .i64 0) (.bool false) (.int .u64 0)
    obtain ⟨p0, p1, p2, p3, p4, p5⟩ := P.six
    exact bodyPost_ret (v := .tuple #[.agg #[.int .i64 0, .int .i64 0, .int .i64 0, .int .i64 0, .bool false, .int .u64 0], .int .i64 50])
      (by simp [results, Try.results80, go_sem, p0, p1, p2, p3, p4, p5]) rfl ⟨rfl, below_put6 ((((Below.refl _ _).alloc (Nat.le_refl _) _).alloc (by simp) _).trans (hb1.mono (by simp; omega))) (Nat.le_refl _) _ _ _ _ _ _⟩
  · have C := Lib.hid fun W => hword_bad 0 s k t m 0 W hg
    clear h hg
    go_enter Try.func80, Try.ntmps80
    go_wp2_with fail
    refine (C.out _).mono ?_
    rintro e w1 ⟨rfl, hb1⟩
    have hz := hb1.size
    simp only [World.size_alloc] at hz
    have Z := ((Cells.new w 24 #[.int .i64 0, .int .i64 0, .int .i64 0, .int .i64 0, .bool false, .int .u64 0]).alloc _).kept hb1
    obtain ⟨r0, r1, r2, r3, r4, r5⟩ := Z.six
    obtain ⟨f0, f1, f2, f3, f4, f5⟩ := Z.free6
    have HZ := Lib.hid Z
    clear Z
    go_wp2
    have P := HZ.out.put6 (.int .i64 0) (.int .i64 0) (.int .i64 0) (.int .i64 0) (.bool false) (.int .u64 0)
    obtain ⟨p0, p1, p2, p3, p4, p5⟩ := P.six
    exact bodyPost_ret (v := .tuple #[.agg #[.int .i64 0, .int .i64 0, .int .i64 0, .int .i64 0, .bool false, .int .u64 0], .int .i64 50])
      (by simp [results, Try.results80, go_sem, p0, p1, p2, p3, p4, p5]) rfl ⟨rfl, below_put6 ((((Below.refl _ _).alloc (Nat.le_refl _) _).alloc (by simp) _).trans (hb1.mono (by simp; omega))) (Nat.le_refl _) _ _ _ _ _ _⟩

/-- The block with another mark. -/
def Blk.set_ (b : Blk) (mk : Bool) : Blk := ⟨0, b.size, b.kind, b.typ, mk, 0⟩


/-! The reference. -/
theorem setf_add (x f n v : Nat) (h : x < 2 ^ f) : setf x f n v = x + v * 2 ^ f := by
  have h2 : 2 ^ f ≤ 2 ^ (f + n) := Nat.pow_le_pow_right (by decide) (by omega)
  unfold setf
  rw [Nat.div_eq_of_lt (by omega), Nat.zero_mul, Nat.zero_add, Nat.mod_eq_of_lt h, Nat.add_comm]

theorem rword_any (K T S : Nat) (m : Bool) (w : World) (hK : K < 256) (hT : T < 128) (hS : S < 65536) :
    Calls Try.prog 64 #[.int .i64 K, .bool m, .int .i64 T, .int .i64 S] w fun e w' => e = .returned (.int .u64 (lowN K T S m + hsh (lowN K T S m) * 4294967296 : Nat)) ∧ Below w.heap.size w w' := by
  have hm := mk01_lt m
  have c1 : ∀ W : World, Calls Try.prog 75 #[.int .u64 0, .int .i64 0, .int .i64 8, .int .u64 K] W fun e w' => e = .returned (.int .u64 K) ∧ W = w' := fun W => by
    have := rwith_any 0 0 8 K W (by decide) (by decide) (by omega) (by omega)
    rw [setf_add 0 0 8 K (by decide), Nat.pow_zero, Nat.mul_one, Nat.zero_add] at this
    exact this
  have c2 : ∀ W : World, Calls Try.prog 75 #[.int .u64 K, .int .i64 8, .int .i64 1, .int .u64 1] W fun e w' => e = .returned (.int .u64 (K + 256 : Nat)) ∧ W = w' := fun W => by
    have := rwith_any K 8 1 1 W (by omega) (by decide) (by decide) (by decide)
    rw [setf_add K 8 1 1 (by omega)] at this
    exact this
  have c3 : ∀ W : World, Calls Try.prog 75 #[.int .u64 (K + mk01 m * 256 : Nat), .int .i64 9, .int .i64 7, .int .u64 T] W fun e w' => e = .returned (.int .u64 (K + mk01 m * 256 + T * 512 : Nat)) ∧ W = w' := fun W => by
    have := rwith_any (K + mk01 m * 256) 9 7 T W (by omega) (by decide) (by omega) (by omega)
    rw [setf_add _ 9 7 T (by omega)] at this
    exact this
  have c4 : ∀ W : World, Calls Try.prog 75 #[.int .u64 (K + mk01 m * 256 + T * 512 : Nat), .int .i64 16, .int .i64 16, .int .u64 S] W fun e w' => e = .returned (.int .u64 (lowN K T S m : Nat)) ∧ W = w' := fun W => by
    have := rwith_any (K + mk01 m * 256 + T * 512) 16 16 S W (by omega) (by decide) (by omega) (by omega)
    rw [setf_add _ 16 16 S (by omega)] at this
    exact this
  have hl : lowN K T S m < 4294967296 := by unfold lowN; omega
  have hh := hsh_lt (lowN K T S m)
  have c5 : ∀ W : World, Calls Try.prog 76 #[.slice (some ⟨W.heap.size, 0, none⟩) 1 1, .int .i64 32] (W.alloc (.cells #[.int .u64 (lowN K T S m : Nat)] 22)) fun e w' => e = .returned (.int .u64 (hsh (lowN K T S m) : Nat)) ∧ Below (W.heap.size + 1) (W.alloc (.cells #[.int .u64 (lowN K T S m : Nat)] 22)) w' := fun W => by
    have := rpart_any _ 1 1 [lowN K T S m] 32 _ (Words.one W (lowN K T S m) 22 (by omega)) (by decide)
    rw [fld_hsh] at this
    simpa using this
  have c6 : ∀ W : World, Calls Try.prog 75 #[.int .u64 (lowN K T S m : Nat), .int .i64 32, .int .i64 32, .int .u64 (hsh (lowN K T S m) : Nat)] W fun e w' => e = .returned (.int .u64 (lowN K T S m + hsh (lowN K T S m) * 4294967296 : Nat)) ∧ W = w' := fun W => by
    have := rwith_any (lowN K T S m) 32 32 (hsh (lowN K T S m)) W (by omega) (by decide) (by omega) (by omega)
    rw [setf_add _ 32 32 _ (by omega)] at this
    exact this
  generalize lowN K T S m + hsh (lowN K T S m) * 4294967296 = r at c6 ⊢
  generalize hsh (lowN K T S m) = q at c5 c6 hh
  generalize lowN K T S m = l at c4 c5 c6 hl
  have C1 := Lib.hid c1
  have C2 := Lib.hid c2
  have C5 := Lib.hid c5
  have C6 := Lib.hid c6
  cases m
  · have e : mk01 false = 0 := rfl
    rw [e, Nat.zero_mul, Nat.add_zero] at c3 c4
    generalize K + T * 512 = y at c3 c4
    have C3 := Lib.hid c3
    have C4 := Lib.hid c4
    clear c1 c2 c3 c4 c5 c6 e
    go_enter Try.func64, Try.ntmps64
    go_wp2_with fail
    refine (C1.out _).mono ?_
    rintro e w' ⟨rfl, rfl⟩
    go_wp2_with fail
    refine (C3.out _).mono ?_
    rintro e w' ⟨rfl, rfl⟩
    go_wp2_with fail
    refine (C4.out _).mono ?_
    rintro e w' ⟨rfl, rfl⟩
    go_wp2_with fail
    refine (C5.out _).mono ?_
    rintro e w1 ⟨rfl, hb⟩
    go_wp2_with fail
    refine (C6.out _).mono ?_
    rintro e w' ⟨rfl, rfl⟩
    go_wp2
    go_ret
    exact ⟨rfl, ((Below.refl _ _).alloc (Nat.le_refl _) _).trans (hb.mono (by omega))⟩
  · have e : mk01 true = 1 := rfl
    rw [e, Nat.one_mul] at c3 c4
    generalize K + 256 + T * 512 = y at c3 c4
    generalize K + 256 = z at c2 c3
    have C2 := Lib.hid c2
    have C3 := Lib.hid c3
    have C4 := Lib.hid c4
    clear c1 c2 c3 c4 c5 c6 e
    go_enter Try.func64, Try.ntmps64
    go_wp2_with fail
    refine (C1.out _).mono ?_
    rintro e w' ⟨rfl, rfl⟩
    go_wp2_with fail
    refine (C2.out _).mono ?_
    rintro e w' ⟨rfl, rfl⟩
    go_wp2_with fail
    refine (C3.out _).mono ?_
    rintro e w' ⟨rfl, rfl⟩
    go_wp2_with fail
    refine (C4.out _).mono ?_
    rintro e w' ⟨rfl, rfl⟩
    go_wp2_with fail
    refine (C5.out _).mono ?_
    rintro e w1 ⟨rfl, hb⟩
    go_wp2_with fail
    refine (C6.out _).mono ?_
    rintro e w' ⟨rfl, rfl⟩
    go_wp2
    go_ret
    exact ⟨rfl, ((Below.refl _ _).alloc (Nat.le_refl _) _).trans (hb.mono (by omega))⟩

theorem rof_ok (a s k t : Int) (m : Bool) (x : Int) (w : World) (h : Blk.good ⟨a, s, k, t, m, 0⟩) :
    Calls Try.prog 42 #[.agg #[.int .i64 a, .int .i64 s, .int .i64 k, .int .i64 t, .bool m, .int .u64 x]] w fun e w' => e = .returned (.int .u64 (Blk.hdr ⟨a, s, k, t, m, 0⟩ : Nat)) ∧ Below w.heap.size w w' := by
  obtain ⟨h1, h2, h3⟩ := h
  simp only at h1 h2 h3
  have b1 : 0 ≤ k ∧ k ≤ 2 ∧ 0 ≤ t ∧ t < 8 ∧ s ≤ 1920 := by omega
  obtain ⟨b1, b2, b3, b4, b5⟩ := b1
  clear h2 h3
  obtain ⟨K, rfl⟩ := Int.eq_ofNat_of_zero_le b1
  obtain ⟨T, rfl⟩ := Int.eq_ofNat_of_zero_le b3
  obtain ⟨S, rfl⟩ := Int.eq_ofNat_of_zero_le (show 0 ≤ s by omega)
  have e : Blk.hdr ⟨a, (S : Int), (K : Int), (T : Int), m, 0⟩ = lowN K T S m + hsh (lowN K T S m) * 4294967296 := rfl
  rw [e]
  have C := Lib.hid fun W => rword_any K T S m W (by omega) (by omega) (by omega)
  generalize lowN K T S m + hsh (lowN K T S m) * 4294967296 = r at C ⊢
  clear e
  go_enter Try.func42, Try.ntmps42
  go_wp2_with fail
  refine (C.out _).mono ?_
  rintro e w1 ⟨rfl, hb⟩
  go_wp2
  go_ret
  exact ⟨rfl, ((Below.refl _ _).alloc (Nat.le_refl _) _).trans (hb.mono (by simp))⟩

theorem dec_flds (x : Nat) : ((fld x 16 16 : Nat) : Int) = (dec x).size ∧ ((fld x 0 8 : Nat) : Int) = (dec x).kind ∧ ((fld x 9 7 : Nat) : Int) = (dec x).typ ∧ (((fld x 8 1 : Nat) : Int) == 1) = (dec x).mark := by
  refine ⟨rfl, ?_, rfl, ?_⟩
  · unfold fld; rw [Nat.pow_zero, Nat.div_one]; rfl
  · show (((x / 256 % 2 : Nat) : Int) == 1) = (x / 256 % 2 == 1)
    have : x / 256 % 2 = 0 ∨ x / 256 % 2 = 1 := by omega
    rcases this with h | h <;> rw [h] <;> rfl

set_option maxRecDepth 100000 in
theorem rsplit_ok (x : Nat) (b : Blk) (w : World) (hx : x < 18446744073709551616) (h : split x = some b) :
    Calls Try.prog 93 #[.int .u64 x] w fun e w' => e = .returned (.tuple #[.agg #[.int .i64 0, .int .i64 b.size, .int .i64 b.kind, .int .i64 b.typ, .bool b.mark, .int .u64 0], .bool true]) ∧ Below w.heap.size w w' := by
  obtain ⟨h1, h2, h3, h4, rfl⟩ := split_some h
  obtain ⟨_, _, _, _, d5, d6, d7, d8, d9, d10⟩ := dec_bits x hx
  obtain ⟨g1, g2, g3, g4⟩ := dec_flds x
  have c1 : ∀ W : World, Calls Try.prog 86 #[.int .u64 x, .int .i64 0, .int .i64 8] W fun e w' => e = .returned (.int .u64 (fld x 0 8 : Nat)) ∧ W = w' := fun W => rvalue_any x 0 8 W hx (by decide)
  have c2 : ∀ W : World, Calls Try.prog 86 #[.int .u64 x, .int .i64 8, .int .i64 1] W fun e w' => e = .returned (.int .u64 (fld x 8 1 : Nat)) ∧ W = w' := fun W => rvalue_any x 8 1 W hx (by decide)
  have c3 : ∀ W : World, Calls Try.prog 86 #[.int .u64 x, .int .i64 9, .int .i64 7] W fun e w' => e = .returned (.int .u64 (fld x 9 7 : Nat)) ∧ W = w' := fun W => rvalue_any x 9 7 W hx (by decide)
  have c4 : ∀ W : World, Calls Try.prog 86 #[.int .u64 x, .int .i64 16, .int .i64 16] W fun e w' => e = .returned (.int .u64 (fld x 16 16 : Nat)) ∧ W = w' := fun W => rvalue_any x 16 16 W hx (by decide)
  rw [g2] at c1
  rw [g3] at c3
  rw [g1] at c4
  generalize fld x 8 1 = f at c2 g4
  have e : dec x = ⟨0, (dec x).size, (dec x).kind, (dec x).typ, (dec x).mark, 0⟩ := rfl
  rw [e] at h1 h2
  generalize (dec x).size = s at *
  generalize (dec x).kind = k at *
  generalize (dec x).typ = t at *
  generalize (dec x).mark = m at *
  have C1 := Lib.hid c1
  have C2 := Lib.hid c2
  have C3 := Lib.hid c3
  have C4 := Lib.hid c4
  have C5 := Lib.hid fun W => rcheck_ok 0 s k t m 0 W h1
  have C6 := Lib.hid fun W => rof_ok 0 s k t m 0 W h1
  rw [h2] at C6
  clear c1 c2 c3 c4 e h h1 h2 h3 h4 g1 g2 g3
  go_enter Try.func93, Try.ntmps93
  go_wp2_with fail
  refine (C1.out _).mono ?_
  rintro e w' ⟨rfl, rfl⟩
  go_wp2_with fail
  refine (C2.out _).mono ?_
  rintro e w' ⟨rfl, rfl⟩
  go_wp2_with fail
  refine (C3.out _).mono ?_
  rintro e w' ⟨rfl, rfl⟩
  go_wp2_with fail
  refine (C4.out _).mono ?_
  rintro e w' ⟨rfl, rfl⟩
  go_wp2_with fail
  refine (C5.out _).mono ?_
  rintro e w1 ⟨rfl, hb1⟩
  have hz := hb1.size
  simp only [World.size_alloc] at hz
  have Y := (Cells.at_ (n := w.heap.size + 1) (w.alloc _) 24 _ (by simp)).kept hb1
  obtain ⟨q0, q1, q2, q3, q4, q5⟩ := Y.six
  have HY := Lib.hid Y
  have Z := ((Cells.new w 24 #[.int .i64 0, .int .i64 0, .int .i64 0, .int .i64 0, .bool false, .int .u64 0]).alloc _).kept hb1
  have HZ := Lib.hid Z
  clear Y Z
  go_wp2_with fail
  refine (C6.out _).mono ?_
  rintro e w2 ⟨rfl, hb2⟩
  clear q0 q1 q2 q3 q4 q5
  obtain ⟨q0, q1, q2, q3, q4, q5⟩ := (HY.out.kept hb2).six
  have Z := HZ.out.kept hb2
  obtain ⟨r0, r1, r2, r3, r4, r5⟩ := Z.six
  obtain ⟨f0, f1, f2, f3, f4, f5⟩ := Z.free6
  have HZ2 := Lib.hid Z
  clear Z
  go_wp2
  have P := HZ2.out.put6 (.int .i64 0) (.int .i64 s) (.int .i64 k) (.int .i64 t) (.bool m) (.int .u64 0)
  obtain ⟨p0, p1, p2, p3, p4, p5⟩ := P.six
  exact bodyPost_ret (v := .tuple #[.agg #[.int .i64 0, .int .i64 s, .int .i64 k, .int .i64 t, .bool m, .int .u64 0], .bool true])
    (by simp [results, Try.results93, go_sem, p0, p1, p2, p3, p4, p5]) rfl ⟨rfl, below_put6 (((((Below.refl _ _).alloc (Nat.le_refl _) _).alloc (by simp) _).trans (hb1.mono (by simp; omega))).trans (hb2.mono (by omega))) (Nat.le_refl _) _ _ _ _ _ _⟩
end Go.Proofs.Ytoifalgkeegklaa
