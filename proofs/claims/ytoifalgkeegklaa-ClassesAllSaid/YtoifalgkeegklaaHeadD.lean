/- The reference of package header, walked (4); the chapter's examples. -/
import Derived.Test.YtoifalgkeegklaaHeadC
namespace Go.Proofs.Ytoifalgkeegklaa
open Go.RowKit

set_option maxRecDepth 100000 in
theorem rsplit_no (x : Nat) (w : World) (hx : x < 18446744073709551616) (h : split x = none) :
    Calls Try.prog 93 #[.int .u64 x] w fun e w' => e = .returned (.tuple #[.agg #[.int .i64 0, .int .i64 0, .int .i64 0, .int .i64 0, .bool false, .int .u64 0], .bool false]) ∧ Below w.heap.size w w' := by
  obtain ⟨_, _, _, _, d5, d6, d7, d8, d9, d10⟩ := dec_bits x hx
  obtain ⟨g1, g2, g3, g4⟩ := dec_flds x
  have c1 : ∀ W : World, Calls Try.prog 86 #[.int .u64 x, .int .i64 0, .int .i64 8] W fun e w' => e = .returned (.int .u64 (fld x 0 8 : Nat)) ∧ W = w' := fun W => rvalue_any x 0 8 W hx (by decide)
  have c2 : ∀ W : World, Calls Try.prog 86 #[.int .u64 x, .int .i64 8, .int .i64 1] W fun e w' => e = .returned (.int .u64 (fld x 8 1 : Nat)) ∧ W = w' := fun W => rvalue_any x 8 1 W hx (by decide)
  have c3 : ∀ W : World, Calls Try.prog 86 #[.int .u64 x, .int .i64 9, .int .i64 7] W fun e w' => e = .returned (.int .u64 (fld x 9 7 : Nat)) ∧ W = w' := fun W => rvalue_any x 9 7 W hx (by decide)
  have c4 : ∀ W : World, Calls Try.prog 86 #[.int .u64 x, .int .i64 16, .int .i64 16] W fun e w' => e = .returned (.int .u64 (fld x 16 16 : Nat)) ∧ W = w' := fun W => rvalue_any x 16 16 W hx (by decide)
  rw [g2] at c1
  rw [g3] at c3
  rw [g1] at c4
  generalize fld x 8 1 = f at c2 g4
  have e : dec x = ⟨0, (dec x).size, (dec x).kind, (dec x).typ, (dec x).mark, 0⟩ := rfl
  unfold split at h
  rw [e] at h
  generalize (dec x).size = s at *
  generalize (dec x).kind = k at *
  generalize (dec x).typ = t at *
  generalize (dec x).mark = m at *
  have C1 := Lib.hid c1
  have C2 := Lib.hid c2
  have C3 := Lib.hid c3
  have C4 := Lib.hid c4
  clear e
  by_cases hg : Blk.good ⟨0, s, k, t, m, 0⟩
  · have hne : Blk.hdr ⟨0, s, k, t, m, 0⟩ ≠ x := fun e => by rw [if_pos ⟨hg, e⟩] at h; cases h
    have C5 := Lib.hid fun W => rcheck_ok 0 s k t m 0 W hg
    have C6 := Lib.hid fun W => rof_ok 0 s k t m 0 W hg
    generalize Blk.hdr ⟨0, s, k, t, m, 0⟩ = r at C6 hne
    have hn : (((r : Nat) : Int) != (x : Int)) = true := by simp; omega
    clear c1 c2 c3 c4 h g1 g2 g3 hg hne
    go_enter Try.func93, Try.ntmps93
    go_wp2_with fail
    refine (C1.out _).mono ?_
    rintro e w' ⟨rfl, rfl⟩
    go_wp2_with fail
    refine (C2.out _).mono ?_
    rintro e w' ⟨rfl, rfl⟩
    go_wp2_with fail
    refine (C3.out _).mono ?_
    rintro e w' ⟨rfl, rfl⟩
    go_wp2_with fail
    refine (C4.out _).mono ?_
    rintro e w' ⟨rfl, rfl⟩
    go_wp2_with fail
    refine (C5.out _).mono ?_
    rintro e w1 ⟨rfl, hb1⟩
    have hz := hb1.size
    simp only [World.size_alloc] at hz
    have Y := (Cells.at_ (n := w.heap.size + 1) (w.alloc _) 24 _ (by simp)).kept hb1
    obtain ⟨q0, q1, q2, q3, q4, q5⟩ := Y.six
    have HY := Lib.hid Y
    have Z := ((Cells.new w 24 #[.int .i64 0, .int .i64 0, .int .i64 0, .int .i64 0, .bool false, .int .u64 0]).alloc _).kept hb1
    have HZ := Lib.hid Z
    clear Y Z
    go_wp2_with fail
    refine (C6.out _).mono ?_
    rintro e w2 ⟨rfl, hb2⟩
    clear q0 q1 q2 q3 q4 q5
    have Z := HZ.out.kept hb2
    obtain ⟨r0, r1, r2, r3, r4, r5⟩ := Z.six
    obtain ⟨f0, f1, f2, f3, f4, f5⟩ := Z.free6
    have HZ2 := Lib.hid Z
    clear Z
    go_wp2
    have P := HZ2.out.put6 (.int .i64 0) (.int .i64 0) (.int .i64 0) (.int .i64 0) (.bool false) (.int .u64 0)
    obtain ⟨p0, p1, p2, p3, p4, p5⟩ := P.six
    exact bodyPost_ret (v := .tuple #[.agg #[.int .i64 0, .int .i64 0, .int .i64 0, .int .i64 0, .bool false, .int .u64 0], .bool false])
      (by simp [results, Try.results93, go_sem, p0, p1, p2, p3, p4, p5]) rfl ⟨rfl, below_put6 (((((Below.refl _ _).alloc (Nat.le_refl _) _).alloc (by simp) _).trans (hb1.mono (by simp; omega))).trans (hb2.mono (by omega))) (Nat.le_refl _) _ _ _ _ _ _⟩
  · have C5 := Lib.hid fun W => rcheck_bad 0 s k t m 0 W hg
    clear c1 c2 c3 c4 h g1 g2 g3 hg
    go_enter Try.func93, Try.ntmps93
    go_wp2_with fail
    refine (C1.out _).mono ?_
    rintro e w' ⟨rfl, rfl⟩
    go_wp2_with fail
    refine (C2.out _).mono ?_
    rintro e w' ⟨rfl, rfl⟩
    go_wp2_with fail
    refine (C3.out _).mono ?_
    rintro e w' ⟨rfl, rfl⟩
    go_wp2_with fail
    refine (C4.out _).mono ?_
    rintro e w' ⟨rfl, rfl⟩
    go_wp2_with fail
    refine (C5.out _).mono ?_
    rintro e w1 ⟨rfl, hb1⟩
    have hz := hb1.size
    simp only [World.size_alloc] at hz
    have Y := (Cells.at_ (n := w.heap.size + 1) (w.alloc _) 24 _ (by simp)).kept hb1
    obtain ⟨q0, q1, q2, q3, q4, q5⟩ := Y.six
    have HY := Lib.hid Y
    have Z := ((Cells.new w 24 #[.int .i64 0, .int .i64 0, .int .i64 0, .int .i64 0, .bool false, .int .u64 0]).alloc _).kept hb1
    have HZ := Lib.hid Z
    obtain ⟨r0, r1, r2, r3, r4, r5⟩ := Z.six
    obtain ⟨f0, f1, f2, f3, f4, f5⟩ := Z.free6
    have HZ2 := Lib.hid Z
    clear Y Z q0 q1 q2 q3 q4 q5
    go_wp2
    have P := HZ2.out.put6 (.int .i64 0) (.int .i64 0) (.int .i64 0) (.int .i64 0) (.bool false) (.int .u64 0)
    obtain ⟨p0, p1, p2, p3, p4, p5⟩ := P.six
    exact bodyPost_ret (v := .tuple #[.agg #[.int .i64 0, .int .i64 0, .int .i64 0, .int .i64 0, .bool false, .int .u64 0], .bool false])
      (by simp [results, Try.results93, go_sem, p0, p1, p2, p3, p4, p5]) rfl ⟨rfl, below_put6 ((((Below.refl _ _).alloc (Nat.le_refl _) _).alloc (by simp) _).trans (hb1.mono (by simp; omega))) (Nat.le_refl _) _ _ _ _ _ _⟩


end Go.Proofs.Ytoifalgkeegklaa
