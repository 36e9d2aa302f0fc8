/- The reference of package header, walked (4); the chapter's examples. -/
import Derived.Test.YthdccahggcjogaaHeadC
namespace Go.Proofs.Ythdccahggcjogaa
open Go.RowKit

set_option maxRecDepth 100000 in
theorem rsplit_no (x : Nat) (w : World) (hx : x < 18446744073709551616) (h : split x = none) :
    Calls Try.prog 24 #[.int .u64 x] w fun e w' => e = .returned (.tuple #[.agg #[.int .i64 0, .int .i64 0, .int .i64 0, .int .i64 0, .bool false, .int .u64 0], .bool false]) ∧ Below w.heap.size w w' := by
  obtain ⟨_, _, _, _, d5, d6, d7, d8, d9, d10⟩ := dec_bits x hx
  obtain ⟨g1, g2, g3, g4⟩ := dec_flds x
  have c1 : ∀ W : World, Calls Try.prog 54 #[.int .u64 x, .int .i64 0, .int .i64 8] W fun e w' => e = .returned (.int .u64 (fld x 0 8 : Nat)) ∧ W = w' := fun W => rvalue_any x 0 8 W hx (by decide)
  have c2 : ∀ W : World, Calls Try.prog 54 #[.int .u64 x, .int .i64 8, .int .i64 1] W fun e w' => e = .returned (.int .u64 (fld x 8 1 : Nat)) ∧ W = w' := fun W => rvalue_any x 8 1 W hx (by decide)
  have c3 : ∀ W : World, Calls Try.prog 54 #[.int .u64 x, .int .i64 9, .int .i64 7] W fun e w' => e = .returned (.int .u64 (fld x 9 7 : Nat)) ∧ W = w' := fun W => rvalue_any x 9 7 W hx (by decide)
  have c4 : ∀ W : World, Calls Try.prog 54 #[.int .u64 x, .int .i64 16, .int .i64 16] W fun e w' => e = .returned (.int .u64 (fld x 16 16 : Nat)) ∧ W = w' := fun W => rvalue_any x 16 16 W hx (by decide)
  rw [g2] at c1
  rw [g3] at c3
  rw [g1] at c4
  generalize fld x 8 1 = f at c2 g4
  have e : dec x = ⟨0, (dec x).size, (dec x).kind, (dec x).typ, (dec x).mark, 0⟩ := rfl
  unfold split at h
  rw [e] at h
  generalize (dec x).size = s at *
  generalize (dec x).kind = k at *
  generalize (dec x).typ = t at *
  generalize (dec x).mark = m at *
  have C1 := Lib.hid c1
  have C2 := Lib.hid c2
  have C3 := Lib.hid c3
  have C4 := Lib.hid c4
  clear e
  by_cases hg : Blk.good ⟨0, s, k, t, m, 0⟩
  · have hne : Blk.hdr ⟨0, s, k, t, m, 0⟩ ≠ x := fun e => by rw [if_pos ⟨hg, e⟩] at h; cases h
    have C5 := Lib.hid fun W => rcheck_ok 0 s k t m 0 W hg
    have C6 := Lib.hid fun W => rof_ok 0 s k t m 0 W hg
    generalize Blk.hdr ⟨0, s, k, t, m, 0⟩ = r at C6 hne
    have hn : (((r : Nat) : Int) != (x : Int)) = true := by simp; omega
    clear c1 c2 c3 c4 h g1 g2 g3 hg hne
    go_enter Try.func24, Try.ntmps24
    go_wp2_with fail
    refine (C1.out _).mono ?_
    rintro e w' ⟨rfl, rfl⟩
    go_wp2_with fail
    refine (C2.out _).mono ?_
    rintro e w' ⟨rfl, rfl⟩
    go_wp2_with fail
    refine (C3.out _).mono ?_
    rintro e w' ⟨rfl, rfl⟩
    go_wp2_with fail
    refine (C4.out _).mono ?_
    rintro e w' ⟨rfl, rfl⟩
    go_wp2_with fail
    refine (C5.out _).mono ?_
    rintro e w1 ⟨rfl, hb1⟩
    have hz := hb1.size
    simp only [World.size_alloc] at hz
    have Y := (Cells.at_ (n := w.heap.size + 1) (w.alloc _) 24 _ (by simp)).kept hb1
    obtain ⟨q0, q1, q2, q3, q4, q5⟩ := Y.six
    have HY := Lib.hid Y
    have Z := ((Cells.new w 24 #[.int .i64 0, .int .i64 0, .int .i64 0, .int .i64 0, .bool false, .int .u64 0]).alloc _).kept hb1
    have HZ := Lib.hid Z
    clear Y Z
    go_wp2_with fail
    refine (C6.out _).mono ?_
    rintro e w2 ⟨rfl, hb2⟩
    clear q0 q1 q2 q3 q4 q5
    have Z := HZ.out.kept hb2
    obtain ⟨r0, r1, r2, r3, r4, r5⟩ := Z.six
    obtain ⟨f0, f1, f2, f3, f4, f5⟩ := Z.free6
    have HZ2 := Lib.hid Z
    clear Z
    go_wp2
    have P := HZ2.out.put6 (.int .i64 0) (.int .i64 0) (.int .i64 0) (.int .i64 0) (.bool false) (.int .u64 0)
    obtain ⟨p0, p1, p2, p3, p4, p5⟩ := P.six
    exact bodyPost_ret (v := .tuple #[.agg #[.int .i64 0, .int .i64 0, .int .i64 0, .int .i64 0, .bool false, .int .u64 0], .bool false])
      (by simp [results, Try.results24, go_sem, p0, p1, p2, p3, p4, p5]) rfl ⟨rfl, below_put6 (((((Below.refl _ _).alloc (Nat.le_refl _) _).alloc (by simp) _).trans (hb1.mono (by simp; omega))).trans (hb2.mono (by omega))) (Nat.le_refl _) _ _ _ _ _ _⟩
  · have C5 := Lib.hid fun W => rcheck_bad 0 s k t m 0 W hg
    clear c1 c2 c3 c4 h g1 g2 g3 hg
    go_enter Try.func24, Try.ntmps24
    go_wp2_with fail
    refine (C1.out _).mono ?_
    rintro e w' ⟨rfl, rfl⟩
    go_wp2_with fail
    refine (C2.out _).mono ?_
    rintro e w' ⟨rfl, rfl⟩
    go_wp2_with fail
    refine (C3.out _).mono ?_
    rintro e w' ⟨rfl, rfl⟩
    go_wp2_with fail
    refine (C4.out _).mono ?_
    rintro e w' ⟨rfl, rfl⟩
    go_wp2_with fail
    refine (C5.out _).mono ?_
    rintro e w1 ⟨rfl, hb1⟩
    have hz := hb1.size
    simp only [World.size_alloc] at hz
    have Y := (Cells.at_ (n := w.heap.size + 1) (w.alloc _) 24 _ (by simp)).kept hb1
    obtain ⟨q0, q1, q2, q3, q4, q5⟩ := Y.six
    have HY := Lib.hid Y
    have Z := ((Cells.new w 24 #[.int .i64 0, .int .i64 0, .int .i64 0, .int .i64 0, .bool false, .int .u64 0]).alloc _).kept hb1
    have HZ := Lib.hid Z
    obtain ⟨r0, r1, r2, r3, r4, r5⟩ := Z.six
    obtain ⟨f0, f1, f2, f3, f4, f5⟩ := Z.free6
    have HZ2 := Lib.hid Z
    clear Y Z q0 q1 q2 q3 q4 q5
    go_wp2
    have P := HZ2.out.put6 (.int .i64 0) (.int .i64 0) (.int .i64 0) (.int .i64 0) (.bool false) (.int .u64 0)
    obtain ⟨p0, p1, p2, p3, p4, p5⟩ := P.six
    exact bodyPost_ret (v := .tuple #[.agg #[.int .i64 0, .int .i64 0, .int .i64 0, .int .i64 0, .bool false, .int .u64 0], .bool false])
      (by simp [results, Try.results24, go_sem, p0, p1, p2, p3, p4, p5]) rfl ⟨rfl, below_put6 ((((Below.refl _ _).alloc (Nat.le_refl _) _).alloc (by simp) _).trans (hb1.mono (by simp; omega))) (Nat.le_refl _) _ _ _ _ _ _⟩

theorem rmarked_no (x : Nat) (mk : Bool) (w : World) (hx : x < 18446744073709551616) (h : split x = none) :
    Calls Try.prog 26 #[.int .u64 x, .bool mk] w fun e w' => e = .returned (.tuple #[.int .u64 0, .int .i64 50]) ∧ Below w.heap.size w w' := by
  have C := Lib.hid fun W => rsplit_no x W hx h
  clear h
  go_enter Try.func26, Try.ntmps26
  go_wp2_with fail
  refine (C.out _).mono ?_
  rintro e w1 ⟨rfl, hb1⟩
  go_wp2
  go_ret2
  exact ⟨rfl, hb1.alloc hb1.size _⟩
set_option maxRecDepth 100000 in
theorem rmarked_ok (x : Nat) (b : Blk) (mk : Bool) (w : World) (hx : x < 18446744073709551616) (h : split x = some b) (hg : (b.set_ mk).good) :
    Calls Try.prog 26 #[.int .u64 x, .bool mk] w fun e w' => e = .returned (.tuple #[.int .u64 ((b.set_ mk).hdr : Nat), .int .i64 0]) ∧ Below w.heap.size w w' := by
  have C := Lib.hid fun W => rsplit_ok x b W hx h
  have D := Lib.hid fun W => rcheck_ok 0 b.size b.kind b.typ mk 0 W hg
  have E := Lib.hid fun W => rof_ok 0 b.size b.kind b.typ mk 0 W hg
  have e : (b.set_ mk).hdr = Blk.hdr ⟨0, b.size, b.kind, b.typ, mk, 0⟩ := rfl
  rw [e]
  generalize Blk.hdr ⟨0, b.size, b.kind, b.typ, mk, 0⟩ = r at E ⊢
  generalize b.size = s at C D E
  generalize b.kind = k at C D E
  generalize b.typ = t at C D E
  generalize b.mark = m at C
  clear h hg e
  go_enter Try.func26, Try.ntmps26
  go_wp2_with fail
  refine (C.out _).mono ?_
  rintro e w1 ⟨rfl, hb1⟩
  go_wp2_with fail
  refine (D.out _).mono ?_
  rintro e w2 ⟨rfl, hb2⟩
  obtain ⟨q0, q1, q2, q3, q4, q5⟩ := ((Cells.new w1 24 _).kept hb2).six
  go_wp2_with fail
  refine (E.out _).mono ?_
  rintro e w3 ⟨rfl, hb3⟩
  go_wp2
  go_ret2
  exact ⟨rfl, ((hb1.alloc hb1.size _).trans (hb2.mono (by have := hb1.size; simp; omega))).trans (hb3.mono (by have := hb1.size; have := hb2.size; simp at this; omega))⟩
theorem rmarked_bad (x : Nat) (b : Blk) (mk : Bool) (w : World) (hx : x < 18446744073709551616) (h : split x = some b) (hg : ¬ (b.set_ mk).good) :
    Calls Try.prog 26 #[.int .u64 x, .bool mk] w fun e w' => e = .returned (.tuple #[.int .u64 0, .int .i64 8]) ∧ Below w.heap.size w w' := by
  have C := Lib.hid fun W => rsplit_ok x b W hx h
  have D := Lib.hid fun W => rcheck_bad 0 b.size b.kind b.typ mk 0 W hg
  generalize b.size = s at C D
  generalize b.kind = k at C D
  generalize b.typ = t at C D
  generalize b.mark = m at C
  clear h hg
  go_enter Try.func26, Try.ntmps26
  go_wp2_with fail
  refine (C.out _).mono ?_
  rintro e w1 ⟨rfl, hb1⟩
  go_wp2_with fail
  refine (D.out _).mono ?_
  rintro e w2 ⟨rfl, hb2⟩
  go_wp2
  go_ret2
  exact ⟨rfl, (hb1.alloc hb1.size _).trans (hb2.mono (by have := hb1.size; simp; omega))⟩

theorem obj14 (t s : Int) (m : Bool) (w : World) :
    Calls Try.prog 28 #[.int .i64 t, .int .i64 s, .bool m] w fun e w' => e = .returned (.agg #[.int .i64 0, .int .i64 s, .int .i64 1, .int .i64 t, .bool m, .int .u64 0]) ∧ Below w.heap.size w w' := by
  go_enter Try.func28, Try.ntmps28
  go_wp2
  exact bodyPost_ret (v := .agg #[.int .i64 0, .int .i64 s, .int .i64 1, .int .i64 t, .bool m, .int .u64 0])
    (by simp [results, Try.results28, go_sem]) rfl ⟨rfl, (Below.refl _ _).alloc (Nat.le_refl _) _⟩
theorem and32 (b : Blk) (h : b.good) : bits .and .u64 ((b.hdr : Nat) : Int) 4294967295 = ((b.low : Nat) : Int) := by
  have e := and_cast b.hdr 4294967295 32 (hdr_lt h) rfl (by decide) 1
  have p := (hdr_parts (low_lt h)).1
  simp only [Nat.div_one, show ((1 : Nat) : Int) = 1 from rfl, Int.ediv_one, two32, p] at e
  exact e
theorem alive14 (w : World) : Calls Try.prog 22 #[] w fun e w' => e = .returned (.bool true) ∧ Below w.heap.size w w' := by
  have g1 : Blk.good ⟨0, 6, 1, 3, false, 0⟩ := by decide
  have g2 : Blk.good ⟨0, 6, 1, 3, true, 0⟩ := by decide
  have C1 := Lib.hid fun W => hword_ok 0 6 1 3 false 0 W g1
  have C2 := Lib.hid fun W => hword_ok 0 6 1 3 true 0 W g2
  have e1 := and32 _ g1
  have e2 := and32 _ g2
  rw [show Blk.low ⟨0, 6, 1, 3, false, 0⟩ = 394753 by decide] at e1
  rw [show Blk.low ⟨0, 6, 1, 3, true, 0⟩ = 395009 by decide] at e2
  generalize Blk.hdr ⟨0, 6, 1, 3, false, 0⟩ = r1 at C1 e1
  generalize Blk.hdr ⟨0, 6, 1, 3, true, 0⟩ = r2 at C2 e2
  have E1 : bits .and .u64 (r1 : Int) 4294967295 = 394753 := e1
  have E2 : bits .and .u64 (r2 : Int) 4294967295 = 395009 := e2
  clear e1 e2 g1 g2
  go_enter Try.func22, Try.ntmps22
  go_wp2_with fail
  refine (obj14 3 6 false _).mono ?_
  rintro e w1 ⟨rfl, hb1⟩
  go_wp2_with fail
  refine (C1.out _).mono ?_
  rintro e w2 ⟨rfl, hb2⟩
  go_wp2_with fail
  refine (obj14 3 6 true _).mono ?_
  rintro e w3 ⟨rfl, hb3⟩
  go_wp2_with fail
  refine (C2.out _).mono ?_
  rintro e w4 ⟨rfl, hb4⟩
  go_wp2
  go_ret
  exact ⟨rfl, ((hb1.trans (hb2.mono hb1.size)).trans (hb3.mono (Nat.le_trans hb1.size hb2.size))).trans (hb4.mono (Nat.le_trans hb1.size (Nat.le_trans hb2.size hb3.size)))⟩
end Go.Proofs.Ythdccahggcjogaa
