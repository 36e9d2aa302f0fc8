/- The functions of package header, and of its reference, walked (2). -/
import Derived.Test.YtoifalgkeegklaaHead
namespace Go.Proofs.Ytoifalgkeegklaa
open Go.RowKit

theorem fld_hsh (l : Nat) : fld (beh 14695981039346656037 [l]) 0 32 = hsh l := by
  unfold fld hsh
  rw [Nat.pow_zero, Nat.div_one, two32]

theorem sealed_ok (l : Nat) (w : World) (hl : l < 4294967296) :
    Calls Try.prog 60 #[.int .u64 l] w fun e w' => e = .returned (.tuple #[.int .u64 (l + hsh l * 4294967296 : Nat), .int .i64 0]) ∧ Below w.heap.size w w' := by
  have C := Lib.hid (low_ok _ 1 1 [l] 32 _ (Words.one w l 22 (by omega)) (by omega) (by omega) (by omega))
  rw [fld_hsh] at C
  have hh := hsh_lt l
  have L := Lib.hid (or_step l (hsh l) 4294967296 32 (by decide) hl (by omega))
  generalize hsh l = s at C hh L ⊢
  go_enter Try.func60, Try.ntmps60
  go_wp2_with fail
  refine C.out.mono ?_
  rintro e w' ⟨rfl, hb⟩
  go_wp2
  go_ret2
  exact ⟨ret_tup L.out, ((Below.refl _ _).alloc (Nat.le_refl _) _).trans (hb.mono (by simp))⟩

theorem field0 (l k t s m : Int) (w : World) : (Instr.field 80 (.agg #[.int .u64 l, .int .u64 k, .int .u64 t, .int .u64 s, .int .u64 m]) 0).run Try.prog w = .ok (.int .u64 l) w := by kernel_rfl

set_option maxRecDepth 100000 in
theorem hword_ok (a s k t : Int) (m : Bool) (x : Int) (w : World) (h : Blk.good ⟨a, s, k, t, m, 0⟩) :
    Calls Try.prog 30 #[.agg #[.int .i64 a, .int .i64 s, .int .i64 k, .int .i64 t, .bool m, .int .u64 x]] w fun e w' => e = .returned (.tuple #[.int .u64 (Blk.hdr ⟨a, s, k, t, m, 0⟩ : Nat), .int .i64 0]) ∧ Below w.heap.size w w' := by
  have C1 := Lib.hid fun W => hcheck_ok a s k t m x W h
  have C2 := Lib.hid fun W => hof_ok a s k t m x W h
  have C3 := Lib.hid fun W => sealed_ok (Blk.low ⟨a, s, k, t, m, 0⟩) W (low_lt h)
  have e : Blk.hdr ⟨a, s, k, t, m, 0⟩ = Blk.low ⟨a, s, k, t, m, 0⟩ + hsh (Blk.low ⟨a, s, k, t, m, 0⟩) * 4294967296 := rfl
  rw [e]
  generalize Blk.low ⟨a, s, k, t, m, 0⟩ = l at C2 C3 ⊢
  generalize l + hsh l * 4294967296 = r at C3 ⊢
  clear h e
  go_enter Try.func30, Try.ntmps30
  go_wp2_with fail
  refine (C1.out _).mono ?_
  rintro e w1 ⟨rfl, hb1⟩
  have hz := hb1.size
  simp only [World.size_alloc] at hz
  obtain ⟨q0, q1, q2, q3, q4, q5⟩ := ((Cells.new w 24 _).kept hb1).six
  go_wp2_with fail
  refine (C2.out _).mono ?_
  rintro e w2 ⟨rfl, hb2⟩
  clear q0 q1 q2 q3 q4 q5
  have fd := field0 l k t s (mk01 m)
  go_wp2_with fail
  refine (C3.out _).mono ?_
  rintro e w3 ⟨rfl, hb3⟩
  go_wp2
  go_ret2
  exact ⟨rfl, ((Below.refl _ _).alloc (Nat.le_refl _) _).trans ((hb1.mono (by simp)).trans ((hb2.mono (by omega)).trans (hb3.mono (by have := hb2.size; omega))))⟩

theorem hword_bad (a s k t : Int) (m : Bool) (x : Int) (w : World) (h : ¬ Blk.good ⟨a, s, k, t, m, 0⟩) :
    Calls Try.prog 30 #[.agg #[.int .i64 a, .int .i64 s, .int .i64 k, .int .i64 t, .bool m, .int .u64 x]] w fun e w' => e = .returned (.tuple #[.int .u64 0, .int .i64 8]) ∧ Below w.heap.size w w' := by
  have C1 := Lib.hid fun W => hcheck_bad a s k t m x W h
  clear h
  go_enter Try.func30, Try.ntmps30
  go_wp2_with fail
  refine (C1.out _).mono ?_
  rintro e w1 ⟨rfl, hb1⟩
  go_wp2
  go_ret2
  exact ⟨rfl, ((Below.refl _ _).alloc (Nat.le_refl _) _).trans (hb1.mono (by simp))⟩

theorem and_cast (x m n : Nat) (hx : x < 18446744073709551616) (h : m = 2 ^ n - 1) (hm : m < 18446744073709551616) (d : Nat) : bits .and .u64 ((x : Int) / (d : Int)) (m : Int) = ((x / d % 2 ^ n : Nat) : Int) := by
  have e : ((x / d : Nat) : Int) = (x : Int) / (d : Int) := by simp
  rw [← e, u64_and_nat _ _ (Nat.lt_of_le_of_lt (Nat.div_le_self _ _) hx) hm, h, Nat.and_two_pow_sub_one_eq_mod]

theorem dec_bits (x : Nat) (hx : x < 18446744073709551616) : bits .and .u64 ((x : Int) / 65536) 65535 = (dec x).size ∧ bits .and .u64 (x : Int) 255 = (dec x).kind ∧ bits .and .u64 ((x : Int) / 512) 127 = (dec x).typ ∧ (bits .and .u64 ((x : Int) / 256) 1 == 1) = (dec x).mark ∧
    0 ≤ (dec x).size ∧ (dec x).size < 65536 ∧ 0 ≤ (dec x).kind ∧ (dec x).kind < 256 ∧ 0 ≤ (dec x).typ ∧ (dec x).typ < 128 := by
  have k1 := and_cast x 255 8 hx rfl (by decide) 1
  have k2 := and_cast x 1 1 hx rfl (by decide) 256
  have k3 := and_cast x 127 7 hx rfl (by decide) 512
  have k4 := and_cast x 65535 16 hx rfl (by decide) 65536
  simp only [Nat.div_one, show ((1 : Nat) : Int) = 1 from rfl, Int.ediv_one] at k1
  refine ⟨k4, k1, k3, ?_, ?_, ?_, ?_, ?_, ?_, ?_⟩
  · have e : bits .and .u64 ((x : Int) / 256) 1 = ((x / 256 % 2 : Nat) : Int) := k2
    rw [e]
    show (((x / 256 % 2 : Nat) : Int) == 1) = (x / 256 % 2 == 1)
    have : x / 256 % 2 = 0 ∨ x / 256 % 2 = 1 := by omega
    rcases this with h | h <;> rw [h] <;> rfl
  all_goals (unfold dec; simp only; omega)

/-- What Split does, by what the word says. -/
def SplitEnd (x : Nat) (v : Value) (e : Int) : Prop :=
  (∃ b, split x = some b ∧ v = .agg #[.int .i64 0, .int .i64 b.size, .int .i64 b.kind, .int .i64 b.typ, .bool b.mark, .int .u64 0] ∧ e = 0) ∨
  (split x = none ∧ v = .agg #[.int .i64 0, .int .i64 0, .int .i64 0, .int .i64 0, .bool false, .int .u64 0] ∧ e = 50)

set_option maxRecDepth 100000 in
theorem hsplit_ok (x : Nat) (b : Blk) (w : World) (hx : x < 18446744073709551616) (h : split x = some b) :
    Calls Try.prog 80 #[.int .u64 x] w fun e w' => e = .returned (.tuple #[.agg #[.int .i64 0, .int .i64 b.size, .int .i64 b.kind, .int .i64 b.typ, .bool b.mark, .int .u64 0], .int .i64 0]) ∧ Below w.heap.size w w' := by
  obtain ⟨h1, h2, h3, h4, rfl⟩ := split_some h
  obtain ⟨d1, d2, d3, d4, d5, d6, d7, d8, d9, d10⟩ := dec_bits x hx
  have e : dec x = ⟨0, (dec x).size, (dec x).kind, (dec x).typ, (dec x).mark, 0⟩ := rfl
  rw [e] at h1 h2
  generalize (dec x).size = s at *
  generalize (dec x).kind = k at *
  generalize (dec x).typ = t at *
  generalize (dec x).mark = m at *
  have C := Lib.hid fun W => hword_ok 0 s k t m 0 W h1
  rw [h2] at C
  clear e h h1 h2 h3 h4
  go_enter Try.func80, Try.ntmps80
  go_wp2_with fail
  refine (C.out _).mono ?_
  rintro e w1 ⟨rfl, hb1⟩
  have hz := hb1.size
  simp only [World.size_alloc] at hz
  obtain ⟨q0, q1, q2, q3, q4, q5⟩ := ((Cells.at_ (n := w.heap.size + 1) (w.alloc _) 24 _ (by simp)).kept hb1).six
  have Z := ((Cells.new w 24 #[.int .i64 0, .int .i64 0, .int .i64 0, .int .i64 0, .bool false, .int .u64 0]).alloc _).kept hb1
  obtain ⟨r0, r1, r2, r3, r4, r5⟩ := Z.six
  obtain ⟨f0, f1, f2, f3, f4, f5⟩ := Z.free6
  have HZ := Lib.hid Z
  clear Z
  go_wp2
  have P := HZ.out.put6 (.int .i64 0) (.int .i64 s) (.int .i64 k) (.int .i64 t) (.bool m) (.int .u64 0)
  obtain ⟨p0, p1, p2, p3, p4, p5⟩ := P.six
  exact bodyPost_ret (v := .tuple #[.agg #[.int .i64 0, .int .i64 s, .int .i64 k, .int .i64 t, .bool m, .int .u64 0], .int .i64 0])
    (by simp [results, Try.results80, go_sem, p0, p1, p2, p3, p4, p5]) rfl ⟨rfl, below_put6 ((((Below.refl _ _).alloc (Nat.le_refl _) _).alloc (by simp) _).trans (hb1.mono (by simp; omega))) (Nat.le_refl _) _ _ _ _ _ _⟩
end Go.Proofs.Ytoifalgkeegklaa
