/- The functions of package header, and of its reference, walked. -/
import Derived.Test.YtoifalgkeegklaaSum
import Derived.Test.YtoifalgkeegklaaHeadPlain
import Derived.Lib.SmallJoins
import Derived.Laws.StructEq
namespace Go.Proofs.Ytoifalgkeegklaa
open Go.RowKit

/-- A block, as a value. -/
def Blk.val (b : Blk) : Value := .agg #[.int .i64 b.at_, .int .i64 b.size, .int .i64 b.kind, .int .i64 b.typ, .bool b.mark, .int .u64 (b.next : Nat)]
/-- A block whose numbers fit. -/
def Blk.Fit (b : Blk) : Prop := (-9223372036854775808 ≤ b.at_ ∧ b.at_ ≤ 9223372036854775807) ∧ (-9223372036854775808 ≤ b.size ∧ b.size ≤ 9223372036854775807) ∧ (-9223372036854775808 ≤ b.kind ∧ b.kind ≤ 9223372036854775807) ∧ (-9223372036854775808 ≤ b.typ ∧ b.typ ≤ 9223372036854775807) ∧ b.next < 18446744073709551616

theorem bad_cases {a s k t : Int} {m : Bool} {x : Nat} (h : ¬ Blk.good ⟨a, s, k, t, m, x⟩) : s < 2 ∨ (2 ≤ s ∧ s % 2 ≠ 0) ∨ (2 ≤ s ∧ s % 2 = 0 ∧ k = 1 ∧ t < 0) ∨ (2 ≤ s ∧ s % 2 = 0 ∧ k = 1 ∧ 0 ≤ t ∧ 8 ≤ t) ∨ (2 ≤ s ∧ s % 2 = 0 ∧ k = 1 ∧ 0 ≤ t ∧ t < 8 ∧ 10 < s) ∨
    (2 ≤ s ∧ s % 2 = 0 ∧ k = 2 ∧ t ≠ 0) ∨ (2 ≤ s ∧ s % 2 = 0 ∧ k = 2 ∧ t = 0 ∧ m = true) ∨ (2 ≤ s ∧ s % 2 = 0 ∧ k = 2 ∧ t = 0 ∧ m = false ∧ 1920 < s) ∨ (2 ≤ s ∧ s % 2 = 0 ∧ k ≠ 1 ∧ k ≠ 2) := by
  by_cases h1 : s < 2
  · exact .inl h1
  refine .inr ?_
  by_cases h2 : s % 2 = 0
  case neg => exact .inl ⟨by omega, h2⟩
  refine .inr ?_
  have h1' : 2 ≤ s := by omega
  by_cases k1 : k = 1
  · by_cases t1 : t < 0
    · exact .inl ⟨h1', h2, k1, t1⟩
    refine .inr ?_
    by_cases t2 : 8 ≤ t
    · exact .inl ⟨h1', h2, k1, by omega, t2⟩
    refine .inr (.inl ⟨h1', h2, k1, by omega, by omega, ?_⟩)
    rcases Int.lt_or_le 10 s with l | l
    · exact l
    · exact absurd ⟨h1', h2, .inl ⟨k1, Int.not_lt.1 t1, Int.not_le.1 t2, l⟩⟩ h
  refine .inr (.inr (.inr ?_))
  by_cases k2 : k = 2
  · by_cases t1 : t = 0
    case neg => exact .inl ⟨h1', h2, k2, t1⟩
    refine .inr ?_
    cases m
    · refine .inr (.inl ⟨h1', h2, k2, t1, rfl, ?_⟩)
      rcases Int.lt_or_le 1920 s with l | l
      · exact l
      · exact absurd ⟨h1', h2, .inr ⟨k2, t1, rfl, l⟩⟩ h
    · exact .inl ⟨h1', h2, k2, t1, rfl⟩
  · exact .inr (.inr (.inr ⟨h1', h2, k1, k2⟩))

theorem hcheck_ok (a s k t : Int) (m : Bool) (x : Int) (w : World) (h : Blk.good ⟨a, s, k, t, m, 0⟩) :
    Calls Try.prog 51 #[.agg #[.int .i64 a, .int .i64 s, .int .i64 k, .int .i64 t, .bool m, .int .u64 x]] w fun e w' => e = .returned (.int .i64 0) ∧ Below w.heap.size w w' := by
  obtain ⟨h1, h2, h3⟩ := h
  simp only at h1 h2 h3
  have h8 : (s % 2 != 0) = false := by simp; omega
  have h9 : (s % 2 == 0) = true := by simp; omega
  clear h2
  rcases h3 with ⟨rfl, h4, h5, h6⟩ | ⟨rfl, rfl, rfl, h6⟩
  · have h10 : t ≤ 7 := by omega
    go_enter Try.func51, Try.ntmps51
    go_wp2
    all_goals (go_ret; exact ⟨rfl, (Below.refl _ _).alloc (Nat.le_refl _) _⟩)
  · go_enter Try.func51, Try.ntmps51
    go_wp2
    all_goals (go_ret; exact ⟨rfl, (Below.refl _ _).alloc (Nat.le_refl _) _⟩)

theorem hcheck_bad (a s k t : Int) (m : Bool) (x : Int) (w : World) (h : ¬ Blk.good ⟨a, s, k, t, m, 0⟩) :
    Calls Try.prog 51 #[.agg #[.int .i64 a, .int .i64 s, .int .i64 k, .int .i64 t, .bool m, .int .u64 x]] w fun e w' => e = .returned (.int .i64 8) ∧ Below w.heap.size w w' := by
  rcases bad_cases h with h1 | ⟨h1, h2⟩ | ⟨h1, h2, rfl, h4⟩ | ⟨h1, h2, rfl, h4, h5⟩ | ⟨h1, h2, rfl, h4, h5, h6⟩ | ⟨h1, h2, rfl, h4⟩ | ⟨h1, h2, rfl, rfl, rfl⟩ | ⟨h1, h2, rfl, rfl, rfl, h6⟩ | ⟨h1, h2, h4, h5⟩
  · clear h
    go_enter Try.func51, Try.ntmps51
    go_wp2
    all_goals (go_ret; exact ⟨rfl, (Below.refl _ _).alloc (Nat.le_refl _) _⟩)
  · have h8 : (s % 2 != 0) = true := by simp; omega
    have h9 : (s % 2 == 0) = false := by simp; omega
    clear h h2
    go_enter Try.func51, Try.ntmps51
    go_wp2
    all_goals (go_ret; exact ⟨rfl, (Below.refl _ _).alloc (Nat.le_refl _) _⟩)
  · have h8 : (s % 2 != 0) = false := by simp; omega
    have h9 : (s % 2 == 0) = true := by simp; omega
    have h10 : decide (0 ≤ t) = false := by simp; omega
    clear h h2
    go_enter Try.func51, Try.ntmps51
    go_wp2
    all_goals (go_ret; exact ⟨rfl, (Below.refl _ _).alloc (Nat.le_refl _) _⟩)
  · have h8 : (s % 2 != 0) = false := by simp; omega
    have h9 : (s % 2 == 0) = true := by simp; omega
    have h10 : decide (t ≤ 7) = false := by simp; omega
    have h11 : decide (t < 8) = false := by simp; omega
    clear h h2
    go_enter Try.func51, Try.ntmps51
    go_wp2
    all_goals (go_ret; exact ⟨rfl, (Below.refl _ _).alloc (Nat.le_refl _) _⟩)
  · have h8 : (s % 2 != 0) = false := by simp; omega
    have h9 : (s % 2 == 0) = true := by simp; omega
    have h10 : t ≤ 7 := by omega
    have h11 : decide (s ≤ 10) = false := by simp; omega
    clear h h2
    go_enter Try.func51, Try.ntmps51
    go_wp2
    all_goals (go_ret; exact ⟨rfl, (Below.refl _ _).alloc (Nat.le_refl _) _⟩)
  · have h8 : (s % 2 != 0) = false := by simp; omega
    have h9 : (s % 2 == 0) = true := by simp; omega
    have h7 : (t == 0) = false := by simp; omega
    clear h h2
    go_enter Try.func51, Try.ntmps51
    go_wp2
    all_goals (go_ret; exact ⟨rfl, (Below.refl _ _).alloc (Nat.le_refl _) _⟩)
  · have h8 : (s % 2 != 0) = false := by simp; omega
    have h9 : (s % 2 == 0) = true := by simp; omega
    clear h h2
    go_enter Try.func51, Try.ntmps51
    go_wp2
    all_goals (go_ret; exact ⟨rfl, (Below.refl _ _).alloc (Nat.le_refl _) _⟩)
  · have h8 : (s % 2 != 0) = false := by simp; omega
    have h9 : (s % 2 == 0) = true := by simp; omega
    have h11 : decide (s ≤ 1920) = false := by simp; omega
    clear h h2
    go_enter Try.func51, Try.ntmps51
    go_wp2
    all_goals (go_ret; exact ⟨rfl, (Below.refl _ _).alloc (Nat.le_refl _) _⟩)
  · have h8 : (s % 2 != 0) = false := by simp; omega
    have h9 : (s % 2 == 0) = true := by simp; omega
    have h7 : (k == 1) = false := by simp; omega
    have h6 : (k == 2) = false := by simp; omega
    clear h h2
    go_enter Try.func51, Try.ntmps51
    go_wp2
    all_goals (go_ret; exact ⟨rfl, (Below.refl _ _).alloc (Nat.le_refl _) _⟩)

theorem rcheck_ok (a s k t : Int) (m : Bool) (x : Int) (w : World) (h : Blk.good ⟨a, s, k, t, m, 0⟩) :
    Calls Try.prog 21 #[.agg #[.int .i64 a, .int .i64 s, .int .i64 k, .int .i64 t, .bool m, .int .u64 x]] w fun e w' => e = .returned (.int .i64 0) ∧ Below w.heap.size w w' := by
  obtain ⟨h1, h2, h3⟩ := h
  simp only at h1 h2 h3
  have h8 : (s % 2 != 0) = false := by simp; omega
  have h9 : (s % 2 == 0) = true := by simp; omega
  clear h2
  rcases h3 with ⟨rfl, h4, h5, h6⟩ | ⟨rfl, rfl, rfl, h6⟩
  · have h10 : t ≤ 7 := by omega
    go_enter Try.func21, Try.ntmps21
    go_wp2
    all_goals (go_ret; exact ⟨rfl, (Below.refl _ _).alloc (Nat.le_refl _) _⟩)
  · go_enter Try.func21, Try.ntmps21
    go_wp2
    all_goals (go_ret; exact ⟨rfl, (Below.refl _ _).alloc (Nat.le_refl _) _⟩)

theorem rcheck_bad (a s k t : Int) (m : Bool) (x : Int) (w : World) (h : ¬ Blk.good ⟨a, s, k, t, m, 0⟩) :
    Calls Try.prog 21 #[.agg #[.int .i64 a, .int .i64 s, .int .i64 k, .int .i64 t, .bool m, .int .u64 x]] w fun e w' => e = .returned (.int .i64 8) ∧ Below w.heap.size w w' := by
  rcases bad_cases h with h1 | ⟨h1, h2⟩ | ⟨h1, h2, rfl, h4⟩ | ⟨h1, h2, rfl, h4, h5⟩ | ⟨h1, h2, rfl, h4, h5, h6⟩ | ⟨h1, h2, rfl, h4⟩ | ⟨h1, h2, rfl, rfl, rfl⟩ | ⟨h1, h2, rfl, rfl, rfl, h6⟩ | ⟨h1, h2, h4, h5⟩
  · clear h
    go_enter Try.func21, Try.ntmps21
    go_wp2
    all_goals (go_ret; exact ⟨rfl, (Below.refl _ _).alloc (Nat.le_refl _) _⟩)
  · have h8 : (s % 2 != 0) = true := by simp; omega
    have h9 : (s % 2 == 0) = false := by simp; omega
    clear h h2
    go_enter Try.func21, Try.ntmps21
    go_wp2
    all_goals (go_ret; exact ⟨rfl, (Below.refl _ _).alloc (Nat.le_refl _) _⟩)
  · have h8 : (s % 2 != 0) = false := by simp; omega
    have h9 : (s % 2 == 0) = true := by simp; omega
    have h10 : decide (0 ≤ t) = false := by simp; omega
    clear h h2
    go_enter Try.func21, Try.ntmps21
    go_wp2
    all_goals (go_ret; exact ⟨rfl, (Below.refl _ _).alloc (Nat.le_refl _) _⟩)
  · have h8 : (s % 2 != 0) = false := by simp; omega
    have h9 : (s % 2 == 0) = true := by simp; omega
    have h10 : decide (t ≤ 7) = false := by simp; omega
    have h11 : decide (t < 8) = false := by simp; omega
    clear h h2
    go_enter Try.func21, Try.ntmps21
    go_wp2
    all_goals (go_ret; exact ⟨rfl, (Below.refl _ _).alloc (Nat.le_refl _) _⟩)
  · have h8 : (s % 2 != 0) = false := by simp; omega
    have h9 : (s % 2 == 0) = true := by simp; omega
    have h10 : t ≤ 7 := by omega
    have h11 : decide (s ≤ 10) = false := by simp; omega
    clear h h2
    go_enter Try.func21, Try.ntmps21
    go_wp2
    all_goals (go_ret; exact ⟨rfl, (Below.refl _ _).alloc (Nat.le_refl _) _⟩)
  · have h8 : (s % 2 != 0) = false := by simp; omega
    have h9 : (s % 2 == 0) = true := by simp; omega
    have h7 : (t == 0) = false := by simp; omega
    clear h h2
    go_enter Try.func21, Try.ntmps21
    go_wp2
    all_goals (go_ret; exact ⟨rfl, (Below.refl _ _).alloc (Nat.le_refl _) _⟩)
  · have h8 : (s % 2 != 0) = false := by simp; omega
    have h9 : (s % 2 == 0) = true := by simp; omega
    clear h h2
    go_enter Try.func21, Try.ntmps21
    go_wp2
    all_goals (go_ret; exact ⟨rfl, (Below.refl _ _).alloc (Nat.le_refl _) _⟩)
  · have h8 : (s % 2 != 0) = false := by simp; omega
    have h9 : (s % 2 == 0) = true := by simp; omega
    have h11 : decide (s ≤ 1920) = false := by simp; omega
    clear h h2
    go_enter Try.func21, Try.ntmps21
    go_wp2
    all_goals (go_ret; exact ⟨rfl, (Below.refl _ _).alloc (Nat.le_refl _) _⟩)
  · have h8 : (s % 2 != 0) = false := by simp; omega
    have h9 : (s % 2 == 0) = true := by simp; omega
    have h7 : (k == 1) = false := by simp; omega
    have h6 : (k == 2) = false := by simp; omega
    clear h h2
    go_enter Try.func21, Try.ntmps21
    go_wp2
    all_goals (go_ret; exact ⟨rfl, (Below.refl _ _).alloc (Nat.le_refl _) _⟩)

theorem low_or (K T S : Nat) (m : Bool) (hK : K < 256) (hT : T < 128) (hS : S < 65536) :
    bits .or .u64 (bits .or .u64 (bits .or .u64 (K : Int) (if m then 256 else 0)) ((T : Int) * 512)) ((S : Int) * 65536) = ((lowN K T S m : Nat) : Int) := by
  have hm := mk01_lt m
  have e1 := or_step K (mk01 m) 256 8 (by decide) (by omega) (by omega)
  have e2 := or_step (K + mk01 m * 256) T 512 9 (by decide) (by omega) (by omega)
  have e3 := or_step (K + mk01 m * 256 + T * 512) S 65536 16 (by decide) (by omega) (by omega)
  have e0 : (if m then 256 else 0 : Int) = (mk01 m : Int) * ((256 : Nat) : Int) := by cases m <;> rfl
  rw [show ((512 : Nat) : Int) = 512 from rfl] at e2
  rw [show ((65536 : Nat) : Int) = 65536 from rfl] at e3
  rw [e0, e1, e2, e3]
  rfl
theorem hof_ok (a s k t : Int) (m : Bool) (x : Int) (w : World) (h : Blk.good ⟨a, s, k, t, m, 0⟩) :
    Calls Try.prog 59 #[.agg #[.int .i64 a, .int .i64 s, .int .i64 k, .int .i64 t, .bool m, .int .u64 x]] w fun e w' => e = .returned (.agg #[.int .u64 (Blk.low ⟨a, s, k, t, m, 0⟩ : Nat), .int .u64 k, .int .u64 t, .int .u64 s, .int .u64 (mk01 m : Nat)]) ∧ Below w.heap.size w w' := by
  obtain ⟨h1, h2, h3⟩ := h
  simp only at h1 h2 h3
  have b1 : 0 ≤ k ∧ k ≤ 2 ∧ 0 ≤ t ∧ t < 8 ∧ s ≤ 1920 := by omega
  obtain ⟨b1, b2, b3, b4, b5⟩ := b1
  clear h2 h3
  obtain ⟨K, rfl⟩ := Int.eq_ofNat_of_zero_le b1
  obtain ⟨T, rfl⟩ := Int.eq_ofNat_of_zero_le b3
  obtain ⟨S, rfl⟩ := Int.eq_ofNat_of_zero_le (show 0 ≤ s by omega)
  have L := Lib.hid (low_or K T S m (by omega) (by omega) (by omega))
  have hl : Blk.low ⟨a, (S : Int), (K : Int), (T : Int), m, 0⟩ = lowN K T S m := rfl
  rw [hl]
  clear hl
  cases m
  · simp only [Bool.false_eq_true, if_false] at L
    rw [← L.out]
    go_enter Try.func59, Try.ntmps59
    go_wp2
    exact bodyPost_ret (v := .agg #[.int .u64 (bits .or .u64 (bits .or .u64 (bits .or .u64 (K : Int) 0) ((T : Int) * 512)) ((S : Int) * 65536)), .int .u64 K, .int .u64 T, .int .u64 S, .int .u64 0])
      (by simp [results, Try.results59, go_sem]) rfl ⟨rfl, (((Below.refl _ _).alloc (Nat.le_refl _) _).alloc (by simp) _).alloc (by simp; omega) _⟩
  · simp only [if_true] at L
    rw [← L.out]
    go_enter Try.func59, Try.ntmps59
    go_wp2
    exact bodyPost_ret (v := .agg #[.int .u64 (bits .or .u64 (bits .or .u64 (bits .or .u64 (K : Int) 256) ((T : Int) * 512)) ((S : Int) * 65536)), .int .u64 K, .int .u64 T, .int .u64 S, .int .u64 1])
      (by simp [results, Try.results59, go_sem]) rfl ⟨rfl, (((Below.refl _ _).alloc (Nat.le_refl _) _).alloc (by simp) _).alloc (by simp; omega) _⟩

end Go.Proofs.Ytoifalgkeegklaa
