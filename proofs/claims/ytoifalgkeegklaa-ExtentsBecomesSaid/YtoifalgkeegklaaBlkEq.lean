/- Two blocks compared. -/
import Derived.Test.YtoifalgkeegklaaHead
import Derived.Laws.StructEq
namespace Go.Proofs.Ytoifalgkeegklaa
open Go.RowKit
set_option maxRecDepth 100000 in
theorem blk_eql (a s k t a' s' k' t' : Int) (m m' : Bool) (x x' : Int) (w : World) :
    (binOp .eql 24 (.agg #[.int .i64 a, .int .i64 s, .int .i64 k, .int .i64 t, .bool m, .int .u64 x]) (.agg #[.int .i64 a', .int .i64 s', .int .i64 k', .int .i64 t', .bool m', .int .u64 x'])).run Try.prog w = .ok (.bool ((a == a') && (s == s') && (k == k') && (t == t') && (m == m') && (x == x'))) w := by
  have hS : Try.prog.underlying 24 = some (.struct (Try.prog.fieldsOf 24)) := by kernel_rfl
  have hp : Try.prog.stoodInHeld 24 = false := by kernel_rfl
  have u3 := Try.underlying3
  have u4 := Try.underlying4
  have u5 := Try.underlying22
  have a3 := Try.isAgg3
  have a4 := Try.isAgg4
  have a5 := Try.isAgg22
  have z3 := Try.sizeOf3
  have z4 := Try.sizeOf4
  have z5 := Try.sizeOf22
  rw [run_eql_struct, show (10000 : Nat) = 9999 + 1 from rfl, run_equalIn_agg w 9999 24 _ _ hS hp]
  simp only [Program.fieldsOf, Try.underlying24]
  go_simp
  by_cases h0 : a = a' <;> by_cases h1 : s = s' <;> by_cases h2 : k = k' <;> by_cases h3 : t = t' <;> by_cases h4 : m = m' <;> by_cases h5 : x = x' <;> simp [h0, h1, h2, h3, h4, h5]
theorem blk_ne (b c : Blk) (h : b ≠ c) (w : World) :
    (binOp .eql 24 (.agg #[.int .i64 b.at_, .int .i64 b.size, .int .i64 b.kind, .int .i64 b.typ, .bool b.mark, .int .u64 (b.next : Nat)]) (.agg #[.int .i64 c.at_, .int .i64 c.size, .int .i64 c.kind, .int .i64 c.typ, .bool c.mark, .int .u64 (c.next : Nat)])).run Try.prog w = .ok (.bool false) w := by
  rw [blk_eql]
  congr 2
  rw [Bool.eq_false_iff]
  intro hh
  simp at hh
  obtain ⟨⟨⟨⟨⟨h1, h2⟩, h3⟩, h4⟩, h5⟩, h6⟩ := hh
  exact h (Blk.eq h1 h2 h3 h4 h5 (by omega))
end Go.Proofs.Ytoifalgkeegklaa
