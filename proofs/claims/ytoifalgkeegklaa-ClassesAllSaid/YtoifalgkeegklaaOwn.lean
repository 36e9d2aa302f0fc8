/- Words that the call makes itself: make([]uint64, n), and the copy of a slice of words. -/
import Derived.Test.YtoifalgkeegklaaChecked
import Derived.Test.YtoifalgkeegklaaMem
import Derived.OwnWalk
import Derived.Laws.MakeOwn
import Derived.Laws.AppendOwnNone
import Derived.Maps.AppendAt
namespace Go.Proofs.Ytoifalgkeegklaa
open Go.RowKit

/-- A word in a cell. -/
def wv (n : Nat) : Value := .int .u64 (n : Int)
theorem info_u64 : (Try.prog.info? 22).map (fun i => (i.zero, i.size, i.bytes)) = some (some (.int .u64 0), 1, 8) := by kernel_rfl

theorem mk_words (n : Nat) (hn : n ≤ 35184372088832) (W : World) :
    (Instr.makeSlice 33 (.int .i64 (n : Int)) (.int .i64 (n : Int))).run Try.prog W = .ok (.slice (some ⟨W.heap.size, 0, none⟩) n n) (W.alloc (.cells (madeCells #[.int .u64 0] n) 22)) := by
  obtain ⟨i, hi, hz, h1, h8⟩ := info_parts info_u64
  have hr := run_make (P := Try.prog) W 33 22 i (.int .u64 0) Try.underlying33 hi hz .i64 .i64 n n (by omega) (Int.le_refl _) (by rw [h8]; omega) (by omega)
  simp only [Int.toNat_natCast, h1, Nat.mul_one] at hr
  exact hr
theorem Words.zeros (w : World) (n : Nat) (t : TypeId) (hn : n ≤ 9223372036854775807) : Words (w.alloc (.cells (madeCells #[.int .u64 0] n) t)) (some ⟨w.heap.size, 0, none⟩) n n (List.replicate n 0) := by
  refine ⟨by simp, Nat.le_refl _, hn, by simp, fun x hx => by have := (List.mem_replicate.1 hx).2; omega, fun _ => ⟨w.heap.size, 0, rfl, by simp, fun j hj => ?_⟩⟩
  have h := (Cells.new w t (madeCells #[.int .u64 0] n)).cell j
  rw [Nat.zero_add, h, ← Array.getElem?_toList, toList_madeCells_one, List.getElem?_replicate, if_pos (show j < n by simpa using hj)]
  simp
/-- A row of words of the call's own reads as a slice of words. -/
theorem Words.own {w : World} {base n c : Nat} {A : Option Addr} {t : TypeId} {ws : List Nat} (h : w.ownsRow base t 1 (.slice A n c) n (ws.map wv)) (hw : ∀ x ∈ ws, x < 18446744073709551616) : Words w A n c ws := by
  have hl : ws.length = n := by have := h.1; simpa using this
  rcases h.2 with ⟨he, rfl⟩ | ⟨g, cap, cur, he, hb, hg, hnc, hm, hs, ht⟩
  · simp only [Value.slice.injEq] at he
    obtain ⟨rfl, _, rfl⟩ := he
    have : ws = [] := List.eq_nil_of_length_eq_zero hl
    subst this
    exact .nil
  · simp only [Value.slice.injEq, true_and] at he
    obtain ⟨rfl, rfl⟩ := he
    refine ⟨hl, hnc, by simpa [maxLen] using hm, by simp, hw, fun hn => ⟨g, 0, rfl, ?_, fun j hj => ?_⟩⟩
    · rcases Nat.lt_or_ge g w.heap.size with hlt | hge
      · exact hlt
      · rw [Array.getElem?_eq_none hge] at hg; cases hg
    · rw [Nat.zero_add, World.ownsRow.cellAt h j (by omega), List.getElem?_map, List.getElem?_eq_getElem (by omega)]
      rfl
end Go.Proofs.Ytoifalgkeegklaa
