/- joined, and Becomes of the reference, walked. -/
import Derived.Test.YtoifalgkeegklaaExtB
import Derived.Test.YtoifalgkeegklaaArndPlain
namespace Go.Proofs.Ytoifalgkeegklaa
open Go.RowKit

set_option maxRecDepth 100000 in
theorem joined_any (A : Option Addr) (n c : Nat) (b0 : Blk) (m : List Blk) (w : World) (h : Blks w A n c (b0 :: m)) (hl : n ≤ 1000) (hz : Sized (b0 :: m)) :
    Calls Try.prog 58 #[.slice A n c] w fun e w' => e = .returned (.agg #[.int .i64 b0.at_, .int .i64 (sumF (b0 :: m) n), .int .i64 2, .int .i64 0, .bool false, .int .u64 0]) ∧ Below w.heap.size w w' := by
  have hlen := h.len
  obtain ⟨g, o, rfl, hg⟩ := h.at_ (by rw [← hlen]; simp)
  obtain ⟨c0, _⟩ := h.same (j := 0) (by simp)
  have H := Lib.hid h
  have HZ := Lib.hid hz
  have HL := Lib.hid hlen
  have hpos : 0 < n := by rw [← hlen]; simp
  have hcap := h.cap
  have hmost := h.most
  simp only [Nat.zero_mul, Nat.add_zero, List.getElem_cons_zero] at c0
  generalize b0.at_ = a at *
  clear h hz hlen
  go_enter Try.func58, Try.ntmps58
  go_wp2
  go_loopw [13] (fun t wr => ∃ (k : Nat) (x : Int), t = .int .i64 k ∧ k ≤ n ∧ Hid (sumF (b0 :: m) k = x) ∧ Cells wr w.heap.size 24 #[.int .i64 0, .int .i64 0, .int .i64 0, .int .i64 0, .bool false, .int .u64 0] ∧
    Cells wr (w.heap.size + 1) 24 #[.int .i64 a, .int .i64 x, .int .i64 2, .int .i64 0, .bool false, .int .u64 0] ∧ Since w wr) (fun t _ => n - (intOf t).toNat)
  case atStart => exact ⟨0, 0, rfl, Nat.zero_le _, rfl, (Cells.new w _ _).alloc _, Cells.at_ _ _ _ (by simp), Since.alloc (Since.alloc (Since.refl _) _) _⟩
  case round =>
    obtain ⟨k, x, rfl, hk, hS, hR, hO, hnx⟩ := hrel
    obtain ⟨w1, hw1⟩ : ∃ x, x = wr := ⟨_, rfl⟩
    subst hw1
    have A1 := Lib.hid hnx
    have R1 := Lib.hid hR
    have O1 := Lib.hid hO
    have s1 := A1.out.size
    have zr := R1.out.lt
    have zo := O1.out.lt
    clear hnx hR hO
    by_cases hlt : k < n
    · have hg1 : g < w1.heap.size := by omega
      have hkl : k < (b0 :: m).length := by rw [HL.out]; exact hlt
      obtain ⟨c0, c1, c2, c3, c4, c5⟩ := (H.out.below A1.out).same hkl
      have hb1 := HZ.out.get hkl
      have hb2 := sumF_bd HZ.out k (by rw [HL.out]; exact hk)
      have E1 := Lib.hid (sumF_step hkl)
      rw [hS.out] at hb2 E1
      generalize (b0 :: m)[k] = b at *
      obtain ⟨ba, bs, bk, bt, bm, bn⟩ := b
      simp only at hb1 E1 c0 c1 c2 c3 c4 c5
      obtain ⟨q0, q1, q2, q3, q4, q5⟩ := O1.out.six
      obtain ⟨f0, f1, f2, f3, f4, f5⟩ := O1.out.free6
      have O2 := Lib.hid (show Cells (w1.setCell ⟨w.heap.size + 1, 1, none⟩ (.int .i64 (x + bs))) (w.heap.size + 1) 24 #[.int .i64 a, .int .i64 (x + bs), .int .i64 2, .int .i64 0, .bool false, .int .u64 0] by have := O1.out.set_ 1 (.int .i64 (x + bs)); simpa using this)
      have R2 := Lib.hid (R1.out.far' (k := w.heap.size + 1) (i := 1) (by omega) (.int .i64 (x + bs)))
      go_wp2
      go_roundw
      case rel => exact ⟨k + 1, x + bs, by go_num, by omega, E1, R2.out.alloc _, O2.out.alloc _, (by repeat (first | with_reducible exact A1.out | with_reducible exact Since.refl _ | with_reducible refine Since.alloc ?_ _ | with_reducible refine Since.setCell ?_ (by first | omega | (simp; done) | (simp; omega)) _ | with_reducible refine Since.drew ?_ | with_reducible refine Since.drewN ?_ _))⟩
      case measure => simp [intOf]; omega
    · obtain rfl : k = n := by omega
      obtain ⟨q0, q1, q2, q3, q4, q5⟩ := O1.out.six
      obtain ⟨f0, f1, f2, f3, f4, f5⟩ := R1.out.free6
      obtain ⟨Rq0, Rq1, Rq2, Rq3, Rq4, Rq5⟩ := R1.out.six
      have Rlt := R1.out.lt
      go_wp2
      rw [hS.out]
      have PX := R1.out.put6 (.int .i64 a) (.int .i64 x) (.int .i64 2) (.int .i64 0) (.bool false) (.int .u64 0)
      obtain ⟨p0, p1, p2, p3, p4, p5⟩ := PX.six
      exact bodyPost_ret (v := .agg #[.int .i64 a, .int .i64 x, .int .i64 2, .int .i64 0, .bool false, .int .u64 0]) (by simp [*, results, Try.results58, go_sem]) rfl ⟨rfl, (Since.out (by repeat (first | with_reducible exact A1.out | with_reducible exact Since.refl _ | with_reducible refine Since.alloc ?_ _ | with_reducible refine Since.setCell ?_ (by first | omega | (simp; done) | (simp; omega)) _ | with_reducible refine Since.drew ?_ | with_reducible refine Since.drewN ?_ _)))⟩
end Go.Proofs.Ytoifalgkeegklaa
