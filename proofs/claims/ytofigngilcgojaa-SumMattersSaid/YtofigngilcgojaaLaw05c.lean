/- The laws of package sum, walked (3). -/
import Derived.Test.YtofigngilcgojaaLaw05b
namespace Go.Proofs.Ytofigngilcgojaa
open Go.RowKit

theorem Words.upto {w : World} {A : Option Addr} {n c k : Nat} {ws : List Nat} (h : Words w A n c ws) (hk : k ≤ n) : Words w A k c (ws.take k) := by
  refine ⟨by have := h.len; simp; omega, Nat.le_trans hk h.cap, h.most, h.none_, fun x hx => h.lt x (List.mem_of_mem_take hx), fun hn => ?_⟩
  obtain ⟨b, o, e, hl, hc⟩ := h.cell (by omega)
  refine ⟨b, o, e, hl, fun j hj => ?_⟩
  have hj' : j < ws.length := by have := hj; rw [List.length_take] at this; omega
  rw [hc j hj', List.getElem_take]
theorem stz_zero (k : Nat) : stz 0 k = 0 := by
  induction k with
  | zero => rfl
  | succ k ih => show stp (stz 0 k) 0 = 0; rw [ih]; decide

theorem many_made (w : World) : Words (w.alloc (.cells (madeCells #[.int .u64 0] 2049) 22)) (some ⟨w.heap.size, 0, none⟩) 2049 2049 (List.replicate 2049 0) :=
  Words.zeros w 2049 _ (by omega)
theorem made_many (W : World) : (Instr.makeSlice 30 (.int .i64 2049) (.int .i64 2049)).run Try.prog W = .ok (.slice (some ⟨W.heap.size, 0, none⟩) 2049 2049) (W.alloc (.cells (madeCells #[.int .u64 0] 2049) 22)) :=
  mk_words 2049 (by omega) W
theorem zeros_next (A : Option Addr) (c : Nat) (W : World) (h : Words W A 2048 c ((List.replicate 2049 0).take 2048)) : Calls Try.prog 20 #[.int .u64 0, .slice A 2048 c] W fun e w' => e = .returned (.tuple #[.int .u64 0, .int .i64 0]) ∧ Below W.heap.size W w' := by
  have C := next_ok 0 A 2048 c _ W h (by omega) (by omega)
  rw [List.take_replicate, beh_zeros, stz_zero] at C
  exact C
theorem low58 (W : World) : Calls Try.prog 30 #[.slice none 0 0, .int .i64 58] W fun e w' => e = .returned (.tuple #[.int .u64 284462231761068837, .int .i64 0]) ∧ Below W.heap.size W w' := by
  have C := low_ok none 0 0 [] 58 W .nil (by omega) (by omega) (by omega)
  rw [show fld (beh 14695981039346656037 []) 0 58 = 284462231761068837 by decide +kernel] at C
  exact C
theorem low64 (W : World) : Calls Try.prog 30 #[.slice none 0 0, .int .i64 64] W fun e w' => e = .returned (.tuple #[.int .u64 14695981039346656037, .int .i64 0]) ∧ Below W.heap.size W w' := by
  have C := low_ok none 0 0 [] 64 W .nil (by omega) (by omega) (by omega)
  rw [show fld (beh 14695981039346656037 []) 0 64 = 14695981039346656037 by decide +kernel] at C
  exact C
theorem low_no (d : Int) (W : World) (h1 : -9223372036854775808 ≤ d) (h2 : d ≤ 9223372036854775807) (h3 : d < 8 ∨ 64 < d) : Calls Try.prog 30 #[.slice none 0 0, .int .i64 d] W fun e w' => e = .returned (.tuple #[.int .u64 0, .int .i64 2]) ∧ Below W.heap.size W w' :=
  low_bad none 0 0 [] d W .nil (by omega) h1 h2 h3

set_option maxRecDepth 100000 in
theorem walkSumNames (w : World) : Calls Try.prog 12 #[] w fun e w' => e = .returned (.bool true) ∧ Below w.heap.size w w' := by
  have hmk := made_many
  have H := Lib.hid (many_made w)
  have A0 := Lib.hid (((Below.refl _ _).alloc (Nat.le_refl _) _) : Below w.heap.size w (w.alloc (.cells (madeCells #[.int .u64 0] 2049) 22)))
  go_enter Try.func12, Try.ntmps12
  go_wp2_with fail
  refine (of_many _ _ _ _ _ H.out (by omega)).mono ?_
  rintro e w' ⟨rfl, rfl⟩
  clear hmk
  go_wp2_with fail
  refine (next_many 0 _ _ _ _ _ H.out (by omega)).mono ?_
  rintro e w' ⟨rfl, rfl⟩
  go_wp2_with fail
  refine (low_many _ _ _ _ 7 _ H.out (by omega)).mono ?_
  rintro e w' ⟨rfl, rfl⟩
  go_wp2_with fail
  refine (zeros_next _ _ _ (H.out.upto (by omega))).mono ?_
  rintro e w1 ⟨rfl, hb1⟩
  have A1 := Lib.hid (A0.out.trans (hb1.mono A0.out.size))
  clear hb1
  go_wp2_with fail
  refine (low58 _).mono ?_
  rintro e w2 ⟨rfl, hb2⟩
  have A2 := Lib.hid (A1.out.trans (hb2.mono A1.out.size))
  go_wp2_with fail
  refine (low_no 7 _ (by omega) (by omega) (by omega)).mono ?_
  rintro e w3 ⟨rfl, hb3⟩
  have A3 := Lib.hid (A2.out.trans (hb3.mono A2.out.size))
  go_wp2_with fail
  refine (low_no 65 _ (by omega) (by omega) (by omega)).mono ?_
  rintro e w4 ⟨rfl, hb4⟩
  have A4 := Lib.hid (A3.out.trans (hb4.mono A3.out.size))
  go_wp2_with fail
  refine (low_no (-1) _ (by omega) (by omega) (by omega)).mono ?_
  rintro e w5 ⟨rfl, hb5⟩
  have A5 := Lib.hid (A4.out.trans (hb5.mono A4.out.size))
  go_wp2_with fail
  refine (low64 _).mono ?_
  rintro e w6 ⟨rfl, hb6⟩
  have A6 := Lib.hid (A5.out.trans (hb6.mono A5.out.size))
  go_wp2_with fail
  refine (alive05 _).mono ?_
  rintro e w7 ⟨rfl, hb7⟩
  have A7 := Lib.hid (A6.out.trans (hb7.mono A6.out.size))
  go_wp2
  go_ret
  exact ⟨rfl, A7.out⟩
end Go.Proofs.Ytofigngilcgojaa
