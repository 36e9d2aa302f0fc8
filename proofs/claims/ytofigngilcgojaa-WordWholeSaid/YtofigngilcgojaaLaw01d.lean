/- The laws of package word, walked (4). -/
import Derived.Test.YtofigngilcgojaaLaw01c
namespace Go.Proofs.Ytofigngilcgojaa
open Go.RowKit
attribute [local go_sem ↓] Go.wp_at_zero Go.wp_at_succ

theorem sum_bytes (x : Nat) (hx : x < 18446744073709551616) : (byt x 0 : Int) + byt x 1 * 256 + byt x 2 * 65536 + byt x 3 * 16777216 + byt x 4 * 4294967296 + byt x 5 * 1099511627776 + byt x 6 * 281474976710656 + byt x 7 * 72057594037927936 = x := by
  unfold byt; omega

set_option maxRecDepth 100000 in
set_option maxHeartbeats 1000000 in
theorem walkWordWhole (x : Nat) (y0 y1 y2 y3 y4 y5 y6 y7 : Nat) (w : World) (hx : x < 18446744073709551616) (h : y0 < 256 ∧ y1 < 256 ∧ y2 < 256 ∧ y3 < 256 ∧ y4 < 256 ∧ y5 < 256 ∧ y6 < 256 ∧ y7 < 256) :
    Calls Try.prog 11 #[.int .u64 x, .agg #[.int .u8 y0, .int .u8 y1, .int .u8 y2, .int .u8 y3, .int .u8 y4, .int .u8 y5, .int .u8 y6, .int .u8 y7]] w fun e w' => e = .returned (.bool true) ∧ Below w.heap.size w w' := by
  have d0 : ∀ W : World, Calls Try.prog 22 #[.int .u64 x, .int .i64 0, .int .i64 8] W fun e w' => e = .returned (.tuple #[.int .u64 (byt x 0 : Nat), .int .i64 0]) ∧ W = w' := fun W => get_byte x 0 W hx (by omega)
  have D0 := Lib.hid d0
  clear d0
  have d1 : ∀ W : World, Calls Try.prog 22 #[.int .u64 x, .int .i64 8, .int .i64 8] W fun e w' => e = .returned (.tuple #[.int .u64 (byt x 1 : Nat), .int .i64 0]) ∧ W = w' := fun W => get_byte x 1 W hx (by omega)
  have D1 := Lib.hid d1
  clear d1
  have d2 : ∀ W : World, Calls Try.prog 22 #[.int .u64 x, .int .i64 16, .int .i64 8] W fun e w' => e = .returned (.tuple #[.int .u64 (byt x 2 : Nat), .int .i64 0]) ∧ W = w' := fun W => get_byte x 2 W hx (by omega)
  have D2 := Lib.hid d2
  clear d2
  have d3 : ∀ W : World, Calls Try.prog 22 #[.int .u64 x, .int .i64 24, .int .i64 8] W fun e w' => e = .returned (.tuple #[.int .u64 (byt x 3 : Nat), .int .i64 0]) ∧ W = w' := fun W => get_byte x 3 W hx (by omega)
  have D3 := Lib.hid d3
  clear d3
  have d4 : ∀ W : World, Calls Try.prog 22 #[.int .u64 x, .int .i64 32, .int .i64 8] W fun e w' => e = .returned (.tuple #[.int .u64 (byt x 4 : Nat), .int .i64 0]) ∧ W = w' := fun W => get_byte x 4 W hx (by omega)
  have D4 := Lib.hid d4
  clear d4
  have d5 : ∀ W : World, Calls Try.prog 22 #[.int .u64 x, .int .i64 40, .int .i64 8] W fun e w' => e = .returned (.tuple #[.int .u64 (byt x 5 : Nat), .int .i64 0]) ∧ W = w' := fun W => get_byte x 5 W hx (by omega)
  have D5 := Lib.hid d5
  clear d5
  have d6 : ∀ W : World, Calls Try.prog 22 #[.int .u64 x, .int .i64 48, .int .i64 8] W fun e w' => e = .returned (.tuple #[.int .u64 (byt x 6 : Nat), .int .i64 0]) ∧ W = w' := fun W => get_byte x 6 W hx (by omega)
  have D6 := Lib.hid d6
  clear d6
  have d7 : ∀ W : World, Calls Try.prog 22 #[.int .u64 x, .int .i64 56, .int .i64 8] W fun e w' => e = .returned (.tuple #[.int .u64 (byt x 7 : Nat), .int .i64 0]) ∧ W = w' := fun W => get_byte x 7 W hx (by omega)
  have D7 := Lib.hid d7
  clear d7
  have E0 := Lib.hid fun W => bytes_any x W hx
  have E1 := Lib.hid fun W => of_any (byt x 0) (byt x 1) (byt x 2) (byt x 3) (byt x 4) (byt x 5) (byt x 6) (byt x 7) W ⟨byt_lt _ _, byt_lt _ _, byt_lt _ _, byt_lt _ _, byt_lt _ _, byt_lt _ _, byt_lt _ _, byt_lt _ _⟩
  have E2 := Lib.hid fun W => of_any y0 y1 y2 y3 y4 y5 y6 y7 W h
  have E3 := Lib.hid fun W => bytes_any (ofB y0 y1 y2 y3 y4 y5 y6 y7) W (ofB_lt _ _ _ _ _ _ _ _ h)
  rw [of_byt x hx] at E1
  rw [byt_of _ _ _ _ _ _ _ _ h] at E3
  have ae := arr_eq y0 y1 y2 y3 y4 y5 y6 y7
  unfold bytV at E0
  unfold arrV at E1 E2 E3
  have hs := sum_bytes x hx
  have b0 := byt_lt x 0
  have b1 := byt_lt x 1
  have b2 := byt_lt x 2
  have b3 := byt_lt x 3
  have b4 := byt_lt x 4
  have b5 := byt_lt x 5
  have b6 := byt_lt x 6
  have b7 := byt_lt x 7
  generalize byt x 0 = z0 at *
  generalize byt x 1 = z1 at *
  generalize byt x 2 = z2 at *
  generalize byt x 3 = z3 at *
  generalize byt x 4 = z4 at *
  generalize byt x 5 = z5 at *
  generalize byt x 6 = z6 at *
  generalize byt x 7 = z7 at *
  clear h
  have HS := Lib.hid hs
  clear hs
  go_enter Try.func11, Try.ntmps11
  go_wp2_with fail
  refine (E0.out _).mono ?_
  rintro e w1 ⟨rfl, hb⟩
  have hz := hb.size
  simp only [World.size_alloc] at hz
  have hz1 : w.heap.size < w1.heap.size := hz
  have hb0 : Below w.heap.size w w1 := ((Below.refl _ _).alloc (Nat.le_refl _) _).trans (hb.mono (by simp))
  have q0 : w1.cell? ⟨w.heap.size, 0, none⟩ = some (.int .u8 y0) := by rw [hb.cell (by simp)]; simp [go_sem]
  have q1 : w1.cell? ⟨w.heap.size, 1, none⟩ = some (.int .u8 y1) := by rw [hb.cell (by simp)]; simp [go_sem]
  have q2 : w1.cell? ⟨w.heap.size, 2, none⟩ = some (.int .u8 y2) := by rw [hb.cell (by simp)]; simp [go_sem]
  have q3 : w1.cell? ⟨w.heap.size, 3, none⟩ = some (.int .u8 y3) := by rw [hb.cell (by simp)]; simp [go_sem]
  have q4 : w1.cell? ⟨w.heap.size, 4, none⟩ = some (.int .u8 y4) := by rw [hb.cell (by simp)]; simp [go_sem]
  have q5 : w1.cell? ⟨w.heap.size, 5, none⟩ = some (.int .u8 y5) := by rw [hb.cell (by simp)]; simp [go_sem]
  have q6 : w1.cell? ⟨w.heap.size, 6, none⟩ = some (.int .u8 y6) := by rw [hb.cell (by simp)]; simp [go_sem]
  have q7 : w1.cell? ⟨w.heap.size, 7, none⟩ = some (.int .u8 y7) := by rw [hb.cell (by simp)]; simp [go_sem]
  clear hb hz
  go_wp2_with fail
  refine wp_loop_rounds 9 ?_
  rw [rounds_succ]
  go_wp2_with fail
  refine (D0.out _).mono ?_
  rintro e w' ⟨rfl, rfl⟩
  go_wp2_with fail
  rw [rounds_succ]
  go_wp2_with fail
  refine (D1.out _).mono ?_
  rintro e w' ⟨rfl, rfl⟩
  go_wp2_with fail
  rw [rounds_succ]
  go_wp2_with fail
  refine (D2.out _).mono ?_
  rintro e w' ⟨rfl, rfl⟩
  go_wp2_with fail
  rw [rounds_succ]
  go_wp2_with fail
  refine (D3.out _).mono ?_
  rintro e w' ⟨rfl, rfl⟩
  go_wp2_with fail
  rw [rounds_succ]
  go_wp2_with fail
  refine (D4.out _).mono ?_
  rintro e w' ⟨rfl, rfl⟩
  go_wp2_with fail
  rw [rounds_succ]
  go_wp2_with fail
  refine (D5.out _).mono ?_
  rintro e w' ⟨rfl, rfl⟩
  go_wp2_with fail
  rw [rounds_succ]
  go_wp2_with fail
  refine (D6.out _).mono ?_
  rintro e w' ⟨rfl, rfl⟩
  go_wp2_with fail
  rw [rounds_succ]
  go_wp2_with fail
  refine (D7.out _).mono ?_
  rintro e w' ⟨rfl, rfl⟩
  go_wp2_with fail
  rw [rounds_succ]
  go_wp2_with fail
  have hs := HS.out
  go_region_held3 (fun w' => w.heap.size < w'.heap.size ∧ w1.heap.size < w'.heap.size ∧ Below w.heap.size w w' ∧ w'.cell? ⟨w.heap.size, 0, none⟩ = some (.int .u8 y0) ∧ w'.cell? ⟨w.heap.size, 1, none⟩ = some (.int .u8 y1) ∧ w'.cell? ⟨w.heap.size, 2, none⟩ = some (.int .u8 y2) ∧ w'.cell? ⟨w.heap.size, 3, none⟩ = some (.int .u8 y3) ∧ w'.cell? ⟨w.heap.size, 4, none⟩ = some (.int .u8 y4) ∧ w'.cell? ⟨w.heap.size, 5, none⟩ = some (.int .u8 y5) ∧ w'.cell? ⟨w.heap.size, 6, none⟩ = some (.int .u8 y6) ∧ w'.cell? ⟨w.heap.size, 7, none⟩ = some (.int .u8 y7) ∧ w'.cell? ⟨w1.heap.size, 0, none⟩ = some (.int .u8 z0) ∧ w'.cell? ⟨w1.heap.size, 1, none⟩ = some (.int .u8 z1) ∧ w'.cell? ⟨w1.heap.size, 2, none⟩ = some (.int .u8 z2) ∧ w'.cell? ⟨w1.heap.size, 3, none⟩ = some (.int .u8 z3) ∧ w'.cell? ⟨w1.heap.size, 4, none⟩ = some (.int .u8 z4) ∧ w'.cell? ⟨w1.heap.size, 5, none⟩ = some (.int .u8 z5) ∧ w'.cell? ⟨w1.heap.size, 6, none⟩ = some (.int .u8 z6) ∧ w'.cell? ⟨w1.heap.size, 7, none⟩ = some (.int .u8 z7))
    (((try go_split_ands); refine ⟨?_, ?_, ?_, ?_, ?_, ?_, ?_, ?_, ?_, ?_, ?_, ?_, ?_, ?_, ?_, ?_, ?_, ?_, ?_⟩ <;> first | assumption | (simp [go_sem]; done) | (simp; omega) | exact (Below.alloc (by assumption) (by omega) _).drew | exact (World.cell?_alloc_lt _ _ _ (by assumption)).trans (by assumption) | exact Nat.lt_of_lt_of_le (by assumption) hb.size | exact Below.trans (by assumption) (hb.mono (Nat.le_of_lt (by assumption))) | (rw [hb.cell (by assumption)]; assumption)))
    (first | (go_at_call 16; refine (E3.out _).mono ?_; rintro e w' ⟨rfl, hb⟩) | (go_at_call 18; (with_reducible refine (E1.out _).mono ?_); rintro e w' ⟨rfl, hb⟩) | (go_at_call 18; (with_reducible refine (E2.out _).mono ?_); rintro e w' ⟨rfl, hb⟩) | (go_at_call 26; refine (alive01 _).mono ?_; rintro e w' ⟨rfl, hb⟩))
  go_wp2
  go_ret
  go_split_ands
  exact ⟨rfl, by assumption⟩
end Go.Proofs.Ytofigngilcgojaa
