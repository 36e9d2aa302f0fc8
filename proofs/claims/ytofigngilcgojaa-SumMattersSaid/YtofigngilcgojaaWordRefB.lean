/- The reference's Bytes and Of, walked. -/
import Derived.Test.YtofigngilcgojaaWordRef
namespace Go.Proofs.Ytofigngilcgojaa
open Go.RowKit

theorem bytV_ref (x : Nat) : bytV x = .agg #[.int .u8 (x % 256 : Int), .int .u8 (x / 256 % 256 : Int), .int .u8 (x / 256 / 256 % 256 : Int), .int .u8 (x / 256 / 256 / 256 % 256 : Int), .int .u8 (x / 256 / 256 / 256 / 256 % 256 : Int), .int .u8 (x / 256 / 256 / 256 / 256 / 256 % 256 : Int), .int .u8 (x / 256 / 256 / 256 / 256 / 256 / 256 % 256 : Int), .int .u8 (x / 256 / 256 / 256 / 256 / 256 / 256 / 256 % 256 : Int)] := by
  unfold bytV byt
  congr 1 <;> simp [Int.ediv_ediv]

set_option maxRecDepth 100000 in
theorem rbytes_any (x : Nat) (w : World) (hx : x < 18446744073709551616) :
    Calls Try.prog 17 #[.int .u64 x] w fun e w' => e = .returned (bytV x) ∧ Below w.heap.size w w' := by
  rw [bytV_ref x]
  go_enter Try.func17, Try.ntmps17
  go_wp2
  refine wp_loop_rounds 9 ?_
  iterate 9 (rw [rounds_succ]; go_wp2)
  exact bodyPost_ret (v := .agg #[.int .u8 (x % 256 : Int), .int .u8 (x / 256 % 256 : Int), .int .u8 (x / 256 / 256 % 256 : Int), .int .u8 (x / 256 / 256 / 256 % 256 : Int), .int .u8 (x / 256 / 256 / 256 / 256 % 256 : Int), .int .u8 (x / 256 / 256 / 256 / 256 / 256 % 256 : Int), .int .u8 (x / 256 / 256 / 256 / 256 / 256 / 256 % 256 : Int), .int .u8 (x / 256 / 256 / 256 / 256 / 256 / 256 / 256 % 256 : Int)])
    (by simp [results, Try.results17, go_sem]) rfl ⟨rfl, ((Below.refl _ _).alloc (Nat.le_refl _) _).alloc (by simp) _⟩

set_option maxRecDepth 100000 in
theorem rof_any (y0 y1 y2 y3 y4 y5 y6 y7 : Nat) (w : World) (h : y0 < 256 ∧ y1 < 256 ∧ y2 < 256 ∧ y3 < 256 ∧ y4 < 256 ∧ y5 < 256 ∧ y6 < 256 ∧ y7 < 256) :
    Calls Try.prog 19 #[arrV y0 y1 y2 y3 y4 y5 y6 y7] w fun e w' =>
      e = .returned (.int .u64 (ofB y0 y1 y2 y3 y4 y5 y6 y7 : Nat)) ∧ Below w.heap.size w w' := by
  obtain ⟨h0, h1, h2, h3, h4, h5, h6, h7⟩ := h
  unfold arrV
  go_enter Try.func19, Try.ntmps19
  go_wp2
  refine wp_loop_rounds 9 ?_
  iterate 9 (rw [rounds_succ]; go_wp2)
  go_ret
  exact ⟨ret_int (by unfold ofB; omega), (Below.refl _ _).alloc (Nat.le_refl _) _⟩

theorem bcell {W w1 : World} (hb : Below W.heap.size W w1) : (∀ b o, b < W.heap.size → w1.cell? ⟨b, o, none⟩ = W.cell? ⟨b, o, none⟩) ∧ (∀ b o, b < W.heap.size → w1.frozen? ⟨b, o, none⟩ = W.frozen? ⟨b, o, none⟩) :=
  ⟨fun b o h => hb.cell (p := ⟨b, o, none⟩) h, fun b o h => hb.frozen (p := ⟨b, o, none⟩) h⟩
end Go.Proofs.Ytofigngilcgojaa
