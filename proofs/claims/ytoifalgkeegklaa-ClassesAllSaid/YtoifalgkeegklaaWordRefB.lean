/- The reference's Bytes and Of, walked. -/
import Derived.Test.YtoifalgkeegklaaWordRef
namespace Go.Proofs.Ytoifalgkeegklaa
open Go.RowKit

theorem bytV_ref (x : Nat) : bytV x = .agg #[.int .u8 (x % 256 : Int), .int .u8 (x / 256 % 256 : Int), .int .u8 (x / 256 / 256 % 256 : Int), .int .u8 (x / 256 / 256 / 256 % 256 : Int), .int .u8 (x / 256 / 256 / 256 / 256 % 256 : Int), .int .u8 (x / 256 / 256 / 256 / 256 / 256 % 256 : Int), .int .u8 (x / 256 / 256 / 256 / 256 / 256 / 256 % 256 : Int), .int .u8 (x / 256 / 256 / 256 / 256 / 256 / 256 / 256 % 256 : Int)] := by
  unfold bytV byt
  congr 1 <;> simp [Int.ediv_ediv]

set_option maxRecDepth 100000 in
theorem rbytes_any (x : Nat) (w : World) (hx : x < 18446744073709551616) :
    Calls Try.prog 94 #[.int .u64 x] w fun e w' => e = .returned (bytV x) ∧ Below w.heap.size w w' := by
  rw [bytV_ref x]
  go_enter Try.func94, Try.ntmps94
  go_wp2
  refine wp_loop_rounds 9 ?_
  iterate 9 (rw [rounds_succ]; go_wp2)
  exact bodyPost_ret (v := .agg #[.int .u8 (x % 256 : Int), .int .u8 (x / 256 % 256 : Int), .int .u8 (x / 256 / 256 % 256 : Int), .int .u8 (x / 256 / 256 / 256 % 256 : Int), .int .u8 (x / 256 / 256 / 256 / 256 % 256 : Int), .int .u8 (x / 256 / 256 / 256 / 256 / 256 % 256 : Int), .int .u8 (x / 256 / 256 / 256 / 256 / 256 / 256 % 256 : Int), .int .u8 (x / 256 / 256 / 256 / 256 / 256 / 256 / 256 % 256 : Int)])
    (by simp [results, Try.results94, go_sem]) rfl ⟨rfl, ((Below.refl _ _).alloc (Nat.le_refl _) _).alloc (by simp) _⟩

theorem bcell {W w1 : World} (hb : Below W.heap.size W w1) : (∀ b o, b < W.heap.size → w1.cell? ⟨b, o, none⟩ = W.cell? ⟨b, o, none⟩) ∧ (∀ b o, b < W.heap.size → w1.frozen? ⟨b, o, none⟩ = W.frozen? ⟨b, o, none⟩) :=
  ⟨fun b o h => hb.cell (p := ⟨b, o, none⟩) h, fun b o h => hb.frozen (p := ⟨b, o, none⟩) h⟩
end Go.Proofs.Ytoifalgkeegklaa
