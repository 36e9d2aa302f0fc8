/- How the arguments read: words, lists of words, eight bytes; and the closed facts of every row's step. -/
import Derived.Test.YtoifalgkeegklaaChecked
import Derived.Test.YtoifalgkeegklaaMem
import Derived.WalkKit
import Derived.ProofKit
import Derived.OpenShut
namespace Go.Proofs.Ytoifalgkeegklaa
open Go.ChangeShapes Go.WideShapes Go.ChangeAt Go.RowKit

theorem ownKnobs : ownKnob Try.prog.godebug = none := by kernel_rfl
theorem laidOuts : laidOutB Try.prog = true := by kernel_rfl

theorem bd_i64 {x : Int} (h : (Lit.int .i64 x).wf = true) : -9223372036854775808 ≤ x ∧ x ≤ 9223372036854775807 := by
  simp [Lit.wf, IntKind.min, IntKind.max, IntKind.signed, IntKind.bits] at h; omega
theorem nat_u64 {x : Int} (h : (Lit.int .u64 x).wf = true) : ∃ n : Nat, x = n ∧ n < 18446744073709551616 := by
  simp [Lit.wf, IntKind.min, IntKind.max, IntKind.signed, IntKind.bits] at h
  exact ⟨x.toNat, by omega, by omega⟩
theorem nat_u8 {x : Int} (h : (Lit.int .u8 x).wf = true) : ∃ n : Nat, x = n ∧ n < 256 := by
  simp [Lit.wf, IntKind.min, IntKind.max, IntKind.signed, IntKind.bits] at h
  exact ⟨x.toNat, by omega, by omega⟩

section
variable {H : Type} {enc : TypeId × Value → H} {W : World} {r : Reach} {b0 : Nat} {d : DataW H} {p : List MemPlace} {v : Value}
set_option maxRecDepth 100000 in
theorem open_words (hv : Value.okWide Try.prog W r b0 33 v) (h : DataW.Trod enc Try.prog W 0 (fun _ => true) true 33 v d p) :
    ∃ A n c ws, v = .slice A n c ∧ Words W A n c ws := by
  obtain ⟨A, n, c, rfl⟩ := okWide_slice Try.underlying33 hv
  obtain ⟨fuel, hf⟩ := h
  rcases open_ints Try.underlying33 Try.underlying22 (by kernel_rfl) hf with ⟨hcs, _⟩ | ⟨x, l, k, zs, hcs, _, hl, hm, hz, _, hcell, hwz⟩
  · simp [Value.cells] at hcs
    obtain ⟨rfl, rfl, rfl⟩ := hcs
    exact ⟨none, 0, 0, [], rfl, .nil⟩
  · simp [Value.cells] at hcs
    obtain ⟨rfl, rfl, rfl⟩ := hcs
    exact ⟨_, _, _, _, rfl, Words.of_ints hl hm (by simpa using hz) hcell (fun z hz' => nat_u64 (hwz z hz'))⟩

set_option maxRecDepth 100000 in
theorem open_arr8 (hv : Value.okWide Try.prog W r b0 112 v) (h : DataW.Trod enc Try.prog W 0 (fun _ => true) true 112 v d p) :
    ∃ y0 y1 y2 y3 y4 y5 y6 y7 : Nat, v = .agg #[.int .u8 y0, .int .u8 y1, .int .u8 y2, .int .u8 y3, .int .u8 y4, .int .u8 y5, .int .u8 y6, .int .u8 y7] ∧
      (y0 < 256 ∧ y1 < 256 ∧ y2 < 256 ∧ y3 < 256 ∧ y4 < 256 ∧ y5 < 256 ∧ y6 < 256 ∧ y7 < 256) := by
  have hv' : ∃ cs : Array Value, v = .agg cs ∧ cs.size = 8 := by
    simp only [Value.okWide, Try.underlying112] at hv
    obtain ⟨cs, h1, h2, _⟩ := hv
    exact ⟨cs, h1, h2.trans (by kernel_rfl)⟩
  obtain ⟨⟨l⟩, rfl, hsz⟩ := hv'
  match l, hsz with
  | [c0, c1, c2, c3, c4, c5, c6, c7], _ =>
    obtain ⟨fuel, hf⟩ := h
    obtain ⟨xs, m, _, hx, _, hlen, hg⟩ := DataW.trod_array Try.underlying112 hf
    have hc : Try.prog.cellsOf 5 = 1 := by kernel_rfl
    rw [hc] at hg
    have one : ∀ (i : Nat) (c : Value), i < 8 → ([c0, c1, c2, c3, c4, c5, c6, c7].drop (i * 1)).take 1 = [c] → ∃ y : Nat, c = .int .u8 y ∧ y < 256 := by
      intro i c hi he
      have h1 := hg i hi
      have h2 : xs[i]? = some (xs[i]'(by omega)) := List.getElem?_eq_getElem (by omega)
      rw [h2] at h1
      have e1 : ((Value.agg [c0, c1, c2, c3, c4, c5, c6, c7].toArray).cells.toList.drop (i * 1)).take 1 = [c] := he
      rw [e1] at h1
      obtain ⟨z, hz, _, hw⟩ := DataW.trod_int Try.underlying5 h1
      obtain ⟨y, rfl, hy⟩ := nat_u8 hw
      exact ⟨y, by simpa using hz, hy⟩
    obtain ⟨y0, rfl, b0⟩ := one 0 c0 (by omega) rfl
    obtain ⟨y1, rfl, b1⟩ := one 1 c1 (by omega) rfl
    obtain ⟨y2, rfl, b2⟩ := one 2 c2 (by omega) rfl
    obtain ⟨y3, rfl, b3⟩ := one 3 c3 (by omega) rfl
    obtain ⟨y4, rfl, b4⟩ := one 4 c4 (by omega) rfl
    obtain ⟨y5, rfl, b5⟩ := one 5 c5 (by omega) rfl
    obtain ⟨y6, rfl, b6⟩ := one 6 c6 (by omega) rfl
    obtain ⟨y7, rfl, b7⟩ := one 7 c7 (by omega) rfl
    exact ⟨y0, y1, y2, y3, y4, y5, y6, y7, rfl, b0, b1, b2, b3, b4, b5, b6, b7⟩
end
end Go.Proofs.Ytoifalgkeegklaa
