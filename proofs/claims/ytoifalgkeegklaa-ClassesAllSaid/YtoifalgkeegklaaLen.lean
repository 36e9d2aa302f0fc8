/- The number of bits of a size. -/
import Derived.Test.YtoifalgkeegklaaChecked
import Derived.WalkKit
import Derived.WalkSpells
import Derived.WalkLawsBesides
import Derived.LoopTactic
import Derived.Outline
import Derived.Lib.Hide
import Derived.Lib.Strings
import Derived.Lib.Slices
import Derived.Lib.Small
import Derived.Lib.Walk
import Derived.Lib.BitFns
namespace Go.Proofs.Ytoifalgkeegklaa
open Go.RowKit

theorem tab_len : ∀ n : Fin 256, (Lib.len8tab.data[n.val]!).toNat = Lib.bitLen n.val := by decide +kernel
theorem tab_eq (n : Nat) (h : n < Lib.len8tab.size) (hn : n < 256) : (Lib.len8tab[n]'h).toNat = Lib.bitLen n := by
  have e := tab_len ⟨n, hn⟩
  simp only at e
  rw [← e]
  have : Lib.len8tab.data[n]! = Lib.len8tab[n]'h := getElem!_pos Lib.len8tab.data n h
  rw [this]

set_option maxHeartbeats 4000000 in
set_option maxRecDepth 100000 in
theorem len64_small (x : Int) (w : World) (h0 : 0 ≤ x) (hx : x < 65536) :
    Calls Try.prog 78 #[.int .u64 x] w fun e w' => e = .returned (.int .i64 (Lib.bitLen x.toNat)) ∧ w' = w := by
  by_cases h : x < 256
  · have hb : x < ((Lib.len8tab.size : Nat) : Int) := by rw [Lib.len8tab_size]; omega
    go_enter Try.func78, Try.ntmps78
    go_wp2
    go_ret
    refine ⟨congrArg Ending.returned (congrArg (Value.int IntKind.i64) ?_), rfl⟩
    rw [tab_eq _ _ (by omega)]
    have l := Lib.bitLen_le8' x (by omega) (by omega)
    unfold wrap64
    omega
  · have hb : x / 256 < ((Lib.len8tab.size : Nat) : Int) := by rw [Lib.len8tab_size]; omega
    have hb0 : 0 ≤ x / 256 := by omega
    go_enter Try.func78, Try.ntmps78
    go_wp2
    go_ret
    refine ⟨congrArg Ending.returned (congrArg (Value.int IntKind.i64) ?_), rfl⟩
    rw [tab_eq _ _ (by omega)]
    have e : (x / 256).toNat = x.toNat / 256 := by omega
    have l := Lib.bitLen_le8' (x / 256) (by omega) (by omega)
    have s := Lib.bitLen_shift8 x.toNat (by omega) (by omega)
    rw [e] at l ⊢
    unfold wrap64
    omega
end Go.Proofs.Ytoifalgkeegklaa
