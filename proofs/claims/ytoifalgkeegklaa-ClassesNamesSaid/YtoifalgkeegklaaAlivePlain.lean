/- The chapter's examples, reckoned. No program in sight. -/
import Derived.Test.YtoifalgkeegklaaLaidPlain
namespace Go.Proofs.Ytoifalgkeegklaa

instance : DecidableEq Blk := fun a b => decidable_of_iff (a.at_ = b.at_ ∧ a.size = b.size ∧ a.kind = b.kind ∧ a.typ = b.typ ∧ a.mark = b.mark ∧ a.next = b.next)
  ⟨fun ⟨h1, h2, h3, h4, h5, h6⟩ => Blk.eq h1 h2 h3 h4 h5 h6, fun h => by subst h; exact ⟨rfl, rfl, rfl, rfl, rfl, rfl⟩⟩
def freeB (z : Int) : Blk := ⟨0, z, 2, 0, false, 0⟩
def objB (z : Int) : Blk := ⟨0, z, 1, 0, false, 0⟩

theorem ex_one : allR (laid 256 [freeB 128]) = ([⟨128, 128, 2, 0, false, 0⟩], 0) := by decide +kernel
theorem ex_side : allR (laid 256 [objB 4, freeB 24, freeB 100]) = ([], 50) := by decide +kernel
theorem ex_three : fromR (laid 256 [objB 4, freeB 24, freeB 100]) 128 = ([⟨128, 4, 1, 0, false, 0⟩, ⟨132, 24, 2, 0, false, 0⟩, ⟨156, 100, 2, 0, false, 0⟩], 0) := by decide +kernel
end Go.Proofs.Ytoifalgkeegklaa
