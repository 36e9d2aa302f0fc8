/- Words with blocks written one behind the other. No program in sight. -/
import Derived.Test.YtoifalgkeegklaaWalkPlain
namespace Go.Proofs.Ytoifalgkeegklaa

/-- Words with blocks written one behind the other. -/
def lay (n : Nat) : List Nat → Nat → List Blk → List Nat
  | ws, _, [] => ws
  | ws, p, b :: l => if p + b.size.toNat ≤ n then lay n ((ws.set p b.hdr).set (p + 1) b.next) (p + b.size.toNat) l else ws
def laid (n : Nat) (l : List Blk) : List Nat := lay n (List.replicate n 0) 128 l
theorem lay_step {n p k : Nat} {ws : List Nat} {l : List Blk} (h : k < l.length) : lay n ws p (l.drop k) = if p + l[k].size.toNat ≤ n then lay n ((ws.set p l[k].hdr).set (p + 1) l[k].next) (p + l[k].size.toNat) (l.drop (k + 1)) else ws := by
  rw [List.drop_eq_getElem_cons h]; rfl
end Go.Proofs.Ytoifalgkeegklaa
