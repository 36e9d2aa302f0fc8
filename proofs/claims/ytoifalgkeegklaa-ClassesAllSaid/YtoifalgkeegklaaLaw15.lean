/- The law that compares package walk with its reference, walked. -/
import Derived.Test.YtoifalgkeegklaaLaid
namespace Go.Proofs.Ytoifalgkeegklaa
open Go.RowKit

theorem twin_words (A : Option Addr) (n c : Nat) (ws : List Nat) (w : World) (h : Words w A n c ws) (hn : n ≤ 1000000) :
    Calls Try.prog 31 #[.slice A n c] w fun e w' => ∃ A' c', e = .returned (.slice A' n c') ∧ Words w' A' n c' ws ∧ Below w.heap.size w w' :=
  (twin_any A n c ws w h hn).mono fun _ _ ⟨A', c', e, hown, hb⟩ => ⟨A', c', e, Words.own hown h.lt, hb⟩
theorem same_words (A : Option Addr) (n c : Nat) (A' : Option Addr) (c' : Nat) (ws : List Nat) (w : World) (h : Words w A n c ws) (h' : Words w A' n c' ws) :
    Calls Try.prog 36 #[.slice A n c, .slice A' n c'] w fun e w' => e = .returned (.bool true) ∧ Below w.heap.size w w' := same_eq A n c A' c' ws w h h'

end Go.Proofs.Ytoifalgkeegklaa
