/- Lists of words in memory. -/
import Derived.Below
import Derived.ChangeShapes
namespace Go.Proofs.Ytofigngilcgojaa
open Go.RowKit

/-- A slice that reads as a list of words. -/
structure Words (w : World) (A : Option Addr) (n c : Nat) (ws : List Nat) : Prop where
  len : ws.length = n
  cap : n ≤ c
  most : c ≤ 9223372036854775807
  none_ : A = none → c = 0
  lt : ∀ x ∈ ws, x < 18446744073709551616
  cell : 0 < n → ∃ b o, A = some ⟨b, o, none⟩ ∧ b < w.heap.size ∧ ∀ j (h : j < ws.length), w.cell? ⟨b, o + j, none⟩ = some (.int .u64 (ws[j] : Nat))

theorem Words.nil {w : World} : Words w none 0 0 [] := ⟨rfl, Nat.le_refl _, by omega, fun _ => rfl, by simp, fun h => absurd h (by omega)⟩

theorem lt_of_cell {w : World} {a : Addr} {v : Value} (h : w.cell? a = some v) : a.block < w.heap.size := by
  rcases Nat.lt_or_ge a.block w.heap.size with hl | hl
  · exact hl
  · have : w.heap[a.block]? = none := Array.getElem?_eq_none hl
    simp [World.cell?, this] at h

theorem Words.of_ints {w : World} {x : Addr} {l c : Nat} {zs : List Int} (hl : l ≤ c) (hm : c ≤ maxLen) (hz : zs.length = c)
    (hcell : ∀ i, i < zs.length → w.cell? (x.add i) = some (.int .u64 (zs.getD i 0))) (hwz : ∀ z ∈ zs, ∃ n : Nat, z = n ∧ n < 18446744073709551616) :
    Words w (some x) l c ((zs.take l).map Int.toNat) := by
  refine ⟨by simp; omega, hl, by unfold maxLen at hm; omega, by simp, ?_, ?_⟩
  · intro y hy
    obtain ⟨z, hz1, rfl⟩ := List.mem_map.1 hy
    obtain ⟨n, rfl, hn⟩ := hwz z (List.mem_of_mem_take hz1)
    simpa using hn
  · intro hpos
    obtain ⟨b, o, s⟩ := x
    have h0 := hcell 0 (by omega)
    have hs : s = none := by simpa [Addr.add] using World.cell?_spot h0
    subst hs
    refine ⟨b, o, rfl, ?_, fun j hj => ?_⟩
    · have := lt_of_cell h0
      simpa [Addr.add] using this
    · have hj' : j < l := by simp at hj; omega
      have h1 := hcell j (by omega)
      obtain ⟨n, hn, _⟩ := hwz (zs[j]'(by omega)) (List.getElem_mem _)
      have e : zs.getD j 0 = zs[j]'(by omega) := by simp [List.getD, List.getElem?_eq_getElem (show j < zs.length by omega)]
      rw [e] at h1
      have h2 : (⟨b, o, none⟩ : Addr).add j = ⟨b, o + j, none⟩ := by
        unfold Addr.add; by_cases h : j = 0 <;> simp [h]
      rw [h2] at h1
      rw [h1]
      simp [hn]

theorem Words.below {w w' : World} {A : Option Addr} {n c : Nat} {ws : List Nat} (h : Words w A n c ws) (hb : Below w.heap.size w w') : Words w' A n c ws :=
  ⟨h.len, h.cap, h.most, h.none_, h.lt, fun hn => by
    obtain ⟨b, o, e, hl, hc⟩ := h.cell hn
    exact ⟨b, o, e, Nat.lt_of_lt_of_le hl hb.size, fun j hj => (hb.cell (p := ⟨b, o + j, none⟩) hl).trans (hc j hj)⟩⟩
end Go.Proofs.Ytofigngilcgojaa
