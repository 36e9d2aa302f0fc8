/- Lists of numbers, and lists of such lists, in memory. -/
import Derived.Test.YtoifalgkeegklaaBlocks
import Derived.Test.YtoifalgkeegklaaOwn
import Derived.Deep.AppendLies
namespace Go.Proofs.Ytoifalgkeegklaa
open Go.RowKit

theorem info_int : (Try.prog.info? 3).map (fun i => (i.zero, i.size, i.bytes)) = some (some (.int .i64 0), 1, 8) := by kernel_rfl
theorem info_ints : (Try.prog.info? 69).map (fun i => (i.zero, i.size, i.bytes)) = some (some (.slice none 0 0), 1, 24) := by kernel_rfl
/-- A number in a cell. -/
def iv (z : Int) : Value := .int .i64 z

/-- A slice that reads as a list of numbers. -/
structure Ints (w : World) (A : Option Addr) (n c : Nat) (zs : List Int) : Prop where
  len : zs.length = n
  cap : n ≤ c
  most : c ≤ 9223372036854775807
  none_ : A = none → c = 0
  cell : 0 < n → ∃ b o, A = some ⟨b, o, none⟩ ∧ b < w.heap.size ∧ ∀ j (h : j < zs.length), w.cell? ⟨b, o + j, none⟩ = some (.int .i64 zs[j])
theorem Ints.nil {w : World} : Ints w none 0 0 [] := ⟨rfl, Nat.le_refl _, by omega, fun _ => rfl, fun h => absurd h (by omega)⟩
theorem Ints.below {w w' : World} {A : Option Addr} {n c : Nat} {zs : List Int} (h : Ints w A n c zs) (hb : Below w.heap.size w w') : Ints w' A n c zs :=
  ⟨h.len, h.cap, h.most, h.none_, fun hn => by
    obtain ⟨b, o, e, hl, hc⟩ := h.cell hn
    exact ⟨b, o, e, Nat.lt_of_lt_of_le hl hb.size, fun j hj => (hb.cell (p := ⟨b, o + j, none⟩) hl).trans (hc j hj)⟩⟩
theorem Ints.at_ {w : World} {A : Option Addr} {n c : Nat} {zs : List Int} (h : Ints w A n c zs) (hn : 0 < n) : ∃ g o, A = some ⟨g, o, none⟩ ∧ g < w.heap.size := by
  obtain ⟨g, o, e, hg, _⟩ := h.cell hn
  exact ⟨g, o, e, hg⟩
theorem Ints.same {w : World} {g o n c : Nat} {zs : List Int} (h : Ints w (some ⟨g, o, none⟩) n c zs) {j : Nat} (hj : j < zs.length) : w.cell? ⟨g, o + j, none⟩ = some (.int .i64 zs[j]) := by
  obtain ⟨g', o', e, _, h1⟩ := h.cell (by have := h.len; omega)
  injection e with e
  injection e with e1 e2
  subst e1; subst e2
  exact h1 j hj
/-- A value that reads as a list of numbers. -/
def RowVal (w : World) (v : Value) (zs : List Int) : Prop := ∃ A c, v = .slice A zs.length c ∧ Ints w A zs.length c zs
theorem RowVal.below {w w' : World} {v : Value} {zs : List Int} (h : RowVal w v zs) (hb : Below w.heap.size w w') : RowVal w' v zs := by
  obtain ⟨A, c, e, hi⟩ := h
  exact ⟨A, c, e, hi.below hb⟩

/-- A slice that reads as a list of lists of numbers. -/
structure Rows2 (w : World) (A : Option Addr) (n c : Nat) (L : List (List Int)) : Prop where
  len : L.length = n
  cap : n ≤ c
  most : c ≤ 9223372036854775807
  none_ : A = none → c = 0
  cell : 0 < n → ∃ g o, A = some ⟨g, o, none⟩ ∧ g < w.heap.size ∧ ∀ j (h : j < L.length), ∃ v, w.cell? ⟨g, o + j, none⟩ = some v ∧ RowVal w v L[j]
theorem Rows2.nil {w : World} : Rows2 w none 0 0 [] := ⟨rfl, Nat.le_refl _, by omega, fun _ => rfl, fun h => absurd h (by omega)⟩
theorem Rows2.below {w w' : World} {A : Option Addr} {n c : Nat} {L : List (List Int)} (h : Rows2 w A n c L) (hb : Below w.heap.size w w') : Rows2 w' A n c L :=
  ⟨h.len, h.cap, h.most, h.none_, fun hn => by
    obtain ⟨g, o, e, hl, hc⟩ := h.cell hn
    refine ⟨g, o, e, Nat.lt_of_lt_of_le hl hb.size, fun j hj => ?_⟩
    obtain ⟨v, h1, h2⟩ := hc j hj
    exact ⟨v, (hb.cell (p := ⟨g, o + j, none⟩) hl).trans h1, h2.below hb⟩⟩
theorem Rows2.at_ {w : World} {A : Option Addr} {n c : Nat} {L : List (List Int)} (h : Rows2 w A n c L) (hn : 0 < n) : ∃ g o, A = some ⟨g, o, none⟩ ∧ g < w.heap.size := by
  obtain ⟨g, o, e, hg, _⟩ := h.cell hn
  exact ⟨g, o, e, hg⟩
theorem Rows2.same {w : World} {g o n c : Nat} {L : List (List Int)} (h : Rows2 w (some ⟨g, o, none⟩) n c L) {j : Nat} (hj : j < L.length) : ∃ A k, w.cell? ⟨g, o + j, none⟩ = some (.slice A L[j].length k) ∧ Ints w A L[j].length k L[j] := by
  obtain ⟨g', o', e, _, h1⟩ := h.cell (by have := h.len; omega)
  injection e with e
  injection e with e1 e2
  subst e1; subst e2
  obtain ⟨v, h2, A, k, rfl, h3⟩ := h1 j hj
  exact ⟨A, k, h2, h3⟩

/-- A list of numbers that the call made itself. -/
def OwnI (w : World) (base : Nat) (v : Value) (zs : List Int) : Prop := w.ownsRow base 3 1 v zs.length (zs.map iv)
section
variable {w w' : World} {base : Nat} {v : Value} {zs : List Int}
theorem OwnI.nil (w : World) (base : Nat) : OwnI w base (.slice none 0 0) [] := World.ownsRow_nil _ _ _ _
theorem OwnI.form (h : OwnI w base v zs) : ∃ A c, v = .slice A zs.length c ∧ Ints w A zs.length c zs := by
  have h' := h
  unfold OwnI at h'
  rcases h'.2 with ⟨rfl, h0⟩ | ⟨g, cap, cur, rfl, _, hg, hl, hm, _⟩
  · obtain rfl : zs = [] := List.eq_nil_of_length_eq_zero h0
    exact ⟨none, 0, rfl, Ints.nil⟩
  · refine ⟨_, cap, rfl, rfl, hl, by unfold maxLen at hm; omega, by simp, fun hn => ⟨g, 0, rfl, ?_, fun j hj => ?_⟩⟩
    · rcases Nat.lt_or_ge g w.heap.size with hlt | hge
      · exact hlt
      · rw [Array.getElem?_eq_none hge] at hg; cases hg
    · rw [Nat.zero_add, World.ownsRow.cellAt h' j (by omega), List.getElem?_map, List.getElem?_eq_getElem hj]
      rfl
theorem OwnI.row (h : OwnI w base v zs) : RowVal w v zs := h.form
theorem OwnI.kept (h : OwnI w base v zs) (hb : Below w.heap.size w w') : OwnI w' base v zs :=
  World.ownsRow.kept (row := none) h ⟨hb.os, hb.tape, hb.output, hb.size, fun k hk _ => hb.block k hk⟩ (by cases v.ownBlock <;> simp)
theorem OwnI.grown (h : OwnI w base v zs) {row : Option Nat} (hg : w.grownBy w' row) (hne : ∀ b, v.ownBlock = some b → row ≠ some b) : OwnI w' base v zs :=
  World.ownsRow.kept h hg (by
    cases hv : v.ownBlock with
    | none => exact .inl rfl
    | some b => exact .inr (fun e => hne b hv e.symm))
theorem OwnI.far (h : OwnI w base v zs) {g i : Nat} (hg : v.ownBlock ≠ some g) (u : Value) : OwnI (w.setCell ⟨g, i, none⟩ u) base v zs :=
  World.ownsRow.kept (row := some g) h ⟨rfl, rfl, rfl, by simp, fun k _ hk => Below.heap_setCell w ⟨g, i, none⟩ u k (fun e => hk (by rw [e]))⟩ (.inr hg)
theorem OwnI.lt (h : OwnI w base v zs) : ∀ k, v.ownBlock = some k → base ≤ k ∧ k < w.heap.size := World.ownsRow.lt h
end

/-- A block of slices, each of which the call made itself. -/
structure OwnRows (w : World) (g : Nat) (vs : List Value) (L : List (List Int)) : Prop where
  len : vs.length = L.length
  cells : Cells w g 69 vs.toArray
  row : ∀ i (h : i < vs.length) (h' : i < L.length), OwnI w (g + 1) vs[i] L[i]
  apart : ∀ i j (h : i < vs.length) (h' : j < vs.length), i ≠ j → ∀ b, vs[i].ownBlock = some b → vs[j].ownBlock ≠ some b
theorem OwnRows.kept {w w' : World} {g : Nat} {vs : List Value} {L : List (List Int)} (h : OwnRows w g vs L) (hb : Below w.heap.size w w') : OwnRows w' g vs L :=
  ⟨h.len, h.cells.kept hb, fun i h1 h2 => (h.row i h1 h2).kept hb, h.apart⟩
theorem OwnRows.put {w w' : World} {g : Nat} {vs : List Value} {L : List (List Int)} {i : Nat} {v' : Value} {zs : List Int} (h : OwnRows w g vs L) (hi : i < vs.length) (hi' : i < L.length)
    (hown : OwnI w' (g + 1) v' zs) (hg : w.grownBy w' vs[i].ownBlock) (hat : v'.ownBlock = vs[i].ownBlock ∨ v'.ownBlock = some w.heap.size) :
    OwnRows (w'.setCell ⟨g, i, none⟩ v') g (vs.set i v') (L.set i zs) := by
  have hgi : vs[i].ownBlock ≠ some g := fun e => by have := ((h.row i hi hi').lt _ e).1; omega
  refine ⟨by simp [h.len], ?_, ?_, ?_⟩
  · have := (h.cells.grown hg hgi).set_ i v'
    simpa using this
  · intro j h1 h2
    simp only [List.length_set] at h1 h2
    by_cases hj : i = j
    · subst hj
      rw [List.getElem_set_self, List.getElem_set_self]
      exact hown.far (fun e => by have := (hown.lt _ e).1; omega) _
    · rw [List.getElem_set_ne hj, List.getElem_set_ne hj]
      have h3 := (h.row j h1 h2).grown hg (fun b hb => h.apart j i h1 hi (fun e => hj e.symm) b hb)
      exact h3.far (fun e => by have := (h3.lt _ e).1; omega) _
  · intro j k h1 h2 hne b hb
    simp only [List.length_set] at h1 h2
    rw [List.getElem_set] at hb ⊢
    by_cases hj : i = j
    · subst hj
      rw [if_pos rfl] at hb
      rw [if_neg hne]
      rcases hat with e | e
      · rw [e] at hb; exact h.apart i k hi h2 hne b hb
      · intro e2
        rw [e] at hb
        injection hb with hb
        have := ((h.row k h2 (by rw [← h.len]; exact h2)).lt _ e2).2
        omega
    · rw [if_neg hj] at hb
      by_cases hk : i = k
      · subst hk
        rw [if_pos rfl]
        rcases hat with e | e
        · rw [e]; exact h.apart j i h1 hi hne b hb
        · intro e2
          rw [e] at e2
          injection e2 with e2
          have := ((h.row j h1 (by rw [← h.len]; exact h1)).lt _ hb).2
          omega
      · rw [if_neg hk]; exact h.apart j k h1 h2 hne b hb
theorem OwnRows.rows {w : World} {g : Nat} {vs : List Value} {L : List (List Int)} (h : OwnRows w g vs L) {n : Nat} (hn : L.length = n) (hm : n ≤ 9223372036854775807) : Rows2 w (some ⟨g, 0, none⟩) n n L := by
  refine ⟨hn, Nat.le_refl _, hm, by simp, fun _ => ⟨g, 0, rfl, h.cells.lt, fun j hj => ?_⟩⟩
  have hj' : j < vs.length := by rw [h.len]; exact hj
  have hc := h.cells.cell j
  rw [List.getElem?_toArray, List.getElem?_eq_getElem hj'] at hc
  exact ⟨vs[j], by rw [Nat.zero_add]; exact hc, (h.row j hj' hj).row⟩

/-- append(out, z), at a plain region. -/
theorem wpList_append_int {w : World} {ops : Array Oper} {rest : List Oper} {o : Oper} {a : Act} {Q : Exit → Act → World → Prop} (hgd : o.guard = none) (s x : Operand)
    (ho : o.op = .call { callee := .builtin .append, args := #[s, x], argTypes := #[69, 69] })
    (base : Nat) (v : Value) (zs : List Int) (hs : a.eval s = v) (hown : OwnI w base v zs) (z : Int) (g : Nat) (hx : a.eval x = .slice (some ⟨g, 0, none⟩) 1 1) (hg : g = w.heap.size) (hn : zs.length ≤ 1000000) (hbase : base ≤ w.heap.size)
    (k : ∀ v' w', OwnI w' base v' (zs ++ [z]) → (w.alloc (.cells #[.int .i64 z] 3)).grownBy w' v.ownBlock → (v'.ownBlock = v.ownBlock ∨ v'.ownBlock = some (w.heap.size + 1)) → wpList Try.prog ops Q rest (a.put o.dst v') w') :
    wpList Try.prog ops Q (o :: rest) a (w.alloc (.cells #[.int .i64 z] 3)) := by
  subst hg
  obtain ⟨i, hi, hz, h1, h8⟩ := info_parts info_int
  have hw : (w.alloc (.cells #[.int .i64 z] 3)).heap.size = w.heap.size + 1 := by simp
  refine wpList_append_own_at _ hgd s x 69 ho base 3 i _ 1 8 Try.underlying69 hi hz h1 h8 rfl (by decide) v zs.length (zs.map iv) hs (World.ownsRow.alloc hown _) ⟨w.heap.size, 0, none⟩ 1 1 [iv z] hx rfl ?_ (by intro u hu; simp at hu; subst hu; rfl)
    (by unfold maxLen; omega) (by omega) (by rw [hw]; omega) (fun v' w' h2 h3 _ h5 => k v' w' ?_ h3 (by rw [hw] at h5; exact h5))
  · intro j u hj
    have := cell_of_row (w.alloc (.cells #[.int .i64 z] 3)) w.heap.size j _ _ _ (heap_alloc_new w _)
    have e : (⟨w.heap.size, 0, none⟩ : Addr).add j = ⟨w.heap.size, j, none⟩ := by unfold Addr.add; by_cases h : j = 0 <;> simp [h]
    rw [e, this, ← hj]
    simp [iv]
  · unfold OwnI
    rw [List.length_append, List.map_append]
    exact h2
/-- append(out, own), at a plain region. -/
theorem wpList_append_val {w : World} {ops : Array Oper} {rest : List Oper} {o : Oper} {a : Act} {Q : Exit → Act → World → Prop} (hgd : o.guard = none) (s x : Operand)
    (ho : o.op = .call { callee := .builtin .append, args := #[s, x], argTypes := #[60, 60] })
    (base : Nat) (v : Value) (vs : List Value) (hs : a.eval s = v) (hown : w.ownsRow base 69 1 v vs.length vs) (A : Option Addr) (n c : Nat) (g : Nat) (hx : a.eval x = .slice (some ⟨g, 0, none⟩) 1 1) (hg : g = w.heap.size) (hn : vs.length ≤ 1000000) (hbase : base ≤ w.heap.size)
    (k : ∀ v' w', w'.ownsRow base 69 1 v' (vs ++ [Value.slice A n c]).length (vs ++ [Value.slice A n c]) → (w.alloc (.cells #[.slice A n c] 69)).grownBy w' v.ownBlock → (v'.ownBlock = v.ownBlock ∨ v'.ownBlock = some (w.heap.size + 1)) → wpList Try.prog ops Q rest (a.put o.dst v') w') :
    wpList Try.prog ops Q (o :: rest) a (w.alloc (.cells #[.slice A n c] 69)) := by
  subst hg
  obtain ⟨i, hi, hz, h1, h8⟩ := info_parts info_ints
  have hw : (w.alloc (.cells #[.slice A n c] 69)).heap.size = w.heap.size + 1 := by simp
  refine wpList_append_own_at _ hgd s x 60 ho base 69 i _ 1 24 Try.underlying60 hi hz h1 h8 rfl (by decide) v vs.length vs hs (World.ownsRow.alloc hown _) ⟨w.heap.size, 0, none⟩ 1 1 [.slice A n c] hx rfl ?_ (by intro u hu; simp at hu; subst hu; rfl)
    (by unfold maxLen; omega) (by omega) (by rw [hw]; omega) (fun v' w' h2 h3 _ h5 => k v' w' ?_ h3 (by rw [hw] at h5; exact h5))
  · intro j u hj
    have := cell_of_row (w.alloc (.cells #[.slice A n c] 69)) w.heap.size j _ _ _ (heap_alloc_new w _)
    have e : (⟨w.heap.size, 0, none⟩ : Addr).add j = ⟨w.heap.size, j, none⟩ := by unfold Addr.add; by_cases h : j = 0 <;> simp [h]
    rw [e, this, ← hj]
    simp
  · rw [List.length_append]
    exact h2
end Go.Proofs.Ytoifalgkeegklaa
