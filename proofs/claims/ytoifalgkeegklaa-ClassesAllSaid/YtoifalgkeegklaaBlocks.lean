/- Lists of blocks in memory. -/
import Derived.Test.YtoifalgkeegklaaHead
import Derived.Test.YtoifalgkeegklaaMem
import Derived.Laws.OwnMore
import Derived.OwnWalk
import Derived.Deep.AppendLies
import Derived.Maps.AppendAt
import Derived.Laws.AppendOwnNone
namespace Go.Proofs.Ytoifalgkeegklaa
open Go.RowKit

/-- A block's cells. -/
def Blk.cs (b : Blk) : List Value := [.int .i64 b.at_, .int .i64 b.size, .int .i64 b.kind, .int .i64 b.typ, .bool b.mark, .int .u64 (b.next : Nat)]
def flat (l : List Blk) : List Value := l.flatMap Blk.cs
theorem flat_len : ∀ l : List Blk, (flat l).length = l.length * 6
  | [] => rfl
  | b :: l => by
    have := flat_len l
    unfold flat at this ⊢
    rw [List.flatMap_cons, List.length_append, this]
    simp [Blk.cs]; omega
theorem flat_append (l m : List Blk) : flat (l ++ m) = flat l ++ flat m := List.flatMap_append
theorem flat_one (b : Blk) : flat [b] = b.cs := by simp [flat]
theorem flat_snoc (l : List Blk) (b : Blk) : flat (l ++ [b]) = flat l ++ b.cs := by rw [flat_append, flat_one]
theorem flat_at : ∀ (l : List Blk) (j f : Nat) (h : j < l.length), f < 6 → (flat l)[j * 6 + f]? = l[j].cs[f]?
  | [], _, _, h, _ => absurd h (by simp)
  | b :: l, 0, f, _, hf => by
    unfold flat
    rw [List.flatMap_cons, List.getElem?_append_left (by simp [Blk.cs]; omega)]
    simp
  | b :: l, j + 1, f, h, hf => by
    have := flat_at l j f (by simpa using h) hf
    unfold flat at this ⊢
    rw [List.flatMap_cons, List.getElem?_append_right (by simp [Blk.cs]; omega)]
    simp only [Blk.cs, List.length_cons, List.length_nil]
    rw [show (j + 1) * 6 + f - (0 + 1 + 1 + 1 + 1 + 1 + 1) = j * 6 + f by omega]
    exact this
theorem cs_one (b : Blk) : ∀ u ∈ b.cs, u.oneCell' = true := by intro u hu; simp [Blk.cs] at hu; rcases hu with rfl | rfl | rfl | rfl | rfl | rfl <;> rfl
theorem flat_one' (l : List Blk) : ∀ u ∈ flat l, u.oneCell' = true := by
  intro u hu
  obtain ⟨b, _, hb⟩ := List.mem_flatMap.1 hu
  exact cs_one b u hb

/-- Six cells that read as a block. -/
def BlkAt (w : World) (g o : Nat) (b : Blk) : Prop :=
  w.cell? ⟨g, o, none⟩ = some (.int .i64 b.at_) ∧ w.cell? ⟨g, o + 1, none⟩ = some (.int .i64 b.size) ∧ w.cell? ⟨g, o + 2, none⟩ = some (.int .i64 b.kind) ∧ w.cell? ⟨g, o + 3, none⟩ = some (.int .i64 b.typ) ∧
  w.cell? ⟨g, o + 4, none⟩ = some (.bool b.mark) ∧ w.cell? ⟨g, o + 5, none⟩ = some (.int .u64 (b.next : Nat))
theorem BlkAt.keep {w w' : World} {g o : Nat} {b : Blk} (h : BlkAt w g o b) (hk : ∀ i, w'.cell? ⟨g, i, none⟩ = w.cell? ⟨g, i, none⟩) : BlkAt w' g o b := by
  obtain ⟨h0, h1, h2, h3, h4, h5⟩ := h
  exact ⟨(hk _).trans h0, (hk _).trans h1, (hk _).trans h2, (hk _).trans h3, (hk _).trans h4, (hk _).trans h5⟩
theorem BlkAt.of_cs {w : World} {g o : Nat} {b : Blk} (h : ∀ f u, b.cs[f]? = some u → w.cell? ⟨g, o + f, none⟩ = some u) : BlkAt w g o b :=
  ⟨h 0 _ rfl, h 1 _ rfl, h 2 _ rfl, h 3 _ rfl, h 4 _ rfl, h 5 _ rfl⟩
theorem BlkAt.cs {w : World} {g o : Nat} {b : Blk} (h : BlkAt w g o b) : ∀ f u, b.cs[f]? = some u → w.cell? ⟨g, o + f, none⟩ = some u := by
  obtain ⟨h0, h1, h2, h3, h4, h5⟩ := h
  intro f u hu
  match f, hu with
  | 0, hu => simp [Blk.cs] at hu; subst hu; exact h0
  | 1, hu => simp [Blk.cs] at hu; subst hu; exact h1
  | 2, hu => simp [Blk.cs] at hu; subst hu; exact h2
  | 3, hu => simp [Blk.cs] at hu; subst hu; exact h3
  | 4, hu => simp [Blk.cs] at hu; subst hu; exact h4
  | 5, hu => simp [Blk.cs] at hu; subst hu; exact h5
  | f + 6, hu => simp [Blk.cs] at hu

/-- A slice that reads as a list of blocks. -/
structure Blks (w : World) (A : Option Addr) (n c : Nat) (l : List Blk) : Prop where
  len : l.length = n
  cap : n ≤ c
  most : c ≤ 9223372036854775807
  none_ : A = none → c = 0
  cell : 0 < n → ∃ g o, A = some ⟨g, o, none⟩ ∧ g < w.heap.size ∧ ∀ j (h : j < l.length), BlkAt w g (o + j * 6) l[j]

theorem Blks.nil {w : World} : Blks w none 0 0 [] := ⟨rfl, Nat.le_refl _, by omega, fun _ => rfl, fun h => absurd h (by omega)⟩
theorem Blks.below {w w' : World} {A : Option Addr} {n c : Nat} {l : List Blk} (h : Blks w A n c l) (hb : Below w.heap.size w w') : Blks w' A n c l :=
  ⟨h.len, h.cap, h.most, h.none_, fun hn => by
    obtain ⟨g, o, e, hl, hc⟩ := h.cell hn
    exact ⟨g, o, e, Nat.lt_of_lt_of_le hl hb.size, fun j hj => (hc j hj).keep fun i => hb.cell (p := ⟨g, i, none⟩) hl⟩⟩
theorem Blks.of_own {w : World} {base c : Nat} {t : TypeId} {A : Option Addr} {l : List Blk} (hown : w.ownsRow base t 6 (.slice A l.length c) l.length (flat l)) (hc : l.length ≤ c) (hm : c ≤ 9223372036854775807) (h0 : A = none → c = 0) : Blks w A l.length c l := by
  refine ⟨rfl, hc, hm, h0, fun hn => ?_⟩
  obtain ⟨g, cap, hv, _, hlt⟩ := hown.form hn
  have hA : A = some ⟨g, 0, none⟩ := by injection hv
  have hcc : c = cap := by injection hv
  subst hA; subst hcc
  refine ⟨g, 0, rfl, hlt, fun j hj => BlkAt.of_cs fun f u hu => ?_⟩
  have hf : f < 6 := by
    rcases Nat.lt_or_ge f 6 with h | h
    · exact h
    · rw [List.getElem?_eq_none (by simp [Blk.cs]; exact h)] at hu; cases hu
  have h1 := hown.cellAt (j * 6 + f) (by have : (j + 1) * 6 ≤ l.length * 6 := Nat.mul_le_mul_right 6 hj; omega)
  rw [flat_at l j f hj hf, hu] at h1
  rw [show 0 + j * 6 + f = j * 6 + f by omega]
  exact h1
/-- The cells of a slice of blocks, as append reads them. -/
theorem Blks.cells_at {w : World} {ad : Addr} {n c : Nat} {l : List Blk} (h : Blks w (some ad) n c l) : ∀ j u, (flat l)[j]? = some u → w.cell? (ad.add j) = some u := by
  intro j u hu
  have hj : j < (flat l).length := by
    rcases Nat.lt_or_ge j (flat l).length with h | h
    · exact h
    · rw [List.getElem?_eq_none h] at hu; cases hu
  rw [flat_len] at hj
  obtain ⟨g, o, e, _, hc⟩ := h.cell (by have := h.len; omega)
  injection e with e
  subst e
  have hq : j / 6 < l.length := by omega
  have h2 : (flat l)[j / 6 * 6 + j % 6]? = some u := by rw [Nat.div_add_mod']; exact hu
  rw [flat_at l (j / 6) (j % 6) hq (Nat.mod_lt _ (by omega))] at h2
  have h3 := (hc (j / 6) hq).cs (j % 6) u h2
  have h4 : (⟨g, o, none⟩ : Addr).add j = ⟨g, o + j, none⟩ := by unfold Addr.add; by_cases h : j = 0 <;> simp [h]
  rw [h4, show o + j = o + j / 6 * 6 + j % 6 by omega]
  exact h3
theorem Blks.drop {w : World} {A : Option Addr} {n c : Nat} {l : List Blk} (h : Blks w A n c l) {k m : Nat} (hk : k < m) (hm : m ≤ n) (hc : c ≤ 9223372036854775807) {g o : Nat} (hA : A = some ⟨g, o, none⟩) {c' : Nat} (hc' : m - k ≤ c') (hcm : c' ≤ c) :
    Blks w (some ⟨g, o + k * 6, none⟩) (m - k) c' ((l.take m).drop k) := by
  refine ⟨by have := h.len; simp; omega, hc', by omega, by simp, fun hn => ?_⟩
  have hlen := h.len
  obtain ⟨g', o', e, hl, hcell⟩ := h.cell (by omega)
  rw [hA] at e
  injection e with e
  injection e with e1 e2
  subst e1; subst e2
  refine ⟨g, o + k * 6, rfl, hl, fun j hj => ?_⟩
  have hj' : j < m - k := by simp at hj; omega
  have := hcell (k + j) (by omega)
  have e2 : ((l.take m).drop k)[j] = l[k + j]'(by omega) := by simp
  rw [e2, show o + k * 6 + j * 6 = o + (k + j) * 6 by omega]
  exact this
theorem info_blk : (Try.prog.info? 24).map (fun i => (i.zero, i.size, i.bytes)) = some (some (.agg #[.int .i64 0, .int .i64 0, .int .i64 0, .int .i64 0, .bool false, .int .u64 0]), 6, 48) := by kernel_rfl
/-- A slice of blocks that the call made itself. -/
def OwnB (w : World) (base : Nat) (v : Value) (l : List Blk) : Prop := w.ownsRow base 24 6 v l.length (flat l)
theorem OwnB.nil (w : World) (base : Nat) : OwnB w base (.slice none 0 0) [] := World.ownsRow_nil _ _ _ _
theorem OwnB.form {w : World} {base : Nat} {v : Value} {l : List Blk} (h : OwnB w base v l) : ∃ A c, v = .slice A l.length c ∧ Blks w A l.length c l := by
  have h' := h
  unfold OwnB at h'
  rcases h'.2 with ⟨rfl, h0⟩ | ⟨g, cap, cur, rfl, _, _, hl, hm, _⟩
  · obtain rfl : l = [] := List.eq_nil_of_length_eq_zero h0
    exact ⟨none, 0, rfl, Blks.nil⟩
  · exact ⟨_, cap, rfl, Blks.of_own h hl (by unfold maxLen at hm; omega) (by simp)⟩
theorem OwnB.kept {w w' : World} {base : Nat} {v : Value} {l : List Blk} (h : OwnB w base v l) (hb : Below w.heap.size w w') : OwnB w' base v l :=
  World.ownsRow.kept (row := none) h ⟨hb.os, hb.tape, hb.output, hb.size, fun k hk _ => hb.block k hk⟩ (by cases v.ownBlock <;> simp)
theorem OwnB.lt {w : World} {base : Nat} {v : Value} {l : List Blk} (h : OwnB w base v l) : ∀ k, v.ownBlock = some k → base ≤ k ∧ k < w.heap.size := World.ownsRow.lt h
theorem OwnB.far {w : World} {base : Nat} {v : Value} {l : List Blk} (h : OwnB w base v l) {g i : Nat} (hg : v.ownBlock ≠ some g) (u : Value) : OwnB (w.setCell ⟨g, i, none⟩ u) base v l :=
  World.ownsRow.kept (row := some g) h ⟨rfl, rfl, rfl, by simp, fun k _ hk => Below.heap_setCell w ⟨g, i, none⟩ u k (fun e => hk (by rw [e]))⟩ (.inr hg)

/-- append(out, b). -/
theorem wpList_append_blk {w : World} {ops : Array Oper} {rest : List Oper} {o : Oper} {a : Act} {Q : Exit → Act → World → Prop} (hgd : o.guard = none) (s x : Operand)
    (ho : o.op = .call { callee := .builtin .append, args := #[s, x], argTypes := #[40, 40] })
    (base : Nat) (v : Value) (l : List Blk) (hs : a.eval s = v) (hown : OwnB w base v l) (b : Blk) (g : Nat) (hx : a.eval x = .slice (some ⟨g, 0, none⟩) 1 1) (hg : g = w.heap.size) (hn : l.length ≤ 1000000) (hbase : base ≤ w.heap.size)
    (k : ∀ v' w', OwnB w' base v' (l ++ [b]) → (w.alloc (.cells #[.int .i64 b.at_, .int .i64 b.size, .int .i64 b.kind, .int .i64 b.typ, .bool b.mark, .int .u64 (b.next : Nat)] 24)).grownBy w' v.ownBlock → (v'.ownBlock = v.ownBlock ∨ v'.ownBlock = some (w.heap.size + 1)) → wpList Try.prog ops Q rest (a.put o.dst v') w') :
    wpList Try.prog ops Q (o :: rest) a (w.alloc (.cells #[.int .i64 b.at_, .int .i64 b.size, .int .i64 b.kind, .int .i64 b.typ, .bool b.mark, .int .u64 (b.next : Nat)] 24)) := by
  subst hg
  obtain ⟨i, hi, hz, h1, h8⟩ := info_parts info_blk
  have hw : (w.alloc (.cells #[.int .i64 b.at_, .int .i64 b.size, .int .i64 b.kind, .int .i64 b.typ, .bool b.mark, .int .u64 (b.next : Nat)] 24)).heap.size = w.heap.size + 1 := by simp
  refine wpList_append_own_at _ hgd s x 40 ho base 24 i _ 6 48 Try.underlying40 hi hz h1 h8 rfl (by decide) v l.length (flat l) hs (World.ownsRow.alloc hown _) ⟨w.heap.size, 0, none⟩ 1 1 b.cs hx rfl ?_ (cs_one b)
    (by unfold maxLen; omega) (by omega) (by rw [hw]; omega) (fun v' w' h2 h3 _ h5 => k v' w' ?_ h3 (by rw [hw] at h5; exact h5))
  · intro j u hj
    have := cell_of_row (w.alloc (.cells #[.int .i64 b.at_, .int .i64 b.size, .int .i64 b.kind, .int .i64 b.typ, .bool b.mark, .int .u64 (b.next : Nat)] 24)) w.heap.size j _ _ _ (heap_alloc_new w _)
    have e : (⟨w.heap.size, 0, none⟩ : Addr).add j = ⟨w.heap.size, j, none⟩ := by unfold Addr.add; by_cases h : j = 0 <;> simp [h]
    rw [e, this, ← hj]
    simp [Blk.cs]
  · unfold OwnB
    rw [List.length_append, flat_snoc]
    exact h2
end Go.Proofs.Ytoifalgkeegklaa
