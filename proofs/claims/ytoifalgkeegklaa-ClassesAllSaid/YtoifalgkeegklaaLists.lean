/- Lists of package classes, walked. -/
import Derived.Test.YtoifalgkeegklaaInts
import Derived.Test.YtoifalgkeegklaaListsPlain
import Derived.Test.YtoifalgkeegklaaExt
import Derived.Test.YtoifalgkeegklaaClassB
import Derived.Deep.RegionLaw
import Derived.Deep.CutRange
import Derived.Deep.LoopGhost
namespace Go.Proofs.Ytoifalgkeegklaa
open Go.RowKit

/-- The end of a call that returns lists of numbers and an error. -/
def RowsEnd (w : World) (r : List (List Int) × Int) (e : Ending) (w' : World) : Prop :=
  ∃ A c, e = .returned (.tuple #[.slice A r.1.length c, .int .i64 r.2]) ∧ Rows2 w' A r.1.length c r.1 ∧ Below w.heap.size w w'
theorem RowsEnd.none_ {w w' : World} {x : Int} (hb : Below w.heap.size w w') : RowsEnd w ([], x) (.returned (.tuple #[.slice none 0 0, .int .i64 x])) w' := ⟨none, 0, rfl, Rows2.nil, hb⟩

set_option maxRecDepth 100000 in
theorem lists_err (A : Option Addr) (n c : Nat) (x : Int) (w : World) (hx : x ≠ 0) (C : Hid (Calls Try.prog 26 #[.slice A n c] w (BlksEnd w ([], x)))) :
    Calls Try.prog 43 #[.slice A n c] w (RowsEnd w ([], x)) := by
  have h1 : (x != 0) = true := by simpa using hx
  clear hx
  go_enter Try.func43, Try.ntmps43
  go_wp2_with fail
  refine C.out.mono ?_
  rintro e w1 ⟨B, d, rfl, _, hb1⟩
  go_wp2
  go_ret2
  exact RowsEnd.none_ hb1

theorem mk_rows (W : World) : (Instr.makeSlice 60 (.int .i64 11) (.int .i64 11)).run Try.prog W = .ok (.slice (some ⟨W.heap.size, 0, none⟩) 11 11) (W.alloc (.cells (madeCells #[.slice none 0 0] 11) 69)) := by
  obtain ⟨i, hi, hz, h1, h8⟩ := info_parts info_ints
  have hr := run_make (P := Try.prog) W 60 69 i (.slice none 0 0) Try.underlying60 hi hz .i64 .i64 11 11 (by omega) (Int.le_refl _) (by rw [h8]; omega) (by omega)
  simp only [h1, Nat.mul_one] at hr
  exact hr
theorem made_rows (w : World) (t : TypeId) (ht : t = 69) : OwnRows (w.alloc (.cells (madeCells #[.slice none 0 0] 11) t)) w.heap.size (List.replicate 11 (.slice none 0 0)) (lists []) := by
  subst ht
  refine ⟨by rw [lists_len]; simp, ?_, ?_, ?_⟩
  · have e : madeCells #[.slice none 0 0] 11 = (List.replicate 11 (.slice none 0 0)).toArray := by
      apply Array.toList_inj.1
      rw [toList_madeCells_one]
    rw [e]; exact Cells.new _ _ _
  · intro i h1 h2
    have e1 : (lists [])[i] = [] := by rw [lists_get]; rfl
    rw [e1]
    simp only [List.getElem_replicate]
    exact OwnI.nil _ _
  · intro i j h1 h2 _ b hb
    simp only [List.getElem_replicate] at hb
    cases hb

def ListsRel (l : List Blk) (w1 : World) (gk : Nat) (t : Value) (wr : World) : Prop :=
  ∃ (k : Nat) (vs : List Value), gk = l.length - k ∧ t = .int .i64 k ∧ k ≤ l.length ∧ OwnRows wr w1.heap.size vs (lists (l.take k)) ∧ Since w1 wr

def PutRow (l : List Blk) (k : Nat) (w1 wx : World) : Prop := ∃ vs, OwnRows wx w1.heap.size vs (lists (l.take (k + 1))) ∧ Since w1 wx
theorem OwnRows.put_row {W w5 w1 : World} {l : List Blk} {k q d0 gg cap H : Nat} {vs : List Value} {A0 : Option Addr} {zs : List Int} {z : Int} (h : OwnRows W w1.heap.size vs (lists (l.take k))) (hq : q < vs.length) (hqL : q < (lists (l.take k)).length)
    (hv : vs[q].ownBlock = (Value.slice A0 zs.length d0).ownBlock) (hown : w5.ownsRow (w1.heap.size + 1) 3 1 (.slice (some ⟨gg, 0, none⟩) (zs.length + 1) cap) (zs.length + 1) (zs.map iv ++ [.int .i64 z]))
    (hg : W.grownBy w5 (Value.slice A0 zs.length d0).ownBlock) (hat : (Value.slice A0 zs.length d0).ownBlock = some gg ∨ gg = H) (hH : W.heap.size = H) (hS : lists (l.take (k + 1)) = (lists (l.take k)).set q (zs ++ [z])) (hb : Since w1 W) :
    PutRow l k w1 (w5.setCell ⟨w1.heap.size, q, none⟩ (.slice (some ⟨gg, 0, none⟩) (zs.length + 1) cap)) := by
  subst hH
  refine ⟨vs.set q (.slice (some ⟨gg, 0, none⟩) (zs.length + 1) cap), ?_, ?_⟩
  · rw [hS]
    refine h.put hq hqL ?_ (by rw [hv]; exact hg) ?_
    · unfold OwnI
      rw [List.length_append, List.map_append]
      exact hown
    · rw [hv]
      rcases hat with e | e
      · exact .inl e.symm
      · exact .inr (by rw [e]; rfl)
  · refine Since.setCell (Since.grown hb hg fun b hb2 => ?_) (Nat.le_refl _) _
    rw [← hv] at hb2
    have := ((h.row q hq hqL).lt b hb2).1
    omega

set_option maxRecDepth 100000 in
set_option maxHeartbeats 4000000 in
theorem lists_ok (A : Option Addr) (n c : Nat) (l : List Blk) (w : World) (hl : l.length ≤ 1000000) (hz : Sized l) (C : Hid (Calls Try.prog 26 #[.slice A n c] w (BlksEnd w (l, 0)))) :
    Calls Try.prog 43 #[.slice A n c] w (RowsEnd w (lists l, 0)) := by
  have mk := mk_rows
  obtain ⟨i0, hi0, hz0, hz1, hz2⟩ := info_parts info_int
  have II := Lib.hid (And.intro hi0 (And.intro hz0 (And.intro hz1 hz2)))
  clear hi0 hz0 hz1 hz2
  have HZ := Lib.hid hz
  have LL := Lib.hid fun l => lists_len l
  clear hz
  go_enter Try.func43, Try.ntmps43
  go_wp2_with fail
  refine C.out.mono ?_
  rintro e w1 ⟨B, d, rfl, hB, hb1⟩
  have HB := Lib.hid hB
  have A1 := Lib.hid (show Since w w1 from hb1)
  clear hB hb1
  have hcap := HB.out.cap
  have hmost := HB.out.most
  go_wp2
  go_loopg [22] l.length (fun gk t wr => ListsRel l w1 gk t wr)
  case atStart => exact ⟨0, _, rfl, rfl, Nat.zero_le _, made_rows w1 _ rfl, Since.alloc (Since.refl _) _⟩
  case round =>
    obtain ⟨k, vs, rfl, rfl, hk, hR, hnx⟩ := hrel
    obtain ⟨w2, hw2⟩ : ∃ x, x = wr := ⟨_, rfl⟩
    subst hw2
    have B2 := Lib.hid hnx
    have A2 := Lib.hid (Since.trans A1.out hnx)
    have R2 := Lib.hid hR
    have s2 := B2.out.size
    have zr := R2.out.cells.lt
    clear hnx hR
    by_cases hlt : k < l.length
    · obtain ⟨g, o, rfl, hg⟩ := HB.out.at_ (by omega)
      have hg2 : g < w2.heap.size := by omega
      obtain ⟨c0, c1, c2', c3, c4, c5⟩ := (HB.out.below B2.out).same hlt
      obtain ⟨hs2, hs19⟩ := HZ.out.get hlt
      obtain ⟨q, hq⟩ : ∃ q, cls l[k] = q := ⟨_, rfl⟩
      have hcl := cls_range HZ.out hlt
      have ST := Lib.hid (lists_step hlt)
      rw [hq] at hcl ST
      have hvl : vs.length = 11 := by rw [R2.out.len]; exact LL.out _
      have hqv : q < vs.length := by omega
      have hqL : q < (lists (l.take k)).length := by rw [LL.out]; omega
      have hzl : (clsL q (l.take k)).length ≤ 1000000 := by have := clsL_len q (l.take k); have := List.length_take_le k l; omega
      have CO := Lib.hid fun W => class_ok l[k].size.toNat W (by omega) (by omega)
      have hro := R2.out.row q hqv hqL
      rw [lists_get] at hro
      obtain ⟨zs, hzs⟩ : ∃ zs, clsL q (l.take k) = zs := ⟨_, rfl⟩
      rw [hzs] at hro hzl ST
      obtain ⟨A0, d0, hv0, hI0⟩ := hro.form
      have hc2 := R2.out.cells.cell q
      rw [List.getElem?_toArray, List.getElem?_eq_getElem hqv, hv0] at hc2
      have hf2 := R2.out.cells.frozen q
      have hq2 : Nat.log2 l[k].size.toNat = q := hq
      rw [hq2] at CO
      have hbl : vs[q].ownBlock = (Value.slice A0 zs.length d0).ownBlock := by rw [hv0]
      have HV0 := Lib.hid hv0
      have HVL := Lib.hid hvl
      rw [hv0] at hro
      have OW2 := Lib.hid hro
      obtain ⟨S, hS⟩ := Int.eq_ofNat_of_zero_le (show 0 ≤ l[k].size by omega)
      rw [hS, Int.toNat_natCast] at CO
      rw [hS] at c1
      generalize l[k] = b at *
      obtain ⟨ba, bs, bk, bt, bm, bn⟩ := b
      simp only at ST c0 c1 c2' c3 c4 c5 hS
      have HST := Lib.hid ST.out
      have HBL := Lib.hid hbl
      clear hzs hq hq2 hro hI0 hv0 hS hbl ST hvl
      have X3 := Lib.hid (Cells.new w2 24 #[.int .i64 ba, .int .i64 S, .int .i64 bk, .int .i64 bt, .bool bm, .int .u64 (bn : Nat)])
      have R3 := Lib.hid (R2.out.kept (Since.out (Since.alloc (Since.refl w2) (.cells #[.int .i64 ba, .int .i64 S, .int .i64 bk, .int .i64 bt, .bool bm, .int .u64 (bn : Nat)] 24))))
      have B3 := Lib.hid (Since.alloc B2.out (.cells #[.int .i64 ba, .int .i64 S, .int .i64 bk, .int .i64 bt, .bool bm, .int .u64 (bn : Nat)] 24))
      have OW3 := Lib.hid (OW2.out.kept (Since.out (Since.alloc (Since.refl w2) (.cells #[.int .i64 ba, .int .i64 S, .int .i64 bk, .int .i64 bt, .bool bm, .int .u64 (bn : Nat)] 24))))
      have z3 : w2.heap.size < (w2.alloc (.cells #[.int .i64 ba, .int .i64 S, .int .i64 bk, .int .i64 bt, .bool bm, .int .u64 (bn : Nat)] 24)).heap.size := by simp
      go_wp2_with fail
      refine (CO.out _).mono ?_
      rintro e wd ⟨rfl, rfl⟩
      go_wp2_with fail
      generalize w2.alloc (.cells #[.int .i64 ba, .int .i64 S, .int .i64 bk, .int .i64 bt, .bool bm, .int .u64 (bn : Nat)] 24) = w3 at X3 R3 B3 OW3 z3 ⊢
      clear c0 c1 c2' c3 c4 c5 hc2 hf2
      have hc2 := R3.out.cells.cell q
      rw [List.getElem?_toArray, List.getElem?_eq_getElem hqv, HV0.out] at hc2
      have hf2 := R3.out.cells.frozen q
      obtain ⟨x0, _⟩ := X3.out.six
      have hlo := OW3.out.lt
      have an1 : some w1.heap.size ≠ (Value.slice A0 zs.length d0).ownBlock := fun e => by have := (hlo _ e.symm).1; omega
      have an2 : some w2.heap.size ≠ (Value.slice A0 zs.length d0).ownBlock := fun e => by have := (OW2.out.lt _ e.symm).2; omega
      obtain ⟨hi0, hz0, hz1, hz2⟩ := II.out
      have hn3 : zs.length + 1 ≤ maxLen := by unfold maxLen; omega
      have hb3 : (zs.length + 1) * 8 ≤ 140737488355328 := by omega
      have OW4 := Lib.hid (World.ownsRow.drew (World.ownsRow.alloc OW3.out (.cells #[.int .i64 ba] 3)))
      have R4 := Lib.hid (R3.out.kept (Since.out (Since.drew (Since.alloc (Since.refl w3) (.cells #[.int .i64 ba] 3)))))
      have hf4 := R4.out.cells.frozen q
      have F4 := Lib.hid hf4
      have hs3 := B3.out.size
      clear hlo hf4
      have hc4 := R4.out.cells.cell q
      rw [List.getElem?_toArray, List.getElem?_eq_getElem hqv, HV0.out] at hc4
      have C4 := Lib.hid hc4
      clear hc4
      have hw13 := R3.out.cells.lt
      have hq11 : q < 11 := by omega
      have hqi : (q : Int) < 11 := by omega
      have hq0 : (0 : Int) ≤ (q : Int) := by omega
      go_region_law ((refine step_append_lies _ (by rfl) _ _ _ (by rfl) (w1.heap.size + 1) 3 i0 _ 1 8 Try.underlying69 hi0 hz0 hz1 hz2 rfl (by omega) (.slice A0 zs.length d0) zs.length (zs.map iv) (by rfl) OW4.out ⟨w3.heap.size, 0, none⟩ 1 1 [.int .i64 ba] (by rfl) (by rfl) (World.news_of_block (cs := #[.int .i64 ba]) (t := 3) (fr := (0, 0)) (heap_alloc_new w3 _)) (by simp [Value.oneCell']) (by omega) hn3 hb3 (by simp; omega) (w3.heap.size + 1) (by simp) ?_; intro gg cap w5 hown5 hgrow hat hlt5; have hf5 := (hgrow.frozen_far ⟨w1.heap.size, q, none⟩ (by simp; omega) an1).trans F4.out; have hc5 := (hgrow.cell_far ⟨w1.heap.size, q, none⟩ (by simp; omega) an1).trans C4.out))
      all_goals
        have PR := Lib.hid (R4.out.put_row hqv hqL HBL.out hown5 hgrow hat (by simp) HST.out (by repeat (first | with_reducible exact B3.out | with_reducible exact Since.refl _ | with_reducible refine Since.alloc ?_ _ | with_reducible refine Since.setCell ?_ (by first | omega | (simp; done) | (simp; omega)) _ | with_reducible refine Since.drew ?_ | with_reducible refine Since.drewN ?_ _)))
        go_wp2
        go_roundg (l.length - (k + 1))
        case measure => omega
        case rel =>
          obtain ⟨vs', hR', hB'⟩ := PR.out
          exact ⟨k + 1, vs', rfl, by go_num, by omega, hR', hB'⟩
    · obtain rfl : k = l.length := by omega
      rw [List.take_length] at R2
      go_wp2
      go_ret2
      have hE := R2.out.rows (lists_len l) (by omega)
      unfold RowsEnd
      simp only [lists_len]
      exact ⟨_, _, rfl, hE, A2.out⟩
end Go.Proofs.Ytoifalgkeegklaa
