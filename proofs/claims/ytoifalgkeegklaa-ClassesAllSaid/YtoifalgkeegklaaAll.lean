/- All and Find of package walk, walked. -/
import Derived.Test.YtoifalgkeegklaaFrom
namespace Go.Proofs.Ytoifalgkeegklaa
open Go.RowKit

theorem Blks.at_ {w : World} {A : Option Addr} {n c : Nat} {l : List Blk} (h : Blks w A n c l) (hn : 0 < n) : ∃ g o, A = some ⟨g, o, none⟩ ∧ g < w.heap.size := by
  obtain ⟨g, o, e, hg, _⟩ := h.cell hn
  exact ⟨g, o, e, hg⟩
theorem Blks.same {w : World} {g o n c : Nat} {l : List Blk} (h : Blks w (some ⟨g, o, none⟩) n c l) {j : Nat} (hj : j < l.length) : BlkAt w g (o + j * 6) l[j] := by
  obtain ⟨g', o', e, _, h1⟩ := h.cell (by have := h.len; omega)
  injection e with e
  injection e with e1 e2
  subst e1; subst e2
  exact h1 j hj

set_option maxRecDepth 100000 in
theorem all_err (A : Option Addr) (n c : Nat) (x : Int) (w : World) (hx : x ≠ 0) (C : Hid (Calls Try.prog 57 #[.slice A n c, .int .i64 128] w (BlksEnd w ([], x)))) :
    Calls Try.prog 28 #[.slice A n c] w (BlksEnd w ([], x)) := by
  have h1 : (x != 0) = true := by simpa using hx
  clear hx
  go_enter Try.func28, Try.ntmps28
  go_wp2_with fail
  refine C.out.mono ?_
  rintro e w1 ⟨B, d, rfl, _, hb1⟩
  go_wp2
  go_ret2
  exact BlksEnd.none_ hb1

set_option maxRecDepth 100000 in
theorem all_ok (A : Option Addr) (n c : Nat) (l : List Blk) (w : World) (hl : l.length ≤ 1000000) (C : Hid (Calls Try.prog 57 #[.slice A n c, .int .i64 128] w (BlksEnd w (l, 0)))) :
    Calls Try.prog 28 #[.slice A n c] w (BlksEnd w (if side l then ([], 50) else (l, 0))) := by
  generalize hr : (if side l then (([], 50) : List Blk × Int) else (l, 0)) = r
  have HR := Lib.hid hr
  clear hr
  go_enter Try.func28, Try.ntmps28
  go_wp2_with fail
  refine C.out.mono ?_
  rintro e w1 ⟨B, d, rfl, hB, hb1⟩
  have HB := Lib.hid hB
  have A1 := Lib.hid (show Since w w1 from hb1)
  clear hB hb1
  go_wp2
  go_loop [17] (fun t => ∃ k : Nat, k ≤ l.length ∧ t = .int .i64 k ∧ Hid (sideF l k = false)) (fun t => l.length - (intOf t).toNat)
  case atStart => exact ⟨0, Nat.zero_le _, rfl, rfl⟩
  case round =>
    obtain ⟨k, hk, rfl, hS⟩ := hrel
    by_cases hlt : k < l.length
    · obtain ⟨g, o, rfl, hg⟩ := HB.out.at_ (by omega)
      have hcap := HB.out.cap
      have hmost := HB.out.most
      rcases k with _ | j
      · go_wp2
        go_round
        case rel => exact ⟨1, by omega, by go_num, sideF_one l⟩
        case measure => simp [intOf]; omega
      · obtain ⟨_, _, hc2, _⟩ := HB.out.same (j := j) (by omega)
        obtain ⟨_, _, hd2, _⟩ := HB.out.same (j := j + 1) (by omega)
        have ST := Lib.hid (sideF_step l j hlt)
        generalize l[j].kind = x at *
        generalize l[j + 1].kind = y at *
        by_cases hy : y = 2
        · subst hy
          by_cases hx : x = 2
          · subst hx
            go_wp2
            go_ret2
            rw [← HR.out, if_pos (side_of (i := j + 2) (by omega) (by rw [ST.out]; simp))]
            exact BlksEnd.none_ A1.out
          · have hx' : (x == 2) = false := by simpa using hx
            clear hx
            go_wp2
            go_round
            case rel => exact ⟨j + 2, by omega, by go_num, by show Hid _; unfold Hid at *; rw [ST, hS]; simp [hx']⟩
            case measure => simp [intOf]; omega
        · have hy' : (y == 2) = false := by simpa using hy
          clear hy
          go_wp2
          go_round
          case rel => exact ⟨j + 2, by omega, by go_num, by show Hid _; unfold Hid at *; rw [ST, hS]; simp [hy']⟩
          case measure => simp [intOf]; omega
    · obtain rfl : k = l.length := by omega
      go_wp2
      go_ret2
      rw [← HR.out, if_neg (by have := hS.out; simpa [side] using this)]
      exact ⟨_, _, rfl, HB.out, A1.out⟩

/-- The end of a call that returns a block and an error. -/
def BlkEnd (w : World) (r : Blk × Int) (e : Ending) (w' : World) : Prop :=
  e = .returned (.tuple #[.agg #[.int .i64 r.1.at_, .int .i64 r.1.size, .int .i64 r.1.kind, .int .i64 r.1.typ, .bool r.1.mark, .int .u64 (r.1.next : Nat)], .int .i64 r.2]) ∧ Below w.heap.size w w'
def findO : Option Blk → Blk × Int
  | none => (zeroB, 6)
  | some b => (b, 0)
theorem findL_step (l : List Blk) (a : Int) (k : Nat) (h : k < l.length) : findL (l.drop k) a = if l[k].at_ == a then some l[k] else findL (l.drop (k + 1)) a := by
  unfold findL
  rw [List.drop_eq_getElem_cons h, List.find?_cons]
  cases l[k].at_ == a <;> rfl

set_option maxRecDepth 100000 in
theorem pfind_err (A : Option Addr) (n c : Nat) (x a : Int) (w : World) (hx : x ≠ 0) (C : Hid (∀ W : World, Below w.heap.size w W → Calls Try.prog 28 #[.slice A n c] W (BlksEnd W ([], x)))) :
    Calls Try.prog 41 #[.slice A n c, .int .i64 a] w (BlkEnd w (zeroB, x)) := by
  have h1 : (x != 0) = true := by simpa using hx
  have A0 := Lib.hid (Since.refl w)
  clear hx
  go_enter Try.func41, Try.ntmps41
  go_wp2_with fail
  refine (C.out _ (Since.out (by repeat (first | with_reducible exact A0.out | with_reducible exact Since.refl _ | with_reducible refine Since.alloc ?_ _ | with_reducible refine Since.setCell ?_ (by first | omega | (simp; done) | (simp; omega)) _ | with_reducible refine Since.drew ?_ | with_reducible refine Since.drewN ?_ _)))).mono ?_
  rintro e w1 ⟨B, d, rfl, _, hb1⟩
  have A1 := Lib.hid (show Since w w1 from Since.via (by repeat (first | with_reducible exact A0.out | with_reducible exact Since.refl _ | with_reducible refine Since.alloc ?_ _ | with_reducible refine Since.setCell ?_ (by first | omega | (simp; done) | (simp; omega)) _ | with_reducible refine Since.drew ?_ | with_reducible refine Since.drewN ?_ _)) hb1)
  have s1 := A1.out.size
  have R1 := Lib.hid (show Cells w1 (w.heap.size) 24 (#[.int .i64 0, .int .i64 0, .int .i64 0, .int .i64 0, .bool false, .int .u64 0]) from Cells.kept (by repeat (first | with_reducible exact R0.out | with_reducible exact Cells.at_ _ _ _ (by first | omega | (simp; done) | (simp; omega)) | with_reducible refine Cells.alloc ?_ _ | with_reducible refine Cells.far' ?_ (by first | omega | (simp; done) | (simp; omega)) _ | with_reducible refine Cells.drew ?_ | with_reducible refine Cells.drewN ?_ _)) hb1)
  have Rz1 := R1.out.lt
  clear hb1
  obtain ⟨Rq0, Rq1, Rq2, Rq3, Rq4, Rq5⟩ := R1.out.six
  have Rlt := R1.out.lt
  obtain ⟨f0, f1, f2, f3, f4, f5⟩ := R1.out.free6
  go_wp2
  have PX := R1.out.put6 (.int .i64 0) (.int .i64 0) (.int .i64 0) (.int .i64 0) (.bool false) (.int .u64 0)
  obtain ⟨p0, p1, p2, p3, p4, p5⟩ := PX.six
  exact bodyPost_ret (v := .tuple #[.agg #[.int .i64 0, .int .i64 0, .int .i64 0, .int .i64 0, .bool false, .int .u64 0], .int .i64 x]) (by simp [*, results, Try.results41, go_sem]) rfl ⟨rfl, (Since.out (by repeat (first | with_reducible exact A1.out | with_reducible exact Since.refl _ | with_reducible refine Since.alloc ?_ _ | with_reducible refine Since.setCell ?_ (by first | omega | (simp; done) | (simp; omega)) _ | with_reducible refine Since.drew ?_ | with_reducible refine Since.drewN ?_ _)))⟩

set_option maxRecDepth 100000 in
theorem pfind_ok (A : Option Addr) (n c : Nat) (a : Int) (l : List Blk) (w : World) (C : Hid (∀ W : World, Below w.heap.size w W → Calls Try.prog 28 #[.slice A n c] W (BlksEnd W (l, 0)))) :
    Calls Try.prog 41 #[.slice A n c, .int .i64 a] w (BlkEnd w (findO (findL l a))) := by
  have A0 := Lib.hid (Since.refl w)
  have L0 := Lib.hid (show findL l a = findL (l.drop 0) a from rfl)
  go_enter Try.func41, Try.ntmps41
  go_wp2_with fail
  refine (C.out _ (Since.out (by repeat (first | with_reducible exact A0.out | with_reducible exact Since.refl _ | with_reducible refine Since.alloc ?_ _ | with_reducible refine Since.setCell ?_ (by first | omega | (simp; done) | (simp; omega)) _ | with_reducible refine Since.drew ?_ | with_reducible refine Since.drewN ?_ _)))).mono ?_
  rintro e w1 ⟨B, d, rfl, hB, hb1⟩
  have A1 := Lib.hid (show Since w w1 from Since.via (by repeat (first | with_reducible exact A0.out | with_reducible exact Since.refl _ | with_reducible refine Since.alloc ?_ _ | with_reducible refine Since.setCell ?_ (by first | omega | (simp; done) | (simp; omega)) _ | with_reducible refine Since.drew ?_ | with_reducible refine Since.drewN ?_ _)) hb1)
  have s1 := A1.out.size
  have R1 := Lib.hid (show Cells w1 (w.heap.size) 24 (#[.int .i64 0, .int .i64 0, .int .i64 0, .int .i64 0, .bool false, .int .u64 0]) from Cells.kept (by repeat (first | with_reducible exact R0.out | with_reducible exact Cells.at_ _ _ _ (by first | omega | (simp; done) | (simp; omega)) | with_reducible refine Cells.alloc ?_ _ | with_reducible refine Cells.far' ?_ (by first | omega | (simp; done) | (simp; omega)) _ | with_reducible refine Cells.drew ?_ | with_reducible refine Cells.drewN ?_ _)) hb1)
  have Rz1 := R1.out.lt
  clear hb1
  have HB := Lib.hid hB
  clear hB
  have hcap := HB.out.cap
  have hmost := HB.out.most
  go_wp2
  go_loopw [21] (fun t wr => ∃ k : Nat, k ≤ l.length ∧ t = .int .i64 k ∧ Hid (findL l a = findL (l.drop k) a) ∧ Since w1 wr) (fun t _ => l.length - (intOf t).toNat)
  case atStart => exact ⟨0, Nat.zero_le _, rfl, L0, Since.refl _⟩
  case round =>
    obtain ⟨k, hk, rfl, hS, hnx⟩ := hrel
    have B2 := Lib.hid hnx
    have A2 := Lib.hid (Since.trans A1.out B2.out)
    have s2 := B2.out.size
    have R2 := Lib.hid (R1.out.kept B2.out)
    clear hnx
    by_cases hlt : k < l.length
    · obtain ⟨g, o, rfl, hg⟩ := HB.out.at_ (by omega)
      have hg2 : g < wr.heap.size := by omega
      obtain ⟨c0, c1, c2, c3, c4, c5⟩ := (HB.out.below B2.out).same hlt
      have FS := Lib.hid (findL_step l a k hlt)
      by_cases he : l[k].at_ = a
      · have he2 : (l[k].at_ == a) = true := by simpa using he
        have HE := Lib.hid he2
        generalize hb : l[k] = b at *
        clear hb he
        obtain ⟨Rq0, Rq1, Rq2, Rq3, Rq4, Rq5⟩ := R2.out.six
        have Rlt := R2.out.lt
        obtain ⟨f0, f1, f2, f3, f4, f5⟩ := R2.out.free6
        go_wp2
        have E := Lib.hid (show findL l a = some b by rw [hS.out, FS.out, HE.out]; rfl)
        rw [E.out]
        have PX := R2.out.put6 (.int .i64 b.at_) (.int .i64 b.size) (.int .i64 b.kind) (.int .i64 b.typ) (.bool b.mark) (.int .u64 (b.next : Nat))
        obtain ⟨p0, p1, p2, p3, p4, p5⟩ := PX.six
        exact bodyPost_ret (v := .tuple #[.agg #[.int .i64 b.at_, .int .i64 b.size, .int .i64 b.kind, .int .i64 b.typ, .bool b.mark, .int .u64 (b.next : Nat)], .int .i64 0]) (by simp [*, results, Try.results41, go_sem]) rfl ⟨rfl, (Since.out (by repeat (first | with_reducible exact A2.out | with_reducible exact Since.refl _ | with_reducible refine Since.alloc ?_ _ | with_reducible refine Since.setCell ?_ (by first | omega | (simp; done) | (simp; omega)) _ | with_reducible refine Since.drew ?_ | with_reducible refine Since.drewN ?_ _)))⟩
      · have he2 : (l[k].at_ == a) = false := by simpa using he
        have HE := Lib.hid he2
        generalize hb : l[k] = b at *
        clear hb he
        go_wp2
        go_roundw
        case rel => exact ⟨k + 1, by omega, by go_num, Lib.hid (by rw [hS.out, FS.out, HE.out]; rfl), (by repeat (first | with_reducible exact B2.out | with_reducible exact Since.refl _ | with_reducible refine Since.alloc ?_ _ | with_reducible refine Since.setCell ?_ (by first | omega | (simp; done) | (simp; omega)) _ | with_reducible refine Since.drew ?_ | with_reducible refine Since.drewN ?_ _))⟩
        case measure => simp [intOf]; omega
    · obtain rfl : k = l.length := by omega
      have E := Lib.hid (show findL l a = none by rw [hS.out, List.drop_length]; rfl)
      obtain ⟨Rq0, Rq1, Rq2, Rq3, Rq4, Rq5⟩ := R2.out.six
      have Rlt := R2.out.lt
      obtain ⟨f0, f1, f2, f3, f4, f5⟩ := R2.out.free6
      go_wp2
      rw [E.out]
      have PX := R2.out.put6 (.int .i64 0) (.int .i64 0) (.int .i64 0) (.int .i64 0) (.bool false) (.int .u64 0)
      obtain ⟨p0, p1, p2, p3, p4, p5⟩ := PX.six
      exact bodyPost_ret (v := .tuple #[.agg #[.int .i64 0, .int .i64 0, .int .i64 0, .int .i64 0, .bool false, .int .u64 0], .int .i64 6]) (by simp [*, results, Try.results41, go_sem]) rfl ⟨rfl, (Since.out (by repeat (first | with_reducible exact A2.out | with_reducible exact Since.refl _ | with_reducible refine Since.alloc ?_ _ | with_reducible refine Since.setCell ?_ (by first | omega | (simp; done) | (simp; omega)) _ | with_reducible refine Since.drew ?_ | with_reducible refine Since.drewN ?_ _)))⟩
end Go.Proofs.Ytoifalgkeegklaa
