/- The reference of package walk, walked. -/
import Derived.Test.YtoifalgkeegklaaAll
import Derived.Test.YtoifalgkeegklaaHeadD
import Derived.Laws.MakeOwn
namespace Go.Proofs.Ytoifalgkeegklaa
open Go.RowKit

set_option maxRecDepth 100000 in
theorem at_none (A : Option Addr) (n c a : Nat) (ws : List Nat) (w : World) (h : Words w A n c ws) (ha : a < n) (hs : split (ws.getD a 0) = none) :
    Calls Try.prog 90 #[.slice A n c, .int .i64 a] w fun e w' => e = .returned (.tuple #[.agg #[.int .i64 0, .int .i64 0, .int .i64 0, .int .i64 0, .bool false, .int .u64 0], .bool false]) ∧ Below w.heap.size w w' := by
  obtain ⟨g, o, rfl, hg, hc, hx⟩ := h.at_ ha
  have hm := h.most
  have hcap := h.cap
  have C := Lib.hid fun W => rsplit_no _ W hx hs
  generalize ws.getD a 0 = u at *
  have A0 := Lib.hid (Since.refl w)
  have d1 : decide (n ≤ a) = false := by simpa using ha
  clear h hs
  go_enter Try.func90, Try.ntmps90
  go_wp2_with fail
  refine (C.out _).mono ?_
  rintro e w1 ⟨rfl, hb1⟩
  have A1 := Lib.hid (show Since w w1 from Since.via (by repeat (first | with_reducible exact A0.out | with_reducible exact Since.refl _ | with_reducible refine Since.alloc ?_ _ | with_reducible refine Since.setCell ?_ (by first | omega | (simp; done) | (simp; omega)) _ | with_reducible refine Since.drew ?_ | with_reducible refine Since.drewN ?_ _)) hb1)
  have s1 := A1.out.size
  have R1 := Lib.hid (show Cells w1 (w.heap.size) 24 (#[.int .i64 0, .int .i64 0, .int .i64 0, .int .i64 0, .bool false, .int .u64 0]) from Cells.kept (by repeat (first | with_reducible exact R0.out | with_reducible exact Cells.at_ _ _ _ (by first | omega | (simp; done) | (simp; omega)) | with_reducible refine Cells.alloc ?_ _ | with_reducible refine Cells.far' ?_ (by first | omega | (simp; done) | (simp; omega)) _ | with_reducible refine Cells.drew ?_ | with_reducible refine Cells.drewN ?_ _)) hb1)
  have Rz1 := R1.out.lt
  clear hb1
  obtain ⟨Rq0, Rq1, Rq2, Rq3, Rq4, Rq5⟩ := R1.out.six
  have Rlt := R1.out.lt
  obtain ⟨f0, f1, f2, f3, f4, f5⟩ := R1.out.free6
  go_wp2
  have PX := R1.out.put6 (.int .i64 0) (.int .i64 0) (.int .i64 0) (.int .i64 0) (.bool false) (.int .u64 0)
  obtain ⟨p0, p1, p2, p3, p4, p5⟩ := PX.six
  exact bodyPost_ret (v := .tuple #[.agg #[.int .i64 0, .int .i64 0, .int .i64 0, .int .i64 0, .bool false, .int .u64 0], .bool false]) (by simp [*, results, Try.results90, go_sem]) rfl ⟨rfl, (Since.out (by repeat (first | with_reducible exact A1.out | with_reducible exact Since.refl _ | with_reducible refine Since.alloc ?_ _ | with_reducible refine Since.setCell ?_ (by first | omega | (simp; done) | (simp; omega)) _ | with_reducible refine Since.drew ?_ | with_reducible refine Since.drewN ?_ _)))⟩
set_option maxRecDepth 100000 in
theorem at_long (A : Option Addr) (n c a : Nat) (ws : List Nat) (b : Blk) (w : World) (h : Words w A n c ws) (hn : n ≤ 4611686018427387904) (ha : a < n) (hs : split (ws.getD a 0) = some b) (hl : (n : Int) - a < b.size) :
    Calls Try.prog 90 #[.slice A n c, .int .i64 a] w fun e w' => e = .returned (.tuple #[.agg #[.int .i64 0, .int .i64 0, .int .i64 0, .int .i64 0, .bool false, .int .u64 0], .bool false]) ∧ Below w.heap.size w w' := by
  obtain ⟨g, o, rfl, hg, hc, hx⟩ := h.at_ ha
  have hm := h.most
  have hcap := h.cap
  have hgs := good_size (split_some hs).1
  have C := Lib.hid fun W => rsplit_ok _ b W hx hs
  have hl2 : (n : Int) < (a : Int) + b.size := by omega
  generalize ws.getD a 0 = u at *
  generalize b.size = s at *
  generalize b.kind = k at *
  generalize b.typ = t at *
  generalize b.mark = m at *
  obtain ⟨hs2, _, hs3⟩ := hgs
  have A0 := Lib.hid (Since.refl w)
  have d1 : decide (n ≤ a) = false := by simpa using ha
  clear h hs
  go_enter Try.func90, Try.ntmps90
  go_wp2_with fail
  refine (C.out _).mono ?_
  rintro e w1 ⟨rfl, hb1⟩
  have A1 := Lib.hid (show Since w w1 from Since.via (by repeat (first | with_reducible exact A0.out | with_reducible exact Since.refl _ | with_reducible refine Since.alloc ?_ _ | with_reducible refine Since.setCell ?_ (by first | omega | (simp; done) | (simp; omega)) _ | with_reducible refine Since.drew ?_ | with_reducible refine Since.drewN ?_ _)) hb1)
  have s1 := A1.out.size
  have R1 := Lib.hid (show Cells w1 (w.heap.size) 24 (#[.int .i64 0, .int .i64 0, .int .i64 0, .int .i64 0, .bool false, .int .u64 0]) from Cells.kept (by repeat (first | with_reducible exact R0.out | with_reducible exact Cells.at_ _ _ _ (by first | omega | (simp; done) | (simp; omega)) | with_reducible refine Cells.alloc ?_ _ | with_reducible refine Cells.far' ?_ (by first | omega | (simp; done) | (simp; omega)) _ | with_reducible refine Cells.drew ?_ | with_reducible refine Cells.drewN ?_ _)) hb1)
  have Rz1 := R1.out.lt
  clear hb1
  obtain ⟨Rq0, Rq1, Rq2, Rq3, Rq4, Rq5⟩ := R1.out.six
  have Rlt := R1.out.lt
  obtain ⟨f0, f1, f2, f3, f4, f5⟩ := R1.out.free6
  go_wp2
  have PX := R1.out.put6 (.int .i64 0) (.int .i64 0) (.int .i64 0) (.int .i64 0) (.bool false) (.int .u64 0)
  obtain ⟨p0, p1, p2, p3, p4, p5⟩ := PX.six
  exact bodyPost_ret (v := .tuple #[.agg #[.int .i64 0, .int .i64 0, .int .i64 0, .int .i64 0, .bool false, .int .u64 0], .bool false]) (by simp [*, results, Try.results90, go_sem]) rfl ⟨rfl, (Since.out (by repeat (first | with_reducible exact A1.out | with_reducible exact Since.refl _ | with_reducible refine Since.alloc ?_ _ | with_reducible refine Since.setCell ?_ (by first | omega | (simp; done) | (simp; omega)) _ | with_reducible refine Since.drew ?_ | with_reducible refine Since.drewN ?_ _)))⟩
set_option maxRecDepth 100000 in
theorem at_ok (A : Option Addr) (n c a : Nat) (ws : List Nat) (b : Blk) (w : World) (h : Words w A n c ws) (hn : n ≤ 4611686018427387904) (ha : a < n) (hs : split (ws.getD a 0) = some b) (hl : b.size ≤ (n : Int) - a) :
    Calls Try.prog 90 #[.slice A n c, .int .i64 a] w fun e w' => e = .returned (.tuple #[.agg #[.int .i64 a, .int .i64 b.size, .int .i64 b.kind, .int .i64 b.typ, .bool b.mark, .int .u64 (ws.getD (a + 1) 0 : Nat)], .bool true]) ∧ Below w.heap.size w w' := by
  have hgs := good_size (split_some hs).1
  obtain ⟨g, o, rfl, hg, hc, hx⟩ := h.at_ ha
  have H := Lib.hid h
  have hm := h.most
  have C := Lib.hid fun W => rsplit_ok _ b W hx hs
  clear h hs
  generalize ws.getD a 0 = u at *
  generalize hv : ws.getD (a + 1) 0 = v
  have HV := Lib.hid hv
  clear hv
  have hl2 : (a : Int) + b.size ≤ (n : Int) := by omega
  have hd : decide ((n : Int) < (a : Int) + b.size) = false := by simpa using hl2
  generalize b.size = s at *
  generalize b.kind = k at *
  generalize b.typ = t at *
  generalize b.mark = m at *
  obtain ⟨hs2, _, hs3⟩ := hgs
  have A0 := Lib.hid (Since.refl w)
  have d1 : decide (n ≤ a) = false := by simpa using ha
  go_enter Try.func90, Try.ntmps90
  go_wp2_with fail
  refine (C.out _).mono ?_
  rintro e w1 ⟨rfl, hb1⟩
  have A1 := Lib.hid (show Since w w1 from Since.via (by repeat (first | with_reducible exact A0.out | with_reducible exact Since.refl _ | with_reducible refine Since.alloc ?_ _ | with_reducible refine Since.setCell ?_ (by first | omega | (simp; done) | (simp; omega)) _ | with_reducible refine Since.drew ?_ | with_reducible refine Since.drewN ?_ _)) hb1)
  have s1 := A1.out.size
  have R1 := Lib.hid (show Cells w1 (w.heap.size) 24 (#[.int .i64 0, .int .i64 0, .int .i64 0, .int .i64 0, .bool false, .int .u64 0]) from Cells.kept (by repeat (first | with_reducible exact R0.out | with_reducible exact Cells.at_ _ _ _ (by first | omega | (simp; done) | (simp; omega)) | with_reducible refine Cells.alloc ?_ _ | with_reducible refine Cells.far' ?_ (by first | omega | (simp; done) | (simp; omega)) _ | with_reducible refine Cells.drew ?_ | with_reducible refine Cells.drewN ?_ _)) hb1)
  have Rz1 := R1.out.lt
  clear hb1
  obtain ⟨Rq0, Rq1, Rq2, Rq3, Rq4, Rq5⟩ := R1.out.six
  have Rlt := R1.out.lt
  obtain ⟨f0, f1, f2, f3, f4, f5⟩ := R1.out.free6
  have hg1 : g < w1.heap.size := by omega
  obtain ⟨hc1, _⟩ := (H.out.below A1.out).at_same (a := a + 1) (by omega)
  rw [HV.out] at hc1
  have ho : o + a + 1 = o + (a + 1) := by omega
  go_wp2
  have PX := R1.out.put6 (.int .i64 a) (.int .i64 s) (.int .i64 k) (.int .i64 t) (.bool m) (.int .u64 v)
  obtain ⟨p0, p1, p2, p3, p4, p5⟩ := PX.six
  exact bodyPost_ret (v := .tuple #[.agg #[.int .i64 a, .int .i64 s, .int .i64 k, .int .i64 t, .bool m, .int .u64 v], .bool true]) (by simp [*, results, Try.results90, go_sem]) rfl ⟨rfl, (Since.out (by repeat (first | with_reducible exact A1.out | with_reducible exact Since.refl _ | with_reducible refine Since.alloc ?_ _ | with_reducible refine Since.setCell ?_ (by first | omega | (simp; done) | (simp; omega)) _ | with_reducible refine Since.drew ?_ | with_reducible refine Since.drewN ?_ _)))⟩

theorem at_no (A : Option Addr) (n c a : Nat) (ws : List Nat) (w : World) (h : Words w A n c ws) (hn : n ≤ 4611686018427387904) (ha : a < n) (hs : stands ws a = none) :
    Calls Try.prog 90 #[.slice A n c, .int .i64 a] w fun e w' => e = .returned (.tuple #[.agg #[.int .i64 0, .int .i64 0, .int .i64 0, .int .i64 0, .bool false, .int .u64 0], .bool false]) ∧ Below w.heap.size w w' := by
  have hlen := h.len
  unfold stands at hs
  cases hp : split (ws.getD a 0) with
  | none => exact at_none A n c a ws w h ha hp
  | some b =>
    rw [hp] at hs
    simp only at hs
    split at hs
    · rename_i hl
      rw [hlen] at hl
      exact at_long A n c a ws b w h hn ha hp hl
    · cases hs
theorem at_yes (A : Option Addr) (n c a : Nat) (ws : List Nat) (b : Blk) (w : World) (h : Words w A n c ws) (hn : n ≤ 4611686018427387904) (ha : a < n) (hs : stands ws a = some b) :
    Calls Try.prog 90 #[.slice A n c, .int .i64 a] w fun e w' => e = .returned (.tuple #[.agg #[.int .i64 b.at_, .int .i64 b.size, .int .i64 b.kind, .int .i64 b.typ, .bool b.mark, .int .u64 (b.next : Nat)], .bool true]) ∧ Below w.heap.size w w' := by
  have hlen := h.len
  obtain ⟨_, _, e1, e2, hl, hp⟩ := stands_some hs
  rw [hlen] at hl
  have := at_ok A n c a ws { b with at_ := 0, next := 0 } w h hn ha hp hl
  rw [e1, e2]
  exact this
end Go.Proofs.Ytoifalgkeegklaa
