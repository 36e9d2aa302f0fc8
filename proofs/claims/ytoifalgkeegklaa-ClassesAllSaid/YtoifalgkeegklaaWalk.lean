/- The functions of package walk, walked. -/
import Derived.Test.YtoifalgkeegklaaBlocks
import Derived.Test.YtoifalgkeegklaaWalkPlain
import Derived.Test.YtoifalgkeegklaaHeadC
import Derived.RegionTactic
import Derived.BigRegion
import Derived.ChangeAlike
namespace Go.Proofs.Ytoifalgkeegklaa
open Go.RowKit

/-- The cell of a word. -/
theorem Words.at_ {w : World} {A : Option Addr} {n c a : Nat} {ws : List Nat} (h : Words w A n c ws) (ha : a < n) :
    ∃ g o, A = some ⟨g, o, none⟩ ∧ g < w.heap.size ∧ w.cell? ⟨g, o + a, none⟩ = some (.int .u64 (ws.getD a 0 : Nat)) ∧ ws.getD a 0 < 18446744073709551616 := by
  obtain ⟨g, o, e, hg, hc⟩ := h.cell (by omega)
  have hl : a < ws.length := by have := h.len; omega
  have e2 : ws.getD a 0 = ws[a] := by simp [List.getD, hl]
  exact ⟨g, o, e, hg, by rw [e2]; exact hc a hl, by rw [e2]; exact h.lt _ (List.getElem_mem _)⟩
theorem Words.at_same {w : World} {g o n c a : Nat} {ws : List Nat} (h : Words w (some ⟨g, o, none⟩) n c ws) (ha : a < n) :
    w.cell? ⟨g, o + a, none⟩ = some (.int .u64 (ws.getD a 0 : Nat)) ∧ ws.getD a 0 < 18446744073709551616 := by
  obtain ⟨g', o', e, _, h1, h2⟩ := h.at_ ha
  injection e with e
  injection e with e1 e2
  subst e1; subst e2
  exact ⟨h1, h2⟩

set_option maxRecDepth 100000 in
theorem stands_none (A : Option Addr) (n c a : Nat) (ws : List Nat) (w : World) (h : Words w A n c ws) (ha : a < n) (hs : split (ws.getD a 0) = none) :
    Calls Try.prog 72 #[.slice A n c, .int .i64 a] w fun e w' => e = .returned (.tuple #[.agg #[.int .i64 0, .int .i64 0, .int .i64 0, .int .i64 0, .bool false, .int .u64 0], .int .i64 50]) ∧ Below w.heap.size w w' := by
  obtain ⟨g, o, rfl, hg, hc, hx⟩ := h.at_ ha
  have hm := h.most
  have C := Lib.hid fun W => hsplit_no _ W hx hs
  generalize ws.getD a 0 = u at *
  have A0 := Lib.hid (Since.refl w)
  clear h hs
  go_enter Try.func72, Try.ntmps72
  go_wp2_with fail
  refine (C.out _).mono ?_
  rintro e w1 ⟨rfl, hb1⟩
  have A1 := Lib.hid (show Since w w1 from Since.via (by repeat (first | with_reducible exact A0.out | with_reducible exact Since.refl _ | with_reducible refine Since.alloc ?_ _ | with_reducible refine Since.setCell ?_ (by first | omega | (simp; done) | (simp; omega)) _ | with_reducible refine Since.drew ?_ | with_reducible refine Since.drewN ?_ _)) hb1)
  have s1 := A1.out.size
  have R1 := Lib.hid (show Cells w1 (w.heap.size) 24 (#[.int .i64 0, .int .i64 0, .int .i64 0, .int .i64 0, .bool false, .int .u64 0]) from Cells.kept (by repeat (first | with_reducible exact R0.out | with_reducible exact Cells.at_ _ _ _ (by first | omega | (simp; done) | (simp; omega)) | with_reducible refine Cells.alloc ?_ _ | with_reducible refine Cells.far' ?_ (by first | omega | (simp; done) | (simp; omega)) _ | with_reducible refine Cells.drew ?_ | with_reducible refine Cells.drewN ?_ _)) hb1)
  have Rz1 := R1.out.lt
  clear hb1
  obtain ⟨Rq0, Rq1, Rq2, Rq3, Rq4, Rq5⟩ := R1.out.six
  have Rlt := R1.out.lt
  obtain ⟨f0, f1, f2, f3, f4, f5⟩ := R1.out.free6
  go_wp2
  have PX := R1.out.put6 (.int .i64 0) (.int .i64 0) (.int .i64 0) (.int .i64 0) (.bool false) (.int .u64 0)
  obtain ⟨p0, p1, p2, p3, p4, p5⟩ := PX.six
  exact bodyPost_ret (v := .tuple #[.agg #[.int .i64 0, .int .i64 0, .int .i64 0, .int .i64 0, .bool false, .int .u64 0], .int .i64 50]) (by simp [*, results, Try.results72, go_sem]) rfl ⟨rfl, (Since.out (by repeat (first | with_reducible exact A1.out | with_reducible exact Since.refl _ | with_reducible refine Since.alloc ?_ _ | with_reducible refine Since.setCell ?_ (by first | omega | (simp; done) | (simp; omega)) _ | with_reducible refine Since.drew ?_ | with_reducible refine Since.drewN ?_ _)))⟩
set_option maxRecDepth 100000 in
theorem stands_long (A : Option Addr) (n c a : Nat) (ws : List Nat) (b : Blk) (w : World) (h : Words w A n c ws) (ha : a < n) (hs : split (ws.getD a 0) = some b) (hl : (n : Int) - a < b.size) :
    Calls Try.prog 72 #[.slice A n c, .int .i64 a] w fun e w' => e = .returned (.tuple #[.agg #[.int .i64 0, .int .i64 0, .int .i64 0, .int .i64 0, .bool false, .int .u64 0], .int .i64 50]) ∧ Below w.heap.size w w' := by
  obtain ⟨g, o, rfl, hg, hc, hx⟩ := h.at_ ha
  have hm := h.most
  have hcap := h.cap
  have C := Lib.hid fun W => hsplit_ok _ b W hx hs
  generalize ws.getD a 0 = u at *
  generalize b.size = s at *
  generalize b.kind = k at *
  generalize b.typ = t at *
  generalize b.mark = m at *
  have A0 := Lib.hid (Since.refl w)
  clear h hs
  go_enter Try.func72, Try.ntmps72
  go_wp2_with fail
  refine (C.out _).mono ?_
  rintro e w1 ⟨rfl, hb1⟩
  have A1 := Lib.hid (show Since w w1 from Since.via (by repeat (first | with_reducible exact A0.out | with_reducible exact Since.refl _ | with_reducible refine Since.alloc ?_ _ | with_reducible refine Since.setCell ?_ (by first | omega | (simp; done) | (simp; omega)) _ | with_reducible refine Since.drew ?_ | with_reducible refine Since.drewN ?_ _)) hb1)
  have s1 := A1.out.size
  have R1 := Lib.hid (show Cells w1 (w.heap.size) 24 (#[.int .i64 0, .int .i64 0, .int .i64 0, .int .i64 0, .bool false, .int .u64 0]) from Cells.kept (by repeat (first | with_reducible exact R0.out | with_reducible exact Cells.at_ _ _ _ (by first | omega | (simp; done) | (simp; omega)) | with_reducible refine Cells.alloc ?_ _ | with_reducible refine Cells.far' ?_ (by first | omega | (simp; done) | (simp; omega)) _ | with_reducible refine Cells.drew ?_ | with_reducible refine Cells.drewN ?_ _)) hb1)
  have Rz1 := R1.out.lt
  clear hb1
  obtain ⟨Rq0, Rq1, Rq2, Rq3, Rq4, Rq5⟩ := R1.out.six
  have Rlt := R1.out.lt
  obtain ⟨f0, f1, f2, f3, f4, f5⟩ := R1.out.free6
  go_wp2
  have PX := R1.out.put6 (.int .i64 0) (.int .i64 0) (.int .i64 0) (.int .i64 0) (.bool false) (.int .u64 0)
  obtain ⟨p0, p1, p2, p3, p4, p5⟩ := PX.six
  exact bodyPost_ret (v := .tuple #[.agg #[.int .i64 0, .int .i64 0, .int .i64 0, .int .i64 0, .bool false, .int .u64 0], .int .i64 50]) (by simp [*, results, Try.results72, go_sem]) rfl ⟨rfl, (Since.out (by repeat (first | with_reducible exact A1.out | with_reducible exact Since.refl _ | with_reducible refine Since.alloc ?_ _ | with_reducible refine Since.setCell ?_ (by first | omega | (simp; done) | (simp; omega)) _ | with_reducible refine Since.drew ?_ | with_reducible refine Since.drewN ?_ _)))⟩

set_option maxRecDepth 100000 in
theorem stands_ok (A : Option Addr) (n c a : Nat) (ws : List Nat) (b : Blk) (w : World) (h : Words w A n c ws) (hn : n ≤ 4611686018427387904) (ha : a < n) (hs : split (ws.getD a 0) = some b) (hl : b.size ≤ (n : Int) - a) :
    Calls Try.prog 72 #[.slice A n c, .int .i64 a] w fun e w' => e = .returned (.tuple #[.agg #[.int .i64 a, .int .i64 b.size, .int .i64 b.kind, .int .i64 b.typ, .bool b.mark, .int .u64 (ws.getD (a + 1) 0 : Nat)], .int .i64 0]) ∧ Below w.heap.size w w' := by
  have hgs := good_size (split_some hs).1
  obtain ⟨g, o, rfl, hg, hc, hx⟩ := h.at_ ha
  have H := Lib.hid h
  have hm := h.most
  have C := Lib.hid fun W => hsplit_ok _ b W hx hs
  clear h hs
  generalize ws.getD a 0 = u at *
  generalize hv : ws.getD (a + 1) 0 = v
  have HV := Lib.hid hv
  clear hv
  have hd : decide ((n : Int) - a < b.size) = false := by simpa using hl
  generalize b.size = s at *
  generalize b.kind = k at *
  generalize b.typ = t at *
  generalize b.mark = m at *
  obtain ⟨hs2, _, hs3⟩ := hgs
  have A0 := Lib.hid (Since.refl w)
  go_enter Try.func72, Try.ntmps72
  go_wp2_with fail
  refine (C.out _).mono ?_
  rintro e w1 ⟨rfl, hb1⟩
  have A1 := Lib.hid (show Since w w1 from Since.via (by repeat (first | with_reducible exact A0.out | with_reducible exact Since.refl _ | with_reducible refine Since.alloc ?_ _ | with_reducible refine Since.setCell ?_ (by first | omega | (simp; done) | (simp; omega)) _ | with_reducible refine Since.drew ?_ | with_reducible refine Since.drewN ?_ _)) hb1)
  have s1 := A1.out.size
  have R1 := Lib.hid (show Cells w1 (w.heap.size) 24 (#[.int .i64 0, .int .i64 0, .int .i64 0, .int .i64 0, .bool false, .int .u64 0]) from Cells.kept (by repeat (first | with_reducible exact R0.out | with_reducible exact Cells.at_ _ _ _ (by first | omega | (simp; done) | (simp; omega)) | with_reducible refine Cells.alloc ?_ _ | with_reducible refine Cells.far' ?_ (by first | omega | (simp; done) | (simp; omega)) _ | with_reducible refine Cells.drew ?_ | with_reducible refine Cells.drewN ?_ _)) hb1)
  have Rz1 := R1.out.lt
  clear hb1
  obtain ⟨Rq0, Rq1, Rq2, Rq3, Rq4, Rq5⟩ := R1.out.six
  have Rlt := R1.out.lt
  obtain ⟨f0, f1, f2, f3, f4, f5⟩ := R1.out.free6
  have hg1 : g < w1.heap.size := by omega
  obtain ⟨hc1, _⟩ := (H.out.below A1.out).at_same (a := a + 1) (by omega)
  rw [HV.out] at hc1
  have ho : o + a + 1 = o + (a + 1) := by omega
  go_wp2
  go_region
  all_goals
    go_wp2
    have PX := R1.out.put6 (.int .i64 a) (.int .i64 s) (.int .i64 k) (.int .i64 t) (.bool m) (.int .u64 v)
    obtain ⟨p0, p1, p2, p3, p4, p5⟩ := PX.six
    exact bodyPost_ret (v := .tuple #[.agg #[.int .i64 a, .int .i64 s, .int .i64 k, .int .i64 t, .bool m, .int .u64 v], .int .i64 0]) (by simp [*, results, Try.results72, go_sem]) rfl ⟨rfl, (Since.out (by repeat (first | with_reducible exact A1.out | with_reducible exact Since.refl _ | with_reducible refine Since.alloc ?_ _ | with_reducible refine Since.setCell ?_ (by first | omega | (simp; done) | (simp; omega)) _ | with_reducible refine Since.drew ?_ | with_reducible refine Since.drewN ?_ _)))⟩

/-- stands, by the plain function. -/
theorem stands_no (A : Option Addr) (n c a : Nat) (ws : List Nat) (w : World) (h : Words w A n c ws) (ha : a < n) (hs : stands ws a = none) :
    Calls Try.prog 72 #[.slice A n c, .int .i64 a] w fun e w' => e = .returned (.tuple #[.agg #[.int .i64 0, .int .i64 0, .int .i64 0, .int .i64 0, .bool false, .int .u64 0], .int .i64 50]) ∧ Below w.heap.size w w' := by
  have hlen := h.len
  unfold stands at hs
  cases hp : split (ws.getD a 0) with
  | none => exact stands_none A n c a ws w h ha hp
  | some b =>
    rw [hp] at hs
    simp only at hs
    split at hs
    · rename_i hl
      rw [hlen] at hl
      exact stands_long A n c a ws b w h ha hp hl
    · cases hs
theorem stands_yes (A : Option Addr) (n c a : Nat) (ws : List Nat) (b : Blk) (w : World) (h : Words w A n c ws) (hn : n ≤ 4611686018427387904) (ha : a < n) (hs : stands ws a = some b) :
    Calls Try.prog 72 #[.slice A n c, .int .i64 a] w fun e w' => e = .returned (.tuple #[.agg #[.int .i64 b.at_, .int .i64 b.size, .int .i64 b.kind, .int .i64 b.typ, .bool b.mark, .int .u64 (b.next : Nat)], .int .i64 0]) ∧ Below w.heap.size w w' := by
  have hlen := h.len
  obtain ⟨_, _, e1, e2, hl, hp⟩ := stands_some hs
  rw [hlen] at hl
  have := stands_ok A n c a ws { b with at_ := 0, next := 0 } w h hn ha hp hl
  rw [e1, e2]
  exact this

theorem img_ok (A : Option Addr) (n c : Nat) (w : World) (hm : n ≤ 9223372036854775807) (h : imgOk n) : Calls Try.prog 71 #[.slice A n c] w fun e w' => e = .returned (.int .i64 0) ∧ w = w' := by
  obtain ⟨h1, h2, h3⟩ := h
  have h4 : (((n : Nat) : Int) % 8 == 0) = true := by simp; omega
  clear h3
  go_enter Try.func71, Try.ntmps71
  go_wp2_with go_in
  go_ret
  exact ⟨rfl, rfl⟩
theorem img_bad (A : Option Addr) (n c : Nat) (w : World) (hm : n ≤ 9223372036854775807) (h : ¬ imgOk n) : Calls Try.prog 71 #[.slice A n c] w fun e w' => e = .returned (.int .i64 8) ∧ w = w' := by
  by_cases h1 : 256 ≤ n
  · by_cases h2 : n ≤ 2048
    · have h4 : (((n : Nat) : Int) % 8 == 0) = false := by
        simp; intro h5; exact h ⟨h1, h2, by omega⟩
      clear h
      go_enter Try.func71, Try.ntmps71
      go_wp2_with go_in
      go_ret
      exact ⟨rfl, rfl⟩
    · have h3 : decide ((n : Int) ≤ 2048) = false := by simp; omega
      clear h
      go_enter Try.func71, Try.ntmps71
      go_wp2_with go_in
      go_ret
      exact ⟨rfl, rfl⟩
  · have h3 : decide (256 ≤ (n : Int)) = false := by simp; omega
    clear h
    go_enter Try.func71, Try.ntmps71
    go_wp2_with go_in
    go_ret
    exact ⟨rfl, rfl⟩
end Go.Proofs.Ytoifalgkeegklaa
