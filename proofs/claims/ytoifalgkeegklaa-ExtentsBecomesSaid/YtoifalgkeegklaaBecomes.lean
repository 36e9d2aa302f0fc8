/- Becomes of the reference of package extents, walked. -/
import Derived.Test.YtoifalgkeegklaaJoin
import Derived.BigRegion
namespace Go.Proofs.Ytoifalgkeegklaa
open Go.RowKit

set_option maxRecDepth 100000 in
theorem rbec_zz (A : Option Addr) (c : Nat) (l : List Blk) (w : World) (h : Blks w A l.length c l) (hl : l.length ≤ 1000000) (hz : Sized l) (hi : 0 < l.length) (hr : l.length ≤ 1) :
    Calls Try.prog 63 #[.slice A l.length c, .int .i64 0] w fun e w' => e = .returned (.agg #[.int .i64 l[0].at_, .int .i64 (l[0].size), .int .i64 2, .int .i64 0, .bool false, .int .u64 0]) ∧ Below w.heap.size w w' := by
  obtain ⟨g, o, rfl, hg⟩ := h.at_ (by omega)
  obtain ⟨c0, c1, _⟩ := h.same (j := 0) hi
  have hb := hz.get (i := 0) hi
  simp only [Nat.zero_mul, Nat.add_zero] at c0 c1
  have hcap := h.cap
  have hmost := h.most
  have A0 := Lib.hid (Since.refl w)
  clear h hz
  generalize l[0].at_ = ca at *
  generalize l[0].size = cs at *
  have d0 : decide ((0 : Int) < 0) = false := by decide
  have d1 : decide ((1 : Int) < (l.length : Int)) = false := by simp; omega
  go_enter Try.func63, Try.ntmps63
  go_wp2_with fail
  go_region
  all_goals
    go_wp2
    all_goals exact bodyPost_ret (v := .agg #[.int .i64 ca, .int .i64 (cs), .int .i64 2, .int .i64 0, .bool false, .int .u64 0]) (by simp [*, results, Try.results63, go_sem]) rfl ⟨rfl, (Since.out (by repeat (first | with_reducible exact A0.out | with_reducible exact Since.refl _ | with_reducible refine Since.alloc ?_ _ | with_reducible refine Since.setCell ?_ (by first | omega | (simp; done) | (simp; omega)) _ | with_reducible refine Since.drew ?_ | with_reducible refine Since.drewN ?_ _)))⟩

set_option maxRecDepth 100000 in
theorem rbec_zn (A : Option Addr) (c : Nat) (l : List Blk) (w : World) (h : Blks w A l.length c l) (hl : l.length ≤ 1000000) (hz : Sized l) (hi : 0 < l.length) (hr : 1 < l.length) (hy : l[1].kind ≠ 2) :
    Calls Try.prog 63 #[.slice A l.length c, .int .i64 0] w fun e w' => e = .returned (.agg #[.int .i64 l[0].at_, .int .i64 (l[0].size), .int .i64 2, .int .i64 0, .bool false, .int .u64 0]) ∧ Below w.heap.size w w' := by
  obtain ⟨g, o, rfl, hg⟩ := h.at_ (by omega)
  obtain ⟨c0, c1, _⟩ := h.same (j := 0) hi
  have hb := hz.get (i := 0) hi
  simp only [Nat.zero_mul, Nat.add_zero] at c0 c1
  obtain ⟨_, y1, y2, _⟩ := h.same (j := 1) hr
  have hby := hz.get (i := 1) hr
  have hcap := h.cap
  have hmost := h.most
  have A0 := Lib.hid (Since.refl w)
  clear h hz
  generalize l[1].size = ys at *
  have hy' : (l[1].kind == 2) = false := by simpa using hy
  clear hy
  generalize l[1].kind = yk at *
  generalize l[0].at_ = ca at *
  generalize l[0].size = cs at *
  have d0 : decide ((0 : Int) < 0) = false := by decide
  go_enter Try.func63, Try.ntmps63
  go_wp2_with fail
  go_region
  all_goals
    go_wp2
    all_goals exact bodyPost_ret (v := .agg #[.int .i64 ca, .int .i64 (cs), .int .i64 2, .int .i64 0, .bool false, .int .u64 0]) (by simp [*, results, Try.results63, go_sem]) rfl ⟨rfl, (Since.out (by repeat (first | with_reducible exact A0.out | with_reducible exact Since.refl _ | with_reducible refine Since.alloc ?_ _ | with_reducible refine Since.setCell ?_ (by first | omega | (simp; done) | (simp; omega)) _ | with_reducible refine Since.drew ?_ | with_reducible refine Since.drewN ?_ _)))⟩

set_option maxRecDepth 100000 in
theorem rbec_zf (A : Option Addr) (c : Nat) (l : List Blk) (w : World) (h : Blks w A l.length c l) (hl : l.length ≤ 1000000) (hz : Sized l) (hi : 0 < l.length) (hr : 1 < l.length) (hy : l[1].kind = 2) :
    Calls Try.prog 63 #[.slice A l.length c, .int .i64 0] w fun e w' => e = .returned (.agg #[.int .i64 l[0].at_, .int .i64 (l[0].size + l[1].size), .int .i64 2, .int .i64 0, .bool false, .int .u64 0]) ∧ Below w.heap.size w w' := by
  obtain ⟨g, o, rfl, hg⟩ := h.at_ (by omega)
  obtain ⟨c0, c1, _⟩ := h.same (j := 0) hi
  have hb := hz.get (i := 0) hi
  simp only [Nat.zero_mul, Nat.add_zero] at c0 c1
  obtain ⟨_, y1, y2, _⟩ := h.same (j := 1) hr
  have hby := hz.get (i := 1) hr
  have hcap := h.cap
  have hmost := h.most
  have A0 := Lib.hid (Since.refl w)
  clear h hz
  generalize l[1].size = ys at *
  generalize l[1].kind = yk at *
  subst hy
  generalize l[0].at_ = ca at *
  generalize l[0].size = cs at *
  have d0 : decide ((0 : Int) < 0) = false := by decide
  go_enter Try.func63, Try.ntmps63
  go_wp2_with fail
  go_region
  all_goals
    go_wp2
    all_goals go_region
    all_goals go_wp2
    all_goals exact bodyPost_ret (v := .agg #[.int .i64 ca, .int .i64 (cs + ys), .int .i64 2, .int .i64 0, .bool false, .int .u64 0]) (by simp [*, results, Try.results63, go_sem]) rfl ⟨rfl, (Since.out (by repeat (first | with_reducible exact A0.out | with_reducible exact Since.refl _ | with_reducible refine Since.alloc ?_ _ | with_reducible refine Since.setCell ?_ (by first | omega | (simp; done) | (simp; omega)) _ | with_reducible refine Since.drew ?_ | with_reducible refine Since.drewN ?_ _)))⟩

set_option maxRecDepth 100000 in
theorem rbec_nz (A : Option Addr) (c : Nat) (l : List Blk) (j : Nat) (w : World) (h : Blks w A l.length c l) (hl : l.length ≤ 1000000) (hz : Sized l) (hi : (j + 1) < l.length) (hx : l[j].kind ≠ 2) (hr : l.length ≤ j + 2) :
    Calls Try.prog 63 #[.slice A l.length c, .int .i64 ((j : Int) + 1)] w fun e w' => e = .returned (.agg #[.int .i64 l[(j + 1)].at_, .int .i64 (l[(j + 1)].size), .int .i64 2, .int .i64 0, .bool false, .int .u64 0]) ∧ Below w.heap.size w w' := by
  obtain ⟨g, o, rfl, hg⟩ := h.at_ (by omega)
  obtain ⟨c0, c1, _⟩ := h.same (j := (j + 1)) hi
  have hb := hz.get (i := (j + 1)) hi
  obtain ⟨x0, x1, x2, _⟩ := h.same (j := j) (by omega)
  have hbx := hz.get (i := j) (by omega)
  have hcap := h.cap
  have hmost := h.most
  have A0 := Lib.hid (Since.refl w)
  clear h hz
  generalize l[j].at_ = xa at *
  generalize l[j].size = xs at *
  have hx' : (l[j].kind == 2) = false := by simpa using hx
  clear hx
  generalize l[j].kind = xk at *
  generalize l[(j + 1)].at_ = ca at *
  generalize l[(j + 1)].size = cs at *
  have d1 : decide (((j : Int) + 1) + 1 < (l.length : Int)) = false := by simp; omega
  go_enter Try.func63, Try.ntmps63
  go_wp2_with fail
  go_region
  all_goals
    go_wp2
    all_goals exact bodyPost_ret (v := .agg #[.int .i64 ca, .int .i64 (cs), .int .i64 2, .int .i64 0, .bool false, .int .u64 0]) (by simp [*, results, Try.results63, go_sem]) rfl ⟨rfl, (Since.out (by repeat (first | with_reducible exact A0.out | with_reducible exact Since.refl _ | with_reducible refine Since.alloc ?_ _ | with_reducible refine Since.setCell ?_ (by first | omega | (simp; done) | (simp; omega)) _ | with_reducible refine Since.drew ?_ | with_reducible refine Since.drewN ?_ _)))⟩

set_option maxRecDepth 100000 in
theorem rbec_nn (A : Option Addr) (c : Nat) (l : List Blk) (j : Nat) (w : World) (h : Blks w A l.length c l) (hl : l.length ≤ 1000000) (hz : Sized l) (hi : (j + 1) < l.length) (hx : l[j].kind ≠ 2) (hr : j + 2 < l.length) (hy : l[j + 2].kind ≠ 2) :
    Calls Try.prog 63 #[.slice A l.length c, .int .i64 ((j : Int) + 1)] w fun e w' => e = .returned (.agg #[.int .i64 l[(j + 1)].at_, .int .i64 (l[(j + 1)].size), .int .i64 2, .int .i64 0, .bool false, .int .u64 0]) ∧ Below w.heap.size w w' := by
  obtain ⟨g, o, rfl, hg⟩ := h.at_ (by omega)
  obtain ⟨c0, c1, _⟩ := h.same (j := (j + 1)) hi
  have hb := hz.get (i := (j + 1)) hi
  obtain ⟨x0, x1, x2, _⟩ := h.same (j := j) (by omega)
  have hbx := hz.get (i := j) (by omega)
  obtain ⟨_, y1, y2, _⟩ := h.same (j := j + 2) hr
  have hby := hz.get (i := j + 2) hr
  have hcap := h.cap
  have hmost := h.most
  have A0 := Lib.hid (Since.refl w)
  clear h hz
  generalize l[j].at_ = xa at *
  generalize l[j].size = xs at *
  have hx' : (l[j].kind == 2) = false := by simpa using hx
  clear hx
  generalize l[j].kind = xk at *
  generalize l[j + 2].size = ys at *
  have hy' : (l[j + 2].kind == 2) = false := by simpa using hy
  clear hy
  generalize l[j + 2].kind = yk at *
  generalize l[(j + 1)].at_ = ca at *
  generalize l[(j + 1)].size = cs at *
  go_enter Try.func63, Try.ntmps63
  go_wp2_with fail
  go_region
  all_goals
    go_wp2
    all_goals exact bodyPost_ret (v := .agg #[.int .i64 ca, .int .i64 (cs), .int .i64 2, .int .i64 0, .bool false, .int .u64 0]) (by simp [*, results, Try.results63, go_sem]) rfl ⟨rfl, (Since.out (by repeat (first | with_reducible exact A0.out | with_reducible exact Since.refl _ | with_reducible refine Since.alloc ?_ _ | with_reducible refine Since.setCell ?_ (by first | omega | (simp; done) | (simp; omega)) _ | with_reducible refine Since.drew ?_ | with_reducible refine Since.drewN ?_ _)))⟩

set_option maxRecDepth 100000 in
theorem rbec_nf (A : Option Addr) (c : Nat) (l : List Blk) (j : Nat) (w : World) (h : Blks w A l.length c l) (hl : l.length ≤ 1000000) (hz : Sized l) (hi : (j + 1) < l.length) (hx : l[j].kind ≠ 2) (hr : j + 2 < l.length) (hy : l[j + 2].kind = 2) :
    Calls Try.prog 63 #[.slice A l.length c, .int .i64 ((j : Int) + 1)] w fun e w' => e = .returned (.agg #[.int .i64 l[(j + 1)].at_, .int .i64 (l[(j + 1)].size + l[j + 2].size), .int .i64 2, .int .i64 0, .bool false, .int .u64 0]) ∧ Below w.heap.size w w' := by
  obtain ⟨g, o, rfl, hg⟩ := h.at_ (by omega)
  obtain ⟨c0, c1, _⟩ := h.same (j := (j + 1)) hi
  have hb := hz.get (i := (j + 1)) hi
  obtain ⟨x0, x1, x2, _⟩ := h.same (j := j) (by omega)
  have hbx := hz.get (i := j) (by omega)
  obtain ⟨_, y1, y2, _⟩ := h.same (j := j + 2) hr
  have hby := hz.get (i := j + 2) hr
  have hcap := h.cap
  have hmost := h.most
  have A0 := Lib.hid (Since.refl w)
  clear h hz
  generalize l[j].at_ = xa at *
  generalize l[j].size = xs at *
  have hx' : (l[j].kind == 2) = false := by simpa using hx
  clear hx
  generalize l[j].kind = xk at *
  generalize l[j + 2].size = ys at *
  generalize l[j + 2].kind = yk at *
  subst hy
  generalize l[(j + 1)].at_ = ca at *
  generalize l[(j + 1)].size = cs at *
  go_enter Try.func63, Try.ntmps63
  go_wp2_with fail
  go_region
  all_goals
    go_wp2
    all_goals go_region
    all_goals go_wp2
    all_goals exact bodyPost_ret (v := .agg #[.int .i64 ca, .int .i64 (cs + ys), .int .i64 2, .int .i64 0, .bool false, .int .u64 0]) (by simp [*, results, Try.results63, go_sem]) rfl ⟨rfl, (Since.out (by repeat (first | with_reducible exact A0.out | with_reducible exact Since.refl _ | with_reducible refine Since.alloc ?_ _ | with_reducible refine Since.setCell ?_ (by first | omega | (simp; done) | (simp; omega)) _ | with_reducible refine Since.drew ?_ | with_reducible refine Since.drewN ?_ _)))⟩

set_option maxRecDepth 100000 in
theorem rbec_fz (A : Option Addr) (c : Nat) (l : List Blk) (j : Nat) (w : World) (h : Blks w A l.length c l) (hl : l.length ≤ 1000000) (hz : Sized l) (hi : (j + 1) < l.length) (hx : l[j].kind = 2) (hr : l.length ≤ j + 2) :
    Calls Try.prog 63 #[.slice A l.length c, .int .i64 ((j : Int) + 1)] w fun e w' => e = .returned (.agg #[.int .i64 l[j].at_, .int .i64 (l[(j + 1)].size + l[j].size), .int .i64 2, .int .i64 0, .bool false, .int .u64 0]) ∧ Below w.heap.size w w' := by
  obtain ⟨g, o, rfl, hg⟩ := h.at_ (by omega)
  obtain ⟨c0, c1, _⟩ := h.same (j := (j + 1)) hi
  have hb := hz.get (i := (j + 1)) hi
  obtain ⟨x0, x1, x2, _⟩ := h.same (j := j) (by omega)
  have hbx := hz.get (i := j) (by omega)
  have hcap := h.cap
  have hmost := h.most
  have A0 := Lib.hid (Since.refl w)
  clear h hz
  generalize l[j].at_ = xa at *
  generalize l[j].size = xs at *
  generalize l[j].kind = xk at *
  subst hx
  generalize l[(j + 1)].at_ = ca at *
  generalize l[(j + 1)].size = cs at *
  have d1 : decide (((j : Int) + 1) + 1 < (l.length : Int)) = false := by simp; omega
  go_enter Try.func63, Try.ntmps63
  go_wp2_with fail
  go_region
  all_goals
    go_wp2
    go_region
    all_goals go_wp2

    all_goals exact bodyPost_ret (v := .agg #[.int .i64 xa, .int .i64 (cs + xs), .int .i64 2, .int .i64 0, .bool false, .int .u64 0]) (by simp [*, results, Try.results63, go_sem]) rfl ⟨rfl, (Since.out (by repeat (first | with_reducible exact A0.out | with_reducible exact Since.refl _ | with_reducible refine Since.alloc ?_ _ | with_reducible refine Since.setCell ?_ (by first | omega | (simp; done) | (simp; omega)) _ | with_reducible refine Since.drew ?_ | with_reducible refine Since.drewN ?_ _)))⟩

set_option maxRecDepth 100000 in
theorem rbec_fn (A : Option Addr) (c : Nat) (l : List Blk) (j : Nat) (w : World) (h : Blks w A l.length c l) (hl : l.length ≤ 1000000) (hz : Sized l) (hi : (j + 1) < l.length) (hx : l[j].kind = 2) (hr : j + 2 < l.length) (hy : l[j + 2].kind ≠ 2) :
    Calls Try.prog 63 #[.slice A l.length c, .int .i64 ((j : Int) + 1)] w fun e w' => e = .returned (.agg #[.int .i64 l[j].at_, .int .i64 (l[(j + 1)].size + l[j].size), .int .i64 2, .int .i64 0, .bool false, .int .u64 0]) ∧ Below w.heap.size w w' := by
  obtain ⟨g, o, rfl, hg⟩ := h.at_ (by omega)
  obtain ⟨c0, c1, _⟩ := h.same (j := (j + 1)) hi
  have hb := hz.get (i := (j + 1)) hi
  obtain ⟨x0, x1, x2, _⟩ := h.same (j := j) (by omega)
  have hbx := hz.get (i := j) (by omega)
  obtain ⟨_, y1, y2, _⟩ := h.same (j := j + 2) hr
  have hby := hz.get (i := j + 2) hr
  have hcap := h.cap
  have hmost := h.most
  have A0 := Lib.hid (Since.refl w)
  clear h hz
  generalize l[j].at_ = xa at *
  generalize l[j].size = xs at *
  generalize l[j].kind = xk at *
  subst hx
  generalize l[j + 2].size = ys at *
  have hy' : (l[j + 2].kind == 2) = false := by simpa using hy
  clear hy
  generalize l[j + 2].kind = yk at *
  generalize l[(j + 1)].at_ = ca at *
  generalize l[(j + 1)].size = cs at *
  go_enter Try.func63, Try.ntmps63
  go_wp2_with fail
  go_region
  all_goals
    go_wp2
    go_region
    all_goals go_wp2

    all_goals exact bodyPost_ret (v := .agg #[.int .i64 xa, .int .i64 (cs + xs), .int .i64 2, .int .i64 0, .bool false, .int .u64 0]) (by simp [*, results, Try.results63, go_sem]) rfl ⟨rfl, (Since.out (by repeat (first | with_reducible exact A0.out | with_reducible exact Since.refl _ | with_reducible refine Since.alloc ?_ _ | with_reducible refine Since.setCell ?_ (by first | omega | (simp; done) | (simp; omega)) _ | with_reducible refine Since.drew ?_ | with_reducible refine Since.drewN ?_ _)))⟩

set_option maxRecDepth 100000 in
theorem rbec_ff (A : Option Addr) (c : Nat) (l : List Blk) (j : Nat) (w : World) (h : Blks w A l.length c l) (hl : l.length ≤ 1000000) (hz : Sized l) (hi : (j + 1) < l.length) (hx : l[j].kind = 2) (hr : j + 2 < l.length) (hy : l[j + 2].kind = 2) :
    Calls Try.prog 63 #[.slice A l.length c, .int .i64 ((j : Int) + 1)] w fun e w' => e = .returned (.agg #[.int .i64 l[j].at_, .int .i64 (l[(j + 1)].size + l[j].size + l[j + 2].size), .int .i64 2, .int .i64 0, .bool false, .int .u64 0]) ∧ Below w.heap.size w w' := by
  obtain ⟨g, o, rfl, hg⟩ := h.at_ (by omega)
  obtain ⟨c0, c1, _⟩ := h.same (j := (j + 1)) hi
  have hb := hz.get (i := (j + 1)) hi
  obtain ⟨x0, x1, x2, _⟩ := h.same (j := j) (by omega)
  have hbx := hz.get (i := j) (by omega)
  obtain ⟨_, y1, y2, _⟩ := h.same (j := j + 2) hr
  have hby := hz.get (i := j + 2) hr
  have hcap := h.cap
  have hmost := h.most
  have A0 := Lib.hid (Since.refl w)
  clear h hz
  generalize l[j].at_ = xa at *
  generalize l[j].size = xs at *
  generalize l[j].kind = xk at *
  subst hx
  generalize l[j + 2].size = ys at *
  generalize l[j + 2].kind = yk at *
  subst hy
  generalize l[(j + 1)].at_ = ca at *
  generalize l[(j + 1)].size = cs at *
  go_enter Try.func63, Try.ntmps63
  go_wp2_with fail
  go_region
  all_goals
    go_wp2
    go_region
    all_goals go_wp2
    all_goals go_region
    all_goals go_wp2
    all_goals exact bodyPost_ret (v := .agg #[.int .i64 xa, .int .i64 (cs + xs + ys), .int .i64 2, .int .i64 0, .bool false, .int .u64 0]) (by simp [*, results, Try.results63, go_sem]) rfl ⟨rfl, (Since.out (by repeat (first | with_reducible exact A0.out | with_reducible exact Since.refl _ | with_reducible refine Since.alloc ?_ _ | with_reducible refine Since.setCell ?_ (by first | omega | (simp; done) | (simp; omega)) _ | with_reducible refine Since.drew ?_ | with_reducible refine Since.drewN ?_ _)))⟩
end Go.Proofs.Ytoifalgkeegklaa
