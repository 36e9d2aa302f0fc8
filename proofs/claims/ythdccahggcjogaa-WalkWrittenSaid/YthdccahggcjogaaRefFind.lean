/- Find of the reference of package walk, walked. -/
import Derived.Test.YthdccahggcjogaaAll
namespace Go.Proofs.Ythdccahggcjogaa
open Go.RowKit

set_option maxRecDepth 100000 in
theorem rfind_err (A : Option Addr) (n c : Nat) (x a : Int) (w : World) (hx : x ≠ 0) (C : Hid (∀ W : World, Below w.heap.size w W → Calls Try.prog 38 #[.slice A n c] W (BlksEnd W ([], x)))) :
    Calls Try.prog 40 #[.slice A n c, .int .i64 a] w (BlkEnd w (zeroB, x)) := by
  have h1 : (x != 0) = true := by simpa using hx
  have A0 := Lib.hid (Since.refl w)
  clear hx
  go_enter Try.func40, Try.ntmps40
  go_wp2_with fail
  refine (C.out _ (Since.out (by repeat (first | with_reducible exact A0.out | with_reducible exact Since.refl _ | with_reducible refine Since.alloc ?_ _ | with_reducible refine Since.setCell ?_ (by first | omega | (simp; done) | (simp; omega)) _ | with_reducible refine Since.drew ?_ | with_reducible refine Since.drewN ?_ _)))).mono ?_
  rintro e w1 ⟨B, d, rfl, _, hb1⟩
  have A1 := Lib.hid (show Since w w1 from Since.via (by repeat (first | with_reducible exact A0.out | with_reducible exact Since.refl _ | with_reducible refine Since.alloc ?_ _ | with_reducible refine Since.setCell ?_ (by first | omega | (simp; done) | (simp; omega)) _ | with_reducible refine Since.drew ?_ | with_reducible refine Since.drewN ?_ _)) hb1)
  have s1 := A1.out.size
  have R1 := Lib.hid (show Cells w1 (w.heap.size) 24 (#[.int .i64 0, .int .i64 0, .int .i64 0, .int .i64 0, .bool false, .int .u64 0]) from Cells.kept (by repeat (first | with_reducible exact R0.out | with_reducible exact Cells.at_ _ _ _ (by first | omega | (simp; done) | (simp; omega)) | with_reducible refine Cells.alloc ?_ _ | with_reducible refine Cells.far' ?_ (by first | omega | (simp; done) | (simp; omega)) _ | with_reducible refine Cells.drew ?_ | with_reducible refine Cells.drewN ?_ _)) hb1)
  have Rz1 := R1.out.lt
  clear hb1
  obtain ⟨Rq0, Rq1, Rq2, Rq3, Rq4, Rq5⟩ := R1.out.six
  have Rlt := R1.out.lt
  obtain ⟨f0, f1, f2, f3, f4, f5⟩ := R1.out.free6
  go_wp2
  have PX := R1.out.put6 (.int .i64 0) (.int .i64 0) (.int .i64 0) (.int .i64 0) (.bool false) (.int .u64 0)
  obtain ⟨p0, p1, p2, p3, p4, p5⟩ := PX.six
  exact bodyPost_ret (v := .tuple #[.agg #[.int .i64 0, .int .i64 0, .int .i64 0, .int .i64 0, .bool false, .int .u64 0], .int .i64 x]) (by simp [*, results, Try.results40, go_sem]) rfl ⟨rfl, (Since.out (by repeat (first | with_reducible exact A1.out | with_reducible exact Since.refl _ | with_reducible refine Since.alloc ?_ _ | with_reducible refine Since.setCell ?_ (by first | omega | (simp; done) | (simp; omega)) _ | with_reducible refine Since.drew ?_ | with_reducible refine Since.drewN ?_ _)))⟩

set_option maxRecDepth 100000 in
theorem rfind_ok (A : Option Addr) (n c : Nat) (a : Int) (l : List Blk) (w : World) (C : Hid (∀ W : World, Below w.heap.size w W → Calls Try.prog 38 #[.slice A n c] W (BlksEnd W (l, 0)))) :
    Calls Try.prog 40 #[.slice A n c, .int .i64 a] w (BlkEnd w (findO (findL l a))) := by
  have A0 := Lib.hid (Since.refl w)
  have L0 := Lib.hid (show findL l a = findL (l.drop 0) a from rfl)
  go_enter Try.func40, Try.ntmps40
  go_wp2_with fail
  refine (C.out _ (Since.out (by repeat (first | with_reducible exact A0.out | with_reducible exact Since.refl _ | with_reducible refine Since.alloc ?_ _ | with_reducible refine Since.setCell ?_ (by first | omega | (simp; done) | (simp; omega)) _ | with_reducible refine Since.drew ?_ | with_reducible refine Since.drewN ?_ _)))).mono ?_
  rintro e w1 ⟨B, d, rfl, hB, hb1⟩
  have A1 := Lib.hid (show Since w w1 from Since.via (by repeat (first | with_reducible exact A0.out | with_reducible exact Since.refl _ | with_reducible refine Since.alloc ?_ _ | with_reducible refine Since.setCell ?_ (by first | omega | (simp; done) | (simp; omega)) _ | with_reducible refine Since.drew ?_ | with_reducible refine Since.drewN ?_ _)) hb1)
  have s1 := A1.out.size
  have R1 := Lib.hid (show Cells w1 (w.heap.size) 24 (#[.int .i64 0, .int .i64 0, .int .i64 0, .int .i64 0, .bool false, .int .u64 0]) from Cells.kept (by repeat (first | with_reducible exact R0.out | with_reducible exact Cells.at_ _ _ _ (by first | omega | (simp; done) | (simp; omega)) | with_reducible refine Cells.alloc ?_ _ | with_reducible refine Cells.far' ?_ (by first | omega | (simp; done) | (simp; omega)) _ | with_reducible refine Cells.drew ?_ | with_reducible refine Cells.drewN ?_ _)) hb1)
  have Rz1 := R1.out.lt
  clear hb1
  have HB := Lib.hid hB
  clear hB
  have hcap := HB.out.cap
  have hmost := HB.out.most
  go_wp2
  go_loopw [8] (fun t wr => ∃ k : Nat, k ≤ l.length ∧ t = .int .i64 k ∧ Hid (findL l a = findL (l.drop k) a) ∧ Since w1 wr) (fun t _ => l.length - (intOf t).toNat)
  case atStart => exact ⟨0, Nat.zero_le _, rfl, L0, Since.refl _⟩
  case round =>
    obtain ⟨k, hk, rfl, hS, hnx⟩ := hrel
    have B2 := Lib.hid hnx
    have A2 := Lib.hid (Since.trans A1.out B2.out)
    have s2 := B2.out.size
    have R2 := Lib.hid (R1.out.kept B2.out)
    clear hnx
    by_cases hlt : k < l.length
    · obtain ⟨g, o, rfl, hg⟩ := HB.out.at_ (by omega)
      have hg2 : g < wr.heap.size := by omega
      obtain ⟨c0, c1, c2, c3, c4, c5⟩ := (HB.out.below B2.out).same hlt
      have FS := Lib.hid (findL_step l a k hlt)
      by_cases he : l[k].at_ = a
      · have he2 : (l[k].at_ == a) = true := by simpa using he
        have HE := Lib.hid he2
        generalize hb : l[k] = b at *
        clear hb he
        obtain ⟨Rq0, Rq1, Rq2, Rq3, Rq4, Rq5⟩ := R2.out.six
        have Rlt := R2.out.lt
        obtain ⟨f0, f1, f2, f3, f4, f5⟩ := R2.out.free6
        go_wp2
        have E := Lib.hid (show findL l a = some b by rw [hS.out, FS.out, HE.out]; rfl)
        rw [E.out]
        have PX := R2.out.put6 (.int .i64 b.at_) (.int .i64 b.size) (.int .i64 b.kind) (.int .i64 b.typ) (.bool b.mark) (.int .u64 (b.next : Nat))
        obtain ⟨p0, p1, p2, p3, p4, p5⟩ := PX.six
        exact bodyPost_ret (v := .tuple #[.agg #[.int .i64 b.at_, .int .i64 b.size, .int .i64 b.kind, .int .i64 b.typ, .bool b.mark, .int .u64 (b.next : Nat)], .int .i64 0]) (by simp [*, results, Try.results40, go_sem]) rfl ⟨rfl, (Since.out (by repeat (first | with_reducible exact A2.out | with_reducible exact Since.refl _ | with_reducible refine Since.alloc ?_ _ | with_reducible refine Since.setCell ?_ (by first | omega | (simp; done) | (simp; omega)) _ | with_reducible refine Since.drew ?_ | with_reducible refine Since.drewN ?_ _)))⟩
      · have he2 : (l[k].at_ == a) = false := by simpa using he
        have HE := Lib.hid he2
        generalize hb : l[k] = b at *
        clear hb he
        go_wp2
        go_roundw
        case rel => exact ⟨k + 1, by omega, by go_num, Lib.hid (by rw [hS.out, FS.out, HE.out]; rfl), (by repeat (first | with_reducible exact B2.out | with_reducible exact Since.refl _ | with_reducible refine Since.alloc ?_ _ | with_reducible refine Since.setCell ?_ (by first | omega | (simp; done) | (simp; omega)) _ | with_reducible refine Since.drew ?_ | with_reducible refine Since.drewN ?_ _))⟩
        case measure => simp [intOf]; omega
    · obtain rfl : k = l.length := by omega
      have E := Lib.hid (show findL l a = none by rw [hS.out, List.drop_length]; rfl)
      obtain ⟨Rq0, Rq1, Rq2, Rq3, Rq4, Rq5⟩ := R2.out.six
      have Rlt := R2.out.lt
      obtain ⟨f0, f1, f2, f3, f4, f5⟩ := R2.out.free6
      go_wp2
      rw [E.out]
      have PX := R2.out.put6 (.int .i64 0) (.int .i64 0) (.int .i64 0) (.int .i64 0) (.bool false) (.int .u64 0)
      obtain ⟨p0, p1, p2, p3, p4, p5⟩ := PX.six
      exact bodyPost_ret (v := .tuple #[.agg #[.int .i64 0, .int .i64 0, .int .i64 0, .int .i64 0, .bool false, .int .u64 0], .int .i64 6]) (by simp [*, results, Try.results40, go_sem]) rfl ⟨rfl, (Since.out (by repeat (first | with_reducible exact A2.out | with_reducible exact Since.refl _ | with_reducible refine Since.alloc ?_ _ | with_reducible refine Since.setCell ?_ (by first | omega | (simp; done) | (simp; omega)) _ | with_reducible refine Since.drew ?_ | with_reducible refine Since.drewN ?_ _)))⟩
end Go.Proofs.Ythdccahggcjogaa
