/- The reference of package fit, and the law that compares, walked. -/
import Derived.Test.YtoifalgkeegklaaLaw21d
import Derived.Test.YtoifalgkeegklaaLaw15
namespace Go.Proofs.Ytoifalgkeegklaa
open Go.RowKit

theorem rof_cls (S : Nat) (W : World) (h : S ≤ 1920) : Calls Try.prog 65 #[.int .i64 S] W fun e w' => e = .returned (.int .i64 (Nat.log2 S : Nat)) ∧ W = w' := rclass_any S W (by omega)
/-- Is it the best one? -/
theorem best_first {l : List Blk} {z : Int} {j k i : Nat} (hb : Best l z l.length j) (hi : i < l.length) (h1 : z ≤ l[i].size) (h2 : Nat.log2 l[i].size.toNat = k)
    (hk : ∀ m (hm : m < l.length), z ≤ l[m].size → k ≤ Nat.log2 l[m].size.toNat) (hf : ∀ m (hm : m < l.length), m < i → z ≤ l[m].size → Nat.log2 l[m].size.toNat ≠ k) : i = j := by
  obtain ⟨hj, _, _, h3, _, h5, h6⟩ := hb
  have g1 := h5 i hi hi h1
  have g2 := hk j hj h3
  rcases Nat.lt_trichotomy i j with hl | hl | hl
  · have := h6 i hi hl h1; omega
  · exact hl
  · have := hf j hj hl h3; omega

set_option maxRecDepth 100000 in
set_option maxHeartbeats 4000000 in
theorem takes_any (A : Option Addr) (c : Nat) (l : List Blk) (z : Int) (w : World) (h : Blks w A l.length c l) (hs : Sized l) :
    Calls Try.prog 68 #[.slice A l.length c, .int .i64 z] w fun e w' => e = .returned (.tuple #[.agg #[.int .i64 (fitO l z).1.at_, .int .i64 (fitO l z).1.size, .int .i64 (fitO l z).1.kind, .int .i64 (fitO l z).1.typ, .bool (fitO l z).1.mark, .int .u64 ((fitO l z).1.next : Nat)], .bool ((fitO l z).2 == 0)]) ∧ Below w.heap.size w w' := by
  have FC := Lib.hid (fit_cases (z := z) hs)
  obtain ⟨⟨fb, fx⟩, hfo⟩ : ∃ r, fitO l z = r := ⟨_, rfl⟩
  rw [hfo] at FC ⊢
  have H := Lib.hid h
  have HS := Lib.hid hs
  have hcap := h.cap
  have hmost := h.most
  have A0 := Lib.hid (Since.refl w)
  clear h hs hfo
  go_enter Try.func68, Try.ntmps68
  go_wp2
  go_loop [6] (fun t => ∃ k : Nat, 1 ≤ k ∧ k ≤ 11 ∧ t = .int .i64 k ∧ Hid (∀ m (hm : m < l.length), z ≤ l[m].size → k ≤ Nat.log2 l[m].size.toNat)) (fun t => (11 - intOf t).toNat)
  case atStart => exact ⟨1, Nat.le_refl _, by omega, rfl, Lib.hid fun m hm _ => (log_range _ (by have := HS.out.get hm; omega) (by have := HS.out.get hm; omega)).1⟩
  case round =>
    obtain ⟨k, hk1, hk2, rfl, HK⟩ := hrel
    by_cases hlt : k ≤ 10
    · go_wp2
      go_loop [7] (fun t => ∃ i : Nat, i ≤ l.length ∧ t = .int .i64 i ∧ Hid (∀ m (hm : m < l.length), m < i → z ≤ l[m].size → Nat.log2 l[m].size.toNat ≠ k)) (fun t => l.length - (intOf t).toNat)
      case atStart => exact ⟨0, Nat.zero_le _, rfl, Lib.hid fun m hm h => absurd h (by omega)⟩
      case round =>
        obtain ⟨i, hi, rfl, HI⟩ := hrel
        by_cases hil : i < l.length
        · obtain ⟨g, o, rfl, hg⟩ := H.out.at_ (by omega)
          obtain ⟨c0, c1, c2, c3, c4, c5⟩ := H.out.same hil
          have hbs := HS.out.get hil
          obtain ⟨S, hSS⟩ := Int.eq_ofNat_of_zero_le (show 0 ≤ l[i].size by omega)
          have CC := Lib.hid fun W => rof_cls S W (by omega)
          obtain ⟨q, hq⟩ : ∃ q, Nat.log2 S = q := ⟨_, rfl⟩
          rw [hq] at CC
          have HQ := Lib.hid (show Nat.log2 l[i].size.toNat = q by rw [hSS, Int.toNat_natCast, hq])
          have HSS := Lib.hid hSS
          rw [hSS] at c1 hbs
          clear hq hSS
          by_cases hqk : q = k
          · subst hqk
            by_cases hz : z ≤ (S : Int)
            · -- found
              have FB := Lib.hid (show fb = l[i] ∧ fx = 0 by
                rcases FC.out with ⟨_, hall⟩ | ⟨j, hj, hf, hbest⟩
                · have h1 := hall i hil
                  have h2 := HSS.out
                  omega
                · have h2 := HSS.out
                  have := best_first hbest hil (by omega) HQ.out HK.out HI.out
                  subst this
                  injection hf with h1 h2
                  exact ⟨h1, h2⟩)
              have HSF := Lib.hid (show fb.size = (S : Int) by rw [FB.out.1, HSS.out])
              have c0' := c0
              have c2' := c2
              have c3' := c3
              have c4' := c4
              have c5' := c5
              rw [← FB.out.1] at c0' c2' c3' c4' c5'
              clear c0 c2 c3 c4 c5
              go_wp2_with fail
              refine (CC.out _).mono ?_
              rintro ee wd ⟨rfl, rfl⟩
              go_wp2
              rw [FB.out.2, HSF.out]
              exact bodyPost_ret (v := .tuple #[.agg #[.int .i64 fb.at_, .int .i64 (S : Int), .int .i64 fb.kind, .int .i64 fb.typ, .bool fb.mark, .int .u64 (fb.next : Nat)], .bool true]) (by simp [results, Try.results68, go_sem]) rfl ⟨rfl, (Since.out (by repeat (first | with_reducible exact A0.out | with_reducible exact Since.refl _ | with_reducible refine Since.alloc ?_ _ | with_reducible refine Since.setCell ?_ (by first | omega | (simp; done) | (simp; omega)) _ | with_reducible refine Since.drew ?_ | with_reducible refine Since.drewN ?_ _)))⟩
            · have n1 : decide (z ≤ (S : Int)) = false := by simpa using hz
              have NX := Lib.hid (show ∀ m (hm : m < l.length), m < i + 1 → z ≤ l[m].size → Nat.log2 l[m].size.toNat ≠ q from fun m hm hmi hzm => by
                rcases Nat.lt_or_ge m i with hl | hl
                · exact HI.out m hm hl hzm
                · obtain rfl : m = i := by omega
                  have := HSS.out; omega)
              clear hz
              go_wp2_with fail
              refine (CC.out _).mono ?_
              rintro ee wd ⟨rfl, rfl⟩
              go_wp2
              go_round
              case rel => exact ⟨i + 1, by omega, by go_num, NX⟩
              case measure => simp [intOf]; omega
          · have n1 : (((q : Nat) : Int) == (k : Int)) = false := by simp; omega
            have NX := Lib.hid (show ∀ m (hm : m < l.length), m < i + 1 → z ≤ l[m].size → Nat.log2 l[m].size.toNat ≠ k from fun m hm hmi hzm => by
              rcases Nat.lt_or_ge m i with hl | hl
              · exact HI.out m hm hl hzm
              · obtain rfl : m = i := by omega
                rw [HQ.out]; exact hqk)
            clear hqk
            go_wp2_with fail
            refine (CC.out _).mono ?_
            rintro ee wd ⟨rfl, rfl⟩
            go_wp2
            go_round
            case rel => exact ⟨i + 1, by omega, by go_num, NX⟩
            case measure => simp [intOf]; omega
        · obtain rfl : i = l.length := by omega
          have NK := Lib.hid (show ∀ m (hm : m < l.length), z ≤ l[m].size → k + 1 ≤ Nat.log2 l[m].size.toNat from fun m hm hzm => by
            have h1 := HK.out m hm hzm
            have h2 := HI.out m hm hm hzm
            omega)
          go_wp2
          go_round
          case rel => exact ⟨k + 1, by omega, by omega, by go_num, NK⟩
          case measure => simp [intOf]; omega
    · have FB := Lib.hid (show fb = zeroB ∧ fx = 20 by
        rcases FC.out with ⟨hf, _⟩ | ⟨j, hj, _, hbest⟩
        · injection hf with h1 h2
          exact ⟨h1, h2⟩
        · obtain ⟨hj, _, _, h3, _⟩ := hbest
          have h4 := HK.out j hj h3
          have h5 := HS.out.get hj
          have := log_range l[j].size.toNat (by omega) (by omega)
          omega)
      go_wp2
      rw [FB.out.1, FB.out.2]
      exact bodyPost_ret (v := .tuple #[.agg #[.int .i64 0, .int .i64 0, .int .i64 0, .int .i64 0, .bool false, .int .u64 0], .bool false]) (by simp [results, Try.results68, go_sem]) rfl ⟨rfl, (Since.out (by repeat (first | with_reducible exact A0.out | with_reducible exact Since.refl _ | with_reducible refine Since.alloc ?_ _ | with_reducible refine Since.setCell ?_ (by first | omega | (simp; done) | (simp; omega)) _ | with_reducible refine Since.drew ?_ | with_reducible refine Since.drewN ?_ _)))⟩
theorem img_of_all {ws : List Nat} (he : (allR ws).2 = 0) : imgOk ws.length := by
  rcases allR_cases ws with ⟨_, e⟩ | ⟨h1, _, _⟩ | ⟨l, h1, _⟩ | ⟨l, h1, _⟩
  · rw [e] at he; exact absurd he (by decide)
  all_goals exact h1
set_option maxRecDepth 100000 in
theorem rfit_err (A : Option Addr) (n c : Nat) (x z : Int) (w : World) (hx : x ≠ 0) (C : Hid (∀ W : World, Below w.heap.size w W → Calls Try.prog 61 #[.slice A n c] W (BlksEnd W ([], x)))) :
    Calls Try.prog 49 #[.slice A n c, .int .i64 z] w (BlkEnd w (zeroB, x)) := by
  have h1 : (x != 0) = true := by simpa using hx
  have A0 := Lib.hid (Since.refl w)
  clear hx
  go_enter Try.func49, Try.ntmps49
  go_wp2_with fail
  refine (C.out _ (Since.out (by repeat (first | with_reducible exact A0.out | with_reducible exact Since.refl _ | with_reducible refine Since.alloc ?_ _ | with_reducible refine Since.setCell ?_ (by first | omega | (simp; done) | (simp; omega)) _ | with_reducible refine Since.drew ?_ | with_reducible refine Since.drewN ?_ _)))).mono ?_
  rintro e w1 ⟨B, d, rfl, _, hb1⟩
  have A1 := Lib.hid (show Since w w1 from Since.via (by repeat (first | with_reducible exact A0.out | with_reducible exact Since.refl _ | with_reducible refine Since.alloc ?_ _ | with_reducible refine Since.setCell ?_ (by first | omega | (simp; done) | (simp; omega)) _ | with_reducible refine Since.drew ?_ | with_reducible refine Since.drewN ?_ _)) hb1)
  have s1 := A1.out.size
  have R1 := Lib.hid (show Cells w1 (w.heap.size) 24 (#[.int .i64 0, .int .i64 0, .int .i64 0, .int .i64 0, .bool false, .int .u64 0]) from Cells.kept (by repeat (first | with_reducible exact R0.out | with_reducible exact Cells.at_ _ _ _ (by first | omega | (simp; done) | (simp; omega)) | with_reducible refine Cells.alloc ?_ _ | with_reducible refine Cells.far' ?_ (by first | omega | (simp; done) | (simp; omega)) _ | with_reducible refine Cells.drew ?_ | with_reducible refine Cells.drewN ?_ _)) hb1)
  have Rz1 := R1.out.lt
  clear hb1
  obtain ⟨Rq0, Rq1, Rq2, Rq3, Rq4, Rq5⟩ := R1.out.six
  have Rlt := R1.out.lt
  obtain ⟨f0, f1, f2, f3, f4, f5⟩ := R1.out.free6
  go_wp2
  have PX := R1.out.put6 (.int .i64 0) (.int .i64 0) (.int .i64 0) (.int .i64 0) (.bool false) (.int .u64 0)
  obtain ⟨p0, p1, p2, p3, p4, p5⟩ := PX.six
  exact bodyPost_ret (v := .tuple #[.agg #[.int .i64 0, .int .i64 0, .int .i64 0, .int .i64 0, .bool false, .int .u64 0], .int .i64 x]) (by simp [*, results, Try.results49, go_sem]) rfl ⟨rfl, (Since.out (by repeat (first | with_reducible exact A1.out | with_reducible exact Since.refl _ | with_reducible refine Since.alloc ?_ _ | with_reducible refine Since.setCell ?_ (by first | omega | (simp; done) | (simp; omega)) _ | with_reducible refine Since.drew ?_ | with_reducible refine Since.drewN ?_ _)))⟩
set_option maxRecDepth 100000 in
theorem rfit_arg (A : Option Addr) (n c : Nat) (l : List Blk) (z : Int) (w : World) (hz : ¬ okSize z) (C : Hid (∀ W : World, Below w.heap.size w W → Calls Try.prog 61 #[.slice A n c] W (BlksEnd W (l, 0)))) :
    Calls Try.prog 49 #[.slice A n c, .int .i64 z] w (BlkEnd w (zeroB, 2)) := by
  have D := Lib.hid fun W => rsize_no z W hz
  have A0 := Lib.hid (Since.refl w)
  clear hz
  go_enter Try.func49, Try.ntmps49
  go_wp2_with fail
  refine (C.out _ (Since.out (by repeat (first | with_reducible exact A0.out | with_reducible exact Since.refl _ | with_reducible refine Since.alloc ?_ _ | with_reducible refine Since.setCell ?_ (by first | omega | (simp; done) | (simp; omega)) _ | with_reducible refine Since.drew ?_ | with_reducible refine Since.drewN ?_ _)))).mono ?_
  rintro e w1 ⟨B, d, rfl, _, hb1⟩
  have A1 := Lib.hid (show Since w w1 from Since.via (by repeat (first | with_reducible exact A0.out | with_reducible exact Since.refl _ | with_reducible refine Since.alloc ?_ _ | with_reducible refine Since.setCell ?_ (by first | omega | (simp; done) | (simp; omega)) _ | with_reducible refine Since.drew ?_ | with_reducible refine Since.drewN ?_ _)) hb1)
  have s1 := A1.out.size
  have R1 := Lib.hid (show Cells w1 (w.heap.size) 24 (#[.int .i64 0, .int .i64 0, .int .i64 0, .int .i64 0, .bool false, .int .u64 0]) from Cells.kept (by repeat (first | with_reducible exact R0.out | with_reducible exact Cells.at_ _ _ _ (by first | omega | (simp; done) | (simp; omega)) | with_reducible refine Cells.alloc ?_ _ | with_reducible refine Cells.far' ?_ (by first | omega | (simp; done) | (simp; omega)) _ | with_reducible refine Cells.drew ?_ | with_reducible refine Cells.drewN ?_ _)) hb1)
  have Rz1 := R1.out.lt
  clear hb1
  obtain ⟨Rq0, Rq1, Rq2, Rq3, Rq4, Rq5⟩ := R1.out.six
  have Rlt := R1.out.lt
  obtain ⟨f0, f1, f2, f3, f4, f5⟩ := R1.out.free6
  go_wp2_with fail
  refine (D.out _).mono ?_
  rintro e wd ⟨rfl, rfl⟩
  go_wp2
  have PX := R1.out.put6 (.int .i64 0) (.int .i64 0) (.int .i64 0) (.int .i64 0) (.bool false) (.int .u64 0)
  obtain ⟨p0, p1, p2, p3, p4, p5⟩ := PX.six
  exact bodyPost_ret (v := .tuple #[.agg #[.int .i64 0, .int .i64 0, .int .i64 0, .int .i64 0, .bool false, .int .u64 0], .int .i64 2]) (by simp [*, results, Try.results49, go_sem]) rfl ⟨rfl, (Since.out (by repeat (first | with_reducible exact A1.out | with_reducible exact Since.refl _ | with_reducible refine Since.alloc ?_ _ | with_reducible refine Since.setCell ?_ (by first | omega | (simp; done) | (simp; omega)) _ | with_reducible refine Since.drew ?_ | with_reducible refine Since.drewN ?_ _)))⟩
set_option maxRecDepth 100000 in
theorem rfit_ok (A : Option Addr) (n c : Nat) (m l : List Blk) (zz : Bool) (z : Int) (w : World) (hz : okSize z) (hs : Sized l)
    (C : Hid (∀ W : World, Below w.heap.size w W → Calls Try.prog 61 #[.slice A n c] W (BlksEnd W (m, 0))))
    (F : Hid (∀ W : World, Below w.heap.size w W → Calls Try.prog 62 #[.slice A n c] W (FreeEnd W l zz))) :
    Calls Try.prog 49 #[.slice A n c, .int .i64 z] w (BlkEnd w (fitO l z)) := by
  have D := Lib.hid fun W => rsize_yes z W hz
  have T := Lib.hid fun W A c h => takes_any A c l z W h hs
  have FC := fit_cases (z := z) hs
  have A0 := Lib.hid (Since.refl w)
  obtain ⟨⟨b, x⟩, hr⟩ : ∃ r, fitO l z = r := ⟨_, rfl⟩
  rw [hr] at FC ⊢
  simp only [hr] at T
  clear hz hs hr
  rcases FC with ⟨e, _⟩ | ⟨j, hj, e, _⟩
  · injection e with e1 e2
    subst e1; subst e2
    simp only [zeroB] at T
    go_enter Try.func49, Try.ntmps49
    go_wp2_with fail
    refine (C.out _ (Since.out (by repeat (first | with_reducible exact A0.out | with_reducible exact Since.refl _ | with_reducible refine Since.alloc ?_ _ | with_reducible refine Since.setCell ?_ (by first | omega | (simp; done) | (simp; omega)) _ | with_reducible refine Since.drew ?_ | with_reducible refine Since.drewN ?_ _)))).mono ?_
    rintro e w1 ⟨B, d, rfl, _, hb1⟩
    have A1 := Lib.hid (show Since w w1 from Since.via (by repeat (first | with_reducible exact A0.out | with_reducible exact Since.refl _ | with_reducible refine Since.alloc ?_ _ | with_reducible refine Since.setCell ?_ (by first | omega | (simp; done) | (simp; omega)) _ | with_reducible refine Since.drew ?_ | with_reducible refine Since.drewN ?_ _)) hb1)
    have s1 := A1.out.size
    have R1 := Lib.hid (show Cells w1 (w.heap.size) 24 (#[.int .i64 0, .int .i64 0, .int .i64 0, .int .i64 0, .bool false, .int .u64 0]) from Cells.kept (by repeat (first | with_reducible exact R0.out | with_reducible exact Cells.at_ _ _ _ (by first | omega | (simp; done) | (simp; omega)) | with_reducible refine Cells.alloc ?_ _ | with_reducible refine Cells.far' ?_ (by first | omega | (simp; done) | (simp; omega)) _ | with_reducible refine Cells.drew ?_ | with_reducible refine Cells.drewN ?_ _)) hb1)
    have Rz1 := R1.out.lt
    clear hb1
    go_wp2_with fail
    refine (D.out _).mono ?_
    rintro e wd ⟨rfl, rfl⟩
    go_wp2_with fail
    refine (F.out _ (Since.out (by repeat (first | with_reducible exact A1.out | with_reducible exact Since.refl _ | with_reducible refine Since.alloc ?_ _ | with_reducible refine Since.setCell ?_ (by first | omega | (simp; done) | (simp; omega)) _ | with_reducible refine Since.drew ?_ | with_reducible refine Since.drewN ?_ _)))).mono ?_
    rintro e w2 ⟨B2, d2, rfl, hB, hb2⟩
    have A2 := Lib.hid (show Since w w2 from Since.via (by repeat (first | with_reducible exact A1.out | with_reducible exact Since.refl _ | with_reducible refine Since.alloc ?_ _ | with_reducible refine Since.setCell ?_ (by first | omega | (simp; done) | (simp; omega)) _ | with_reducible refine Since.drew ?_ | with_reducible refine Since.drewN ?_ _)) hb2)
    have s2 := A2.out.size
    have L2 := Lib.hid hB
    clear hB
    have R2 := Lib.hid (show Cells w2 (w.heap.size) 24 (#[.int .i64 0, .int .i64 0, .int .i64 0, .int .i64 0, .bool false, .int .u64 0]) from Cells.kept (by repeat (first | with_reducible exact R1.out | with_reducible exact Cells.at_ _ _ _ (by first | omega | (simp; done) | (simp; omega)) | with_reducible refine Cells.alloc ?_ _ | with_reducible refine Cells.far' ?_ (by first | omega | (simp; done) | (simp; omega)) _ | with_reducible refine Cells.drew ?_ | with_reducible refine Cells.drewN ?_ _)) hb2)
    have Rz2 := R2.out.lt
    clear hb2
    go_wp2_with fail
    refine (T.out _ _ _ (L2.out.below (Since.out (by repeat (first | with_reducible exact Since.refl _ | with_reducible refine Since.alloc ?_ _ | with_reducible refine Since.setCell ?_ (by first | omega | (simp; done) | (simp; omega)) _ | with_reducible refine Since.drew ?_ | with_reducible refine Since.drewN ?_ _))))).mono ?_
    rintro e w3 ⟨rfl, hb3⟩
    have A3 := Lib.hid (show Since w w3 from Since.via (by repeat (first | with_reducible exact A2.out | with_reducible exact Since.refl _ | with_reducible refine Since.alloc ?_ _ | with_reducible refine Since.setCell ?_ (by first | omega | (simp; done) | (simp; omega)) _ | with_reducible refine Since.drew ?_ | with_reducible refine Since.drewN ?_ _)) hb3)
    have s3 := A3.out.size
    have R3 := Lib.hid (show Cells w3 (w.heap.size) 24 (#[.int .i64 0, .int .i64 0, .int .i64 0, .int .i64 0, .bool false, .int .u64 0]) from Cells.kept (by repeat (first | with_reducible exact R2.out | with_reducible exact Cells.at_ _ _ _ (by first | omega | (simp; done) | (simp; omega)) | with_reducible refine Cells.alloc ?_ _ | with_reducible refine Cells.far' ?_ (by first | omega | (simp; done) | (simp; omega)) _ | with_reducible refine Cells.drew ?_ | with_reducible refine Cells.drewN ?_ _)) hb3)
    have Rz3 := R3.out.lt
    clear hb3
    obtain ⟨Rq0, Rq1, Rq2, Rq3, Rq4, Rq5⟩ := R3.out.six
    have Rlt := R3.out.lt
    obtain ⟨f0, f1, f2, f3, f4, f5⟩ := R3.out.free6
    go_wp2
    have PX := R3.out.put6 (.int .i64 0) (.int .i64 0) (.int .i64 0) (.int .i64 0) (.bool false) (.int .u64 0)
    obtain ⟨p0, p1, p2, p3, p4, p5⟩ := PX.six
    exact bodyPost_ret (v := .tuple #[.agg #[.int .i64 0, .int .i64 0, .int .i64 0, .int .i64 0, .bool false, .int .u64 0], .int .i64 20]) (by simp [*, results, Try.results49, go_sem]) rfl ⟨rfl, (Since.out (by repeat (first | with_reducible exact A3.out | with_reducible exact Since.refl _ | with_reducible refine Since.alloc ?_ _ | with_reducible refine Since.setCell ?_ (by first | omega | (simp; done) | (simp; omega)) _ | with_reducible refine Since.drew ?_ | with_reducible refine Since.drewN ?_ _)))⟩
  · injection e with e1 e2
    subst e2
    clear e1
    go_enter Try.func49, Try.ntmps49
    go_wp2_with fail
    refine (C.out _ (Since.out (by repeat (first | with_reducible exact A0.out | with_reducible exact Since.refl _ | with_reducible refine Since.alloc ?_ _ | with_reducible refine Since.setCell ?_ (by first | omega | (simp; done) | (simp; omega)) _ | with_reducible refine Since.drew ?_ | with_reducible refine Since.drewN ?_ _)))).mono ?_
    rintro e w1 ⟨B, d, rfl, _, hb1⟩
    have A1 := Lib.hid (show Since w w1 from Since.via (by repeat (first | with_reducible exact A0.out | with_reducible exact Since.refl _ | with_reducible refine Since.alloc ?_ _ | with_reducible refine Since.setCell ?_ (by first | omega | (simp; done) | (simp; omega)) _ | with_reducible refine Since.drew ?_ | with_reducible refine Since.drewN ?_ _)) hb1)
    have s1 := A1.out.size
    have R1 := Lib.hid (show Cells w1 (w.heap.size) 24 (#[.int .i64 0, .int .i64 0, .int .i64 0, .int .i64 0, .bool false, .int .u64 0]) from Cells.kept (by repeat (first | with_reducible exact R0.out | with_reducible exact Cells.at_ _ _ _ (by first | omega | (simp; done) | (simp; omega)) | with_reducible refine Cells.alloc ?_ _ | with_reducible refine Cells.far' ?_ (by first | omega | (simp; done) | (simp; omega)) _ | with_reducible refine Cells.drew ?_ | with_reducible refine Cells.drewN ?_ _)) hb1)
    have Rz1 := R1.out.lt
    clear hb1
    go_wp2_with fail
    refine (D.out _).mono ?_
    rintro e wd ⟨rfl, rfl⟩
    go_wp2_with fail
    refine (F.out _ (Since.out (by repeat (first | with_reducible exact A1.out | with_reducible exact Since.refl _ | with_reducible refine Since.alloc ?_ _ | with_reducible refine Since.setCell ?_ (by first | omega | (simp; done) | (simp; omega)) _ | with_reducible refine Since.drew ?_ | with_reducible refine Since.drewN ?_ _)))).mono ?_
    rintro e w2 ⟨B2, d2, rfl, hB, hb2⟩
    have A2 := Lib.hid (show Since w w2 from Since.via (by repeat (first | with_reducible exact A1.out | with_reducible exact Since.refl _ | with_reducible refine Since.alloc ?_ _ | with_reducible refine Since.setCell ?_ (by first | omega | (simp; done) | (simp; omega)) _ | with_reducible refine Since.drew ?_ | with_reducible refine Since.drewN ?_ _)) hb2)
    have s2 := A2.out.size
    have L2 := Lib.hid hB
    clear hB
    have R2 := Lib.hid (show Cells w2 (w.heap.size) 24 (#[.int .i64 0, .int .i64 0, .int .i64 0, .int .i64 0, .bool false, .int .u64 0]) from Cells.kept (by repeat (first | with_reducible exact R1.out | with_reducible exact Cells.at_ _ _ _ (by first | omega | (simp; done) | (simp; omega)) | with_reducible refine Cells.alloc ?_ _ | with_reducible refine Cells.far' ?_ (by first | omega | (simp; done) | (simp; omega)) _ | with_reducible refine Cells.drew ?_ | with_reducible refine Cells.drewN ?_ _)) hb2)
    have Rz2 := R2.out.lt
    clear hb2
    go_wp2_with fail
    refine (T.out _ _ _ (L2.out.below (Since.out (by repeat (first | with_reducible exact Since.refl _ | with_reducible refine Since.alloc ?_ _ | with_reducible refine Since.setCell ?_ (by first | omega | (simp; done) | (simp; omega)) _ | with_reducible refine Since.drew ?_ | with_reducible refine Since.drewN ?_ _))))).mono ?_
    rintro e w3 ⟨rfl, hb3⟩
    have A3 := Lib.hid (show Since w w3 from Since.via (by repeat (first | with_reducible exact A2.out | with_reducible exact Since.refl _ | with_reducible refine Since.alloc ?_ _ | with_reducible refine Since.setCell ?_ (by first | omega | (simp; done) | (simp; omega)) _ | with_reducible refine Since.drew ?_ | with_reducible refine Since.drewN ?_ _)) hb3)
    have s3 := A3.out.size
    have R3 := Lib.hid (show Cells w3 (w.heap.size) 24 (#[.int .i64 0, .int .i64 0, .int .i64 0, .int .i64 0, .bool false, .int .u64 0]) from Cells.kept (by repeat (first | with_reducible exact R2.out | with_reducible exact Cells.at_ _ _ _ (by first | omega | (simp; done) | (simp; omega)) | with_reducible refine Cells.alloc ?_ _ | with_reducible refine Cells.far' ?_ (by first | omega | (simp; done) | (simp; omega)) _ | with_reducible refine Cells.drew ?_ | with_reducible refine Cells.drewN ?_ _)) hb3)
    have Rz3 := R3.out.lt
    clear hb3
    obtain ⟨Rq0, Rq1, Rq2, Rq3, Rq4, Rq5⟩ := R3.out.six
    have Rlt := R3.out.lt
    obtain ⟨f0, f1, f2, f3, f4, f5⟩ := R3.out.free6
    go_wp2
    have PX := R3.out.put6 (.int .i64 b.at_) (.int .i64 b.size) (.int .i64 b.kind) (.int .i64 b.typ) (.bool b.mark) (.int .u64 (b.next : Nat))
    obtain ⟨p0, p1, p2, p3, p4, p5⟩ := PX.six
    exact bodyPost_ret (v := .tuple #[.agg #[.int .i64 b.at_, .int .i64 b.size, .int .i64 b.kind, .int .i64 b.typ, .bool b.mark, .int .u64 (b.next : Nat)], .int .i64 0]) (by simp [*, results, Try.results49, go_sem]) rfl ⟨rfl, (Since.out (by repeat (first | with_reducible exact A3.out | with_reducible exact Since.refl _ | with_reducible refine Since.alloc ?_ _ | with_reducible refine Since.setCell ?_ (by first | omega | (simp; done) | (simp; omega)) _ | with_reducible refine Since.drew ?_ | with_reducible refine Since.drewN ?_ _)))⟩
theorem rfit_any (A : Option Addr) (n c : Nat) (ws : List Nat) (z : Int) (w : World) (h : Words w A n c ws) :
    Calls Try.prog 49 #[.slice A n c, .int .i64 z] w (BlkEnd w (fitR ws z)) := by
  have F := fun W (hW : Below w.heap.size w W) => rall_any A n c ws W (h.below hW)
  unfold fitR
  by_cases he : (allR ws).2 = 0
  · rw [if_neg (by simpa using he)]
    have hi : imgOk n := by have := img_of_all he; rw [h.len] at this; exact this
    have G := fun W (hW : Below w.heap.size w W) => rfree_any A n c ws W (h.below hW) hi
    have hs := extR_sized ws
    rw [show allR ws = ((allR ws).1, 0) from Prod.ext rfl he] at F
    by_cases hz : okSize z
    · rw [if_neg (by simpa using hz)]
      exact rfit_ok A n c _ _ _ z w hz hs (Lib.hid F) (Lib.hid G)
    · rw [if_pos hz]
      exact rfit_arg A n c _ z w hz (Lib.hid F)
  · rw [if_pos he]
    rw [allR_err he] at F
    exact rfit_err A n c _ z w he (Lib.hid F)

set_option maxRecDepth 100000 in
theorem walkFitFinds (A : Option Addr) (n c : Nat) (ws : List Nat) (z : Int) (w : World) (h : Words w A n c ws) (_h1 : -9223372036854775808 ≤ z) (_h2 : z ≤ 9223372036854775807) :
    Calls Try.prog 14 #[.slice A n c, .int .i64 z] w fun e w' => e = .returned (.bool true) ∧ Below w.heap.size w w' := by
  by_cases hn : n ≤ 2100
  case neg =>
    have C := Lib.hid fun W => great_yes A n c W (by omega)
    clear h
    go_enter Try.func14, Try.ntmps14
    go_wp2_with fail
    refine (C.out _).mono ?_
    rintro e w1 ⟨rfl, rfl⟩
    go_wp2
    go_ret
    exact ⟨rfl, Below.refl _ _⟩
  have G := Lib.hid fun W => great_no A n c W hn
  have TW := Lib.hid fun W h => twin_words A n c ws W h (by omega)
  have F1 := Lib.hid fun W A c h => find_any A n c ws z W h
  have F2 := Lib.hid fun W A c h => rfit_any A n c ws z W h
  obtain ⟨⟨b, x⟩, hr⟩ : ∃ r, fitR ws z = r := ⟨_, rfl⟩
  simp only [hr] at F1 F2
  have H0 := Lib.hid h
  have A0 := Lib.hid (Since.refl w)
  clear hr h hn
  go_enter Try.func14, Try.ntmps14
  go_wp2_with fail
  refine (G.out _).mono ?_
  rintro e wd ⟨rfl, rfl⟩
  go_wp2_with fail
  refine (TW.out _ H0.out).mono ?_
  rintro e w1 ⟨A', c', rfl, hT, hb1⟩
  have A1 := Lib.hid (show Since w w1 from Since.via (by repeat (first | with_reducible exact A0.out | with_reducible exact Since.refl _ | with_reducible refine Since.alloc ?_ _ | with_reducible refine Since.setCell ?_ (by first | omega | (simp; done) | (simp; omega)) _ | with_reducible refine Since.drew ?_ | with_reducible refine Since.drewN ?_ _)) hb1)
  have s1 := A1.out.size
  have B1 := Lib.hid (show Since w w1 from Since.via (by repeat (first | with_reducible exact Since.refl _ | with_reducible refine Since.alloc ?_ _ | with_reducible refine Since.setCell ?_ (by first | omega | (simp; done) | (simp; omega)) _ | with_reducible refine Since.drew ?_ | with_reducible refine Since.drewN ?_ _)) hb1)
  have H1 := Lib.hid (H0.out.below B1.out)
  have T1 := Lib.hid hT
  clear hT
  clear hb1
  go_wp2_with fail
  refine (F1.out _ _ _ (H1.out.below (Since.out (by repeat (first | with_reducible exact Since.refl _ | with_reducible refine Since.alloc ?_ _ | with_reducible refine Since.setCell ?_ (by first | omega | (simp; done) | (simp; omega)) _ | with_reducible refine Since.drew ?_ | with_reducible refine Since.drewN ?_ _))))).mono ?_
  rintro e w2 ⟨rfl, hb2⟩
  have A2 := Lib.hid (show Since w w2 from Since.via (by repeat (first | with_reducible exact A1.out | with_reducible exact Since.refl _ | with_reducible refine Since.alloc ?_ _ | with_reducible refine Since.setCell ?_ (by first | omega | (simp; done) | (simp; omega)) _ | with_reducible refine Since.drew ?_ | with_reducible refine Since.drewN ?_ _)) hb2)
  have s2 := A2.out.size
  have B2 := Lib.hid (show Since w1 w2 from Since.via (by repeat (first | with_reducible exact Since.refl _ | with_reducible refine Since.alloc ?_ _ | with_reducible refine Since.setCell ?_ (by first | omega | (simp; done) | (simp; omega)) _ | with_reducible refine Since.drew ?_ | with_reducible refine Since.drewN ?_ _)) hb2)
  have H2 := Lib.hid (H1.out.below B2.out)
  have T2 := Lib.hid (T1.out.below B2.out)
  clear hb2
  go_wp2_with fail
  refine (F2.out _ _ _ (T2.out.below (Since.out (by repeat (first | with_reducible exact Since.refl _ | with_reducible refine Since.alloc ?_ _ | with_reducible refine Since.setCell ?_ (by first | omega | (simp; done) | (simp; omega)) _ | with_reducible refine Since.drew ?_ | with_reducible refine Since.drewN ?_ _))))).mono ?_
  rintro e w3 ⟨rfl, hb3⟩
  have A3 := Lib.hid (show Since w w3 from Since.via (by repeat (first | with_reducible exact A2.out | with_reducible exact Since.refl _ | with_reducible refine Since.alloc ?_ _ | with_reducible refine Since.setCell ?_ (by first | omega | (simp; done) | (simp; omega)) _ | with_reducible refine Since.drew ?_ | with_reducible refine Since.drewN ?_ _)) hb3)
  have s3 := A3.out.size
  have B3 := Lib.hid (show Since w2 w3 from Since.via (by repeat (first | with_reducible exact Since.refl _ | with_reducible refine Since.alloc ?_ _ | with_reducible refine Since.setCell ?_ (by first | omega | (simp; done) | (simp; omega)) _ | with_reducible refine Since.drew ?_ | with_reducible refine Since.drewN ?_ _)) hb3)
  have H3 := Lib.hid (H2.out.below B3.out)
  have T3 := Lib.hid (T2.out.below B3.out)
  have X3 := Lib.hid (show Cells w3 (w2.heap.size) 24 (#[.int .i64 b.at_, .int .i64 b.size, .int .i64 b.kind, .int .i64 b.typ, .bool b.mark, .int .u64 (b.next : Nat)]) from Cells.kept (by repeat (first | with_reducible exact X2.out | with_reducible exact Cells.at_ _ _ _ (by first | omega | (simp; done) | (simp; omega)) | with_reducible refine Cells.alloc ?_ _ | with_reducible refine Cells.far' ?_ (by first | omega | (simp; done) | (simp; omega)) _ | with_reducible refine Cells.drew ?_ | with_reducible refine Cells.drewN ?_ _)) hb3)
  have Xz3 := X3.out.lt
  clear hb3
  obtain ⟨Xq0, Xq1, Xq2, Xq3, Xq4, Xq5⟩ := X3.out.six
  have Xlt := X3.out.lt
  go_wp2_with fail
  refine (same_words _ _ _ _ _ _ _ (H3.out.below (Since.out (by repeat (first | with_reducible exact Since.refl _ | with_reducible refine Since.alloc ?_ _ | with_reducible refine Since.setCell ?_ (by first | omega | (simp; done) | (simp; omega)) _ | with_reducible refine Since.drew ?_ | with_reducible refine Since.drewN ?_ _)))) (T3.out.below (Since.out (by repeat (first | with_reducible exact Since.refl _ | with_reducible refine Since.alloc ?_ _ | with_reducible refine Since.setCell ?_ (by first | omega | (simp; done) | (simp; omega)) _ | with_reducible refine Since.drew ?_ | with_reducible refine Since.drewN ?_ _))))).mono ?_
  rintro e w4 ⟨rfl, hb4⟩
  have A4 := Lib.hid (show Since w w4 from Since.via (by repeat (first | with_reducible exact A3.out | with_reducible exact Since.refl _ | with_reducible refine Since.alloc ?_ _ | with_reducible refine Since.setCell ?_ (by first | omega | (simp; done) | (simp; omega)) _ | with_reducible refine Since.drew ?_ | with_reducible refine Since.drewN ?_ _)) hb4)
  have s4 := A4.out.size
  clear hb4
  go_wp2
  go_ret
  exact ⟨rfl, (Since.out (by repeat (first | with_reducible exact A4.out | with_reducible exact Since.refl _ | with_reducible refine Since.alloc ?_ _ | with_reducible refine Since.setCell ?_ (by first | omega | (simp; done) | (simp; omega)) _ | with_reducible refine Since.drew ?_ | with_reducible refine Since.drewN ?_ _)))⟩
end Go.Proofs.Ytoifalgkeegklaa
