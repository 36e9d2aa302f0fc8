/- The law on what an object becomes, walked. -/
import Derived.Test.YtoifalgkeegklaaAlive16
import Derived.Test.YtoifalgkeegklaaBlkEq
import Derived.Test.YtoifalgkeegklaaOwnW
import Derived.Test.YtoifalgkeegklaaBecPlainB
import Derived.BigRegion
import Derived.StillTailTactics
import Derived.Deep.CutRange
import Derived.Deep.LoopGhost
namespace Go.Proofs.Ytoifalgkeegklaa
open Go.RowKit

/-- How far the search for the object has come. -/
def OwnRel (l : List Blk) (w3 : World) (x : Blk) (i : Nat) (f t : Value) (wr : World) : Prop :=
  ∃ (k : Nat) (z : Int), t = .int .i64 k ∧ f = .int .i64 z ∧ k ≤ l.length ∧ ((z = -1 ∧ k ≤ i) ∨ (z = i ∧ i < k)) ∧ Cells wr w3.heap.size 24 #[.int .i64 x.at_, .int .i64 x.size, .int .i64 x.kind, .int .i64 x.typ, .bool x.mark, .int .u64 (x.next : Nat)] ∧ Since w3 wr
def SeenRel (fl : List Blk) (x : Blk) (gx : Nat) (w8 : World) (f t : Value) (wr : World) : Prop :=
  ∃ (k : Nat) (z : Bool), t = .int .i64 k ∧ f = .bool z ∧ k ≤ fl.length ∧ Hid (z = true ∨ ∀ j (h : j < fl.length), j < k → fl[j] ≠ x) ∧ Cells wr gx 24 #[.int .i64 x.at_, .int .i64 x.size, .int .i64 x.kind, .int .i64 x.typ, .bool x.mark, .int .u64 (x.next : Nat)] ∧ Since w8 wr

set_option maxRecDepth 100000 in
set_option maxHeartbeats 8000000 in
/-- No object begins there, or no heap. -/
theorem becomes_no (A : Option Addr) (n c : Nat) (ws : List Nat) (a : Int) (l : List Blk) (z : Int) (w : World) (h : Words w A n c ws) (_h1 : -9223372036854775808 ≤ a) (_h2 : a ≤ 9223372036854775807) (hn : n ≤ 2100) (hi : imgOk n)
    (e1 : allR ws = (l, z)) (e2 : aroundR ws a = (zeroB, if z = 0 then 6 else z)) (hno : ∀ k (h : k < l.length), ¬ (l[k].at_ = a ∧ l[k].kind = 1)) :
    Calls Try.prog 6 #[.slice A n c, .int .i64 a] w fun e w' => e = .returned (.bool true) ∧ Below w.heap.size w w' := by
  have hm := h.most
  have hcap := h.cap
  have A0 := Lib.hid (Since.refl w)
  have G := Lib.hid fun W => great_no A n c W hn
  have K := Lib.hid fun W => rimg_ok A n c W (by omega) hi
  have H0 := Lib.hid h
  have F1 := Lib.hid fun W A c h => all_any A n c ws W h
  have F2 := Lib.hid fun W A c h => parnd_any A n c ws a W h
  rw [e1] at F1
  rw [e2] at F2
  have HNO := Lib.hid hno
  obtain ⟨y, hy⟩ : ∃ y, (if z = 0 then 6 else z) = y := ⟨_, rfl⟩
  rw [hy] at F2
  have HY := Lib.hid hy
  clear h hi hn e1 e2 hno hy
  go_enter Try.func6, Try.ntmps6
  go_wp2_with fail
  refine (alive16 _).mono ?_
  rintro e w1 ⟨rfl, hb1⟩
  have A1 := Lib.hid (show Since w w1 from Since.via (by repeat (first | with_reducible exact A0.out | with_reducible exact Since.refl _ | with_reducible refine Since.alloc ?_ _ | with_reducible refine Since.setCell ?_ (by first | omega | (simp; done) | (simp; omega)) _ | with_reducible refine Since.drew ?_ | with_reducible refine Since.drewN ?_ _)) hb1)
  have s1 := A1.out.size
  clear hb1
  go_wp2_with fail
  refine (G.out _).mono ?_
  rintro e wd ⟨rfl, rfl⟩
  go_wp2_with fail
  refine (K.out _).mono ?_
  rintro e wd ⟨rfl, rfl⟩
  go_wp2_with fail
  refine (F1.out _ _ _ (H0.out.below (Since.out (by repeat (first | with_reducible exact A1.out | with_reducible exact Since.refl _ | with_reducible refine Since.alloc ?_ _ | with_reducible refine Since.setCell ?_ (by first | omega | (simp; done) | (simp; omega)) _ | with_reducible refine Since.drew ?_ | with_reducible refine Since.drewN ?_ _))))).mono ?_
  rintro e w2 ⟨B1, d1, rfl, hB, hb2⟩
  have A2 := Lib.hid (show Since w w2 from Since.via (by repeat (first | with_reducible exact A1.out | with_reducible exact Since.refl _ | with_reducible refine Since.alloc ?_ _ | with_reducible refine Since.setCell ?_ (by first | omega | (simp; done) | (simp; omega)) _ | with_reducible refine Since.drew ?_ | with_reducible refine Since.drewN ?_ _)) hb2)
  have s2 := A2.out.size
  have L2 := Lib.hid hB
  clear hB
  clear hb2
  go_wp2_with fail
  refine (F2.out _ _ _ (H0.out.below (Since.out (by repeat (first | with_reducible exact A2.out | with_reducible exact Since.refl _ | with_reducible refine Since.alloc ?_ _ | with_reducible refine Since.setCell ?_ (by first | omega | (simp; done) | (simp; omega)) _ | with_reducible refine Since.drew ?_ | with_reducible refine Since.drewN ?_ _))))).mono ?_
  rintro e w3 ⟨rfl, hb3⟩
  have A3 := Lib.hid (show Since w w3 from Since.via (by repeat (first | with_reducible exact A2.out | with_reducible exact Since.refl _ | with_reducible refine Since.alloc ?_ _ | with_reducible refine Since.setCell ?_ (by first | omega | (simp; done) | (simp; omega)) _ | with_reducible refine Since.drew ?_ | with_reducible refine Since.drewN ?_ _)) hb3)
  have s3 := A3.out.size
  have B3 := Lib.hid (show Since w2 w3 from Since.via (by repeat (first | with_reducible exact Since.refl _ | with_reducible refine Since.alloc ?_ _ | with_reducible refine Since.setCell ?_ (by first | omega | (simp; done) | (simp; omega)) _ | with_reducible refine Since.drew ?_ | with_reducible refine Since.drewN ?_ _)) hb3)
  have L3 := Lib.hid (L2.out.below B3.out)
  clear hb3
  go_wp2
  go_loopw [10, 11] (fun f t wr => ∃ k : Nat, t = .int .i64 k ∧ f = .int .i64 (-1) ∧ k ≤ l.length ∧ Since w3 wr) (fun _ t _ => l.length - (intOf t).toNat)
  case atStart => exact ⟨0, rfl, rfl, Nat.zero_le _, (by repeat (first | with_reducible exact C.out | with_reducible exact Since.refl _ | with_reducible refine Since.alloc ?_ _ | with_reducible refine Since.setCell ?_ (by first | omega | (simp; done) | (simp; omega)) _ | with_reducible refine Since.drew ?_ | with_reducible refine Since.drewN ?_ _))⟩
  case round =>
    obtain ⟨k, rfl, rfl, hk, hnx⟩ := hrel
    obtain ⟨w4, hw4⟩ : ∃ x, x = wr := ⟨_, rfl⟩
    subst hw4
    have C4 := Lib.hid hnx
    have A4 := Lib.hid (Since.trans A3.out hnx)
    have L4 := Lib.hid (L3.out.below hnx)
    clear hnx
    by_cases hlt : k < l.length
    · obtain ⟨g, o, rfl, hg⟩ := L4.out.at_ (by omega)
      have hcap4 := L4.out.cap
      have hmost4 := L4.out.most
      obtain ⟨c0, c1, c2, c3, c4, c5⟩ := L4.out.same hlt
      have hne := HNO.out k hlt
      by_cases ha : l[k].at_ = a
      · have hk1 : (l[k].kind == 1) = false := by simpa using fun e => hne ⟨ha, e⟩
        rw [ha] at c0
        generalize l[k] = b at *
        clear ha hne
        go_wp2
        go_roundw
        case rel => exact ⟨k + 1, by go_num, rfl, by omega, C4.out⟩
        case measure => simp [intOf]; omega
      · have he2 : (l[k].at_ == a) = false := by simpa using ha
        generalize l[k] = b at *
        clear ha hne
        go_wp2
        go_roundw
        case rel => exact ⟨k + 1, by go_num, rfl, by omega, C4.out⟩
        case measure => simp [intOf]; omega
    · obtain rfl : k = l.length := by omega
      by_cases hz : z = 0
      · subst hz
        obtain rfl : (6 : Int) = y := by rw [← HY.out]; rfl
        go_wp2
        go_ret
        exact ⟨rfl, A4.out⟩
      · obtain rfl : z = y := by rw [← HY.out, if_neg hz]
        have hz2 : (z != 0) = true := by simpa using hz
        clear hz
        go_wp2
        go_ret
        exact ⟨rfl, A4.out⟩

/-- Two words are written. -/
def PutRel (w : World) (g p x y : Nat) (w' : World) : Prop := ∃ n, w' = ((w.setCell ⟨g, p, none⟩ (.int .u64 (x : Int))).setCell ⟨g, p + 1, none⟩ (.int .u64 (y : Int))).drewN n

set_option maxRecDepth 100000 in
set_option maxHeartbeats 8000000 in
theorem walkExtentsBecomes (A : Option Addr) (n c : Nat) (ws : List Nat) (a : Int) (w : World) (h : Words w A n c ws) (_h1 : -9223372036854775808 ≤ a) (_h2 : a ≤ 9223372036854775807) :
    Calls Try.prog 6 #[.slice A n c, .int .i64 a] w fun e w' => e = .returned (.bool true) ∧ Below w.heap.size w w' := by
  have hm := h.most
  have hcap := h.cap
  have A0 := Lib.hid (Since.refl w)
  by_cases hn : n ≤ 2100
  case neg =>
    have G := Lib.hid fun W => great_yes A n c W (by omega)
    clear h
    go_enter Try.func6, Try.ntmps6
    go_wp2_with fail
    refine (alive16 _).mono ?_
    rintro e w1 ⟨rfl, hb1⟩
    have A1 := Lib.hid (show Since w w1 from Since.via (by repeat (first | with_reducible exact A0.out | with_reducible exact Since.refl _ | with_reducible refine Since.alloc ?_ _ | with_reducible refine Since.setCell ?_ (by first | omega | (simp; done) | (simp; omega)) _ | with_reducible refine Since.drew ?_ | with_reducible refine Since.drewN ?_ _)) hb1)
    have s1 := A1.out.size
    clear hb1
    go_wp2_with fail
    refine (G.out _).mono ?_
    rintro e wd ⟨rfl, rfl⟩
    go_wp2
    go_ret
    exact ⟨rfl, (Since.out (by repeat (first | with_reducible exact A1.out | with_reducible exact Since.refl _ | with_reducible refine Since.alloc ?_ _ | with_reducible refine Since.setCell ?_ (by first | omega | (simp; done) | (simp; omega)) _ | with_reducible refine Since.drew ?_ | with_reducible refine Since.drewN ?_ _)))⟩
  have G := Lib.hid fun W => great_no A n c W hn
  by_cases hi : imgOk n
  case neg =>
    have K := Lib.hid fun W => rimg_bad A n c W (by omega) hi
    clear h hi
    go_enter Try.func6, Try.ntmps6
    go_wp2_with fail
    refine (alive16 _).mono ?_
    rintro e w1 ⟨rfl, hb1⟩
    have A1 := Lib.hid (show Since w w1 from Since.via (by repeat (first | with_reducible exact A0.out | with_reducible exact Since.refl _ | with_reducible refine Since.alloc ?_ _ | with_reducible refine Since.setCell ?_ (by first | omega | (simp; done) | (simp; omega)) _ | with_reducible refine Since.drew ?_ | with_reducible refine Since.drewN ?_ _)) hb1)
    have s1 := A1.out.size
    clear hb1
    go_wp2_with fail
    refine (G.out _).mono ?_
    rintro e wd ⟨rfl, rfl⟩
    go_wp2_with fail
    refine (K.out _).mono ?_
    rintro e wd ⟨rfl, rfl⟩
    go_wp2
    go_ret
    exact ⟨rfl, (Since.out (by repeat (first | with_reducible exact A1.out | with_reducible exact Since.refl _ | with_reducible refine Since.alloc ?_ _ | with_reducible refine Since.setCell ?_ (by first | omega | (simp; done) | (simp; omega)) _ | with_reducible refine Since.drew ?_ | with_reducible refine Since.drewN ?_ _)))⟩
  have K := Lib.hid fun W => rimg_ok A n c W (by omega) hi
  have hlen := h.len
  by_cases he : (allR ws).2 = 0
  case neg =>
    refine becomes_no A n c ws a [] (allR ws).2 w h _h1 _h2 hn hi (allR_err he) ?_ (fun k hk => absurd hk (by simp))
    unfold aroundR
    rw [if_pos he, if_neg he]
  obtain ⟨hiw, l, hc, ha, e1⟩ := allR_ok he
  have e2 := around_seek a e1
  cases hs : seek l a l.length 0 with
  | none =>
    rw [hs] at e2
    refine becomes_no A n c ws a l 0 w h _h1 _h2 hn hi e1 (by rw [e2]; rfl) (fun k hk => ?_)
    have := seek_none l.length 0 hs k (by omega) (by omega)
    rw [atAt_get hk, kindAt_get hk] at this
    exact this
  | some i =>
    rw [hs] at e2
    simp only [aroundO] at e2
    obtain ⟨hl, p, q, m, hat, hk1, hx1, hx2, hp128, hpq, hqn, hpa, hqa, hg, hm2, hlm, hmem⟩ := becomes_law hiw hc ha hs
    have HU := Lib.hid fun k (h : k < l.length) (hne : k ≠ i) => chain_ne (chain_of_seg hc) h hl hne
    have TW := Lib.hid fun W h => twin_own A n c ws W h (by have := hi.1; omega) (by omega)
    have F1 := Lib.hid fun W A c h => all_any A n c ws W h
    have F2 := Lib.hid fun W A c h => parnd_any A n c ws a W h
    rw [e1] at F1
    obtain ⟨⟨xa, xs, xk, xt, xm, xn⟩, hbx⟩ : ∃ x, becomes l i = x := ⟨_, rfl⟩
    have hbx1 : xk = 2 := congrArg Blk.kind hbx.symm
    have hbx2 : xt = 0 := congrArg Blk.typ hbx.symm
    have hbx3 : xm = false := congrArg Blk.mark hbx.symm
    have hbx4 : xn = 0 := congrArg Blk.next hbx.symm
    subst hbx1 hbx2 hbx3 hbx4
    rw [hbx] at hx1 hx2 hg hm2 hmem e2
    simp only at hx1 hx2
    subst hx1
    rw [e2] at F2
    have hz := (chain_sized (chain_of_seg hc)).get hl
    have hz3 := chain_le (chain_of_seg hc)
    have hz4 := freeL_len m
    have hz5 : m.length ≤ 1000000 := by have := allR_le ((ws.set p (Blk.hdr ⟨p, xs, 2, 0, false, 0⟩)).set (p + 1) 0); rw [hm2] at this; exact this
    have hn2 := hi.2.1
    rw [hlen] at hz3 hqn
    have C := Lib.hid fun W => hword_ok p xs 2 0 false 0 W hg
    have N1 := Lib.hid fun W A c h => ext_any A n c ((ws.set p (Blk.hdr ⟨p, xs, 2, 0, false, 0⟩)).set (p + 1) 0) W h
    have N2 := Lib.hid fun W A c h => all_any A n c ((ws.set p (Blk.hdr ⟨p, xs, 2, 0, false, 0⟩)).set (p + 1) 0) W h
    have q2 : extR ((ws.set p (Blk.hdr ⟨p, xs, 2, 0, false, 0⟩)).set (p + 1) 0) = (freeL m, 0) := by unfold extR; rw [hm2]
    rw [q2] at N1
    rw [hm2] at N2
    have HL := Lib.hid (words_set (i := p + 1) (v := 0) (words_set (i := p) h.lt (hdr_lt hg)) (by omega))
    have HMEM := Lib.hid hmem
    have g1 : p < n := by omega
    have g2' : p + 1 < n := by omega
    have d1 : decide (a < (p : Int)) = false := by simp; omega
    have d2 : decide ((p : Int) < 128) = false := by simp; omega
    have hxs : 2 ≤ xs ∧ (p : Int) + xs ≤ 2048 := by omega
    obtain ⟨hxs0, hxs1⟩ := hxs
    have d3 : IntKind.i64.wrap ((p : Int) + xs) = (p : Int) + xs := by rw [IntKind.wrap_i64]; omega
    have d4 : decide ((n : Int) < (p : Int) + xs) = false := by simp; omega
    have ha1 : 128 ≤ a ∧ a ≤ 2048 := by omega
    obtain ⟨bs, hbs⟩ : ∃ bs, l[i].size = bs := ⟨_, rfl⟩
    rw [hbs] at hqa hz
    have HBS := Lib.hid hbs
    have HAT := Lib.hid hat
    have HK1 := Lib.hid hk1
    have d5 : IntKind.i64.wrap (a + bs) = a + bs := by rw [IntKind.wrap_i64]; omega
    have d6 : decide ((p : Int) + xs < a + bs) = false := by simp; omega
    have d7 : IntKind.i64.wrap ((p : Int) + 1) = ((p : Int) + 1) := by rw [IntKind.wrap_i64]; omega
    have hll : l.length ≤ 2048 := by omega
    have H0 := Lib.hid h
    generalize hfm : freeL m = fm at *
    generalize Blk.hdr ⟨p, xs, 2, 0, false, 0⟩ = hd at *
    have hmls : m.length ≤ 1000000 := hz5
    clear _h1 _h2 hfm h hlen hi he hiw hc ha e1 e2 hs hat hk1 hg hm2 hmem hbx q2 hz5 hbs hx2 hz3 hz4 hqn hpq hqa hpa
    go_enter Try.func6, Try.ntmps6
    go_wp2_with fail
    refine (alive16 _).mono ?_
    rintro e w1 ⟨rfl, hb1⟩
    have A1 := Lib.hid (show Since w w1 from Since.via (by repeat (first | with_reducible exact A0.out | with_reducible exact Since.refl _ | with_reducible refine Since.alloc ?_ _ | with_reducible refine Since.setCell ?_ (by first | omega | (simp; done) | (simp; omega)) _ | with_reducible refine Since.drew ?_ | with_reducible refine Since.drewN ?_ _)) hb1)
    have s1 := A1.out.size
    clear hb1
    go_wp2_with fail
    refine (G.out _).mono ?_
    rintro e wd ⟨rfl, rfl⟩
    go_wp2_with fail
    refine (K.out _).mono ?_
    rintro e wd ⟨rfl, rfl⟩
    go_wp2_with fail
    refine (F1.out _ _ _ (H0.out.below (Since.out (by repeat (first | with_reducible exact A1.out | with_reducible exact Since.refl _ | with_reducible refine Since.alloc ?_ _ | with_reducible refine Since.setCell ?_ (by first | omega | (simp; done) | (simp; omega)) _ | with_reducible refine Since.drew ?_ | with_reducible refine Since.drewN ?_ _))))).mono ?_
    rintro e w2 ⟨B1, b1, rfl, hB, hb2⟩
    have A2 := Lib.hid (show Since w w2 from Since.via (by repeat (first | with_reducible exact A1.out | with_reducible exact Since.refl _ | with_reducible refine Since.alloc ?_ _ | with_reducible refine Since.setCell ?_ (by first | omega | (simp; done) | (simp; omega)) _ | with_reducible refine Since.drew ?_ | with_reducible refine Since.drewN ?_ _)) hb2)
    have s2 := A2.out.size
    have L2 := Lib.hid hB
    clear hB
    clear hb2
    go_wp2_with fail
    refine (F2.out _ _ _ (H0.out.below (Since.out (by repeat (first | with_reducible exact A2.out | with_reducible exact Since.refl _ | with_reducible refine Since.alloc ?_ _ | with_reducible refine Since.setCell ?_ (by first | omega | (simp; done) | (simp; omega)) _ | with_reducible refine Since.drew ?_ | with_reducible refine Since.drewN ?_ _))))).mono ?_
    rintro e w3 ⟨rfl, hb3⟩
    have A3 := Lib.hid (show Since w w3 from Since.via (by repeat (first | with_reducible exact A2.out | with_reducible exact Since.refl _ | with_reducible refine Since.alloc ?_ _ | with_reducible refine Since.setCell ?_ (by first | omega | (simp; done) | (simp; omega)) _ | with_reducible refine Since.drew ?_ | with_reducible refine Since.drewN ?_ _)) hb3)
    have s3 := A3.out.size
    have B3 := Lib.hid (show Since w2 w3 from Since.via (by repeat (first | with_reducible exact Since.refl _ | with_reducible refine Since.alloc ?_ _ | with_reducible refine Since.setCell ?_ (by first | omega | (simp; done) | (simp; omega)) _ | with_reducible refine Since.drew ?_ | with_reducible refine Since.drewN ?_ _)) hb3)
    have L3 := Lib.hid (L2.out.below B3.out)
    clear hb3
    go_wp2
    go_loopw [10, 11] (fun f t wr => OwnRel l w3 ⟨p, xs, 2, 0, false, 0⟩ i f t wr) (fun _ t _ => l.length - (intOf t).toNat)
    case atStart => exact ⟨0, -1, rfl, rfl, Nat.zero_le _, .inl ⟨rfl, Nat.zero_le _⟩, Cells.new _ _ _, (by repeat (first | with_reducible exact C.out | with_reducible exact Since.refl _ | with_reducible refine Since.alloc ?_ _ | with_reducible refine Since.setCell ?_ (by first | omega | (simp; done) | (simp; omega)) _ | with_reducible refine Since.drew ?_ | with_reducible refine Since.drewN ?_ _))⟩
    case round =>
      obtain ⟨k, f, rfl, rfl, hk, hF, hX, hnx⟩ := hrel
      obtain ⟨w4, hw4⟩ : ∃ x, x = wr := ⟨_, rfl⟩
      subst hw4
      have C4 := Lib.hid hnx
      have A4 := Lib.hid (Since.trans A3.out hnx)
      have L4 := Lib.hid (L3.out.below hnx)
      have X4 := Lib.hid (show Cells w4 w3.heap.size 24 #[.int .i64 p, .int .i64 xs, .int .i64 2, .int .i64 0, .bool false, .int .u64 0] from hX)
      have FO := Lib.hid hF
      have s4 := C4.out.size
      have z4 := X4.out.lt
      clear hnx hX hF
      by_cases hlt : k < l.length
      · obtain ⟨g, o, rfl, hg⟩ := L4.out.at_ (by omega)
        have hcap4 := L4.out.cap
        have hmost4 := L4.out.most
        obtain ⟨c0, c1, c2, c3, c4, c5⟩ := L4.out.same hlt
        by_cases hki : i = k
        · obtain rfl : i = k := hki
          rw [HAT.out] at c0
          rw [HK1.out] at c2
          go_wp2
          go_roundw
          case rel => exact ⟨i + 1, (i : Int), by go_num, rfl, by omega, .inr ⟨rfl, by omega⟩, X4.out, (by repeat (first | with_reducible exact C4.out | with_reducible exact Since.refl _ | with_reducible refine Since.alloc ?_ _ | with_reducible refine Since.setCell ?_ (by first | omega | (simp; done) | (simp; omega)) _ | with_reducible refine Since.drew ?_ | with_reducible refine Since.drewN ?_ _))⟩
          case measure => simp [intOf]; omega
        · have hne : (l[k].at_ == a) = false := by have := HU.out k hlt (fun e => hki e.symm); rw [HAT.out] at this; simpa using this
          generalize l[k] = b at *
          go_wp2
          go_roundw
          case rel => exact ⟨k + 1, f, by go_num, rfl, by omega, FO.out.elim (fun h => .inl ⟨h.1, by have := h.2; omega⟩) (fun h => .inr ⟨h.1, by have := h.2; omega⟩), X4.out, (by repeat (first | with_reducible exact C4.out | with_reducible exact Since.refl _ | with_reducible refine Since.alloc ?_ _ | with_reducible refine Since.setCell ?_ (by first | omega | (simp; done) | (simp; omega)) _ | with_reducible refine Since.drew ?_ | with_reducible refine Since.drewN ?_ _))⟩
          case measure => simp [intOf]; omega
      · obtain rfl : k = l.length := by omega
        obtain rfl : f = (i : Int) := by
          rcases FO.out with ⟨_, h⟩ | ⟨e, _⟩
          · exact absurd hl (by omega)
          · exact e
        obtain ⟨g, o, rfl, hg⟩ := L4.out.at_ (by omega)
        have hcap4 := L4.out.cap
        have hmost4 := L4.out.most
        obtain ⟨c0, c1, c2, c3, c4, c5⟩ := L4.out.same hl
        rw [HBS.out] at c1
        have i1 : ¬ ((i : Nat) : Int) < 0 := by omega
        have i2 : (0 : Int) ≤ (i : Int) := by omega
        have i3 : (i : Int) < (l.length : Int) := by omega
        obtain ⟨Xq0, Xq1, Xq2, Xq3, Xq4, Xq5⟩ := X4.out.six
        have Xlt := X4.out.lt
        go_wp2_with fail
        go_quiet (fail)
        clear c0 c1 c2 c3 c4 c5 Xq0 Xq1 Xq2 Xq3 Xq4 Xq5 Xlt
        obtain ⟨Xq0, Xq1, Xq2, Xq3, Xq4, Xq5⟩ := X4.out.six
        have Xlt := X4.out.lt
        go_wp2_with fail
        refine (C.out _).mono ?_
        rintro e w5 ⟨rfl, hb5⟩
        clear Xq0 Xq1 Xq2 Xq3 Xq4 Xq5 Xlt
        have A5 := Lib.hid (show Since w w5 from Since.via (by repeat (first | with_reducible exact A4.out | with_reducible exact Since.refl _ | with_reducible refine Since.alloc ?_ _ | with_reducible refine Since.setCell ?_ (by first | omega | (simp; done) | (simp; omega)) _ | with_reducible refine Since.drew ?_ | with_reducible refine Since.drewN ?_ _)) hb5)
        have s5 := A5.out.size
        have X5 := Lib.hid (show Cells w5 (w3.heap.size) 24 (#[.int .i64 p, .int .i64 xs, .int .i64 2, .int .i64 0, .bool false, .int .u64 0]) from Cells.kept (by repeat (first | with_reducible exact X4.out | with_reducible exact Cells.at_ _ _ _ (by first | omega | (simp; done) | (simp; omega)) | with_reducible refine Cells.alloc ?_ _ | with_reducible refine Cells.far' ?_ (by first | omega | (simp; done) | (simp; omega)) _ | with_reducible refine Cells.drew ?_ | with_reducible refine Cells.drewN ?_ _)) hb5)
        have Xz5 := X5.out.lt
        clear hb5
        go_wp2_with fail
        refine (TW.out _ (H0.out.below (Since.out (by repeat (first | with_reducible exact A5.out | with_reducible exact Since.refl _ | with_reducible refine Since.alloc ?_ _ | with_reducible refine Since.setCell ?_ (by first | omega | (simp; done) | (simp; omega)) _ | with_reducible refine Since.drew ?_ | with_reducible refine Since.drewN ?_ _))))).mono ?_
        rintro e w6 ⟨g2, c', rfl, hown, hb6⟩
        have A6 := Lib.hid (show Since w w6 from Since.via (by repeat (first | with_reducible exact A5.out | with_reducible exact Since.refl _ | with_reducible refine Since.alloc ?_ _ | with_reducible refine Since.setCell ?_ (by first | omega | (simp; done) | (simp; omega)) _ | with_reducible refine Since.drew ?_ | with_reducible refine Since.drewN ?_ _)) hb6)
        have s6 := A6.out.size
        have X6 := Lib.hid (show Cells w6 (w3.heap.size) 24 (#[.int .i64 p, .int .i64 xs, .int .i64 2, .int .i64 0, .bool false, .int .u64 0]) from Cells.kept (by repeat (first | with_reducible exact X5.out | with_reducible exact Cells.at_ _ _ _ (by first | omega | (simp; done) | (simp; omega)) | with_reducible refine Cells.alloc ?_ _ | with_reducible refine Cells.far' ?_ (by first | omega | (simp; done) | (simp; omega)) _ | with_reducible refine Cells.drew ?_ | with_reducible refine Cells.drewN ?_ _)) hb6)
        have Xz6 := X6.out.lt
        clear hb6
        have hg2 := hown.at_
        have OW6 := Lib.hid hown
        have k0 := hown.cell g1
        have k1 := hown.cell g2'
        have f0 := hown.frozen p
        have f1 := hown.frozen (p + 1)
        clear hown
        obtain ⟨Xq0, Xq1, Xq2, Xq3, Xq4, Xq5⟩ := X6.out.six
        go_upto_region 20 with (fail)
        go_cut [] from 21 to 190 (fun wx => PutRel w6 g2 p hd 0 wx)
        case first =>
          as_aux_lemma =>
            go_region
            all_goals
              go_wp2_with fail
              go_meet
              exact ⟨1, rfl⟩
        case rest =>
          obtain ⟨nq, hw7⟩ := hcut
          have Y7 := Lib.hid (show Words wc (some ⟨g2, 0, none⟩) n c' ((ws.set p hd).set (p + 1) 0) from by
            rw [hw7]; exact (((OW6.out.set_ p hd).set_ (p + 1) 0).words HL.out).below (Since.out (Since.drewN (Since.refl _) _)))
          have X7 := Lib.hid (show Cells wc w3.heap.size 24 #[.int .i64 p, .int .i64 xs, .int .i64 2, .int .i64 0, .bool false, .int .u64 0] by rw [hw7]; exact Cells.drewN (Cells.far' (Cells.far' X6.out (by omega) _) (by omega) _) _)
          have A7 := Lib.hid (show Since w wc by rw [hw7]; exact Since.drewN (Since.setCell (Since.setCell A6.out (by omega) _) (by omega) _) _)
          clear hw7 k0 k1 f0 f1 Xq0 Xq1 Xq2 Xq3 Xq4 Xq5
          obtain ⟨w7, hw7⟩ : ∃ x, x = wc := ⟨_, rfl⟩
          subst hw7
          have s7 := A7.out.size
          go_wp2_with fail
          refine (N1.out _ _ _ (Y7.out.below (Since.out (by repeat (first | with_reducible exact Since.refl _ | with_reducible refine Since.alloc ?_ _ | with_reducible refine Since.setCell ?_ (by first | omega | (simp; done) | (simp; omega)) _ | with_reducible refine Since.drew ?_ | with_reducible refine Since.drewN ?_ _))))).mono ?_
          rintro e w8 ⟨B8, d8, rfl, hB, hb8⟩
          have A8 := Lib.hid (show Since w w8 from Since.via (by repeat (first | with_reducible exact A7.out | with_reducible exact Since.refl _ | with_reducible refine Since.alloc ?_ _ | with_reducible refine Since.setCell ?_ (by first | omega | (simp; done) | (simp; omega)) _ | with_reducible refine Since.drew ?_ | with_reducible refine Since.drewN ?_ _)) hb8)
          have s8 := A8.out.size
          have B8 := Lib.hid (show Since w7 w8 from Since.via (by repeat (first | with_reducible exact Since.refl _ | with_reducible refine Since.alloc ?_ _ | with_reducible refine Since.setCell ?_ (by first | omega | (simp; done) | (simp; omega)) _ | with_reducible refine Since.drew ?_ | with_reducible refine Since.drewN ?_ _)) hb8)
          have Y8 := Lib.hid (Y7.out.below B8.out)
          have Q8 := Lib.hid hB
          clear hB
          have X8 := Lib.hid (show Cells w8 (w3.heap.size) 24 (#[.int .i64 p, .int .i64 xs, .int .i64 2, .int .i64 0, .bool false, .int .u64 0]) from Cells.kept (by repeat (first | with_reducible exact X7.out | with_reducible exact Cells.at_ _ _ _ (by first | omega | (simp; done) | (simp; omega)) | with_reducible refine Cells.alloc ?_ _ | with_reducible refine Cells.far' ?_ (by first | omega | (simp; done) | (simp; omega)) _ | with_reducible refine Cells.drew ?_ | with_reducible refine Cells.drewN ?_ _)) hb8)
          have Xz8 := X8.out.lt
          clear hb8
          go_wp2_with fail
          refine (N2.out _ _ _ (Y8.out.below (Since.out (by repeat (first | with_reducible exact Since.refl _ | with_reducible refine Since.alloc ?_ _ | with_reducible refine Since.setCell ?_ (by first | omega | (simp; done) | (simp; omega)) _ | with_reducible refine Since.drew ?_ | with_reducible refine Since.drewN ?_ _))))).mono ?_
          rintro e w9 ⟨B9, d9, rfl, hB9, hb9⟩
          have A9 := Lib.hid (show Since w w9 from Since.via (by repeat (first | with_reducible exact A8.out | with_reducible exact Since.refl _ | with_reducible refine Since.alloc ?_ _ | with_reducible refine Since.setCell ?_ (by first | omega | (simp; done) | (simp; omega)) _ | with_reducible refine Since.drew ?_ | with_reducible refine Since.drewN ?_ _)) hb9)
          have s9 := A9.out.size
          have B9 := Lib.hid (show Since w8 w9 from Since.via (by repeat (first | with_reducible exact Since.refl _ | with_reducible refine Since.alloc ?_ _ | with_reducible refine Since.setCell ?_ (by first | omega | (simp; done) | (simp; omega)) _ | with_reducible refine Since.drew ?_ | with_reducible refine Since.drewN ?_ _)) hb9)
          have Q9 := Lib.hid (Q8.out.below B9.out)
          have X9 := Lib.hid (show Cells w9 (w3.heap.size) 24 (#[.int .i64 p, .int .i64 xs, .int .i64 2, .int .i64 0, .bool false, .int .u64 0]) from Cells.kept (by repeat (first | with_reducible exact X8.out | with_reducible exact Cells.at_ _ _ _ (by first | omega | (simp; done) | (simp; omega)) | with_reducible refine Cells.alloc ?_ _ | with_reducible refine Cells.far' ?_ (by first | omega | (simp; done) | (simp; omega)) _ | with_reducible refine Cells.drew ?_ | with_reducible refine Cells.drewN ?_ _)) hb9)
          have Xz9 := X9.out.lt
          clear hb9
          have n1 : decide ((m.length : Int) < (l.length : Int) - 2) = false := by simp; omega
          have hcapQ := Q9.out.cap
          have hmostQ := Q9.out.most
          go_wp2
          go_loopw [19, 20] (fun f t wr => SeenRel fm ⟨p, xs, 2, 0, false, 0⟩ w3.heap.size w9 f t wr) (fun _ t _ => fm.length - (intOf t).toNat)
          case atStart => exact ⟨0, false, rfl, rfl, Nat.zero_le _, Lib.hid (.inr (fun _ _ h => absurd h (by omega))), X9.out, Since.refl _⟩
          case round =>
            obtain ⟨k, z, rfl, rfl, hk, hS, hX, hnx⟩ := hrel
            obtain ⟨w10, hw10⟩ : ∃ x, x = wr := ⟨_, rfl⟩
            subst hw10
            have C10 := Lib.hid hnx
            have A10 := Lib.hid (Since.trans A9.out hnx)
            have Q10 := Lib.hid (Q9.out.below hnx)
            have X10 := Lib.hid (show Cells w10 w3.heap.size 24 #[.int .i64 p, .int .i64 xs, .int .i64 2, .int .i64 0, .bool false, .int .u64 0] from hX)
            have s10 := C10.out.size
            clear hnx hX
            by_cases hlt : k < fm.length
            · cases z with
              | true =>
                go_wp2_with fail
                go_quiet (fail)
                go_wp2
                go_roundw
                case rel => exact ⟨k + 1, true, by go_num, rfl, by omega, Lib.hid (.inl rfl), X10.out, (by repeat (first | with_reducible exact C10.out | with_reducible exact Since.refl _ | with_reducible refine Since.alloc ?_ _ | with_reducible refine Since.setCell ?_ (by first | omega | (simp; done) | (simp; omega)) _ | with_reducible refine Since.drew ?_ | with_reducible refine Since.drewN ?_ _))⟩
                case measure => simp [intOf]; omega
              | false =>
                obtain ⟨g, o, rfl, hg⟩ := Q10.out.at_ (by omega)
                obtain ⟨c0, c1, c2, c3, c4, c5⟩ := Q10.out.same hlt
                obtain ⟨Xq0, Xq1, Xq2, Xq3, Xq4, Xq5⟩ := X10.out.six
                have Xlt := X10.out.lt
                by_cases he : fm[k] = ⟨p, xs, 2, 0, false, 0⟩
                · rw [he] at c0 c1 c2 c3 c4 c5
                  simp only at c0 c1 c2 c3 c4 c5
                  clear he
                  go_wp2_with fail
                  go_quiet (fail)
                  go_wp2
                  go_roundw
                  case rel => exact ⟨k + 1, true, by go_num, rfl, by omega, Lib.hid (.inl rfl), X10.out, (by repeat (first | with_reducible exact C10.out | with_reducible exact Since.refl _ | with_reducible refine Since.alloc ?_ _ | with_reducible refine Since.setCell ?_ (by first | omega | (simp; done) | (simp; omega)) _ | with_reducible refine Since.drew ?_ | with_reducible refine Since.drewN ?_ _))⟩
                  case measure => simp [intOf]; omega
                · have NE : ∀ W : World, (binOp .eql 24 (.agg #[.int .i64 fm[k].at_, .int .i64 fm[k].size, .int .i64 fm[k].kind, .int .i64 fm[k].typ, .bool fm[k].mark, .int .u64 (fm[k].next : Nat)]) (.agg #[.int .i64 p, .int .i64 xs, .int .i64 2, .int .i64 0, .bool false, .int .u64 0])).run Try.prog W = .ok (.bool false) W := blk_ne fm[k] ⟨p, xs, 2, 0, false, 0⟩ he
                  have HS2 := Lib.hid (show ∀ j (h : j < fm.length), j < k + 1 → fm[j] ≠ ⟨p, xs, 2, 0, false, 0⟩ from fun j hj hjk => by
                    rcases Nat.lt_or_ge j k with hl | hl
                    · rcases hS.out with e | e
                      · cases e
                      · exact e j hj hl
                    · obtain rfl : j = k := by omega
                      exact he)
                  generalize fm[k] = b at *
                  clear he
                  go_wp2_with fail
                  go_quiet (fail)
                  go_wp2
                  go_roundw
                  case rel => exact ⟨k + 1, false, by go_num, rfl, by omega, Lib.hid (.inr HS2.out), X10.out, (by repeat (first | with_reducible exact C10.out | with_reducible exact Since.refl _ | with_reducible refine Since.alloc ?_ _ | with_reducible refine Since.setCell ?_ (by first | omega | (simp; done) | (simp; omega)) _ | with_reducible refine Since.drew ?_ | with_reducible refine Since.drewN ?_ _))⟩
                  case measure => simp [intOf]; omega
            · obtain rfl : k = fm.length := by omega
              obtain rfl : z = true := by
                rcases hS.out with e | e
                · exact e
                · obtain ⟨j, hj, ej⟩ := List.getElem_of_mem HMEM.out
                  exact absurd ej (e j hj hj)
              go_wp2
              go_ret
              exact ⟨rfl, (Since.out (by repeat (first | with_reducible exact A10.out | with_reducible exact Since.refl _ | with_reducible refine Since.alloc ?_ _ | with_reducible refine Since.setCell ?_ (by first | omega | (simp; done) | (simp; omega)) _ | with_reducible refine Since.drew ?_ | with_reducible refine Since.drewN ?_ _)))⟩
end Go.Proofs.Ytoifalgkeegklaa
