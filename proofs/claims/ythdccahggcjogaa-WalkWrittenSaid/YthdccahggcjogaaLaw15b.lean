/- The law on what is found by addresses, walked. -/
import Derived.Test.YthdccahggcjogaaAlive15
import Derived.Test.YthdccahggcjogaaLaw15
import Derived.Test.YthdccahggcjogaaLaw15Plain
namespace Go.Proofs.Ythdccahggcjogaa
open Go.RowKit

theorem allR_len (ws : List Nat) : (allR ws).1.length ≤ 1000000 := by
  rcases allR_cases ws with ⟨_, e⟩ | ⟨_, _, e⟩ | ⟨l, _, _, _, e⟩ | ⟨l, h1, _, _, hc, _, e⟩ <;> rw [e] <;> simp
  have := chain_le hc
  have := h1.2.1
  omega

def FoundRel (l : List Blk) (a : Int) (w3 : World) (b : Blk) (f t : Value) (wr : World) : Prop :=
  ∃ (k : Nat) (z : Int), t = .int .i64 k ∧ f = .int .i64 z ∧ k ≤ l.length ∧ Found l a k z ∧ Cells wr w3.heap.size 24 #[.int .i64 b.at_, .int .i64 b.size, .int .i64 b.kind, .int .i64 b.typ, .bool b.mark, .int .u64 (b.next : Nat)] ∧ Since w3 wr

theorem rsame_n (n : Nat) (A : Option Addr) (c : Nat) (A' : Option Addr) (c' : Nat) (l : List Blk) (w : World) (h : Blks w A n c l) (h' : Blks w A' n c' l) :
    Calls Try.prog 35 #[.slice A n c, .slice A' n c'] w fun e w' => e = .returned (.bool true) ∧ Below w.heap.size w w' := by
  obtain rfl := h.len
  exact rsame_yes A c A' c' l w h h'
set_option maxRecDepth 100000 in
set_option maxHeartbeats 8000000 in
theorem walkWalkFinds (A : Option Addr) (n c : Nat) (ws : List Nat) (a : Int) (w : World) (h : Words w A n c ws) (_h1 : -9223372036854775808 ≤ a) (_h2 : a ≤ 9223372036854775807) :
    Calls Try.prog 14 #[.slice A n c, .int .i64 a] w fun e w' => e = .returned (.bool true) ∧ Below w.heap.size w w' := by
  have hm := h.most
  have hcap := h.cap
  have A0 := Lib.hid (Since.refl w)
  by_cases hn : n ≤ 2100
  case neg =>
    have G := Lib.hid fun W => great_yes A n c W (by omega)
    clear h
    go_enter Try.func14, Try.ntmps14
    go_wp2_with fail
    refine (alive15 _).mono ?_
    rintro e w1 ⟨rfl, hb1⟩
    have A1 := Lib.hid (show Since w w1 from Since.via (by repeat (first | with_reducible exact A0.out | with_reducible exact Since.refl _ | with_reducible refine Since.alloc ?_ _ | with_reducible refine Since.setCell ?_ (by first | omega | (simp; done) | (simp; omega)) _ | with_reducible refine Since.drew ?_ | with_reducible refine Since.drewN ?_ _)) hb1)
    have s1 := A1.out.size
    clear hb1
    go_wp2_with fail
    refine (G.out _).mono ?_
    rintro e wd ⟨rfl, rfl⟩
    go_wp2
    go_ret
    exact ⟨rfl, (Since.out (by repeat (first | with_reducible exact A1.out | with_reducible exact Since.refl _ | with_reducible refine Since.alloc ?_ _ | with_reducible refine Since.setCell ?_ (by first | omega | (simp; done) | (simp; omega)) _ | with_reducible refine Since.drew ?_ | with_reducible refine Since.drewN ?_ _)))⟩
  have G := Lib.hid fun W => great_no A n c W hn
  by_cases hi : imgOk n
  case neg =>
    have K := Lib.hid fun W => rimg_bad A n c W (by omega) hi
    clear h hi
    go_enter Try.func14, Try.ntmps14
    go_wp2_with fail
    refine (alive15 _).mono ?_
    rintro e w1 ⟨rfl, hb1⟩
    have A1 := Lib.hid (show Since w w1 from Since.via (by repeat (first | with_reducible exact A0.out | with_reducible exact Since.refl _ | with_reducible refine Since.alloc ?_ _ | with_reducible refine Since.setCell ?_ (by first | omega | (simp; done) | (simp; omega)) _ | with_reducible refine Since.drew ?_ | with_reducible refine Since.drewN ?_ _)) hb1)
    have s1 := A1.out.size
    clear hb1
    go_wp2_with fail
    refine (G.out _).mono ?_
    rintro e wd ⟨rfl, rfl⟩
    go_wp2_with fail
    refine (K.out _).mono ?_
    rintro e wd ⟨rfl, rfl⟩
    go_wp2
    go_ret
    exact ⟨rfl, (Since.out (by repeat (first | with_reducible exact A1.out | with_reducible exact Since.refl _ | with_reducible refine Since.alloc ?_ _ | with_reducible refine Since.setCell ?_ (by first | omega | (simp; done) | (simp; omega)) _ | with_reducible refine Since.drew ?_ | with_reducible refine Since.drewN ?_ _)))⟩
  have K := Lib.hid fun W => rimg_ok A n c W (by omega) hi
  have hlen := h.len
  have F1 := Lib.hid fun W A c h => all_any A n c ws W h
  have F2 := Lib.hid fun W A c h => pfind_any A n c ws a W h
  have F3 := Lib.hid fun W A c h => from_any A n c ws a W h
  have H0 := Lib.hid h
  by_cases he : (allR ws).2 = 0
  case neg =>
    have E1 := allR_err he
    have E2 := findR_err he a
    generalize (allR ws).2 = x at *
    simp only [E1, E2] at F1 F2
    have hx : (x != 0) = true := by simpa using he
    clear F3 E1 E2 h hi hlen he
    go_enter Try.func14, Try.ntmps14
    go_wp2_with fail
    refine (alive15 _).mono ?_
    rintro e w1 ⟨rfl, hb1⟩
    have A1 := Lib.hid (show Since w w1 from Since.via (by repeat (first | with_reducible exact A0.out | with_reducible exact Since.refl _ | with_reducible refine Since.alloc ?_ _ | with_reducible refine Since.setCell ?_ (by first | omega | (simp; done) | (simp; omega)) _ | with_reducible refine Since.drew ?_ | with_reducible refine Since.drewN ?_ _)) hb1)
    have s1 := A1.out.size
    have B1 := Lib.hid (show Since w w1 from Since.via (by repeat (first | with_reducible exact Since.refl _ | with_reducible refine Since.alloc ?_ _ | with_reducible refine Since.setCell ?_ (by first | omega | (simp; done) | (simp; omega)) _ | with_reducible refine Since.drew ?_ | with_reducible refine Since.drewN ?_ _)) hb1)
    have H1 := Lib.hid (H0.out.below B1.out)
    clear hb1
    go_wp2_with fail
    refine (G.out _).mono ?_
    rintro e wd ⟨rfl, rfl⟩
    go_wp2_with fail
    refine (K.out _).mono ?_
    rintro e wd ⟨rfl, rfl⟩
    go_wp2_with fail
    refine (F1.out _ _ _ (H1.out.below (Since.out (by repeat (first | with_reducible exact Since.refl _ | with_reducible refine Since.alloc ?_ _ | with_reducible refine Since.setCell ?_ (by first | omega | (simp; done) | (simp; omega)) _ | with_reducible refine Since.drew ?_ | with_reducible refine Since.drewN ?_ _))))).mono ?_
    rintro e w2 ⟨B1, d1, rfl, hB, hb2⟩
    have A2 := Lib.hid (show Since w w2 from Since.via (by repeat (first | with_reducible exact A1.out | with_reducible exact Since.refl _ | with_reducible refine Since.alloc ?_ _ | with_reducible refine Since.setCell ?_ (by first | omega | (simp; done) | (simp; omega)) _ | with_reducible refine Since.drew ?_ | with_reducible refine Since.drewN ?_ _)) hb2)
    have s2 := A2.out.size
    have B2 := Lib.hid (show Since w1 w2 from Since.via (by repeat (first | with_reducible exact Since.refl _ | with_reducible refine Since.alloc ?_ _ | with_reducible refine Since.setCell ?_ (by first | omega | (simp; done) | (simp; omega)) _ | with_reducible refine Since.drew ?_ | with_reducible refine Since.drewN ?_ _)) hb2)
    have H2 := Lib.hid (H1.out.below B2.out)
    clear hb2
    go_wp2_with fail
    refine (F2.out _ _ _ (H2.out.below (Since.out (by repeat (first | with_reducible exact Since.refl _ | with_reducible refine Since.alloc ?_ _ | with_reducible refine Since.setCell ?_ (by first | omega | (simp; done) | (simp; omega)) _ | with_reducible refine Since.drew ?_ | with_reducible refine Since.drewN ?_ _))))).mono ?_
    rintro e w3 ⟨rfl, hb3⟩
    have A3 := Lib.hid (show Since w w3 from Since.via (by repeat (first | with_reducible exact A2.out | with_reducible exact Since.refl _ | with_reducible refine Since.alloc ?_ _ | with_reducible refine Since.setCell ?_ (by first | omega | (simp; done) | (simp; omega)) _ | with_reducible refine Since.drew ?_ | with_reducible refine Since.drewN ?_ _)) hb3)
    have s3 := A3.out.size
    clear hb3
    go_wp2
    go_ret
    exact ⟨rfl, (Since.out (by repeat (first | with_reducible exact A3.out | with_reducible exact Since.refl _ | with_reducible refine Since.alloc ?_ _ | with_reducible refine Since.setCell ?_ (by first | omega | (simp; done) | (simp; omega)) _ | with_reducible refine Since.drew ?_ | with_reducible refine Since.drewN ?_ _)))⟩
  obtain ⟨l, hp, hsd, hc, e1⟩ : ∃ l, parse ws 128 = some l ∧ side l = false ∧ Chain ws 128 l ∧ allR ws = (l, 0) := by
    rcases allR_cases ws with ⟨_, e⟩ | ⟨_, _, e⟩ | ⟨l, _, _, _, e⟩ | ⟨l, _, h2, h3, h4, _, e⟩
    · rw [e] at he; exact absurd he (by decide)
    · rw [e] at he; exact absurd he (by decide)
    · rw [e] at he; exact absurd he (by decide)
    · exact ⟨l, h2, h3, h4, e⟩
  have e2 := findR_ok he a
  rw [e1] at e2
  have HC := Lib.hid hc
  have HN := Lib.hid (show ws.length ≤ 2048 by rw [hlen]; exact hi.2.1)
  have hlb : l.length ≤ 1000000 := by have := allR_len ws; rw [e1] at this; exact this
  simp only [e1, e2] at F1 F2
  by_cases hf : ∃ (i : Nat) (hl : i < l.length), l[i].at_ = a
  · obtain ⟨i, hl, rfl⟩ := hf
    have FR := fromR_at (by rw [hlen]; exact hi) hc hl
    have FS := findL_some hc hl
    rw [FR] at F3
    rw [FS] at F2
    have HI := Lib.hid fun j (hj : j < l.length) (hji : i ≠ j) => chain_ne hc hl hj hji
    have hat := (chain_mem hc (List.getElem_mem hl))
    have hb1 : (128 : Int) ≤ l[i].at_ := hat.2.2.1
    have hb2 : l[i].at_ ≤ 2048 := by have := hat.2.2.2; have := good_size hat.2.1; have := hi.2.1; omega
    generalize hb : l[i] = b at *
    have HBI := Lib.hid hb
    simp only [findO] at F2
    clear hp hsd hc he hi e1 e2 h hlen FR FS hat hb
    go_enter Try.func14, Try.ntmps14
    go_wp2_with fail
    refine (alive15 _).mono ?_
    rintro e w1 ⟨rfl, hb1⟩
    have A1 := Lib.hid (show Since w w1 from Since.via (by repeat (first | with_reducible exact A0.out | with_reducible exact Since.refl _ | with_reducible refine Since.alloc ?_ _ | with_reducible refine Since.setCell ?_ (by first | omega | (simp; done) | (simp; omega)) _ | with_reducible refine Since.drew ?_ | with_reducible refine Since.drewN ?_ _)) hb1)
    have s1 := A1.out.size
    have B1 := Lib.hid (show Since w w1 from Since.via (by repeat (first | with_reducible exact Since.refl _ | with_reducible refine Since.alloc ?_ _ | with_reducible refine Since.setCell ?_ (by first | omega | (simp; done) | (simp; omega)) _ | with_reducible refine Since.drew ?_ | with_reducible refine Since.drewN ?_ _)) hb1)
    have H1 := Lib.hid (H0.out.below B1.out)
    clear hb1
    go_wp2_with fail
    refine (G.out _).mono ?_
    rintro e wd ⟨rfl, rfl⟩
    go_wp2_with fail
    refine (K.out _).mono ?_
    rintro e wd ⟨rfl, rfl⟩
    go_wp2_with fail
    refine (F1.out _ _ _ (H1.out.below (Since.out (by repeat (first | with_reducible exact Since.refl _ | with_reducible refine Since.alloc ?_ _ | with_reducible refine Since.setCell ?_ (by first | omega | (simp; done) | (simp; omega)) _ | with_reducible refine Since.drew ?_ | with_reducible refine Since.drewN ?_ _))))).mono ?_
    rintro e w2 ⟨B1, d1, rfl, hB, hb2⟩
    have A2 := Lib.hid (show Since w w2 from Since.via (by repeat (first | with_reducible exact A1.out | with_reducible exact Since.refl _ | with_reducible refine Since.alloc ?_ _ | with_reducible refine Since.setCell ?_ (by first | omega | (simp; done) | (simp; omega)) _ | with_reducible refine Since.drew ?_ | with_reducible refine Since.drewN ?_ _)) hb2)
    have s2 := A2.out.size
    have B2 := Lib.hid (show Since w1 w2 from Since.via (by repeat (first | with_reducible exact Since.refl _ | with_reducible refine Since.alloc ?_ _ | with_reducible refine Since.setCell ?_ (by first | omega | (simp; done) | (simp; omega)) _ | with_reducible refine Since.drew ?_ | with_reducible refine Since.drewN ?_ _)) hb2)
    have H2 := Lib.hid (H1.out.below B2.out)
    have L2 := Lib.hid hB
    clear hB
    clear hb2
    go_wp2_with fail
    refine (F2.out _ _ _ (H2.out.below (Since.out (by repeat (first | with_reducible exact Since.refl _ | with_reducible refine Since.alloc ?_ _ | with_reducible refine Since.setCell ?_ (by first | omega | (simp; done) | (simp; omega)) _ | with_reducible refine Since.drew ?_ | with_reducible refine Since.drewN ?_ _))))).mono ?_
    rintro e w3 ⟨rfl, hb3⟩
    have A3 := Lib.hid (show Since w w3 from Since.via (by repeat (first | with_reducible exact A2.out | with_reducible exact Since.refl _ | with_reducible refine Since.alloc ?_ _ | with_reducible refine Since.setCell ?_ (by first | omega | (simp; done) | (simp; omega)) _ | with_reducible refine Since.drew ?_ | with_reducible refine Since.drewN ?_ _)) hb3)
    have s3 := A3.out.size
    have B3 := Lib.hid (show Since w2 w3 from Since.via (by repeat (first | with_reducible exact Since.refl _ | with_reducible refine Since.alloc ?_ _ | with_reducible refine Since.setCell ?_ (by first | omega | (simp; done) | (simp; omega)) _ | with_reducible refine Since.drew ?_ | with_reducible refine Since.drewN ?_ _)) hb3)
    have H3 := Lib.hid (H2.out.below B3.out)
    have L3 := Lib.hid (L2.out.below B3.out)
    clear hb3
    go_wp2
    go_loopw [10, 11] (fun f t wr => FoundRel l b.at_ w3 b f t wr) (fun _ t _ => l.length - (intOf t).toNat)
    case atStart => exact ⟨0, -1, rfl, rfl, Nat.zero_le _, found_zero _ _, Cells.new _ _ _, (by repeat (first | with_reducible exact C.out | with_reducible exact Since.refl _ | with_reducible refine Since.alloc ?_ _ | with_reducible refine Since.setCell ?_ (by first | omega | (simp; done) | (simp; omega)) _ | with_reducible refine Since.drew ?_ | with_reducible refine Since.drewN ?_ _))⟩
    case round =>
      obtain ⟨k, f, rfl, rfl, hk, hF, hX, hnx⟩ := hrel
      have C4 := Lib.hid hnx
      have A4 := Lib.hid (Since.trans A3.out hnx)
      have X4 := Lib.hid hX
      have FO := Lib.hid hF
      have L4 := Lib.hid (L3.out.below hnx)
      obtain ⟨w4, hw4⟩ : ∃ x, x = wr := ⟨_, rfl⟩
      subst hw4
      have H4 := Lib.hid (H3.out.below hnx)
      have s4 := C4.out.size
      have z4 := X4.out.lt
      clear hnx hX hF
      by_cases hlt : k < l.length
      · obtain ⟨g, o, rfl, hg⟩ := L4.out.at_ (by omega)
        have hcap4 := L4.out.cap
        have hmost4 := L4.out.most
        rcases k with _ | j
        · obtain ⟨c0, _⟩ := L4.out.same (j := 0) hlt
          simp only [Nat.zero_mul, Nat.add_zero] at c0
          have d0 : decide ((0 : Int) < 0) = false := by decide
          by_cases he : l[0].at_ = b.at_
          · have FY := Lib.hid (found_yes hlt he)
            rw [he] at c0
            clear he
            go_wp2_with fail
            go_quiet (fail)
            go_wp2
            go_roundw
            case rel => exact ⟨1, 0, by go_num, by go_num, by omega, FY.out, X4.out, (by repeat (first | with_reducible exact C4.out | with_reducible exact Since.refl _ | with_reducible refine Since.alloc ?_ _ | with_reducible refine Since.setCell ?_ (by first | omega | (simp; done) | (simp; omega)) _ | with_reducible refine Since.drew ?_ | with_reducible refine Since.drewN ?_ _))⟩
            case measure => simp [intOf]; omega
          · have FY := Lib.hid (found_no hlt he FO.out)
            have he2 : (l[0].at_ == b.at_) = false := by simpa using he
            generalize l[0].at_ = x at *
            clear he
            go_wp2_with fail
            go_quiet (fail)
            go_wp2
            go_roundw
            case rel => exact ⟨1, f, by go_num, by go_num, by omega, FY.out, X4.out, (by repeat (first | with_reducible exact C4.out | with_reducible exact Since.refl _ | with_reducible refine Since.alloc ?_ _ | with_reducible refine Since.setCell ?_ (by first | omega | (simp; done) | (simp; omega)) _ | with_reducible refine Since.drew ?_ | with_reducible refine Since.drewN ?_ _))⟩
            case measure => simp [intOf]; omega
        · obtain ⟨c0, c1, _⟩ := L4.out.same (j := j) (by omega)
          obtain ⟨e0, _⟩ := L4.out.same (j := j + 1) hlt
          have hnx := chain_next HC.out hlt
          have g1 := chain_mem HC.out (List.getElem_mem (show j < l.length by omega))
          have hx1 : (128 : Int) ≤ l[j].at_ := g1.2.2.1
          have hx2 : l[j].at_ + l[j].size ≤ 2048 := by have := g1.2.2.2; have := HN.out; omega
          have hx3 := (good_size g1.2.1).1
          have d0 : decide ((0 : Int) < (j : Int) + 1) = true := by simp
          have d1 : IntKind.i64.wrap ((j : Int) + 1 - 1) = (j : Int) := by rw [IntKind.wrap_i64]; omega
          by_cases he : l[j + 1].at_ = b.at_
          · have FY := Lib.hid (found_yes hlt he)
            rw [he] at e0 hnx
            generalize l[j].at_ = x at *
            generalize l[j].size = s at *
            have d2 : IntKind.i64.wrap (x + s) = x + s := by rw [IntKind.wrap_i64]; omega
            have d3 : decide (b.at_ < x + s) = false := by simp; omega
            clear he g1 hnx
            go_wp2_with fail
            go_quiet (fail)
            go_wp2
            go_roundw
            case rel => exact ⟨j + 2, ((j + 1 : Nat) : Int), by go_num, by go_num, by omega, FY.out, X4.out, (by repeat (first | with_reducible exact C4.out | with_reducible exact Since.refl _ | with_reducible refine Since.alloc ?_ _ | with_reducible refine Since.setCell ?_ (by first | omega | (simp; done) | (simp; omega)) _ | with_reducible refine Since.drew ?_ | with_reducible refine Since.drewN ?_ _))⟩
            case measure => simp [intOf]; omega
          · have FY := Lib.hid (found_no hlt he FO.out)
            have he2 : (l[j + 1].at_ == b.at_) = false := by simpa using he
            generalize l[j + 1].at_ = y at *
            generalize l[j].at_ = x at *
            generalize l[j].size = s at *
            have d2 : IntKind.i64.wrap (x + s) = x + s := by rw [IntKind.wrap_i64]; omega
            have d3 : decide (y < x + s) = false := by simp; omega
            clear he g1 hnx
            go_wp2_with fail
            go_quiet (fail)
            go_wp2
            go_roundw
            case rel => exact ⟨j + 2, f, by go_num, by go_num, by omega, FY.out, X4.out, (by repeat (first | with_reducible exact C4.out | with_reducible exact Since.refl _ | with_reducible refine Since.alloc ?_ _ | with_reducible refine Since.setCell ?_ (by first | omega | (simp; done) | (simp; omega)) _ | with_reducible refine Since.drew ?_ | with_reducible refine Since.drewN ?_ _))⟩
            case measure => simp [intOf]; omega
      · obtain rfl : k = l.length := by omega
        have hfi : f = (i : Int) := by
          rcases FO.out with ⟨_, h2⟩ | ⟨i', hi', _, h2, h3⟩
          · exact absurd (by rw [HBI.out]) (h2 i hl hl)
          · by_cases e : i = i'
            · rw [h2, e]
            · exact absurd h3.symm (HI.out i' hi' e)
        subst hfi
        have d0 : ¬ ((i : Nat) : Int) < 0 := by omega
        go_wp2_with fail
        refine (F3.out _ _ _ (H4.out.below (Since.out (by repeat (first | with_reducible exact Since.refl _ | with_reducible refine Since.alloc ?_ _ | with_reducible refine Since.setCell ?_ (by first | omega | (simp; done) | (simp; omega)) _ | with_reducible refine Since.drew ?_ | with_reducible refine Since.drewN ?_ _))))).mono ?_
        rintro e w5 ⟨Z5, d5, rfl, hB, hb5⟩
        have A5 := Lib.hid (show Since w w5 from Since.via (by repeat (first | with_reducible exact A4.out | with_reducible exact Since.refl _ | with_reducible refine Since.alloc ?_ _ | with_reducible refine Since.setCell ?_ (by first | omega | (simp; done) | (simp; omega)) _ | with_reducible refine Since.drew ?_ | with_reducible refine Since.drewN ?_ _)) hb5)
        have s5 := A5.out.size
        have B5 := Lib.hid (show Since w4 w5 from Since.via (by repeat (first | with_reducible exact Since.refl _ | with_reducible refine Since.alloc ?_ _ | with_reducible refine Since.setCell ?_ (by first | omega | (simp; done) | (simp; omega)) _ | with_reducible refine Since.drew ?_ | with_reducible refine Since.drewN ?_ _)) hb5)
        have L5 := Lib.hid (L4.out.below B5.out)
        have M5 := Lib.hid hB
        clear hB
        clear hb5
        have X5 := Lib.hid (X4.out.kept B5.out)
        obtain ⟨g, o, rfl, hg⟩ := L5.out.at_ (by omega)
        obtain ⟨c0, c1, c2, c3, c4, c5⟩ := L5.out.same hl
        rw [HBI.out] at c0 c1 c2 c3 c4 c5
        obtain ⟨q0, q1, q2, q3, q4, q5⟩ := X5.out.six
        have hcap5 := L5.out.cap
        have hmost5 := L5.out.most
        have n1 : ¬ d1 = i := by omega
        have n2 : (0 : Int) ≤ (i : Int) := by omega
        have n3 : (i : Int) ≤ (l.length : Int) := by omega
        have n4 : (i : Int) ≤ (d1 : Int) := by omega
        have n5 : (l.length : Int) ≤ (d1 : Int) := by omega
        go_wp2_with fail
        go_still_tail 22, (by kernel_rfl)
        change wpList _ _ _ _ _ w5.drew
        have MD : Blks w5.drew Z5 (l.length - i) d5 (l.drop i) := by have := (M5.out.below (Since.drew (Since.refl _))); rw [List.length_drop] at this; exact this
        have LD : Blks w5.drew (some ⟨g, o + i * 6, none⟩) (l.length - i) (d1 - i) (l.drop i) := by
          have := (L5.out.below (Since.drew (Since.refl _))).drop (k := i) (m := l.length) hl (Nat.le_refl _) hmost5 rfl (c' := d1 - i) (by omega) (by omega)
          rw [List.take_length] at this
          exact this
        have MH := Lib.hid MD
        have LH := Lib.hid LD
        clear MD LD
        go_wp2_with fail
        refine (rsame_n _ _ _ _ _ _ _ MH.out LH.out).mono ?_
        rintro e w6 ⟨rfl, hb6⟩
        have A6 := Lib.hid (Since.via (Since.drew A5.out) hb6)
        go_wp2
        go_ret
        exact ⟨rfl, A6.out⟩

  · have FN := findL_none (l := l) (a := a) (fun j hj e => hf ⟨j, hj, e⟩)
    have HF := Lib.hid fun j (hj : j < l.length) (e : l[j].at_ = a) => hf ⟨j, hj, e⟩
    rw [FN] at F2
    simp only [findO, zeroB] at F2
    clear hp hsd hc he hi e1 e2 h hlen FN hf F3
    go_enter Try.func14, Try.ntmps14
    go_wp2_with fail
    refine (alive15 _).mono ?_
    rintro e w1 ⟨rfl, hb1⟩
    have A1 := Lib.hid (show Since w w1 from Since.via (by repeat (first | with_reducible exact A0.out | with_reducible exact Since.refl _ | with_reducible refine Since.alloc ?_ _ | with_reducible refine Since.setCell ?_ (by first | omega | (simp; done) | (simp; omega)) _ | with_reducible refine Since.drew ?_ | with_reducible refine Since.drewN ?_ _)) hb1)
    have s1 := A1.out.size
    have B1 := Lib.hid (show Since w w1 from Since.via (by repeat (first | with_reducible exact Since.refl _ | with_reducible refine Since.alloc ?_ _ | with_reducible refine Since.setCell ?_ (by first | omega | (simp; done) | (simp; omega)) _ | with_reducible refine Since.drew ?_ | with_reducible refine Since.drewN ?_ _)) hb1)
    have H1 := Lib.hid (H0.out.below B1.out)
    clear hb1
    go_wp2_with fail
    refine (G.out _).mono ?_
    rintro e wd ⟨rfl, rfl⟩
    go_wp2_with fail
    refine (K.out _).mono ?_
    rintro e wd ⟨rfl, rfl⟩
    go_wp2_with fail
    refine (F1.out _ _ _ (H1.out.below (Since.out (by repeat (first | with_reducible exact Since.refl _ | with_reducible refine Since.alloc ?_ _ | with_reducible refine Since.setCell ?_ (by first | omega | (simp; done) | (simp; omega)) _ | with_reducible refine Since.drew ?_ | with_reducible refine Since.drewN ?_ _))))).mono ?_
    rintro e w2 ⟨B1, d1, rfl, hB, hb2⟩
    have A2 := Lib.hid (show Since w w2 from Since.via (by repeat (first | with_reducible exact A1.out | with_reducible exact Since.refl _ | with_reducible refine Since.alloc ?_ _ | with_reducible refine Since.setCell ?_ (by first | omega | (simp; done) | (simp; omega)) _ | with_reducible refine Since.drew ?_ | with_reducible refine Since.drewN ?_ _)) hb2)
    have s2 := A2.out.size
    have B2 := Lib.hid (show Since w1 w2 from Since.via (by repeat (first | with_reducible exact Since.refl _ | with_reducible refine Since.alloc ?_ _ | with_reducible refine Since.setCell ?_ (by first | omega | (simp; done) | (simp; omega)) _ | with_reducible refine Since.drew ?_ | with_reducible refine Since.drewN ?_ _)) hb2)
    have H2 := Lib.hid (H1.out.below B2.out)
    have L2 := Lib.hid hB
    clear hB
    clear hb2
    go_wp2_with fail
    refine (F2.out _ _ _ (H2.out.below (Since.out (by repeat (first | with_reducible exact Since.refl _ | with_reducible refine Since.alloc ?_ _ | with_reducible refine Since.setCell ?_ (by first | omega | (simp; done) | (simp; omega)) _ | with_reducible refine Since.drew ?_ | with_reducible refine Since.drewN ?_ _))))).mono ?_
    rintro e w3 ⟨rfl, hb3⟩
    have A3 := Lib.hid (show Since w w3 from Since.via (by repeat (first | with_reducible exact A2.out | with_reducible exact Since.refl _ | with_reducible refine Since.alloc ?_ _ | with_reducible refine Since.setCell ?_ (by first | omega | (simp; done) | (simp; omega)) _ | with_reducible refine Since.drew ?_ | with_reducible refine Since.drewN ?_ _)) hb3)
    have s3 := A3.out.size
    have B3 := Lib.hid (show Since w2 w3 from Since.via (by repeat (first | with_reducible exact Since.refl _ | with_reducible refine Since.alloc ?_ _ | with_reducible refine Since.setCell ?_ (by first | omega | (simp; done) | (simp; omega)) _ | with_reducible refine Since.drew ?_ | with_reducible refine Since.drewN ?_ _)) hb3)
    have H3 := Lib.hid (H2.out.below B3.out)
    have L3 := Lib.hid (L2.out.below B3.out)
    clear hb3
    go_wp2
    go_loopw [10, 11] (fun f t wr => FoundRel l a w3 zeroB f t wr) (fun _ t _ => l.length - (intOf t).toNat)
    case atStart => exact ⟨0, -1, rfl, rfl, Nat.zero_le _, found_zero _ _, Cells.new _ _ _, (by repeat (first | with_reducible exact C.out | with_reducible exact Since.refl _ | with_reducible refine Since.alloc ?_ _ | with_reducible refine Since.setCell ?_ (by first | omega | (simp; done) | (simp; omega)) _ | with_reducible refine Since.drew ?_ | with_reducible refine Since.drewN ?_ _))⟩
    case round =>
      obtain ⟨k, f, rfl, rfl, hk, hF, hX, hnx⟩ := hrel
      have C4 := Lib.hid hnx
      have A4 := Lib.hid (Since.trans A3.out hnx)
      have X4 := Lib.hid hX
      have FO := Lib.hid hF
      have L4 := Lib.hid (L3.out.below hnx)
      obtain ⟨w4, hw4⟩ : ∃ x, x = wr := ⟨_, rfl⟩
      subst hw4
      have H4 := Lib.hid (H3.out.below hnx)
      have s4 := C4.out.size
      have z4 := X4.out.lt
      clear hnx hX hF
      by_cases hlt : k < l.length
      · obtain ⟨g, o, rfl, hg⟩ := L4.out.at_ (by omega)
        have hcap4 := L4.out.cap
        have hmost4 := L4.out.most
        rcases k with _ | j
        · obtain ⟨c0, _⟩ := L4.out.same (j := 0) hlt
          simp only [Nat.zero_mul, Nat.add_zero] at c0
          have d0 : decide ((0 : Int) < 0) = false := by decide
          by_cases he : l[0].at_ = a
          · have FY := Lib.hid (found_yes hlt he)
            rw [he] at c0
            clear he
            go_wp2_with fail
            go_quiet (fail)
            go_wp2
            go_roundw
            case rel => exact ⟨1, 0, by go_num, by go_num, by omega, FY.out, X4.out, (by repeat (first | with_reducible exact C4.out | with_reducible exact Since.refl _ | with_reducible refine Since.alloc ?_ _ | with_reducible refine Since.setCell ?_ (by first | omega | (simp; done) | (simp; omega)) _ | with_reducible refine Since.drew ?_ | with_reducible refine Since.drewN ?_ _))⟩
            case measure => simp [intOf]; omega
          · have FY := Lib.hid (found_no hlt he FO.out)
            have he2 : (l[0].at_ == a) = false := by simpa using he
            generalize l[0].at_ = x at *
            clear he
            go_wp2_with fail
            go_quiet (fail)
            go_wp2
            go_roundw
            case rel => exact ⟨1, f, by go_num, by go_num, by omega, FY.out, X4.out, (by repeat (first | with_reducible exact C4.out | with_reducible exact Since.refl _ | with_reducible refine Since.alloc ?_ _ | with_reducible refine Since.setCell ?_ (by first | omega | (simp; done) | (simp; omega)) _ | with_reducible refine Since.drew ?_ | with_reducible refine Since.drewN ?_ _))⟩
            case measure => simp [intOf]; omega
        · obtain ⟨c0, c1, _⟩ := L4.out.same (j := j) (by omega)
          obtain ⟨e0, _⟩ := L4.out.same (j := j + 1) hlt
          have hnx := chain_next HC.out hlt
          have g1 := chain_mem HC.out (List.getElem_mem (show j < l.length by omega))
          have hx1 : (128 : Int) ≤ l[j].at_ := g1.2.2.1
          have hx2 : l[j].at_ + l[j].size ≤ 2048 := by have := g1.2.2.2; have := HN.out; omega
          have hx3 := (good_size g1.2.1).1
          have d0 : decide ((0 : Int) < (j : Int) + 1) = true := by simp
          have d1 : IntKind.i64.wrap ((j : Int) + 1 - 1) = (j : Int) := by rw [IntKind.wrap_i64]; omega
          by_cases he : l[j + 1].at_ = a
          · have FY := Lib.hid (found_yes hlt he)
            rw [he] at e0 hnx
            generalize l[j].at_ = x at *
            generalize l[j].size = s at *
            have d2 : IntKind.i64.wrap (x + s) = x + s := by rw [IntKind.wrap_i64]; omega
            have d3 : decide (a < x + s) = false := by simp; omega
            clear he g1 hnx
            go_wp2_with fail
            go_quiet (fail)
            go_wp2
            go_roundw
            case rel => exact ⟨j + 2, ((j + 1 : Nat) : Int), by go_num, by go_num, by omega, FY.out, X4.out, (by repeat (first | with_reducible exact C4.out | with_reducible exact Since.refl _ | with_reducible refine Since.alloc ?_ _ | with_reducible refine Since.setCell ?_ (by first | omega | (simp; done) | (simp; omega)) _ | with_reducible refine Since.drew ?_ | with_reducible refine Since.drewN ?_ _))⟩
            case measure => simp [intOf]; omega
          · have FY := Lib.hid (found_no hlt he FO.out)
            have he2 : (l[j + 1].at_ == a) = false := by simpa using he
            generalize l[j + 1].at_ = y at *
            generalize l[j].at_ = x at *
            generalize l[j].size = s at *
            have d2 : IntKind.i64.wrap (x + s) = x + s := by rw [IntKind.wrap_i64]; omega
            have d3 : decide (y < x + s) = false := by simp; omega
            clear he g1 hnx
            go_wp2_with fail
            go_quiet (fail)
            go_wp2
            go_roundw
            case rel => exact ⟨j + 2, f, by go_num, by go_num, by omega, FY.out, X4.out, (by repeat (first | with_reducible exact C4.out | with_reducible exact Since.refl _ | with_reducible refine Since.alloc ?_ _ | with_reducible refine Since.setCell ?_ (by first | omega | (simp; done) | (simp; omega)) _ | with_reducible refine Since.drew ?_ | with_reducible refine Since.drewN ?_ _))⟩
            case measure => simp [intOf]; omega
      · obtain rfl : k = l.length := by omega
        have hfi : f = -1 := by
          rcases FO.out with ⟨h1, _⟩ | ⟨i', hi', _, h2, h3⟩
          · exact h1
          · exact (HF.out i' hi' h3).elim
        subst hfi
        obtain ⟨q0, q1, q2, q3, q4, q5⟩ := X4.out.six
        simp only [zeroB] at q0 q1 q2 q3 q4 q5
        go_wp2
        go_ret
        exact ⟨rfl, (Since.out (by repeat (first | with_reducible exact A4.out | with_reducible exact Since.refl _ | with_reducible refine Since.alloc ?_ _ | with_reducible refine Since.setCell ?_ (by first | omega | (simp; done) | (simp; omega)) _ | with_reducible refine Since.drew ?_ | with_reducible refine Since.drewN ?_ _)))⟩
end Go.Proofs.Ythdccahggcjogaa
