/- Laid and Same of the reference of package walk, walked. -/
import Derived.Test.YtoifalgkeegklaaRef15b
import Derived.Test.YtoifalgkeegklaaLaidPlain
import Derived.StillTailTactics
namespace Go.Proofs.Ytoifalgkeegklaa
open Go.RowKit

set_option maxRecDepth 100000 in
theorem rsame_yes (A : Option Addr) (c : Nat) (A' : Option Addr) (c' : Nat) (l : List Blk) (w : World) (h : Blks w A l.length c l) (h' : Blks w A' l.length c' l) :
    Calls Try.prog 35 #[.slice A l.length c, .slice A' l.length c'] w fun e w' => e = .returned (.bool true) ∧ Below w.heap.size w w' := by
  have H := Lib.hid h
  have H' := Lib.hid h'
  have hm := h.most
  have hcap := h.cap
  have hm' := h'.most
  have hcap' := h'.cap
  clear h h'
  go_enter Try.func35, Try.ntmps35
  go_wp2
  go_loopw [5] (fun i wr => ∃ k : Nat, k ≤ l.length ∧ i = .int .i64 k ∧ Since w wr) (fun i _ => l.length - (intOf i).toNat)
  case atStart => exact ⟨0, Nat.zero_le _, rfl, Since.refl _⟩
  case round =>
    obtain ⟨k, hk, rfl, hnx⟩ := hrel
    by_cases hlt : k < l.length
    · have HB := Lib.hid (H.out.below hnx)
      have HB' := Lib.hid (H'.out.below hnx)
      obtain ⟨g, o, rfl, hg⟩ := HB.out.at_ (by omega)
      obtain ⟨g', o', rfl, hg'⟩ := HB'.out.at_ (by omega)
      obtain ⟨c0, c1, c2, c3, c4, c5⟩ := HB.out.same hlt
      obtain ⟨e0, e1, e2, e3, e4, e5⟩ := HB'.out.same hlt
      generalize l[k] = b at *
      go_wp2_with fail
      go_quiet (fail)
      go_wp2
      go_roundw
      case rel => exact ⟨k + 1, by omega, by go_num, ⟨hnx.os, hnx.tape, hnx.output, hnx.size, hnx.block⟩⟩
      case measure => simp [intOf]; omega
    · obtain rfl : k = l.length := by omega
      go_wp2
      go_ret
      exact ⟨rfl, hnx⟩

theorem wv_set (ws : List Nat) (i x : Nat) : (ws.map wv).toArray.setIfInBounds i (.int .u64 (x : Int)) = ((ws.set i x).map wv).toArray := by
  rw [List.map_set]; simp [wv]
theorem wv_zeros (n : Nat) : madeCells #[.int .u64 0] n = ((List.replicate n 0).map wv).toArray := by
  have := toList_madeCells_one (.int .u64 0) n
  apply Array.toList_inj.1
  rw [this]; simp [wv]

def LaidRel (w : World) (n : Nat) (l : List Blk) (p i : Value) (wr : World) : Prop :=
  ∃ (k q : Nat) (ws : List Nat), i = .int .i64 k ∧ p = .int .i64 q ∧ k ≤ l.length ∧ q ≤ n ∧ laid n l = lay n ws q (l.drop k) ∧ ws.length = n ∧ Cells wr w.heap.size 22 ((ws.map wv).toArray) ∧ Since w wr ∧ ∀ x ∈ ws, x < 18446744073709551616

/-- Cells of words, none frozen. -/
theorem Words.of_cells {w : World} {g : Nat} {t : TypeId} {ws : List Nat} (h : Cells w g t ((ws.map wv).toArray)) (hl : ∀ x ∈ ws, x < 18446744073709551616) {n : Nat} (hn : ws.length = n) (hm : n ≤ 9223372036854775807) : Words w (some ⟨g, 0, none⟩) n n ws := by
  refine ⟨hn, Nat.le_refl _, hm, by simp, hl, fun _ => ⟨g, 0, rfl, h.lt, fun j hj => ?_⟩⟩
  have := h.cell j
  rw [Nat.zero_add, this]
  simp [wv, hj]
set_option maxRecDepth 100000 in
theorem laid_cells (n : Nat) (A : Option Addr) (c : Nat) (l : List Blk) (w : World) (hn : 128 ≤ n) (hn2 : n ≤ 10000) (h : Blks w A l.length c l) (hl : l.length ≤ 1000) (hg : ∀ b ∈ l, b.good) (hx : ∀ b ∈ l, b.next < 18446744073709551616) :
    Calls Try.prog 38 #[.int .i64 n, .slice A l.length c] w fun e w' => e = .returned (.slice (some ⟨w.heap.size, 0, none⟩) n n) ∧ Cells w' w.heap.size 22 (((laid n l).map wv).toArray) ∧ (laid n l).length = n ∧ (∀ x ∈ laid n l, x < 18446744073709551616) ∧ Below w.heap.size w w' := by
  have H := Lib.hid h
  have hm := h.most
  have hcap := h.cap
  have mk := mk_words n (by omega)
  have Z := Lib.hid (wv_zeros n)
  have HG := Lib.hid hg
  have HX := Lib.hid hx
  clear h hg hx
  go_enter Try.func38, Try.ntmps38
  go_wp2
  go_loopw [6, 7] (fun p i wr => LaidRel w n l p i wr) (fun _ i _ => l.length - (intOf i).toNat)
  case atStart =>
    refine ⟨0, 128, List.replicate n 0, rfl, rfl, Nat.zero_le _, hn, rfl, by simp, ?_, Since.alloc (Since.refl _) _, ?_⟩
    · rw [← Z.out]; exact Cells.new _ _ _
    · intro x hx; have := (List.mem_replicate.1 hx).2; omega
  case round =>
    obtain ⟨k, q, ws, rfl, rfl, hk, hq, hE, hL, hK, hnx, hlt64⟩ := hrel
    obtain ⟨w1, hw1⟩ : ∃ x, x = wr := ⟨_, rfl⟩
    subst hw1
    have HE := Lib.hid hE
    have HL := Lib.hid hL
    have K1 := Lib.hid hK
    have A1 := Lib.hid hnx
    have HQ := Lib.hid hlt64
    have s1 := A1.out.size
    have z1 := K1.out.lt
    clear hE hL hK hnx hlt64
    by_cases hlt : k < l.length
    · obtain ⟨g, o, rfl, hg⟩ := H.out.at_ (by omega)
      have HB := Lib.hid (H.out.below A1.out)
      have hg1 : g < w1.heap.size := by omega
      obtain ⟨c0, c1, c2, c3, c4, c5⟩ := HB.out.same hlt
      have ST := Lib.hid (lay_step (n := n) (p := q) (ws := ws) hlt)
      have G := HG.out _ (List.getElem_mem hlt)
      have X := Lib.hid (HX.out _ (List.getElem_mem hlt))
      have hgs := good_size G
      have hh := Lib.hid (hdr_lt G)
      have C := Lib.hid fun W => rof_ok l[k].at_ l[k].size l[k].kind l[k].typ l[k].mark l[k].next W G
      rw [show Blk.hdr ⟨l[k].at_, l[k].size, l[k].kind, l[k].typ, l[k].mark, 0⟩ = l[k].hdr from rfl] at C
      have HB0 := Lib.hid HB.out
      generalize hb : l[k] = b at *
      have hk1000 : k < 1000 := by omega
      generalize b.hdr = r at *
      obtain ⟨S, hS⟩ := Int.eq_ofNat_of_zero_le (show 0 ≤ b.size by omega)
      rw [hS] at C c1 ST hgs
      simp only [Int.toNat_natCast] at ST
      have HS := Lib.hid hS
      clear G hS
      by_cases hfit : q + S ≤ n
      · obtain ⟨v0, hv0⟩ : ∃ v, ((ws.map wv).toArray)[q]? = some v := ⟨_, Array.getElem?_eq_getElem (by have := HL.out; simp; omega)⟩
        obtain ⟨v1, hv1⟩ : ∃ v, ((ws.map wv).toArray)[q + 1]? = some v := ⟨_, Array.getElem?_eq_getElem (by have := HL.out; simp; omega)⟩
        have V0 := Lib.hid hv0
        have V1 := Lib.hid hv1
        have HB' := Lib.hid hb
        clear hv0 hv1 hb
        go_wp2_with fail
        refine (C.out _).mono ?_
        rintro e w2 ⟨rfl, hb2⟩
        have A2 := Lib.hid (Since.via A1.out hb2)
        have K2 := Lib.hid (K1.out.kept hb2)
        have z2 := K2.out.lt
        have c5' := ((HB0.out.below hb2).same hlt).2.2.2.2.2
        have c1' := ((HB0.out.below hb2).same hlt).2.1
        rw [HB'.out] at c5' c1'
        rw [HS.out] at c1'
        clear hb2 c0 c1 c2 c3 c4 c5
        have hg2 : g < w2.heap.size := by omega
        have hne : g ≠ w.heap.size := by omega
        have k0 := K2.out.cell q
        have k1 := K2.out.cell (q + 1)
        have f0 := K2.out.frozen q
        have f1 := K2.out.frozen (q + 1)
        rw [V0.out] at k0
        rw [V1.out] at k1
        have K3 := Lib.hid ((K2.out.set_ q (.int .u64 (r : Int))).set_ (q + 1) (.int .u64 (b.next : Int)))
        have K4 := Lib.hid (show Cells _ w.heap.size 22 ((((ws.set q r).set (q + 1) b.next).map wv).toArray) by rw [← wv_set, ← wv_set]; exact K3.out)
        have L3 := Lib.hid (show ((ws.set q r).set (q + 1) b.next).length = n by rw [List.length_set, List.length_set]; exact HL.out)
        have E3 := Lib.hid (show laid n l = lay n ((ws.set q r).set (q + 1) b.next) (q + S) (l.drop (k + 1)) by rw [HE.out, ST.out, if_pos hfit])
        have Q3 := Lib.hid (show ∀ x ∈ (ws.set q r).set (q + 1) b.next, x < 18446744073709551616 from fun x hx => by
          rcases List.mem_or_eq_of_mem_set hx with h1 | rfl
          · rcases List.mem_or_eq_of_mem_set h1 with h2 | rfl
            · exact HQ.out x h2
            · exact hh.out
          · exact X.out)
        clear K3
        go_wp2
        go_roundw
        case rel => exact ⟨k + 1, q + S, _, by go_num, by go_num, by omega, hfit, E3.out, L3.out, K4.out, (by repeat (first | with_reducible exact A2.out | with_reducible exact Since.refl _ | with_reducible refine Since.alloc ?_ _ | with_reducible refine Since.setCell ?_ (by first | omega | (simp; done) | (simp; omega)) _ | with_reducible refine Since.drew ?_ | with_reducible refine Since.drewN ?_ _)), Q3.out⟩
        case measure => simp [intOf]; omega
      · have E := Lib.hid (show laid n l = ws by rw [HE.out, ST.out, if_neg hfit])
        have d1 : decide (q + S ≤ n) = false := by simpa using hfit
        have d2 : decide ((q : Int) + (S : Int) ≤ (n : Int)) = false := by simp; omega
        go_wp2
        go_ret
        rw [E.out]
        exact ⟨rfl, K1.out, HL.out, HQ.out, A1.out⟩
    · obtain rfl : k = l.length := by omega
      have E := Lib.hid (show laid n l = ws by rw [HE.out, List.drop_length]; rfl)
      go_wp2
      go_ret
      rw [E.out]
      exact ⟨rfl, K1.out, HL.out, HQ.out, A1.out⟩
theorem laid_any (n : Nat) (A : Option Addr) (c : Nat) (l : List Blk) (w : World) (hn : 128 ≤ n) (hn2 : n ≤ 10000) (h : Blks w A l.length c l) (hl : l.length ≤ 1000) (hg : ∀ b ∈ l, b.good) (hx : ∀ b ∈ l, b.next < 18446744073709551616) :
    Calls Try.prog 38 #[.int .i64 n, .slice A l.length c] w fun e w' => e = .returned (.slice (some ⟨w.heap.size, 0, none⟩) n n) ∧ Words w' (some ⟨w.heap.size, 0, none⟩) n n (laid n l) ∧ Below w.heap.size w w' :=
  (laid_cells n A c l w hn hn2 h hl hg hx).mono fun _ _ ⟨e, hk, h1, h2, hb⟩ => ⟨e, Words.of_cells hk h2 h1 (by omega), hb⟩
theorem laid_own (n : Nat) (A : Option Addr) (c : Nat) (l : List Blk) (w : World) (hn : 128 ≤ n) (hn2 : n ≤ 10000) (h : Blks w A l.length c l) (hl : l.length ≤ 1000) (hg : ∀ b ∈ l, b.good) (hx : ∀ b ∈ l, b.next < 18446744073709551616) :
    Calls Try.prog 38 #[.int .i64 n, .slice A l.length c] w fun e w' => ∃ g, e = .returned (.slice (some ⟨g, 0, none⟩) n n) ∧ Cells w' g 22 (((laid n l).map wv).toArray) ∧ (laid n l).length = n ∧ (∀ x ∈ laid n l, x < 18446744073709551616) ∧ w.heap.size ≤ g ∧ Below w.heap.size w w' :=
  (laid_cells n A c l w hn hn2 h hl hg hx).mono fun _ _ ⟨e, hk, h1, h2, hb⟩ => ⟨_, e, hk, h1, h2, Nat.le_refl _, hb⟩
theorem laid_ex (n : Nat) (A : Option Addr) (c : Nat) (l : List Blk) (w : World) (hn : 128 ≤ n) (hn2 : n ≤ 10000) (h : Blks w A l.length c l) (hl : l.length ≤ 1000) (hg : ∀ b ∈ l, b.good) (hx : ∀ b ∈ l, b.next < 18446744073709551616) :
    Calls Try.prog 38 #[.int .i64 n, .slice A l.length c] w fun e w' => ∃ B, e = .returned (.slice B n n) ∧ Words w' B n n (laid n l) ∧ Below w.heap.size w w' :=
  (laid_any n A c l w hn hn2 h hl hg hx).mono fun _ _ ⟨e, hw, hb⟩ => ⟨_, e, hw, hb⟩
end Go.Proofs.Ytoifalgkeegklaa
