/- The law on a heap with one bit changed, walked. -/
import Derived.Test.YthdccahggcjogaaLaw15b
import Derived.Test.YthdccahggcjogaaOwnW
import Derived.Test.YthdccahggcjogaaSpoiltPlain
import Derived.BigRegion
import Derived.StillTailTactics
namespace Go.Proofs.Ythdccahggcjogaa
open Go.RowKit

theorem shl_bit (r B : Nat) (hr : r < 18446744073709551616) (hB : B ≤ 63) : bits .xor .u64 (r : Int) (IntKind.u64.wrap (2 ^ B)) = ((r ^^^ 2 ^ B : Nat) : Int) := by
  have hl : 2 ^ B < 18446744073709551616 := by
    have : 2 ^ B < 2 ^ 64 := Nat.pow_lt_pow_right (by decide) (by omega)
    rwa [show (2 : Nat) ^ 64 = 18446744073709551616 from by decide] at this
  have e : IntKind.u64.wrap (2 ^ B) = ((2 ^ B : Nat) : Int) := by
    rw [IntKind.wrap_u64, show (2 : Int) ^ B = ((2 ^ B : Nat) : Int) by simp]
    generalize 2 ^ B = z at *
    omega
  rw [e, u64_xor_nat _ _ hr hl]

/-- append of blocks onto blocks of the call's own. -/
theorem wpList_append_blks (w : World) {ops : Array Oper} {rest : List Oper} {o : Oper} {a : Act} {Q : Exit → Act → World → Prop} (hgd : o.guard = none) (s x : Operand)
    (ho : o.op = .call { callee := .builtin .append, args := #[s, x], argTypes := #[50, 50] })
    (base : Nat) (v : Value) (m : List Blk) (hs : a.eval s = v) (hown : OwnB w base v m)
    (ad : Addr) (n c : Nat) (l : List Blk) (hx : a.eval x = .slice (some ad) n c) (h : Blks w (some ad) n c l) (hn : n ≤ 1000000) (hm : m.length ≤ 1000000) (hbase : base ≤ w.heap.size)
    (k : ∀ v' w', OwnB w' base v' (m ++ l) → w.grownBy w' v.ownBlock → (v'.ownBlock = v.ownBlock ∨ v'.ownBlock = some w.heap.size) → wpList Try.prog ops Q rest (a.put o.dst v') w') :
    wpList Try.prog ops Q (o :: rest) a w := by
  obtain ⟨i, hi, hz, h1, h8⟩ := info_parts info_blk
  have hl := h.len
  refine wpList_append_own_at w hgd s x 50 ho base 24 i _ 6 48 Try.underlying50 hi hz h1 h8 rfl (by decide) v m.length (flat m) hs hown ad n c (flat l) hx (by rw [flat_len, hl]) h.cells_at (flat_one' l)
    (by unfold maxLen; omega) (by omega) hbase (fun v' w' h2 h3 _ h5 => k v' w' ?_ h3 h5)
  unfold OwnB
  rw [List.length_append, flat_append, hl]
  exact h2
theorem flat_set_next : ∀ (l : List Blk) (k x : Nat) (h : k < l.length), (flat l).set (k * 6 + 5) (.int .u64 (x : Int)) = flat (l.set k { l[k] with next := x })
  | [], _, _, h => absurd h (by simp)
  | b :: l, 0, x, _ => by
    unfold flat
    rw [List.flatMap_cons, List.set_append_left _ _ (by simp [Blk.cs])]
    rfl
  | b :: l, k + 1, x, h => by
    have := flat_set_next l k x (by simpa using h)
    unfold flat at this ⊢
    rw [List.flatMap_cons, List.set_append_right _ _ (by simp [Blk.cs]; omega)]
    rw [show (k + 1) * 6 + 5 - b.cs.length = k * 6 + 5 by simp [Blk.cs]; omega, this]
    rfl
theorem OwnB.next {w : World} {base g n c : Nat} {l : List Blk} (h : OwnB w base (.slice (some ⟨g, 0, none⟩) n c) l) (k x : Nat) (hk : k < l.length) (hn : l.length = n) :
    OwnB (w.setCell ⟨g, k * 6 + 5, none⟩ (.int .u64 (x : Int))) base (.slice (some ⟨g, 0, none⟩) n c) (l.set k { l[k] with next := x }) := by
  subst hn
  have := (World.ownsRow.stored h (k * 6 + 5) (.int .u64 (x : Int))).1
  unfold OwnB
  rw [← flat_set_next l k x hk, List.length_set]
  exact this

theorem OwnB.frozen {w : World} {base g n c : Nat} {l : List Blk} (h : OwnB w base (.slice (some ⟨g, 0, none⟩) n c) l) (hn : l.length = n) (j : Nat) : w.frozen? ⟨g, j, none⟩ = false := by
  subst hn
  exact World.ownsRow.frozenAt h j

def SpoiltRel (f : Blk → Blk) (l : List Blk) (a : Int) (base gw cw : Nat) (w5 : World) (t : Value) (wr : World) : Prop :=
  ∃ k : Nat, t = .int .i64 k ∧ k ≤ l.length ∧ OwnB wr base (.slice (some ⟨gw, 0, none⟩) l.length cw) (mixF f l k) ∧ Hid (∀ j (hj : j < l.length), j < k → l[j].at_ ≠ a) ∧ Since w5 wr

set_option maxRecDepth 100000 in
set_option maxHeartbeats 8000000 in
theorem walkWalkSpoilt (A : Option Addr) (n c : Nat) (ws : List Nat) (a bit : Int) (w : World) (h : Words w A n c ws) (_h1 : -9223372036854775808 ≤ a) (_h2 : a ≤ 9223372036854775807) (_h3 : -9223372036854775808 ≤ bit) (_h4 : bit ≤ 9223372036854775807) :
    Calls Try.prog 11 #[.slice A n c, .int .i64 a, .int .i64 bit] w fun e w' => e = .returned (.bool true) ∧ Below w.heap.size w w' := by
  have hm := h.most
  have hcap := h.cap
  have A0 := Lib.hid (Since.refl w)
  by_cases hn : n ≤ 2100
  case neg =>
    have G := Lib.hid fun W => great_yes A n c W (by omega)
    clear h
    go_enter Try.func11, Try.ntmps11
    go_wp2_with fail
    refine (alive15 _).mono ?_
    rintro e w1 ⟨rfl, hb1⟩
    have A1 := Lib.hid (show Since w w1 from Since.via (by repeat (first | with_reducible exact A0.out | with_reducible exact Since.refl _ | with_reducible refine Since.alloc ?_ _ | with_reducible refine Since.setCell ?_ (by first | omega | (simp; done) | (simp; omega)) _ | with_reducible refine Since.drew ?_ | with_reducible refine Since.drewN ?_ _)) hb1)
    have s1 := A1.out.size
    clear hb1
    go_wp2_with fail
    refine (G.out _).mono ?_
    rintro e wd ⟨rfl, rfl⟩
    go_wp2
    go_ret
    exact ⟨rfl, (Since.out (by repeat (first | with_reducible exact A1.out | with_reducible exact Since.refl _ | with_reducible refine Since.alloc ?_ _ | with_reducible refine Since.setCell ?_ (by first | omega | (simp; done) | (simp; omega)) _ | with_reducible refine Since.drew ?_ | with_reducible refine Since.drewN ?_ _)))⟩
  have G := Lib.hid fun W => great_no A n c W hn
  by_cases hi : imgOk n
  case neg =>
    have K := Lib.hid fun W => rimg_bad A n c W (by omega) hi
    clear h hi
    go_enter Try.func11, Try.ntmps11
    go_wp2_with fail
    refine (alive15 _).mono ?_
    rintro e w1 ⟨rfl, hb1⟩
    have A1 := Lib.hid (show Since w w1 from Since.via (by repeat (first | with_reducible exact A0.out | with_reducible exact Since.refl _ | with_reducible refine Since.alloc ?_ _ | with_reducible refine Since.setCell ?_ (by first | omega | (simp; done) | (simp; omega)) _ | with_reducible refine Since.drew ?_ | with_reducible refine Since.drewN ?_ _)) hb1)
    have s1 := A1.out.size
    clear hb1
    go_wp2_with fail
    refine (G.out _).mono ?_
    rintro e wd ⟨rfl, rfl⟩
    go_wp2_with fail
    refine (K.out _).mono ?_
    rintro e wd ⟨rfl, rfl⟩
    go_wp2
    go_ret
    exact ⟨rfl, (Since.out (by repeat (first | with_reducible exact A1.out | with_reducible exact Since.refl _ | with_reducible refine Since.alloc ?_ _ | with_reducible refine Since.setCell ?_ (by first | omega | (simp; done) | (simp; omega)) _ | with_reducible refine Since.drew ?_ | with_reducible refine Since.drewN ?_ _)))⟩
  have K := Lib.hid fun W => rimg_ok A n c W (by omega) hi
  by_cases hx : a < 0 ∨ (0 ≤ a ∧ n ≤ a) ∨ (0 ≤ a ∧ a < n ∧ bit < 0) ∨ (0 ≤ a ∧ a < n ∧ 0 ≤ bit ∧ 63 < bit)
  · clear h hi
    rcases hx with h1 | ⟨h1, h2⟩ | ⟨h1, h2, h3⟩ | ⟨h1, h2, h3, h4⟩
    · clear _h1 _h2 _h3 _h4
      go_enter Try.func11, Try.ntmps11
      go_wp2_with fail
      refine (alive15 _).mono ?_
      rintro e w1 ⟨rfl, hb1⟩
      have A1 := Lib.hid (show Since w w1 from Since.via (by repeat (first | with_reducible exact A0.out | with_reducible exact Since.refl _ | with_reducible refine Since.alloc ?_ _ | with_reducible refine Since.setCell ?_ (by first | omega | (simp; done) | (simp; omega)) _ | with_reducible refine Since.drew ?_ | with_reducible refine Since.drewN ?_ _)) hb1)
      have s1 := A1.out.size
      clear hb1
      go_wp2_with fail
      refine (G.out _).mono ?_
      rintro e wd ⟨rfl, rfl⟩
      go_wp2_with fail
      refine (K.out _).mono ?_
      rintro e wd ⟨rfl, rfl⟩
      go_wp2
      go_ret
      exact ⟨rfl, (Since.out (by repeat (first | with_reducible exact A1.out | with_reducible exact Since.refl _ | with_reducible refine Since.alloc ?_ _ | with_reducible refine Since.setCell ?_ (by first | omega | (simp; done) | (simp; omega)) _ | with_reducible refine Since.drew ?_ | with_reducible refine Since.drewN ?_ _)))⟩
    · clear _h1 _h2 _h3 _h4
      go_enter Try.func11, Try.ntmps11
      go_wp2_with fail
      refine (alive15 _).mono ?_
      rintro e w1 ⟨rfl, hb1⟩
      have A1 := Lib.hid (show Since w w1 from Since.via (by repeat (first | with_reducible exact A0.out | with_reducible exact Since.refl _ | with_reducible refine Since.alloc ?_ _ | with_reducible refine Since.setCell ?_ (by first | omega | (simp; done) | (simp; omega)) _ | with_reducible refine Since.drew ?_ | with_reducible refine Since.drewN ?_ _)) hb1)
      have s1 := A1.out.size
      clear hb1
      go_wp2_with fail
      refine (G.out _).mono ?_
      rintro e wd ⟨rfl, rfl⟩
      go_wp2_with fail
      refine (K.out _).mono ?_
      rintro e wd ⟨rfl, rfl⟩
      go_wp2
      go_ret
      exact ⟨rfl, (Since.out (by repeat (first | with_reducible exact A1.out | with_reducible exact Since.refl _ | with_reducible refine Since.alloc ?_ _ | with_reducible refine Since.setCell ?_ (by first | omega | (simp; done) | (simp; omega)) _ | with_reducible refine Since.drew ?_ | with_reducible refine Since.drewN ?_ _)))⟩
    · clear _h1 _h2 _h3 _h4
      go_enter Try.func11, Try.ntmps11
      go_wp2_with fail
      refine (alive15 _).mono ?_
      rintro e w1 ⟨rfl, hb1⟩
      have A1 := Lib.hid (show Since w w1 from Since.via (by repeat (first | with_reducible exact A0.out | with_reducible exact Since.refl _ | with_reducible refine Since.alloc ?_ _ | with_reducible refine Since.setCell ?_ (by first | omega | (simp; done) | (simp; omega)) _ | with_reducible refine Since.drew ?_ | with_reducible refine Since.drewN ?_ _)) hb1)
      have s1 := A1.out.size
      clear hb1
      go_wp2_with fail
      refine (G.out _).mono ?_
      rintro e wd ⟨rfl, rfl⟩
      go_wp2_with fail
      refine (K.out _).mono ?_
      rintro e wd ⟨rfl, rfl⟩
      go_wp2
      go_ret
      exact ⟨rfl, (Since.out (by repeat (first | with_reducible exact A1.out | with_reducible exact Since.refl _ | with_reducible refine Since.alloc ?_ _ | with_reducible refine Since.setCell ?_ (by first | omega | (simp; done) | (simp; omega)) _ | with_reducible refine Since.drew ?_ | with_reducible refine Since.drewN ?_ _)))⟩
    · clear _h1 _h2 _h3 _h4
      go_enter Try.func11, Try.ntmps11
      go_wp2_with fail
      refine (alive15 _).mono ?_
      rintro e w1 ⟨rfl, hb1⟩
      have A1 := Lib.hid (show Since w w1 from Since.via (by repeat (first | with_reducible exact A0.out | with_reducible exact Since.refl _ | with_reducible refine Since.alloc ?_ _ | with_reducible refine Since.setCell ?_ (by first | omega | (simp; done) | (simp; omega)) _ | with_reducible refine Since.drew ?_ | with_reducible refine Since.drewN ?_ _)) hb1)
      have s1 := A1.out.size
      clear hb1
      go_wp2_with fail
      refine (G.out _).mono ?_
      rintro e wd ⟨rfl, rfl⟩
      go_wp2_with fail
      refine (K.out _).mono ?_
      rintro e wd ⟨rfl, rfl⟩
      go_wp2
      go_ret
      exact ⟨rfl, (Since.out (by repeat (first | with_reducible exact A1.out | with_reducible exact Since.refl _ | with_reducible refine Since.alloc ?_ _ | with_reducible refine Since.setCell ?_ (by first | omega | (simp; done) | (simp; omega)) _ | with_reducible refine Since.drew ?_ | with_reducible refine Since.drewN ?_ _)))⟩
  have g0 : 0 ≤ a := by omega
  obtain ⟨p, rfl⟩ := Int.eq_ofNat_of_zero_le g0
  have g1 : p < n := by omega
  obtain ⟨bt, rfl⟩ := Int.eq_ofNat_of_zero_le (show 0 ≤ bit by omega)
  have g2 : bt ≤ 63 := by omega
  clear hx g0 _h1 _h2 _h3 _h4
  have hlen := h.len
  have F1 := Lib.hid fun W A c h => all_any A n c ws W h
  have TW := Lib.hid fun W h => twin_own A n c ws W h (by omega) (by omega)
  have H0 := Lib.hid h
  by_cases he : (allR ws).2 = 0
  case neg =>
    have E1 := allR_err he
    rw [E1] at F1
    generalize (allR ws).2 = x at *
    have hx : (x != 0) = true := by simpa using he
    clear E1 h hi hlen he
    go_enter Try.func11, Try.ntmps11
    go_wp2_with fail
    refine (alive15 _).mono ?_
    rintro e w1 ⟨rfl, hb1⟩
    have A1 := Lib.hid (show Since w w1 from Since.via (by repeat (first | with_reducible exact A0.out | with_reducible exact Since.refl _ | with_reducible refine Since.alloc ?_ _ | with_reducible refine Since.setCell ?_ (by first | omega | (simp; done) | (simp; omega)) _ | with_reducible refine Since.drew ?_ | with_reducible refine Since.drewN ?_ _)) hb1)
    have s1 := A1.out.size
    have B1 := Lib.hid (show Since w w1 from Since.via (by repeat (first | with_reducible exact Since.refl _ | with_reducible refine Since.alloc ?_ _ | with_reducible refine Since.setCell ?_ (by first | omega | (simp; done) | (simp; omega)) _ | with_reducible refine Since.drew ?_ | with_reducible refine Since.drewN ?_ _)) hb1)
    have H1 := Lib.hid (H0.out.below B1.out)
    clear hb1
    go_wp2_with fail
    refine (G.out _).mono ?_
    rintro e wd ⟨rfl, rfl⟩
    go_wp2_with fail
    refine (K.out _).mono ?_
    rintro e wd ⟨rfl, rfl⟩
    go_wp2_with fail
    refine (F1.out _ _ _ (H1.out.below (Since.out (by repeat (first | with_reducible exact Since.refl _ | with_reducible refine Since.alloc ?_ _ | with_reducible refine Since.setCell ?_ (by first | omega | (simp; done) | (simp; omega)) _ | with_reducible refine Since.drew ?_ | with_reducible refine Since.drewN ?_ _))))).mono ?_
    rintro e w2 ⟨B1, d1, rfl, hB, hb2⟩
    have A2 := Lib.hid (show Since w w2 from Since.via (by repeat (first | with_reducible exact A1.out | with_reducible exact Since.refl _ | with_reducible refine Since.alloc ?_ _ | with_reducible refine Since.setCell ?_ (by first | omega | (simp; done) | (simp; omega)) _ | with_reducible refine Since.drew ?_ | with_reducible refine Since.drewN ?_ _)) hb2)
    have s2 := A2.out.size
    clear hb2
    go_wp2
    go_ret
    exact ⟨rfl, (Since.out (by repeat (first | with_reducible exact A2.out | with_reducible exact Since.refl _ | with_reducible refine Since.alloc ?_ _ | with_reducible refine Since.setCell ?_ (by first | omega | (simp; done) | (simp; omega)) _ | with_reducible refine Since.drew ?_ | with_reducible refine Since.drewN ?_ _)))⟩
  obtain ⟨_, l, hc, ha, e1⟩ := allR_ok he
  have hpl : p < ws.length := by rw [hlen]; exact g1
  have hlt64 := h.lt _ (List.getElem_mem hpl)
  have hgd : ws.getD p 0 = ws[p] := by simp [List.getD, hpl]
  have PB := allR_bit (bit := bt) (by rw [hlen]; exact hi) hc ha hpl (by omega)
  have HXL := Lib.hid (show ∀ x ∈ ws.set p (ws.getD p 0 ^^^ 2 ^ bt), x < 18446744073709551616 from fun x hx => by
    rcases List.mem_or_eq_of_mem_set hx with hx | rfl
    · exact h.lt x hx
    · rw [hgd]
      refine xor_lt64 hlt64 ?_
      have : 2 ^ bt < 2 ^ 64 := Nat.pow_lt_pow_right (by decide) (by omega)
      rwa [show (2 : Nat) ^ 64 = 18446744073709551616 from by decide] at this)
  have XB := Lib.hid (shl_bit (ws.getD p 0) bt (by rw [hgd]; exact hlt64) g2)
  have HCELL := Lib.hid (show (ws.map wv)[p]? = some (.int .u64 (ws.getD p 0 : Nat)) by rw [List.getElem?_map, List.getElem?_eq_getElem hpl, hgd]; rfl)
  have NX := Lib.hid fun i (hl : i < l.length) => shl_bit l[i].next bt (by
    have h1 := (stands_some (chain_mem (chain_of_seg hc) (List.getElem_mem hl)).1).2.2.2.1
    rw [h1, List.getD_eq_getElem?_getD]
    cases hq : ws[(l[i].at_).toNat + 1]? with
    | none => show (0 : Nat) < _; omega
    | some v => exact h.lt v (List.mem_of_getElem? hq)) g2
  have F2 := Lib.hid fun W A c h => all_any A n c (ws.set p (ws.getD p 0 ^^^ 2 ^ bt)) W h
  have HMS := Lib.hid (List.map_set (f := wv) (l := ws) (i := p) (a := ws.getD p 0 ^^^ 2 ^ bt))
  obtain ⟨⟨m, z⟩, hr⟩ : ∃ r, allR (ws.set p (ws.getD p 0 ^^^ 2 ^ bt)) = r := ⟨_, rfl⟩
  rw [hr] at PB
  simp only [hr] at F2
  have HP1 := Lib.hid PB.1
  have HP2 := Lib.hid PB.2
  have HAT := Lib.hid fun i (hl : i < l.length) => (show 128 ≤ l[i].at_ ∧ l[i].at_ ≤ 2048 ∧ l[i].at_ % 2 = 0 from by
    have h1 := chain_mem (chain_of_seg hc) (List.getElem_mem hl)
    have h2 := good_size h1.2.1
    have h3 := chain_even (i := i) (chain_of_seg hc) rfl
    have h4 := chain_posn (chain_of_seg hc) hl
    have h5 := hi.2.1
    have := h1.2.2.1
    have := h1.2.2.2
    omega)
  have hll : l.length ≤ 1000000 := by have := allR_len ws; rw [e1] at this; exact this
  have hl0 : 0 < l.length := by
    rcases Nat.eq_zero_or_pos l.length with h0 | h0
    · have : l = [] := List.eq_nil_of_length_eq_zero h0
      subst this
      have h5 := hi.1
      have h6 : 128 = ws.length := hc
      omega
    · exact h0
  simp only [e1] at F1
  generalize hu : ws.getD p 0 = u at *
  generalize hy : u ^^^ 2 ^ bt = y at *
  have HU := Lib.hid hu
  have HY := Lib.hid hy
  have MX := Lib.hid fun k (h : k < l.length) => (mixF_len (nextB p (2 ^ bt)) l k)
  generalize hf : nextB p (2 ^ bt) = f at *
  have HF := Lib.hid hf
  clear PB hf hr hu hy h hi hlen he e1 hc ha hpl hlt64 hgd
  have hb0 : (0 : Int) ≤ (bt : Int) := by omega
  go_enter Try.func11, Try.ntmps11
  go_wp2_with fail
  refine (alive15 _).mono ?_
  rintro e w1 ⟨rfl, hb1⟩
  have A1 := Lib.hid (show Since w w1 from Since.via (by repeat (first | with_reducible exact A0.out | with_reducible exact Since.refl _ | with_reducible refine Since.alloc ?_ _ | with_reducible refine Since.setCell ?_ (by first | omega | (simp; done) | (simp; omega)) _ | with_reducible refine Since.drew ?_ | with_reducible refine Since.drewN ?_ _)) hb1)
  have s1 := A1.out.size
  have B1 := Lib.hid (show Since w w1 from Since.via (by repeat (first | with_reducible exact Since.refl _ | with_reducible refine Since.alloc ?_ _ | with_reducible refine Since.setCell ?_ (by first | omega | (simp; done) | (simp; omega)) _ | with_reducible refine Since.drew ?_ | with_reducible refine Since.drewN ?_ _)) hb1)
  have H1 := Lib.hid (H0.out.below B1.out)
  clear hb1
  go_wp2_with fail
  refine (G.out _).mono ?_
  rintro e wd ⟨rfl, rfl⟩
  go_wp2_with fail
  refine (K.out _).mono ?_
  rintro e wd ⟨rfl, rfl⟩
  go_wp2_with fail
  refine (F1.out _ _ _ (H1.out.below (Since.out (by repeat (first | with_reducible exact Since.refl _ | with_reducible refine Since.alloc ?_ _ | with_reducible refine Since.setCell ?_ (by first | omega | (simp; done) | (simp; omega)) _ | with_reducible refine Since.drew ?_ | with_reducible refine Since.drewN ?_ _))))).mono ?_
  rintro e w2 ⟨B1, d1, rfl, hB, hb2⟩
  have A2 := Lib.hid (show Since w w2 from Since.via (by repeat (first | with_reducible exact A1.out | with_reducible exact Since.refl _ | with_reducible refine Since.alloc ?_ _ | with_reducible refine Since.setCell ?_ (by first | omega | (simp; done) | (simp; omega)) _ | with_reducible refine Since.drew ?_ | with_reducible refine Since.drewN ?_ _)) hb2)
  have s2 := A2.out.size
  have B2 := Lib.hid (show Since w1 w2 from Since.via (by repeat (first | with_reducible exact Since.refl _ | with_reducible refine Since.alloc ?_ _ | with_reducible refine Since.setCell ?_ (by first | omega | (simp; done) | (simp; omega)) _ | with_reducible refine Since.drew ?_ | with_reducible refine Since.drewN ?_ _)) hb2)
  have H2 := Lib.hid (H1.out.below B2.out)
  have L2 := Lib.hid hB
  clear hB
  clear hb2
  go_wp2_with fail
  refine (TW.out _ (H2.out.below (Since.out (by repeat (first | with_reducible exact Since.refl _ | with_reducible refine Since.alloc ?_ _ | with_reducible refine Since.setCell ?_ (by first | omega | (simp; done) | (simp; omega)) _ | with_reducible refine Since.drew ?_ | with_reducible refine Since.drewN ?_ _))))).mono ?_
  rintro e w3 ⟨g, c', rfl, hown, hb3⟩
  have A3 := Lib.hid (show Since w w3 from Since.via (by repeat (first | with_reducible exact A2.out | with_reducible exact Since.refl _ | with_reducible refine Since.alloc ?_ _ | with_reducible refine Since.setCell ?_ (by first | omega | (simp; done) | (simp; omega)) _ | with_reducible refine Since.drew ?_ | with_reducible refine Since.drewN ?_ _)) hb3)
  have s3 := A3.out.size
  have B3 := Lib.hid (show Since w2 w3 from Since.via (by repeat (first | with_reducible exact Since.refl _ | with_reducible refine Since.alloc ?_ _ | with_reducible refine Since.setCell ?_ (by first | omega | (simp; done) | (simp; omega)) _ | with_reducible refine Since.drew ?_ | with_reducible refine Since.drewN ?_ _)) hb3)
  have H3 := Lib.hid (H2.out.below B3.out)
  have L3 := Lib.hid (L2.out.below B3.out)
  clear hb3
  have hg1 := hown.at_.1
  have k0 := hown.cell g1
  rw [HU.out] at k0
  have f0 := hown.frozen p
  have OW3 := Lib.hid hown
  have OW4 := Lib.hid (hown.set_ p y)
  clear hown
  have n1 : decide ((p : Int) < 0) = false := by simp
  have n2 : decide ((bt : Int) < 0) = false := by simp
  have n3 : decide (63 < (bt : Int)) = false := by simp; omega
  go_wp2_with fail
  rw [XB.out]
  refine (F2.out _ _ _ (OW4.out.words HXL.out)).mono ?_
  rintro e w5 ⟨B5, d5, rfl, hB5, hb5⟩
  have A5 := Lib.hid (show Since w w5 from Since.via (by repeat (first | with_reducible exact A3.out | with_reducible exact Since.refl _ | with_reducible refine Since.alloc ?_ _ | with_reducible refine Since.setCell ?_ (by first | omega | (simp; done) | (simp; omega)) _ | with_reducible refine Since.drew ?_ | with_reducible refine Since.drewN ?_ _)) hb5)
  have S3 := Lib.hid (show Since w2 w5 from Since.via (Since.setCell B3.out (by omega) _) hb5)
  have L5 := Lib.hid (L2.out.below S3.out)
  have M5 := Lib.hid hB5
  have s5 := A5.out.size
  clear hb5 hB5 k0 f0
  obtain ⟨gl, ol, rfl, hgl⟩ := L5.out.at_ hl0
  have hcapl := L5.out.cap
  have hmostl := L5.out.most
  have LA := Lib.hid (L5.out.below (Since.out (Since.alloc (Since.refl _) (.cells #[] 24))))
  have OE := Lib.hid (show OwnB (w5.alloc (.cells #[] 24)) w5.heap.size (.slice (some ⟨w5.heap.size, 0, none⟩) 0 0) [] from World.ownsRow_made w5 #[] 0 (Nat.le_refl _) (by decide) rfl)
  go_wp2_with (at_builtin; refine wpList_append_blks _ rfl (.tmp 70) (.tmp 71) rfl w5.heap.size (.slice (some ⟨w5.heap.size, 0, none⟩) 0 0) [] rfl OE.out ⟨gl, ol, none⟩ l.length d1 l rfl LA.out hll (by decide) (by simp) ?_)
  intro v' w6 hown' hgrow hat
  have C6 := Lib.hid (show Since w5 w6 from Since.grown (Since.alloc (Since.refl _) _) hgrow (fun q hq => by simp [Value.ownBlock] at hq; omega))
  obtain ⟨gw, cw, hv, _⟩ := World.ownsRow.form hown' hl0
  subst hv
  have OW6 := Lib.hid hown'
  clear hown' hgrow hat
  go_wp2
  go_loopw [14] (fun t wr => SpoiltRel f l p w5.heap.size gw cw w5 t wr) (fun t _ => l.length - (intOf t).toNat)
  case atStart => exact ⟨0, rfl, Nat.zero_le _, OW6.out, Lib.hid (fun _ _ h => absurd h (by omega)), C6.out⟩
  case round =>
    obtain ⟨k, rfl, hk, hown, hN, hnx⟩ := hrel
    obtain ⟨w7, hw7⟩ : ∃ x, x = wr := ⟨_, rfl⟩
    subst hw7
    have C7 := Lib.hid hnx
    have A7 := Lib.hid (Since.trans A5.out hnx)
    have OW7 := Lib.hid hown
    have M7 := Lib.hid (M5.out.below hnx)
    have s7 := C7.out.size
    clear hnx hown
    have hgw := OW7.out.lt gw rfl
    obtain ⟨_, _, hv, hB⟩ := OW7.out.form
    rw [mixF_len] at hv
    injection hv with hv1 _ hv2
    subst hv1 hv2
    have BW := Lib.hid hB
    rw [mixF_len] at hB
    have hcw := hB.cap
    have hmw := hB.most
    clear hB
    by_cases hlt : k < l.length
    · have hlm : k < (mixF f l k).length := by rw [mixF_len]; exact hlt
      obtain ⟨c0, c1, c2, c3, c4, c5⟩ := BW.out.same hlm
      rw [mixF_get f hlt hlm] at c0 c1 c2 c3 c4 c5
      simp only [Nat.zero_add] at c0 c1 c2 c3 c4 c5
      obtain ⟨t1, t2, t3⟩ := HAT.out k hlt
      by_cases h1 : l[k].at_ = (p : Int)
      · have hr := HP1.out k hlt h1
        injection hr with hr1 hr2
        subst hr1 hr2
        rw [h1] at c0
        clear h1
        go_wp2
        go_ret
        exact ⟨rfl, (Since.out (by repeat (first | with_reducible exact A7.out | with_reducible exact Since.refl _ | with_reducible refine Since.alloc ?_ _ | with_reducible refine Since.setCell ?_ (by first | omega | (simp; done) | (simp; omega)) _ | with_reducible refine Since.drew ?_ | with_reducible refine Since.drewN ?_ _)))⟩
      · have e1 : (l[k].at_ == (p : Int)) = false := by simpa using h1
        have HN2 := Lib.hid (show ∀ j (hj : j < l.length), j < k + 1 → l[j].at_ ≠ (p : Int) from fun j hj hjk => by
          rcases Nat.lt_or_ge j k with hl | hl
          · exact hN.out j hj hl
          · obtain rfl : j = k := by omega
            exact h1)
        by_cases h2 : l[k].at_ + 1 = (p : Int)
        · have FY := Lib.hid (nextB_yes (x := 2 ^ bt) h2)
          rw [HF.out] at FY
          have NXK := Lib.hid (NX.out k hlt)
          have MS := Lib.hid (mixF_set f hlt)
          have NB := Lib.hid (OW7.out.next k (l[k].next ^^^ 2 ^ bt) hlm (mixF_len f l k))
          have f5 := OW7.out.frozen (mixF_len f l k) (k * 6 + 5)
          have e2 : (l[k].at_ + 1 == (p : Int)) = true := by simpa using h2
          rw [FY.out] at MS
          rw [mixF_get f hlt hlm, ← MS.out] at NB
          generalize l[k] = b at *
          clear h1 h2
          go_wp2_with fail
          rw [NXK.out]
          go_roundw
          case rel => exact ⟨k + 1, by go_num, by omega, NB.out, HN2, Since.setCell C7.out hgw.1 _⟩
          case measure => simp [intOf]; omega
        · have FN := Lib.hid (nextB_no (x := 2 ^ bt) h2)
          rw [HF.out] at FN
          have MS := Lib.hid (mixF_same f hlt FN.out)
          have e2 : (l[k].at_ + 1 == (p : Int)) = false := by simpa using h2
          generalize l[k] = b at *
          clear h1 h2
          go_wp2
          go_roundw
          case rel => exact ⟨k + 1, by go_num, by omega, by rw [MS.out]; exact OW7.out, HN2, C7.out⟩
          case measure => simp [intOf]; omega
    · obtain rfl : k = l.length := by omega
      have hr := HP2.out (fun j hj => hN.out j hj hj)
      injection hr with hr1 hr2
      subst hr1 hr2
      rw [mixF_all] at BW
      rw [List.length_map] at M7 BW
      go_wp2_with fail
      refine (rsame_n _ _ _ _ _ _ _ M7.out BW.out).mono ?_
      rintro e w8 ⟨rfl, hb8⟩
      have A8 := Lib.hid (show Since w w8 from Since.via (by repeat (first | with_reducible exact A7.out | with_reducible exact Since.refl _ | with_reducible refine Since.alloc ?_ _ | with_reducible refine Since.setCell ?_ (by first | omega | (simp; done) | (simp; omega)) _ | with_reducible refine Since.drew ?_ | with_reducible refine Since.drewN ?_ _)) hb8)
      have s8 := A8.out.size
      clear hb8
      go_wp2
      go_ret
      exact ⟨rfl, (Since.out (by repeat (first | with_reducible exact A8.out | with_reducible exact Since.refl _ | with_reducible refine Since.alloc ?_ _ | with_reducible refine Since.setCell ?_ (by first | omega | (simp; done) | (simp; omega)) _ | with_reducible refine Since.drew ?_ | with_reducible refine Since.drewN ?_ _)))⟩
end Go.Proofs.Ythdccahggcjogaa
