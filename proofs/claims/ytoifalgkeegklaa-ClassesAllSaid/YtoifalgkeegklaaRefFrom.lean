/- From of the reference of package walk, walked. -/
import Derived.Test.YtoifalgkeegklaaRef15
import Derived.Test.YtoifalgkeegklaaOwn
namespace Go.Proofs.Ytoifalgkeegklaa
open Go.RowKit

theorem info_bool : (Try.prog.info? 4).map (fun i => (i.zero, i.size, i.bytes)) = some (some (.bool false), 1, 1) := by kernel_rfl
theorem mk_bools (n : Nat) (hn : n ≤ 1000000) (W : World) :
    (Instr.makeSlice 109 (.int .i64 (n : Int)) (.int .i64 (n : Int))).run Try.prog W = .ok (.slice (some ⟨W.heap.size, 0, none⟩) n n) (W.alloc (.cells (madeCells #[.bool false] n) 4)) := by
  obtain ⟨i, hi, hz, h1, h8⟩ := info_parts info_bool
  have hr := run_make (P := Try.prog) W 109 4 i (.bool false) Try.underlying109 hi hz .i64 .i64 n n (by omega) (Int.le_refl _) (by rw [h8]; omega) (by omega)
  simp only [Int.toNat_natCast, h1, Nat.mul_one] at hr
  exact hr

/-- What the reference knows from an address on. -/
def Right (ws : List Nat) (q : Nat) (cs : Array Value) : Prop := cs.size = ws.length + 1 ∧ ∀ j, q ≤ j → j ≤ ws.length → j % 2 = 0 → cs[j]? = some (.bool (parse ws j).isSome)
theorem right_step {ws : List Nat} {q : Nat} {cs : Array Value} (h : Right ws (q + 2) cs) (hq : q % 2 = 0) (hl : q ≤ ws.length) (v : Bool) (hv : v = (parse ws q).isSome) : Right ws q (cs.setIfInBounds q (.bool v)) := by
  refine ⟨by simpa using h.1, fun j h1 h2 h3 => ?_⟩
  rw [Array.getElem?_setIfInBounds]
  by_cases e : q = j
  · subst e; rw [if_pos rfl, if_pos (by rw [h.1]; exact Nat.lt_succ_of_le hl), hv]
  · rw [if_neg e]; exact h.2 j (by omega) h2 h3
theorem right_none {ws : List Nat} {q : Nat} (h : q < ws.length) (hs : stands ws q = none) : false = (parse ws q).isSome := by rw [parse_none h hs]; rfl
theorem right_some {ws : List Nat} {q : Nat} {b : Blk} (h : q < ws.length) (hs : stands ws q = some b) : (parse ws (q + b.size.toNat)).isSome = (parse ws q).isSome := by rw [parse_step h hs]; simp

/-- The end of a call that returns blocks and whether there are such ones. -/
def BlksEndB (w : World) (r : Option (List Blk)) (e : Ending) (w' : World) : Prop :=
  ∃ A c, e = .returned (.tuple #[.slice A (r.getD []).length c, .bool r.isSome]) ∧ Blks w' A (r.getD []).length c (r.getD []) ∧ Below w.heap.size w w'
theorem BlksEndB.none_ {w w' : World} (hb : Below w.heap.size w w') : BlksEndB w none (.returned (.tuple #[.slice none 0 0, .bool false])) w' := ⟨none, 0, rfl, Blks.nil, hb⟩

/-- The relation of the first loop. -/
def RightRel (w : World) (ws : List Nat) (a : Nat) (i : Value) (wr : World) : Prop :=
  ∃ (j : Nat) (cs : Array Value), i = .int .i64 j ∧ a ≤ j + 2 ∧ j + 2 ≤ ws.length ∧ j % 2 = 0 ∧ Right ws (j + 2) cs ∧ Cells wr w.heap.size 4 cs ∧ Since w wr

set_option maxRecDepth 100000 in
theorem rfrom_go (A : Option Addr) (n c : Nat) (ws : List Nat) (a : Nat) (w : World) (h : Words w A n c ws) (hn0 : 256 ≤ n) (hn : n ≤ 2048) (hn2 : n % 2 = 0) (ha : 128 ≤ a) (ha2 : a ≤ n) (ha3 : a % 2 = 0) :
    Calls Try.prog 83 #[.slice A n c, .int .i64 a] w (BlksEndB w (parse ws a)) := by
  have hm := h.most
  have hcap := h.cap
  have hlen := Lib.hid h.len
  have H := Lib.hid h
  have mk := mk_bools (n + 1) (by omega)
  have ec : ((n + 1 : Nat) : Int) = (n : Int) + 1 := by omega
  rw [ec] at mk
  have d1 : decide ((a : Int) < 0) = false := by simp
  have d2 : decide (n < a) = false := by simp; omega
  have hlen' := h.len
  have R0 : Right ws (n - 2 + 2) ((madeCells #[.bool false] (n + 1)).setIfInBounds n (.bool true)) := by
    refine ⟨by simp [hlen', size_madeCells], fun j h1 h2 _ => ?_⟩
    obtain rfl : j = n := by omega
    rw [Array.getElem?_setIfInBounds, if_pos rfl, if_pos (by simp [size_madeCells]), parse_end (by omega)]
    rfl
  have RH := Lib.hid R0
  have hold : (madeCells #[Value.bool false] (n + 1))[n]? = some (.bool false) := by
    rw [← Array.getElem?_toList, toList_madeCells_one, List.getElem?_replicate, if_pos (by omega)]
  clear h R0 ec hlen'
  go_enter Try.func83, Try.ntmps83
  go_wp2
  go_loopw [7] (fun i wr => RightRel w ws a i wr) (fun i _ => (intOf i).toNat)
  case atStart => exact ⟨n - 2, _, by go_num, by omega, by rw [hlen.out]; omega, by omega, RH.out, Cells.new _ _ _, Since.alloc (Since.refl _) _⟩
  case round =>
    obtain ⟨j, cs, rfl, hj1, hj2, hj3, hR, hK, hnx⟩ := hrel
    rw [hlen.out] at hj2
    have A1 := Lib.hid hnx
    have R1 := Lib.hid hR
    have K1 := Lib.hid hK
    have s1 := A1.out.size
    have hz1 := K1.out.lt
    clear hnx hR hK
    by_cases hlt : a ≤ j
    · have H1 := Lib.hid (H.out.below A1.out)
      have hjn : j < n := by omega
      cases hs : stands ws j with
      | none =>
        have D := Lib.hid fun W (hW : Words W A n c ws) => at_no A n c j ws W hW (by omega) hjn hs
        have V := Lib.hid (right_none (by rw [hlen.out]; exact hjn) hs)
        clear hs
        go_wp2_with fail
        refine (D.out _ H1.out).mono ?_
        rintro e w2 ⟨rfl, hb2⟩
        have A2 := Lib.hid (Since.via A1.out hb2)
        have K2 := Lib.hid (K1.out.kept hb2)
        have hz2 := K2.out.lt
        clear hb2
        have kf := K2.out.frozen j
        obtain ⟨old, ho⟩ : ∃ v, cs[j]? = some v := ⟨cs[j]'(by have := R1.out.1; have := hlen.out; omega), Array.getElem?_eq_getElem _⟩
        have kc := K2.out.cell j
        rw [ho] at kc
        have R2 := Lib.hid (right_step R1.out hj3 (by have := hlen.out; omega) false V.out)
        have K3 := Lib.hid ((K2.out.set_ j (.bool false)).alloc (.cells #[.int .i64 0, .int .i64 0, .int .i64 0, .int .i64 0, .bool false, .int .u64 0] 24))
        clear ho
        go_wp2
        go_roundw
        case rel => exact ⟨j - 2, _, by go_num, by omega, by rw [hlen.out]; omega, by omega, by rw [show j - 2 + 2 = j by omega]; exact R2.out, K3.out, (by repeat (first | with_reducible exact A2.out | with_reducible exact Since.refl _ | with_reducible refine Since.alloc ?_ _ | with_reducible refine Since.setCell ?_ (by first | omega | (simp; done) | (simp; omega)) _ | with_reducible refine Since.drew ?_ | with_reducible refine Since.drewN ?_ _))⟩
        case measure => simp [intOf]; omega
      | some b =>
        have D := Lib.hid fun W (hW : Words W A n c ws) => at_yes A n c j ws b W hW (by omega) hjn hs
        have hgs := good_size (stands_some hs).1
        have hle := (stands_some hs).2.2.2.2.1
        have V := Lib.hid (right_some (by rw [hlen.out]; exact hjn) hs)
        obtain ⟨S, hS⟩ := Int.eq_ofNat_of_zero_le (show 0 ≤ b.size by omega)
        rw [hS] at D V hgs hle
        rw [hlen.out] at hle
        simp only [Int.toNat_natCast] at V
        clear hs hS
        go_wp2_with fail
        refine (D.out _ H1.out).mono ?_
        rintro e w2 ⟨rfl, hb2⟩
        have A2 := Lib.hid (Since.via A1.out hb2)
        have K2 := Lib.hid (K1.out.kept hb2)
        have hz2 := K2.out.lt
        clear hb2
        have kf := K2.out.frozen j
        obtain ⟨old, ho⟩ : ∃ v, cs[j]? = some v := ⟨cs[j]'(by have := R1.out.1; have := hlen.out; omega), Array.getElem?_eq_getElem _⟩
        have kc := K2.out.cell j
        rw [ho] at kc
        have kd := K2.out.cell (j + S)
        rw [R1.out.2 (j + S) (by omega) (by have := hlen.out; omega) (by omega)] at kd
        have R2 := Lib.hid (right_step R1.out hj3 (by have := hlen.out; omega) _ V.out)
        generalize (parse ws (j + S)).isSome = v at *
        have K3 := Lib.hid ((K2.out.set_ j (.bool v)).alloc (.cells #[.int .i64 b.at_, .int .i64 S, .int .i64 b.kind, .int .i64 b.typ, .bool b.mark, .int .u64 (b.next : Nat)] 24))
        clear ho
        go_wp2
        go_roundw
        case rel => exact ⟨j - 2, _, by go_num, by omega, by rw [hlen.out]; omega, by omega, by rw [show j - 2 + 2 = j by omega]; exact R2.out, K3.out, (by repeat (first | with_reducible exact A2.out | with_reducible exact Since.refl _ | with_reducible refine Since.alloc ?_ _ | with_reducible refine Since.setCell ?_ (by first | omega | (simp; done) | (simp; omega)) _ | with_reducible refine Since.drew ?_ | with_reducible refine Since.drewN ?_ _))⟩
        case measure => simp [intOf]; omega
    · obtain rfl : a = j + 2 := by omega
      have ka := K1.out.cell (j + 2)
      rw [R1.out.2 (j + 2) (Nat.le_refl _) (by rw [hlen.out]; omega) (by omega)] at ka
      cases hp : parse ws (j + 2) with
      | none =>
        rw [hp] at ka
        have HP := Lib.hid hp
        clear hp
        go_wp2
        go_ret2
        rw [HP.out]
        exact BlksEndB.none_ A1.out
      | some l =>
        rw [hp] at ka
        have HP := Lib.hid hp
        have HS := Lib.hid (sofar_zero (ws := ws) (a := j + 2) (by rw [hlen.out]; exact ha2))
        clear hp
        go_wp2
        go_loopw [1, 10] (fun i v wx => FromRel w ws (j + 2) i v wx) (fun i _ _ => n - (intOf i).toNat)
        case atStart => exact ⟨j + 2, [], none, 0, by go_num, rfl, HS.out, OwnB.nil _ _, A1.out⟩
        case round =>
          obtain ⟨p, m, B, d, rfl, rfl, hso, hown, hnx⟩ := hrel
          have A3 := Lib.hid hnx
          have SO := Lib.hid hso
          have OW := Lib.hid hown
          have s3 := A3.out.size
          clear hnx hso hown
          by_cases hlt : p < n
          · have H1 := Lib.hid (H.out.below A3.out)
            cases hs : stands ws p with
            | none => exact absurd (sofar_none SO.out (by rw [hlen.out]; exact hlt) hs) (by rw [HP.out]; simp)
            | some b =>
              have D := Lib.hid fun W (hW : Words W A n c ws) => at_yes A n c p ws b W hW (by omega) hlt hs
              have hgs := good_size (stands_some hs).1
              have S2 := Lib.hid (sofar_step SO.out (by rw [hlen.out]; exact hlt) hs)
              have hll : m.length ≤ 1000000 := by have := SO.out.2.2; omega
              have hpl : p + b.size.toNat ≤ n := by have := S2.out.1; rw [hlen.out] at this; exact this
              have hw0 := OW.out.lt
              have HL := Lib.hid hw0
              clear hs hw0
              go_wp2_with fail
              refine (D.out _ H1.out).mono ?_
              rintro e w4 ⟨rfl, hb4⟩
              have A4 := Lib.hid (Since.via A3.out hb4)
              have OW4 := Lib.hid (OW.out.kept hb4)
              have sz4 := hb4.size
              have sz3 := A4.out.size
              have HN : (Value.slice B m.length d).ownBlock ≠ some w4.heap.size := by intro e; have := HL.out _ e; omega
              have HHN := Lib.hid HN
              clear hb4 HN
              go_wp2_with (at_builtin; refine wpList_append_blk rfl (.tmp 77) (.tmp 79) rfl w.heap.size (.slice B m.length d) m rfl (OW4.out.kept (Below.alloc (Below.refl _ _) (Nat.le_refl _) _)) b _ rfl ?c1 hll ?c2 ?_)
              case c1 => simp
              case c2 => simp; omega
              intro v' w5 hown' hgrow hat
              have OW5 := Lib.hid hown'
              have X5 := Lib.hid (Cells.grown ((Cells.new w4 24 #[.int .i64 b.at_, .int .i64 b.size, .int .i64 b.kind, .int .i64 b.typ, .bool b.mark, .int .u64 (b.next : Nat)]).alloc _) hgrow HHN.out)
              have A5 := Lib.hid (Since.grown (Since.alloc (Since.alloc A4.out _) _) hgrow (fun k hk => (HL.out k hk).1))
              obtain ⟨B', d', rfl, _⟩ := OW5.out.form
              clear hown' hgrow hat
              obtain ⟨Xq0, Xq1, Xq2, Xq3, Xq4, Xq5⟩ := X5.out.six
              have Xlt := X5.out.lt
              have hsz : (b.size.toNat : Int) = b.size := by omega
              have HSZ := Lib.hid hsz
              clear hsz
              go_wp2
              go_roundw
              case rel => exact ⟨p + b.size.toNat, m ++ [b], B', d', by rw [Int.natCast_add, HSZ.out], rfl, S2.out, OW5.out, A5.out⟩
              case measure => simp [intOf]; omega
          · have EN := sofar_end SO.out (by rw [hlen.out]; omega)
            rw [HP.out] at EN
            injection EN with EN
            subst EN
            go_wp2
            go_ret2
            rw [HP.out]
            obtain ⟨B', d', e, hB⟩ := OW.out.form
            injection e with e1 e2 e3
            subst e1; subst e3
            exact ⟨_, _, rfl, hB, A3.out⟩
end Go.Proofs.Ytoifalgkeegklaa
