/- From and All of package walk, walked. -/
import Derived.Test.YtoifalgkeegklaaWalk
import Derived.Deep.QuietTactic
import Derived.BigQuiet
namespace Go.Proofs.Ytoifalgkeegklaa
open Go.RowKit

/-- The end of a call that returns blocks and an error. -/
def BlksEnd (w : World) (r : List Blk × Int) (e : Ending) (w' : World) : Prop :=
  ∃ A c, e = .returned (.tuple #[.slice A r.1.length c, .int .i64 r.2]) ∧ Blks w' A r.1.length c r.1 ∧ Below w.heap.size w w'
theorem BlksEnd.none_ {w w' : World} {x : Int} (hb : Below w.heap.size w w') : BlksEnd w ([], x) (.returned (.tuple #[.slice none 0 0, .int .i64 x])) w' := ⟨none, 0, rfl, Blks.nil, hb⟩

theorem from_img (A : Option Addr) (n c : Nat) (ws : List Nat) (a : Int) (w : World) (h : Words w A n c ws) (hi : ¬ imgOk n) :
    Calls Try.prog 57 #[.slice A n c, .int .i64 a] w (BlksEnd w ([], 8)) := by
  have hm := h.most
  have hcap := h.cap
  have C := Lib.hid fun W => img_bad A n c W (by omega) hi
  clear h hi
  go_enter Try.func57, Try.ntmps57
  go_wp2_with fail
  refine (C.out _).mono ?_
  rintro e w1 ⟨rfl, rfl⟩
  go_wp2
  go_ret2
  exact BlksEnd.none_ (Below.refl _ _)
theorem from_arg (A : Option Addr) (n c : Nat) (ws : List Nat) (a : Int) (w : World) (h : Words w A n c ws) (hi : imgOk n) (ha : a < 128 ∨ (n : Int) < a ∨ a % 2 ≠ 0) :
    Calls Try.prog 57 #[.slice A n c, .int .i64 a] w (BlksEnd w ([], 2)) := by
  have hm := h.most
  have hcap := h.cap
  have C := Lib.hid fun W => img_ok A n c W (by omega) hi
  clear h hi
  by_cases h1 : a < 128
  · clear ha
    go_enter Try.func57, Try.ntmps57
    go_wp2_with fail
    refine (C.out _).mono ?_
    rintro e w1 ⟨rfl, rfl⟩
    go_wp2
    go_ret2
    exact BlksEnd.none_ (Below.refl _ _)
  by_cases h2 : (n : Int) < a
  · clear ha
    have h3 : decide (a < 128) = false := by simpa using h1
    go_enter Try.func57, Try.ntmps57
    go_wp2_with fail
    refine (C.out _).mono ?_
    rintro e w1 ⟨rfl, rfl⟩
    go_wp2
    go_ret2
    exact BlksEnd.none_ (Below.refl _ _)
  have h0 : 0 ≤ a := by omega
  have h3 : decide (a < 128) = false := by simpa using h1
  have h4 : decide ((n : Int) < a) = false := by simpa using h2
  have h5 : (a % 2 != 0) = true := by simp; omega
  clear ha
  go_enter Try.func57, Try.ntmps57
  go_wp2_with fail
  refine (C.out _).mono ?_
  rintro e w1 ⟨rfl, rfl⟩
  go_wp2
  go_ret2
  exact BlksEnd.none_ (Below.refl _ _)

def fromP (ws : List Nat) (a : Nat) : List Blk × Int := match parse ws a with
  | none => ([], 50)
  | some l => (l, 0)
/-- The relation of From's loop. -/
def FromRel (w : World) (ws : List Nat) (a : Nat) (i v : Value) (wr : World) : Prop :=
  ∃ (p : Nat) (l : List Blk) (B : Option Addr) (d : Nat), i = .int .i64 p ∧ v = .slice B l.length d ∧ Sofar ws a p l ∧ OwnB wr w.heap.size (.slice B l.length d) l ∧ Since w wr

set_option maxRecDepth 100000 in
theorem from_go (A : Option Addr) (n c : Nat) (ws : List Nat) (a : Nat) (w : World) (h : Words w A n c ws) (hi : imgOk n) (ha : 128 ≤ a) (ha2 : a ≤ n) (ha3 : a % 2 = 0) :
    Calls Try.prog 57 #[.slice A n c, .int .i64 a] w (BlksEnd w (fromP ws a)) := by
  have hm := h.most
  have hcap := h.cap
  have hlen := Lib.hid h.len
  have C := Lib.hid fun W => img_ok A n c W (by omega) hi
  have hn : n ≤ 2048 := hi.2.1
  have H := Lib.hid h
  have h3 : decide ((a : Int) < 128) = false := by simp; omega
  have h4 : decide ((n : Int) < (a : Int)) = false := by simp; omega
  have h6 : decide (n < a) = false := by simp; omega
  have h5 : (((a : Nat) : Int) % 2 != 0) = false := by simp; omega
  have A0 := Lib.hid (Since.refl w)
  have HS := Lib.hid (sofar_zero (ws := ws) (a := a) (by rw [h.len]; exact ha2))
  clear h hi ha3
  go_enter Try.func57, Try.ntmps57
  go_wp2_with fail
  refine (C.out _).mono ?_
  rintro e w1 ⟨rfl, rfl⟩
  go_wp2
  go_loopw [1, 7] (fun i v wr => FromRel w ws a i v wr) (fun i _ _ => n - (intOf i).toNat)
  case atStart => exact ⟨a, [], none, 0, rfl, rfl, HS.out, OwnB.nil _ _, Since.refl _⟩
  case round =>
    obtain ⟨p, l, B, d, rfl, rfl, hso, hown, hnx⟩ := hrel
    have A1 := Lib.hid hnx
    have SO := Lib.hid hso
    have OW := Lib.hid hown
    have sr := A1.out.size
    clear hnx hso hown
    by_cases hlt : p < n
    · have H1 := Lib.hid (H.out.below A1.out)
      cases hs : stands ws p with
      | none =>
        have D := Lib.hid fun W (hW : Words W A n c ws) => stands_no A n c p ws W hW hlt hs
        have PN := Lib.hid (sofar_none SO.out (by rw [hlen.out]; exact hlt) hs)
        clear hs
        go_wp2_with fail
        refine (D.out _ H1.out).mono ?_
        rintro e w2 ⟨rfl, hb2⟩
        have A2 := Lib.hid (Since.via A1.out hb2)
        clear hb2
        go_wp2
        go_ret2
        unfold fromP
        rw [PN.out]
        exact BlksEnd.none_ (Since.out (by repeat (first | with_reducible exact A2.out | with_reducible exact Since.refl _ | with_reducible refine Since.alloc ?_ _ | with_reducible refine Since.setCell ?_ (by first | omega | (simp; done) | (simp; omega)) _ | with_reducible refine Since.drew ?_ | with_reducible refine Since.drewN ?_ _)))
      | some b =>
        have D := Lib.hid fun W (hW : Words W A n c ws) => stands_yes A n c p ws b W hW (by omega) hlt hs
        have hgs := good_size (stands_some hs).1
        have S2 := Lib.hid (sofar_step SO.out (by rw [hlen.out]; exact hlt) hs)
        have hll : l.length ≤ 1000000 := by have := SO.out.2.2; omega
        have hpl : p + b.size.toNat ≤ n := by have := S2.out.1; rw [hlen.out] at this; exact this
        have hw0 := OW.out.lt
        have HL := Lib.hid hw0
        clear hs hw0
        go_wp2_with fail
        refine (D.out _ H1.out).mono ?_
        rintro e w2 ⟨rfl, hb2⟩
        have A2 := Lib.hid (Since.via A1.out hb2)
        have OW2 := Lib.hid (OW.out.kept hb2)
        have sz2 := hb2.size
        have sz1 := A2.out.size
        have HN : (Value.slice B l.length d).ownBlock ≠ some w2.heap.size := by intro e; have := HL.out _ e; omega
        have HHN := Lib.hid HN
        clear hb2 HN
        go_wp2_with (at_builtin; refine wpList_append_blk rfl (.tmp 41) (.tmp 43) rfl w.heap.size (.slice B l.length d) l rfl (OW2.out.kept (Below.alloc (Below.refl _ _) (Nat.le_refl _) _)) b _ rfl ?c1 hll ?c2 ?_)
        case c1 => simp
        case c2 => simp; omega
        intro v' w3 hown' hgrow hat
        have OW3 := Lib.hid hown'
        have X3 := Lib.hid (Cells.grown ((Cells.new w2 24 #[.int .i64 b.at_, .int .i64 b.size, .int .i64 b.kind, .int .i64 b.typ, .bool b.mark, .int .u64 (b.next : Nat)]).alloc _) hgrow HHN.out)
        have A3 := Lib.hid (Since.grown (Since.alloc (Since.alloc A2.out _) _) hgrow (fun k hk => (HL.out k hk).1))
        obtain ⟨B', d', rfl, _⟩ := OW3.out.form
        clear hown' hgrow hat
        obtain ⟨Xq0, Xq1, Xq2, Xq3, Xq4, Xq5⟩ := X3.out.six
        have Xlt := X3.out.lt
        have hsz : (b.size.toNat : Int) = b.size := by omega
        have HSZ := Lib.hid hsz
        clear hsz
        go_wp2
        go_roundw
        case rel => exact ⟨p + b.size.toNat, l ++ [b], B', d', by rw [Int.natCast_add, HSZ.out], rfl, S2.out, OW3.out, A3.out⟩
        case measure => simp [intOf]; omega
    · have EN := Lib.hid (sofar_end SO.out (by rw [hlen.out]; omega))
      go_wp2
      go_ret2
      unfold fromP
      rw [EN.out]
      obtain ⟨B', d', e, hB⟩ := OW.out.form
      injection e with e1 e2 e3
      subst e1; subst e3
      exact ⟨_, _, rfl, hB, A1.out⟩

theorem from_any (A : Option Addr) (n c : Nat) (ws : List Nat) (a : Int) (w : World) (h : Words w A n c ws) :
    Calls Try.prog 57 #[.slice A n c, .int .i64 a] w (BlksEnd w (fromR ws a)) := by
  have hlen := h.len
  unfold fromR
  rw [hlen]
  by_cases hi : imgOk n
  · rw [if_neg (by simpa using hi)]
    by_cases ha : a < 128 ∨ (n : Int) < a ∨ a % 2 ≠ 0
    · rw [if_pos ha]
      exact from_arg A n c ws a w h hi ha
    · rw [if_neg ha]
      obtain ⟨k, rfl⟩ := Int.eq_ofNat_of_zero_le (show 0 ≤ a by omega)
      exact from_go A n c ws k w h hi (by omega) (by omega) (by omega)
  · rw [if_pos hi]
    exact from_img A n c ws a w h hi
end Go.Proofs.Ytoifalgkeegklaa
