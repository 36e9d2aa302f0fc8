/- Free extents and their words, walked. -/
import Derived.Test.YtoifalgkeegklaaLaid
import Derived.Test.YtoifalgkeegklaaExtPlain
namespace Go.Proofs.Ytoifalgkeegklaa
open Go.RowKit

theorem BlksEnd.nil_ {w w' : World} {A : Option Addr} {c : Nat} {x : Int} (hB : Blks w' A 0 c []) (hb : Below w.heap.size w w') : BlksEnd w ([], x) (.returned (.tuple #[.slice A 0 c, .int .i64 x])) w' := ⟨A, c, rfl, hB, hb⟩

def FreeRel (w1 : World) (l : List Blk) (v t : Value) (wr : World) : Prop :=
  ∃ (k : Nat) (m : List Blk) (B : Option Addr) (d : Nat), t = .int .i64 k ∧ v = .slice B m.length d ∧ k ≤ l.length ∧ Hid (freeL (l.take k) = m) ∧ OwnB wr w1.heap.size (.slice B m.length d) m ∧ Since w1 wr

set_option maxRecDepth 100000 in
theorem ext_err (A : Option Addr) (n c : Nat) (x : Int) (w : World) (hx : x ≠ 0) (C : Hid (Calls Try.prog 28 #[.slice A n c] w (BlksEnd w ([], x)))) :
    Calls Try.prog 26 #[.slice A n c] w (BlksEnd w ([], x)) := by
  have h1 : (x != 0) = true := by simpa using hx
  clear hx
  go_enter Try.func26, Try.ntmps26
  go_wp2_with fail
  refine C.out.mono ?_
  rintro e w1 ⟨B, d, rfl, _, hb1⟩
  go_wp2
  go_ret2
  exact BlksEnd.none_ hb1

set_option maxRecDepth 100000 in
theorem ext_ok (A : Option Addr) (n c : Nat) (l : List Blk) (w : World) (hl : l.length ≤ 1000000) (C : Hid (Calls Try.prog 28 #[.slice A n c] w (BlksEnd w (l, 0)))) :
    Calls Try.prog 26 #[.slice A n c] w (BlksEnd w (freeL l, 0)) := by
  obtain ⟨r, hr⟩ : ∃ r, freeL l = r := ⟨_, rfl⟩
  rw [hr]
  have HR := Lib.hid hr
  clear hr
  go_enter Try.func26, Try.ntmps26
  go_wp2_with fail
  refine C.out.mono ?_
  rintro e w1 ⟨B, d, rfl, hB, hb1⟩
  have HB := Lib.hid hB
  have A1 := Lib.hid (show Since w w1 from hb1)
  clear hB hb1
  have hcap := HB.out.cap
  have hmost := HB.out.most
  go_wp2
  go_loopw [6, 19] (fun v t wr => FreeRel w1 l v t wr) (fun _ t _ => l.length - (intOf t).toNat)
  case atStart => exact ⟨0, [], none, 0, rfl, rfl, Nat.zero_le _, rfl, OwnB.nil _ _, Since.refl _⟩
  case round =>
    obtain ⟨k, m, D, c2, rfl, rfl, hk, hM, hown, hnx⟩ := hrel
    obtain ⟨w2, hw2⟩ : ∃ x, x = wr := ⟨_, rfl⟩
    subst hw2
    have B2 := Lib.hid hnx
    have A2 := Lib.hid (Since.trans A1.out hnx)
    have OW := Lib.hid hown
    have s2 := B2.out.size
    clear hnx hown
    by_cases hlt : k < l.length
    · obtain ⟨g, o, rfl, hg⟩ := HB.out.at_ (by omega)
      have hg2 : g < w2.heap.size := by omega
      obtain ⟨c0, c1, c2', c3, c4, c5⟩ := (HB.out.below B2.out).same hlt
      by_cases he : l[k].kind = 2
      · have FY := Lib.hid (freeL_yes hlt he)
        have hml : m.length ≤ 1000000 := by rw [← hM.out]; have := freeL_len (l.take k); have := List.length_take_le k l; omega
        generalize l[k] = b at *
        obtain ⟨ba, bs, bk, bt, bm, bn⟩ := b
        simp only at he
        subst he
        have hL := OW.out.lt
        have HL := Lib.hid hL
        have OW3 := Lib.hid ((OW.out.kept (Below.alloc (Below.refl _ _) (Nat.le_refl _) (.cells #[.int .i64 ba, .int .i64 bs, .int .i64 2, .int .i64 bt, .bool bm, .int .u64 (bn : Nat)] 24))))
        clear hL
        go_wp2_with (at_builtin; refine wpList_append_blk rfl (.tmp 26) (.tmp 28) rfl w1.heap.size (.slice D m.length c2) m rfl OW3.out ⟨ba, bs, 2, bt, bm, bn⟩ _ rfl ?k1 hml ?k2 ?_)
        case k2 => first | omega | (simp; omega)
        intro v' w3 hown' hgrow hat
        have OW4 := Lib.hid hown'
        have B3 := Lib.hid (Since.grown (Since.alloc (Since.alloc B2.out _) _) hgrow (fun q hq => (HL.out q hq).1))
        obtain ⟨D', d', rfl, _⟩ := OW4.out.form
        clear hown' hgrow hat
        go_wp2
        go_roundw
        case rel => exact ⟨k + 1, m ++ [⟨ba, bs, 2, bt, bm, bn⟩], D', d', by go_num, rfl, by omega, Lib.hid (by rw [FY.out, hM.out]), OW4.out, B3.out⟩
        case measure => simp [intOf]; omega
      · have FN := Lib.hid (freeL_no hlt he)
        have he2 : (l[k].kind == 2) = false := by simpa using he
        generalize l[k] = b at *
        have OW3 := Lib.hid ((OW.out.kept (Below.alloc (Below.refl _ _) (Nat.le_refl _) (.cells #[.int .i64 b.at_, .int .i64 b.size, .int .i64 b.kind, .int .i64 b.typ, .bool b.mark, .int .u64 (b.next : Nat)] 24))))
        clear he
        go_wp2
        go_roundw
        case rel => exact ⟨k + 1, m, D, c2, by go_num, rfl, by omega, Lib.hid (by rw [FN.out, hM.out]), OW3.out, (by repeat (first | with_reducible exact B2.out | with_reducible exact Since.refl _ | with_reducible refine Since.alloc ?_ _ | with_reducible refine Since.setCell ?_ (by first | omega | (simp; done) | (simp; omega)) _ | with_reducible refine Since.drew ?_ | with_reducible refine Since.drewN ?_ _))⟩
        case measure => simp [intOf]; omega
    · obtain rfl : k = l.length := by omega
      have HM := Lib.hid (show r = m by rw [← HR.out, ← hM.out, List.take_length])
      go_wp2
      go_ret2
      rw [HM.out]
      obtain ⟨D', d', e, hB⟩ := OW.out.form
      injection e with e1 e2 e3
      subst e1; subst e3
      exact ⟨_, _, rfl, hB, A2.out⟩

theorem ext_any (A : Option Addr) (n c : Nat) (ws : List Nat) (w : World) (h : Words w A n c ws) : Calls Try.prog 26 #[.slice A n c] w (BlksEnd w (extR ws)) := by
  have F := all_any A n c ws w h
  unfold extR
  by_cases he : (allR ws).2 = 0
  · rw [show allR ws = ((allR ws).1, 0) from Prod.ext rfl he] at F ⊢
    exact ext_ok A n c _ w (allR_le ws) (Lib.hid F)
  · rw [allR_err he] at F ⊢
    exact ext_err A n c _ w he (Lib.hid F)
end Go.Proofs.Ytoifalgkeegklaa
