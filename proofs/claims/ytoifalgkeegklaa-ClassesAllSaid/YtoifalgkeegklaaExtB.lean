/- Words of free extents, and the reference of package extents, walked. -/
import Derived.Test.YtoifalgkeegklaaExt
import Derived.WalkLawsBesides
namespace Go.Proofs.Ytoifalgkeegklaa
open Go.RowKit

set_option maxRecDepth 100000 in
theorem words_err (A : Option Addr) (n c : Nat) (x : Int) (w : World) (hx : x ≠ 0) (C : Hid (Calls Try.prog 26 #[.slice A n c] w (BlksEnd w ([], x)))) :
    Calls Try.prog 25 #[.slice A n c] w fun e w' => e = .returned (.tuple #[.int .i64 0, .int .i64 0, .int .i64 x]) ∧ Below w.heap.size w w' := by
  have h1 : (x != 0) = true := by simpa using hx
  clear hx
  go_enter Try.func25, Try.ntmps25
  go_wp2_with fail
  refine C.out.mono ?_
  rintro e w1 ⟨B, d, rfl, _, hb1⟩
  go_wp2
  go_ret3
  exact ⟨rfl, hb1⟩

set_option maxRecDepth 100000 in
theorem words_ok (A : Option Addr) (n c : Nat) (l : List Blk) (w : World) (hl : l.length ≤ 1000000) (hz : Sized l) (C : Hid (Calls Try.prog 26 #[.slice A n c] w (BlksEnd w (l, 0)))) :
    Calls Try.prog 25 #[.slice A n c] w fun e w' => e = .returned (.tuple #[.int .i64 (sumF l l.length), .int .i64 (maxF l l.length), .int .i64 0]) ∧ Below w.heap.size w w' := by
  have HZ := Lib.hid hz
  clear hz
  go_enter Try.func25, Try.ntmps25
  go_wp2_with fail
  refine C.out.mono ?_
  rintro e w1 ⟨B, d, rfl, hB, hb1⟩
  have HB := Lib.hid hB
  have A1 := Lib.hid (show Since w w1 from hb1)
  clear hB hb1
  have hcap := HB.out.cap
  have hmost := HB.out.most
  go_wp2
  go_loopw [2, 3, 18] (fun a b t wr => ∃ (k : Nat) (x y : Int), t = .int .i64 k ∧ a = .int .i64 x ∧ b = .int .i64 y ∧ k ≤ l.length ∧ Hid (sumF l k = x) ∧ Hid (maxF l k = y) ∧ Since w1 wr) (fun _ _ t _ => l.length - (intOf t).toNat)
  case atStart => exact ⟨0, 0, 0, rfl, rfl, rfl, Nat.zero_le _, rfl, rfl, Since.refl _⟩
  case round =>
    obtain ⟨k, x, y, rfl, rfl, rfl, hk, hS, hM, hnx⟩ := hrel
    have B2 := Lib.hid hnx
    have A2 := Lib.hid (Since.trans A1.out hnx)
    have s2 := B2.out.size
    clear hnx
    by_cases hlt : k < l.length
    · obtain ⟨g, o, rfl, hg⟩ := HB.out.at_ (by omega)
      have hg2 : g < wr.heap.size := by omega
      obtain ⟨c0, c1, c2, c3, c4, c5⟩ := (HB.out.below B2.out).same hlt
      have hb1 := HZ.out.get hlt
      have hb2 := sumF_bd HZ.out k hk
      have hb3 := maxF_bd HZ.out k hk
      have E1 := Lib.hid (sumF_step hlt)
      have E2 := Lib.hid (maxF_step hlt)
      rw [hS.out] at hb2 E1
      rw [hM.out] at hb3 E2
      generalize l[k] = b at *
      obtain ⟨ba, bs, bk, bt, bm, bn⟩ := b
      simp only at hb1 E1 E2 c0 c1 c2 c3 c4 c5
      go_wp2
      go_roundw
      case rel => exact ⟨k + 1, x + bs, max y bs, by go_num, rfl, congrArg _ (by split <;> omega), by omega, E1, E2, (by repeat (first | with_reducible exact B2.out | with_reducible exact Since.refl _ | with_reducible refine Since.alloc ?_ _ | with_reducible refine Since.setCell ?_ (by first | omega | (simp; done) | (simp; omega)) _ | with_reducible refine Since.drew ?_ | with_reducible refine Since.drewN ?_ _))⟩
      case measure => simp [intOf]; omega
    · obtain rfl : k = l.length := by omega
      go_wp2
      go_ret3
      rw [hS.out, hM.out]
      exact ⟨rfl, A2.out⟩

/-- What Words of package extents returns. -/
def wordsR (ws : List Nat) : Int × Int := (sumF (extR ws).1 (extR ws).1.length, maxF (extR ws).1 (extR ws).1.length)
theorem extR_sized (ws : List Nat) : Sized (extR ws).1 := (allR_sized ws).free
theorem extR_le (ws : List Nat) : (extR ws).1.length ≤ 1000000 := Nat.le_trans (freeL_len _) (allR_le ws)
theorem extR_err {ws : List Nat} (h : (allR ws).2 ≠ 0) : extR ws = ([], (allR ws).2) := by unfold extR; rw [allR_err h]; rfl
theorem words_any (A : Option Addr) (n c : Nat) (ws : List Nat) (w : World) (h : Words w A n c ws) :
    Calls Try.prog 25 #[.slice A n c] w fun e w' => e = .returned (.tuple #[.int .i64 (wordsR ws).1, .int .i64 (wordsR ws).2, .int .i64 (allR ws).2]) ∧ Below w.heap.size w w' := by
  have F := ext_any A n c ws w h
  by_cases he : (allR ws).2 = 0
  · have e1 : extR ws = ((extR ws).1, 0) := Prod.ext rfl he
    unfold wordsR
    rw [he]
    rw [e1] at F
    exact words_ok A n c _ w (extR_le ws) (extR_sized ws) (Lib.hid F)
  · unfold wordsR
    rw [extR_err he] at F ⊢
    exact words_err A n c _ w he (Lib.hid F)

/-! The reference. -/
def FreeEnd (w : World) (l : List Blk) (z : Bool) (e : Ending) (w' : World) : Prop :=
  ∃ B d, e = .returned (.tuple #[.slice B l.length d, .bool z]) ∧ Blks w' B l.length d l ∧ Below w.heap.size w w'
set_option maxRecDepth 100000 in
theorem rfree_go (A : Option Addr) (n c : Nat) (l : List Blk) (z : Bool) (w : World) (hl : l.length ≤ 1000000) (C : Hid (Calls Try.prog 74 #[.slice A n c] w (FreeEnd w l z))) :
    Calls Try.prog 62 #[.slice A n c] w (FreeEnd w (freeL l) z) := by
  obtain ⟨r, hr⟩ : ∃ r, freeL l = r := ⟨_, rfl⟩
  rw [hr]
  have HR := Lib.hid hr
  clear hr
  go_enter Try.func62, Try.ntmps62
  go_wp2_with fail
  refine C.out.mono ?_
  rintro e w1 ⟨B, d, rfl, hB, hb1⟩
  have HB := Lib.hid hB
  have A1 := Lib.hid (show Since w w1 from hb1)
  clear hB hb1
  have hcap := HB.out.cap
  have hmost := HB.out.most
  go_wp2
  go_loopw [6, 7] (fun v t wr => FreeRel w1 l v t wr) (fun _ t _ => l.length - (intOf t).toNat)
  case atStart => exact ⟨0, [], none, 0, rfl, rfl, Nat.zero_le _, rfl, OwnB.nil _ _, Since.refl _⟩
  case round =>
    obtain ⟨k, m, D, c2, rfl, rfl, hk, hM, hown, hnx⟩ := hrel
    obtain ⟨w2, hw2⟩ : ∃ x, x = wr := ⟨_, rfl⟩
    subst hw2
    have B2 := Lib.hid hnx
    have A2 := Lib.hid (Since.trans A1.out hnx)
    have OW := Lib.hid hown
    have s2 := B2.out.size
    clear hnx hown
    by_cases hlt : k < l.length
    · obtain ⟨g, o, rfl, hg⟩ := HB.out.at_ (by omega)
      have hg2 : g < w2.heap.size := by omega
      obtain ⟨c0, c1, c2', c3, c4, c5⟩ := (HB.out.below B2.out).same hlt
      by_cases he : l[k].kind = 2
      · have FY := Lib.hid (freeL_yes hlt he)
        have hml : m.length ≤ 1000000 := by rw [← hM.out]; have := freeL_len (l.take k); have := List.length_take_le k l; omega
        generalize l[k] = b at *
        obtain ⟨ba, bs, bk, bt, bm, bn⟩ := b
        simp only at he
        subst he
        have hL := OW.out.lt
        have HL := Lib.hid hL
        clear hL
        go_wp2_with (at_builtin; refine wpList_append_blk rfl (.tmp 25) (.tmp 30) rfl w1.heap.size (.slice D m.length c2) m rfl OW.out ⟨ba, bs, 2, bt, bm, bn⟩ _ rfl ?k1 hml ?k2 ?_)
        any_goals (first | omega | rfl | (simp; done) | (simp; omega))
        intro v' w3 hown' hgrow hat
        have OW4 := Lib.hid hown'
        have B3 := Lib.hid (Since.grown (Since.alloc B2.out _) hgrow (fun q hq => (HL.out q hq).1))
        obtain ⟨D', d', rfl, _⟩ := OW4.out.form
        clear hown' hgrow hat
        go_wp2
        go_roundw
        case rel => exact ⟨k + 1, m ++ [⟨ba, bs, 2, bt, bm, bn⟩], D', d', by go_num, rfl, by omega, Lib.hid (by rw [FY.out, hM.out]), OW4.out, B3.out⟩
        case measure => simp [intOf]; omega
      · have FN := Lib.hid (freeL_no hlt he)
        have he2 : (l[k].kind == 2) = false := by simpa using he
        generalize l[k] = b at *
        clear he
        go_wp2
        go_roundw
        case rel => exact ⟨k + 1, m, D, c2, by go_num, rfl, by omega, Lib.hid (by rw [FN.out, hM.out]), OW.out, (by repeat (first | with_reducible exact B2.out | with_reducible exact Since.refl _ | with_reducible refine Since.alloc ?_ _ | with_reducible refine Since.setCell ?_ (by first | omega | (simp; done) | (simp; omega)) _ | with_reducible refine Since.drew ?_ | with_reducible refine Since.drewN ?_ _))⟩
        case measure => simp [intOf]; omega
    · obtain rfl : k = l.length := by omega
      have HM := Lib.hid (show r = m by rw [← HR.out, ← hM.out, List.take_length])
      go_wp2
      go_ret2
      rw [HM.out]
      obtain ⟨D', d', e, hB⟩ := OW.out.form
      injection e with e1 e2 e3
      subst e1; subst e3
      exact ⟨_, _, rfl, hB, A2.out⟩
/-- The blocks of a heap, none where it is not parsable. -/
theorem allR_heap {ws : List Nat} (h : imgOk ws.length) : (heap ws).getD [] = (allR ws).1 ∧ ((heap ws).isSome = true ↔ (allR ws).2 = 0) := by
  unfold allR
  rw [if_neg (by simpa using h)]
  cases heap ws with
  | none => exact ⟨rfl, by simp⟩
  | some l => exact ⟨rfl, by simp⟩
theorem rfree_any (A : Option Addr) (n c : Nat) (ws : List Nat) (w : World) (h : Words w A n c ws) (hi : imgOk n) :
    Calls Try.prog 62 #[.slice A n c] w (FreeEnd w (extR ws).1 (heap ws).isSome) := by
  have hi' : imgOk ws.length := by rw [h.len]; exact hi
  have F : Calls Try.prog 74 #[.slice A n c] w (FreeEnd w (allR ws).1 (heap ws).isSome) := by
    have := parsed_any A n c ws w h hi
    rw [← (allR_heap hi').1]
    exact this
  exact rfree_go A n c _ _ w (allR_le ws) (Lib.hid F)

theorem rext_any (A : Option Addr) (n c : Nat) (ws : List Nat) (w : World) (h : Words w A n c ws) : Calls Try.prog 32 #[.slice A n c] w (BlksEnd w (extR ws)) := by
  have F := Lib.hid (rall_any A n c ws w h)
  have hlen := h.len
  by_cases he : (allR ws).2 = 0
  · have hi : imgOk n := by
      rcases allR_cases ws with ⟨_, e⟩ | ⟨h1, _, _⟩ | ⟨l, h1, _⟩ | ⟨l, h1, _⟩
      · rw [e] at he; exact absurd he (by decide)
      all_goals (rw [hlen] at h1; exact h1)
    have G := Lib.hid fun W (hW : Below w.heap.size w W) => rfree_any A n c ws W (h.below hW) hi
    rw [show extR ws = ((extR ws).1, 0) from Prod.ext rfl he]
    rw [show allR ws = ((allR ws).1, 0) from Prod.ext rfl he] at F
    generalize (extR ws).1 = m at *
    generalize (allR ws).1 = l at *
    generalize (heap ws).isSome = z at *
    clear h hi he hlen
    have A0 := Lib.hid (Since.refl w)
    go_enter Try.func32, Try.ntmps32
    go_wp2_with fail
    refine (F.out).mono ?_
    rintro e w1 ⟨B, d, rfl, _, hb1⟩
    have A1 := Lib.hid (show Since w w1 from Since.via (by repeat (first | with_reducible exact A0.out | with_reducible exact Since.refl _ | with_reducible refine Since.alloc ?_ _ | with_reducible refine Since.setCell ?_ (by first | omega | (simp; done) | (simp; omega)) _ | with_reducible refine Since.drew ?_ | with_reducible refine Since.drewN ?_ _)) hb1)
    have s1 := A1.out.size
    clear hb1
    go_wp2_with fail
    refine (G.out _ (Since.out (by repeat (first | with_reducible exact A1.out | with_reducible exact Since.refl _ | with_reducible refine Since.alloc ?_ _ | with_reducible refine Since.setCell ?_ (by first | omega | (simp; done) | (simp; omega)) _ | with_reducible refine Since.drew ?_ | with_reducible refine Since.drewN ?_ _)))).mono ?_
    rintro e w2 ⟨B2, d2, rfl, hB, hb2⟩
    have A2 := Lib.hid (show Since w w2 from Since.via (by repeat (first | with_reducible exact A1.out | with_reducible exact Since.refl _ | with_reducible refine Since.alloc ?_ _ | with_reducible refine Since.setCell ?_ (by first | omega | (simp; done) | (simp; omega)) _ | with_reducible refine Since.drew ?_ | with_reducible refine Since.drewN ?_ _)) hb2)
    have s2 := A2.out.size
    have M2 := Lib.hid hB
    clear hB
    clear hb2
    go_wp2
    go_ret2
    exact ⟨_, _, rfl, M2.out, (Since.out (by repeat (first | with_reducible exact A2.out | with_reducible exact Since.refl _ | with_reducible refine Since.alloc ?_ _ | with_reducible refine Since.setCell ?_ (by first | omega | (simp; done) | (simp; omega)) _ | with_reducible refine Since.drew ?_ | with_reducible refine Since.drewN ?_ _)))⟩
  · rw [extR_err he]
    rw [allR_err he] at F
    have hx : ((allR ws).2 != 0) = true := by simpa using he
    generalize (allR ws).2 = x at *
    clear h he hlen
    go_enter Try.func32, Try.ntmps32
    go_wp2_with fail
    refine F.out.mono ?_
    rintro e w1 ⟨B, d, rfl, _, hb1⟩
    go_wp2
    go_ret2
    exact BlksEnd.none_ hb1

set_option maxRecDepth 100000 in
theorem rwords_err (A : Option Addr) (n c : Nat) (x : Int) (w : World) (hx : x ≠ 0) (C : Hid (Calls Try.prog 32 #[.slice A n c] w (BlksEnd w ([], x)))) :
    Calls Try.prog 33 #[.slice A n c] w fun e w' => e = .returned (.tuple #[.int .i64 0, .int .i64 0, .int .i64 x]) ∧ Below w.heap.size w w' := by
  have h1 : (x != 0) = true := by simpa using hx
  clear hx
  go_enter Try.func33, Try.ntmps33
  go_wp2_with fail
  refine C.out.mono ?_
  rintro e w1 ⟨B, d, rfl, _, hb1⟩
  go_wp2
  go_ret3
  exact ⟨rfl, hb1⟩

set_option maxRecDepth 100000 in
theorem rwords_ok (A : Option Addr) (n c : Nat) (l : List Blk) (w : World) (hl : l.length ≤ 1000000) (hz : Sized l) (C : Hid (Calls Try.prog 32 #[.slice A n c] w (BlksEnd w (l, 0)))) :
    Calls Try.prog 33 #[.slice A n c] w fun e w' => e = .returned (.tuple #[.int .i64 (sumF l l.length), .int .i64 (maxF l l.length), .int .i64 0]) ∧ Below w.heap.size w w' := by
  have HZ := Lib.hid hz
  clear hz
  go_enter Try.func33, Try.ntmps33
  go_wp2_with fail
  refine C.out.mono ?_
  rintro e w1 ⟨B, d, rfl, hB, hb1⟩
  have HB := Lib.hid hB
  have A1 := Lib.hid (show Since w w1 from hb1)
  clear hB hb1
  have hcap := HB.out.cap
  have hmost := HB.out.most
  go_wp2
  go_loopw [7, 8, 9] (fun a b t wr => ∃ (k : Nat) (x y : Int), t = .int .i64 k ∧ a = .int .i64 x ∧ b = .int .i64 y ∧ k ≤ l.length ∧ Hid (sumF l k = x) ∧ Hid (maxF l k = y) ∧ wr = w1) (fun _ _ t _ => l.length - (intOf t).toNat)
  case atStart => exact ⟨0, 0, 0, rfl, rfl, rfl, Nat.zero_le _, rfl, rfl, rfl⟩
  case round =>
    obtain ⟨k, x, y, rfl, rfl, rfl, hk, hS, hM, rfl⟩ := hrel
    by_cases hlt : k < l.length
    · obtain ⟨g, o, rfl, hg⟩ := HB.out.at_ (by omega)
      obtain ⟨c0, c1, c2, c3, c4, c5⟩ := HB.out.same hlt
      have hb1 := HZ.out.get hlt
      have hb2 := sumF_bd HZ.out k hk
      have hb3 := maxF_bd HZ.out k hk
      have E1 := Lib.hid (sumF_step hlt)
      have E2 := Lib.hid (maxF_step hlt)
      rw [hS.out] at hb2 E1
      rw [hM.out] at hb3 E2
      generalize l[k] = b at *
      obtain ⟨ba, bs, bk, bt, bm, bn⟩ := b
      simp only at hb1 E1 E2 c0 c1 c2 c3 c4 c5
      by_cases hgt : y < bs
      · go_wp2
        go_roundw
        case rel => exact ⟨k + 1, x + bs, bs, by go_num, rfl, rfl, by omega, E1, Lib.hid (by rw [E2.out]; omega), trivial⟩
        case measure => simp [intOf]; omega
      · have hgt2 : decide (y < bs) = false := by simpa using hgt
        go_wp2
        go_roundw
        case rel => exact ⟨k + 1, x + bs, y, by go_num, rfl, rfl, by omega, E1, Lib.hid (by rw [E2.out]; omega), trivial⟩
        case measure => simp [intOf]; omega
    · obtain rfl : k = l.length := by omega
      go_wp2
      go_ret3
      rw [hS.out, hM.out]
      exact ⟨rfl, A1.out⟩
theorem rwords_any (A : Option Addr) (n c : Nat) (ws : List Nat) (w : World) (h : Words w A n c ws) :
    Calls Try.prog 33 #[.slice A n c] w fun e w' => e = .returned (.tuple #[.int .i64 (wordsR ws).1, .int .i64 (wordsR ws).2, .int .i64 (allR ws).2]) ∧ Below w.heap.size w w' := by
  have F := rext_any A n c ws w h
  by_cases he : (allR ws).2 = 0
  · have e1 : extR ws = ((extR ws).1, 0) := Prod.ext rfl he
    unfold wordsR
    rw [he]
    rw [e1] at F
    exact rwords_ok A n c _ w (extR_le ws) (extR_sized ws) (Lib.hid F)
  · unfold wordsR
    rw [extR_err he] at F ⊢
    exact rwords_err A n c _ w he (Lib.hid F)
end Go.Proofs.Ytoifalgkeegklaa
