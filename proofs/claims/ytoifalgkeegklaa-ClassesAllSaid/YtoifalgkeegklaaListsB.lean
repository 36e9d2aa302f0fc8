/- Lists of the reference of package classes, walked. -/
import Derived.Test.YtoifalgkeegklaaLists
import Derived.Test.YtoifalgkeegklaaExtB
namespace Go.Proofs.Ytoifalgkeegklaa
open Go.RowKit

theorem lists_any (A : Option Addr) (n c : Nat) (ws : List Nat) (w : World) (h : Words w A n c ws) : Calls Try.prog 43 #[.slice A n c] w (RowsEnd w (listsR ws)) := by
  have F := ext_any A n c ws w h
  unfold listsR
  by_cases he : (allR ws).2 = 0
  · rw [if_neg (by simpa using he)]
    have hf : extR ws = (freeL (allR ws).1, 0) := by unfold extR; rw [he]
    rw [hf] at F
    exact lists_ok A n c _ w (Nat.le_trans (freeL_len _) (allR_le ws)) (allR_sized ws).free (Lib.hid F)
  · rw [if_pos he]
    rw [extR_err he] at F
    exact lists_err A n c _ w he (Lib.hid F)

/-- A list of slices, each of which the call made itself. -/
structure RefRows (w : World) (base : Nat) (v : Value) (vs : List Value) (l : List Blk) : Prop where
  own : w.ownsRow base 69 1 v vs.length vs
  row : ∀ i (h : i < vs.length), OwnI w base vs[i] (clsL i l)
  apart : ∀ i (h : i < vs.length) b, vs[i].ownBlock = some b → v.ownBlock ≠ some b
theorem RefRows.nil (w : World) (base : Nat) (l : List Blk) : RefRows w base (.slice none 0 0) [] l := ⟨World.ownsRow_nil _ _ _ _, fun _ h => absurd h (by simp), fun _ h => absurd h (by simp)⟩
theorem RefRows.kept {w w' : World} {base : Nat} {v : Value} {vs : List Value} {l : List Blk} (h : RefRows w base v vs l) (hb : Below w.heap.size w w') : RefRows w' base v vs l :=
  ⟨World.ownsRow.kept (row := none) h.own ⟨hb.os, hb.tape, hb.output, hb.size, fun k hk _ => hb.block k hk⟩ (by cases v.ownBlock <;> simp), fun i hi => (h.row i hi).kept hb, h.apart⟩
theorem RefRows.push {w w' : World} {base : Nat} {v v' x : Value} {vs : List Value} {l : List Blk} (h : RefRows w base v vs l) (hx : OwnI w base x (clsL vs.length l)) (hxb : ∀ b, x.ownBlock = some b → v.ownBlock ≠ some b)
    (hown : w'.ownsRow base 69 1 v' (vs ++ [x]).length (vs ++ [x])) (hg : w.grownBy w' v.ownBlock) {H : Nat} (hat : v'.ownBlock = v.ownBlock ∨ v'.ownBlock = some H) (hH : w.heap.size = H) : RefRows w' base v' (vs ++ [x]) l := by
  subst hH
  refine ⟨hown, fun i hi => ?_, fun i hi b hb => ?_⟩
  · rcases Nat.lt_or_ge i vs.length with h1 | h1
    · rw [List.getElem_append_left h1]
      exact (h.row i h1).grown hg (h.apart i h1)
    · obtain rfl : i = vs.length := by simp at hi; omega
      rw [List.getElem_append_right (Nat.le_refl _)]
      simp only [Nat.sub_self, List.getElem_cons_zero]
      exact hx.grown hg hxb
  · have hlt : v.ownBlock ≠ some b ∧ b < w.heap.size := by
      rcases Nat.lt_or_ge i vs.length with h1 | h1
      · rw [List.getElem_append_left h1] at hb
        exact ⟨h.apart i h1 b hb, ((h.row i h1).lt b hb).2⟩
      · obtain rfl : i = vs.length := by simp at hi; omega
        rw [List.getElem_append_right (Nat.le_refl _)] at hb
        simp only [Nat.sub_self, List.getElem_cons_zero] at hb
        exact ⟨hxb b hb, (hx.lt b hb).2⟩
    rcases hat with e | e
    · rw [e]; exact hlt.1
    · rw [e]; intro e2; injection e2 with e2; omega
theorem RefRows.rows {w : World} {base : Nat} {v : Value} {vs : List Value} {l : List Blk} (h : RefRows w base v vs l) (hn : vs.length = 11) : ∃ A c, v = .slice A 11 c ∧ Rows2 w A 11 c (lists l) := by
  have hw := h.own
  rw [hn] at hw
  rcases hw.2 with ⟨_, h0⟩ | ⟨g, cap, cur, rfl, _, hg, hl, hm, _⟩
  · omega
  · refine ⟨_, cap, rfl, lists_len l, hl, by unfold maxLen at hm; omega, by simp, fun _ => ⟨g, 0, rfl, ?_, fun j hj => ?_⟩⟩
    · rcases Nat.lt_or_ge g w.heap.size with hlt | hge
      · exact hlt
      · rw [Array.getElem?_eq_none hge] at hg; cases hg
    · have hj' : j < vs.length := by rw [lists_len] at hj; omega
      refine ⟨vs[j], ?_, ?_⟩
      · rw [Nat.zero_add, World.ownsRow.cellAt hw j (by omega), List.getElem?_eq_getElem hj']
      · rw [lists_get]; exact (h.row j hj').row

def RefRel (l : List Blk) (w2 : World) (v t : Value) (wr : World) : Prop :=
  ∃ (k d : Nat) (vs : List Value) (B : Option Addr), t = .int .i64 k ∧ v = .slice B k d ∧ k ≤ 11 ∧ Hid (vs.length = k) ∧ RefRows wr w2.heap.size (.slice B k d) vs l ∧ Since w2 wr
def RefIn (l : List Blk) (k : Nat) (w3 : World) (v t : Value) (wr : World) : Prop :=
  ∃ (i m d : Nat) (zs : List Int) (B : Option Addr), t = .int .i64 i ∧ v = .slice B m d ∧ i ≤ l.length ∧ Hid (clsL k (l.take i) = zs) ∧ Hid (zs.length = m) ∧ OwnI wr w3.heap.size (.slice B m d) zs ∧ Since w3 wr

set_option maxRecDepth 100000 in
theorem rlists_err (A : Option Addr) (n c : Nat) (x : Int) (w : World) (hx : x ≠ 0) (C : Hid (Calls Try.prog 61 #[.slice A n c] w (BlksEnd w ([], x)))) :
    Calls Try.prog 44 #[.slice A n c] w (RowsEnd w ([], x)) := by
  have h1 : (x != 0) = true := by simpa using hx
  clear hx
  go_enter Try.func44, Try.ntmps44
  go_wp2_with fail
  refine C.out.mono ?_
  rintro e w1 ⟨B, d, rfl, _, hb1⟩
  go_wp2
  go_ret2
  exact RowsEnd.none_ hb1

set_option maxRecDepth 100000 in
set_option maxHeartbeats 4000000 in
theorem rlists_ok (A : Option Addr) (n c : Nat) (l0 l : List Blk) (z : Bool) (w : World) (hl : l.length ≤ 1000000) (hz : Sized l) (F : Hid (Calls Try.prog 61 #[.slice A n c] w (BlksEnd w (l0, 0))))
    (G : Hid (∀ W : World, Below w.heap.size w W → Calls Try.prog 62 #[.slice A n c] W (FreeEnd W l z))) :
    Calls Try.prog 44 #[.slice A n c] w (RowsEnd w (lists l, 0)) := by
  have A0 := Lib.hid (Since.refl w)
  have HZ := Lib.hid hz
  clear hz
  go_enter Try.func44, Try.ntmps44
  go_wp2_with fail
  refine (F.out).mono ?_
  rintro e w1 ⟨B, d, rfl, _, hb1⟩
  have A1 := Lib.hid (show Since w w1 from Since.via (by repeat (first | with_reducible exact A0.out | with_reducible exact Since.refl _ | with_reducible refine Since.alloc ?_ _ | with_reducible refine Since.setCell ?_ (by first | omega | (simp; done) | (simp; omega)) _ | with_reducible refine Since.drew ?_ | with_reducible refine Since.drewN ?_ _)) hb1)
  have s1 := A1.out.size
  clear hb1
  go_wp2_with fail
  refine (G.out _ (Since.out (by repeat (first | with_reducible exact A1.out | with_reducible exact Since.refl _ | with_reducible refine Since.alloc ?_ _ | with_reducible refine Since.setCell ?_ (by first | omega | (simp; done) | (simp; omega)) _ | with_reducible refine Since.drew ?_ | with_reducible refine Since.drewN ?_ _)))).mono ?_
  rintro e w2 ⟨B2, d2, rfl, hB, hb2⟩
  have A2 := Lib.hid (show Since w w2 from Since.via (by repeat (first | with_reducible exact A1.out | with_reducible exact Since.refl _ | with_reducible refine Since.alloc ?_ _ | with_reducible refine Since.setCell ?_ (by first | omega | (simp; done) | (simp; omega)) _ | with_reducible refine Since.drew ?_ | with_reducible refine Since.drewN ?_ _)) hb2)
  have s2 := A2.out.size
  have M2 := Lib.hid hB
  clear hB
  clear hb2
  have hcap := M2.out.cap
  have hmost := M2.out.most
  go_wp2
  go_loopw [8, 9] (fun v t wr => RefRel l w2 v t wr) (fun _ t _ => 11 - (intOf t).toNat)
  case atStart => exact ⟨0, 0, [], none, rfl, rfl, by omega, rfl, RefRows.nil _ _ _, Since.refl _⟩
  case round =>
    obtain ⟨k, e, vs, D, rfl, rfl, hk, hV, hR, hnx⟩ := hrel
    obtain ⟨w3, hw3⟩ : ∃ x, x = wr := ⟨_, rfl⟩
    subst hw3
    have C3 := Lib.hid hnx
    have A3 := Lib.hid (Since.trans A2.out hnx)
    have R3 := Lib.hid hR
    have M3 := Lib.hid (M2.out.below hnx)
    have s3 := C3.out.size
    clear hnx hR
    by_cases hlt : k < 11
    · have k10 : (k : Int) ≤ 10 := by omega
      go_wp2
      go_loopw [10, 11] (fun v t wr => RefIn l k w3 v t wr) (fun _ t _ => l.length - (intOf t).toNat)
      case atStart => exact ⟨0, 0, 0, [], none, rfl, rfl, Nat.zero_le _, rfl, rfl, OwnI.nil _ _, Since.refl _⟩
      case round =>
        obtain ⟨i, m, d3, zs, B3, rfl, rfl, hi, hzs, hm, hO, hnx⟩ := hrel
        obtain ⟨w4, hw4⟩ : ∃ x, x = wr := ⟨_, rfl⟩
        subst hw4
        have C4 := Lib.hid hnx
        have M4 := Lib.hid (M3.out.below hnx)
        have O4 := Lib.hid hO
        have s4 := C4.out.size
        clear hnx hO
        by_cases hil : i < l.length
        · obtain ⟨g, o, rfl, hg⟩ := M4.out.at_ (by omega)
          obtain ⟨c0, c1, _, _, _, _⟩ := M4.out.same hil
          obtain ⟨hs2, hs19⟩ := HZ.out.get hil
          have hzl : zs.length ≤ 1000000 := by rw [← hzs.out]; have := clsL_len k (l.take i); have := List.length_take_le i l; omega
          have CO := Lib.hid fun W => rclass_any l[i].size.toNat W (by omega)
          have hq : Nat.log2 l[i].size.toNat = cls l[i] := rfl
          rw [hq] at CO
          clear hq
          have YS := Lib.hid fun (h : cls l[i] = k) => clsL_yes hil h
          have NO := Lib.hid fun (h : cls l[i] ≠ k) => clsL_no hil h
          obtain ⟨S, hS⟩ := Int.eq_ofNat_of_zero_le (show 0 ≤ l[i].size by omega)
          rw [hS, Int.toNat_natCast] at CO
          rw [hS] at c1
          generalize cls l[i] = q at *
          generalize l[i].at_ = ba at *
          clear hS
          by_cases hqk : q = k
          · subst hqk
            have Y := Lib.hid (YS.out rfl)
            have hL := O4.out.lt
            have HL := Lib.hid hL
            clear hL
            go_wp2_with fail
            refine (CO.out _).mono ?_
            rintro e wd ⟨rfl, rfl⟩
            go_wp2_with (at_builtin; refine wpList_append_int rfl (.tmp 43) (.tmp 49) rfl w3.heap.size (.slice B3 m d3) zs rfl O4.out ba _ rfl ?k1 hzl ?k2 ?_)
            any_goals (first | omega | rfl | (simp; done) | (simp; omega))
            intro v' w5 hown' hgrow hat
            have O5 := Lib.hid hown'
            have C5 := Lib.hid (Since.grown (Since.alloc C4.out _) hgrow (fun b hb => (HL.out b hb).1))
            obtain ⟨B5, d5, rfl, _⟩ := O5.out.form
            clear hown' hgrow hat
            go_wp2
            go_roundw
            case rel => exact ⟨i + 1, (zs ++ [ba]).length, d5, zs ++ [ba], B5, by go_num, rfl, by omega, Lib.hid (by rw [Y.out, hzs.out]), Lib.hid rfl, O5.out, C5.out⟩
            case measure => simp [intOf]; omega
          · have Y := Lib.hid (NO.out hqk)
            have hqk2 : ((q : Int) == (k : Int)) = false := by simp; omega
            go_wp2_with fail
            refine (CO.out _).mono ?_
            rintro e wd ⟨rfl, rfl⟩
            go_wp2
            go_roundw
            case rel => exact ⟨i + 1, m, d3, zs, B3, by go_num, rfl, by omega, Lib.hid (by rw [Y.out, hzs.out]), hm, O4.out, C4.out⟩
            case measure => simp [intOf]; omega
        · obtain rfl : i = l.length := by omega
          rw [List.take_length] at hzs
          have hvl : vs.length ≤ 1000000 := by have := hV.out; omega
          have hL := O4.out.lt
          have R4 := Lib.hid (R3.out.kept C4.out)
          have hRL := World.ownsRow.lt R3.out.own
          have HXB := Lib.hid (show ∀ b, (Value.slice B3 m d3).ownBlock = some b → (Value.slice D k e).ownBlock ≠ some b from fun b hb hb2 => by
            have h1 := (hL b hb).1
            have h2 := (hRL b hb2).2
            omega)
          have HRL := Lib.hid hRL
          have OX := Lib.hid (show ∀ W, Below w4.heap.size w4 W → OwnI W w2.heap.size (.slice B3 m d3) (clsL vs.length l) from fun W hW => by
            have h1 := O4.out.kept hW
            rw [hV.out, hzs.out]
            refine ⟨h1.1, ?_⟩
            rcases h1.2 with h2 | ⟨g, cap, cur, h3, h4, h5⟩
            · exact .inl h2
            · exact .inr ⟨g, cap, cur, h3, by omega, h5⟩)
          have RA := Lib.hid (R4.out.kept (Since.out (Since.alloc (Since.refl w4) (.cells #[.slice B3 m d3] 69))))
          have OWN := Lib.hid (show w4.ownsRow w2.heap.size 69 1 (.slice D k e) vs.length vs from R4.out.own)
          clear hL hRL
          go_wp2_with (at_builtin; refine wpList_append_val rfl (.tmp 51) (.tmp 53) rfl w2.heap.size (.slice D k e) vs rfl OWN.out B3 m d3 _ rfl ?k3 hvl ?k4 ?_)
          any_goals (first | omega | rfl | (simp; done) | (simp; omega))
          intro v' w5 hown' hgrow hat
          rw [hV.out] at hown'
          have R5 := Lib.hid (RA.out.push (OX.out _ (Since.out (Since.alloc (Since.refl w4) _))) HXB.out (by rw [List.length_append, hV.out]; exact hown') hgrow hat (by simp))
          have C5 := Lib.hid (show Since w2 w5 from Since.grown (Since.alloc (Since.trans C3.out C4.out) _) hgrow (fun b hb => (HRL.out b hb).1))
          obtain ⟨D5, e5, rfl⟩ := own_form hown'
          have HV5 := Lib.hid (show (vs ++ [Value.slice B3 m d3]).length = k + 1 by rw [List.length_append, hV.out]; rfl)
          clear hown' hgrow hat
          go_wp2
          go_roundw
          case rel => exact ⟨k + 1, e5, vs ++ [Value.slice B3 m d3], D5, by go_num, rfl, by omega, HV5, R5.out, C5.out⟩
          case measure => simp [intOf]; omega
    · obtain rfl : 11 = k := by omega
      obtain ⟨A5, c5, e5, hE⟩ := R3.out.rows hV.out
      injection e5 with e6 _ e7
      subst e6 e7
      go_wp2
      go_ret2
      unfold RowsEnd
      simp only [lists_len]
      exact ⟨_, _, rfl, hE, A3.out⟩

theorem rlists_any (A : Option Addr) (n c : Nat) (ws : List Nat) (w : World) (h : Words w A n c ws) : Calls Try.prog 44 #[.slice A n c] w (RowsEnd w (listsR ws)) := by
  have F := rall_any A n c ws w h
  have hlen := h.len
  unfold listsR
  by_cases he : (allR ws).2 = 0
  · rw [if_neg (by simpa using he)]
    have hi : imgOk n := by
      rcases allR_cases ws with ⟨_, e⟩ | ⟨h1, _, _⟩ | ⟨l, h1, _⟩ | ⟨l, h1, _⟩
      · rw [e] at he; exact absurd he (by decide)
      all_goals (rw [hlen] at h1; exact h1)
    rw [show allR ws = ((allR ws).1, 0) from Prod.ext rfl he] at F
    exact rlists_ok A n c _ _ _ w (Nat.le_trans (freeL_len _) (allR_le ws)) (allR_sized ws).free (Lib.hid F) (Lib.hid fun W hW => rfree_any A n c ws W (h.below hW) hi)
  · rw [if_pos he]
    rw [allR_err he] at F
    exact rlists_err A n c _ w he (Lib.hid F)
end Go.Proofs.Ytoifalgkeegklaa
