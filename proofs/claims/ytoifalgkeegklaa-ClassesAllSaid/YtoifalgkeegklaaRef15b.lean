/- The reference of package walk, walked (2). -/
import Derived.Test.YtoifalgkeegklaaRefFrom
import Derived.Test.YtoifalgkeegklaaTwin
import Derived.Test.YtoifalgkeegklaaRefFind
namespace Go.Proofs.Ytoifalgkeegklaa
open Go.RowKit

theorem rimg_ok (A : Option Addr) (n c : Nat) (w : World) (hm : n ≤ 9223372036854775807) (h : imgOk n) : Calls Try.prog 23 #[.slice A n c] w fun e w' => e = .returned (.int .i64 0) ∧ w = w' := by
  obtain ⟨h1, h2, h3⟩ := h
  have h4 : (((n : Nat) : Int) % 8 == 0) = true := by simp; omega
  clear h3
  go_enter Try.func23, Try.ntmps23
  go_wp2_with go_in
  go_ret
  exact ⟨rfl, rfl⟩
theorem rimg_bad (A : Option Addr) (n c : Nat) (w : World) (hm : n ≤ 9223372036854775807) (h : ¬ imgOk n) : Calls Try.prog 23 #[.slice A n c] w fun e w' => e = .returned (.int .i64 8) ∧ w = w' := by
  by_cases h1 : 256 ≤ n
  · by_cases h2 : n ≤ 2048
    · have h4 : (((n : Nat) : Int) % 8 == 0) = false := by
        simp; intro h5; exact h ⟨h1, h2, by omega⟩
      clear h
      go_enter Try.func23, Try.ntmps23
      go_wp2_with go_in
      go_ret
      exact ⟨rfl, rfl⟩
    · have h3 : decide ((n : Int) ≤ 2048) = false := by simp; omega
      clear h
      go_enter Try.func23, Try.ntmps23
      go_wp2_with go_in
      go_ret
      exact ⟨rfl, rfl⟩
  · have h3 : decide (256 ≤ (n : Int)) = false := by simp; omega
    clear h
    go_enter Try.func23, Try.ntmps23
    go_wp2_with go_in
    go_ret
    exact ⟨rfl, rfl⟩
theorem great_yes (A : Option Addr) (n c : Nat) (w : World) (h : 2100 < n) : Calls Try.prog 22 #[.slice A n c] w fun e w' => e = .returned (.bool true) ∧ w = w' := by
  have h1 : decide ((2100 : Int) < n) = true := by simp; omega
  go_enter Try.func22, Try.ntmps22
  go_wp2
  go_ret
  exact ⟨rfl, rfl⟩
theorem great_no (A : Option Addr) (n c : Nat) (w : World) (h : n ≤ 2100) : Calls Try.prog 22 #[.slice A n c] w fun e w' => e = .returned (.bool false) ∧ w = w' := by
  have h1 : ¬ (2100 : Int) < n := by omega
  go_enter Try.func22, Try.ntmps22
  go_wp2
  go_ret
  exact ⟨rfl, rfl⟩

theorem imgOk_even {n : Nat} (h : imgOk n) : n % 2 = 0 := by obtain ⟨_, _, h3⟩ := h; omega

set_option maxRecDepth 100000 in
theorem parsed_any (A : Option Addr) (n c : Nat) (ws : List Nat) (w : World) (h : Words w A n c ws) (hi : imgOk n) :
    Calls Try.prog 74 #[.slice A n c] w (BlksEndB w (heap ws)) := by
  have C := Lib.hid fun W (hW : Words W A n c ws) => rfrom_go A n c ws 128 W hW hi.1 hi.2.1 (imgOk_even hi) (Nat.le_refl _) (by have := hi.1; omega) rfl
  have hlen := h.len
  have CL : ∀ l, parse ws 128 = some l → l.length ≤ 1000000 := fun l hp => by have := chain_le (chain_of_parse ws l 128 (by have := hi.1; omega) hp); have := hi.2.1; omega
  have H := Lib.hid h
  have HP := Lib.hid (show heap ws = heap ws from rfl)
  unfold heap at HP
  generalize hr : heap ws = r at *
  have HR := Lib.hid hr
  clear h hi hr hlen HP
  have HR2 := Lib.hid HR.out
  cases hp : parse ws 128 with
  | none =>
    rw [hp] at C
    have E : r = none := by rw [← HR.out]; unfold heap; rw [hp]
    subst E
    clear CL hp
    go_enter Try.func74, Try.ntmps74
    go_wp2_with fail
    refine (C.out _ H.out).mono ?_
    rintro e w1 ⟨B, d, rfl, hB, hb1⟩
    have HB := Lib.hid hB
    have A1 := Lib.hid (show Since w w1 from hb1)
    clear hB hb1
    go_wp2
    go_loop [5, 6] (fun b t => b = .bool false ∧ t = .int .i64 1) (fun _ _ => 0)
    case atStart => exact ⟨rfl, rfl⟩
    case round =>
      obtain ⟨rfl, rfl⟩ := hrel
      go_wp2
      go_ret2
      exact BlksEndB.none_ A1.out
  | some l =>
    rw [hp] at C
    have hl := CL l hp
    have E : r = if side l then none else some l := by rw [← HR.out]; unfold heap; rw [hp]
    have HE := Lib.hid E
    clear CL hp E HR HR2
    go_enter Try.func74, Try.ntmps74
    go_wp2_with fail
    refine (C.out _ H.out).mono ?_
    rintro e w1 ⟨B, d, rfl, hB, hb1⟩
    have HB := Lib.hid hB
    have A1 := Lib.hid (show Since w w1 from hb1)
    clear hB hb1
    simp only [Option.getD_some] at HB ⊢
    go_wp2
    go_loop [5, 6] (fun b t => ∃ (k : Nat) (v : Bool), 1 ≤ k ∧ (k ≤ l.length ∨ k = 1) ∧ t = .int .i64 k ∧ b = .bool v ∧ Hid (v = !sideF l k)) (fun _ t => l.length - (intOf t).toNat)
    case atStart => exact ⟨1, true, Nat.le_refl _, .inr rfl, rfl, rfl, Lib.hid (by rw [sideF_one]; rfl)⟩
    case round =>
      obtain ⟨k, v, hk, hk2, rfl, rfl, hS⟩ := hrel
      by_cases hlt : k < l.length
      · obtain ⟨g, o, rfl, hg⟩ := HB.out.at_ (by omega)
        have hcap := HB.out.cap
        have hmost := HB.out.most
        obtain ⟨j, rfl⟩ : ∃ j, k = j + 1 := ⟨k - 1, by omega⟩
        obtain ⟨_, _, hc2, _⟩ := HB.out.same (j := j) (by omega)
        obtain ⟨_, _, hd2, _⟩ := HB.out.same (j := j + 1) (by omega)
        have ST := Lib.hid (sideF_step l j hlt)
        generalize l[j].kind = x at *
        generalize l[j + 1].kind = y at *
        by_cases hx : x = 2
        · subst hx
          by_cases hy : y = 2
          · subst hy
            go_wp2
            go_round
            case rel => exact ⟨j + 2, false, by omega, by omega, by go_num, rfl, Lib.hid (by rw [ST.out]; simp)⟩
            case measure => simp [intOf]; omega
          · have hy' : (y == 2) = false := by simpa using hy
            clear hy
            go_wp2
            go_round
            case rel => exact ⟨j + 2, v, by omega, by omega, by go_num, rfl, Lib.hid (by rw [ST.out, hS.out]; simp [hy'])⟩
            case measure => simp [intOf]; omega
        · have hx' : (x == 2) = false := by simpa using hx
          clear hx
          go_wp2
          go_round
          case rel => exact ⟨j + 2, v, by omega, by omega, by go_num, rfl, Lib.hid (by rw [ST.out, hS.out]; simp [hx'])⟩
          case measure => simp [intOf]; omega
      · have hv : v = !side l := by
          have := hS.out
          rcases Nat.lt_or_ge l.length 1 with h0 | h0
          · obtain rfl : l = [] := List.eq_nil_of_length_eq_zero (by omega)
            obtain rfl : k = 1 := by simp at hk2; omega
            exact this
          · obtain rfl : k = l.length := by omega
            exact this
        have HV := Lib.hid hv
        clear hv hk2
        cases v
        · go_wp2
          go_ret2
          rw [HE.out, if_pos (by have := HV.out; revert this; cases side l <;> simp)]
          exact BlksEndB.none_ A1.out
        · go_wp2
          go_ret2
          rw [HE.out, if_neg (by have := HV.out; revert this; cases side l <;> simp)]
          exact ⟨_, _, rfl, HB.out, A1.out⟩

theorem rall_any (A : Option Addr) (n c : Nat) (ws : List Nat) (w : World) (h : Words w A n c ws) :
    Calls Try.prog 61 #[.slice A n c] w (BlksEnd w (allR ws)) := by
  have hm := h.most
  have hcap := h.cap
  have hlen := h.len
  by_cases hi : imgOk n
  case neg =>
    have C := Lib.hid fun W => rimg_bad A n c W (by omega) hi
    have E : allR ws = ([], 8) := by unfold allR; rw [hlen, if_pos hi]
    rw [E]
    clear h hi E hlen
    go_enter Try.func61, Try.ntmps61
    go_wp2_with fail
    refine (C.out _).mono ?_
    rintro e w1 ⟨rfl, rfl⟩
    go_wp2
    go_ret2
    exact BlksEnd.none_ (Below.refl _ _)
  have C := Lib.hid fun W => rimg_ok A n c W (by omega) hi
  have D := Lib.hid fun W (hW : Words W A n c ws) => parsed_any A n c ws W hW hi
  have E : allR ws = (match heap ws with
    | none => ([], 50)
    | some l => (l, 0) : List Blk × Int) := by unfold allR; rw [hlen, if_neg (by simpa using hi)]; rfl
  rw [E]
  have H := Lib.hid h
  clear h hi E hlen
  cases hp : heap ws with
  | none =>
    rw [hp] at D
    clear hp
    go_enter Try.func61, Try.ntmps61
    go_wp2_with fail
    refine (C.out _).mono ?_
    rintro e w1 ⟨rfl, rfl⟩
    go_wp2_with fail
    refine (D.out _ H.out).mono ?_
    rintro e w2 ⟨B, d, rfl, hB, hb⟩
    go_wp2
    go_ret2
    exact BlksEnd.none_ hb
  | some l =>
    rw [hp] at D
    clear hp
    go_enter Try.func61, Try.ntmps61
    go_wp2_with fail
    refine (C.out _).mono ?_
    rintro e w1 ⟨rfl, rfl⟩
    go_wp2_with fail
    refine (D.out _ H.out).mono ?_
    rintro e w2 ⟨B, d, rfl, hB, hb⟩
    have HB := Lib.hid hB
    clear hB
    simp only [Option.getD_some] at HB ⊢
    go_wp2
    go_ret2
    exact ⟨_, _, rfl, HB.out, hb⟩

/-! walk.All and walk.Find, by the plain functions. -/
theorem fromR_bad {ws : List Nat} (h : ¬ imgOk ws.length) (a : Int) : fromR ws a = ([], 8) := by unfold fromR; rw [if_pos h]
theorem fromR_heap {ws : List Nat} (h : imgOk ws.length) : fromR ws 128 = (match parse ws 128 with
    | none => ([], 50)
    | some l => (l, 0) : List Blk × Int) := by
  unfold fromR
  rw [if_neg (by simpa using h), if_neg (by have := h.1; omega)]
  rfl
theorem all_any (A : Option Addr) (n c : Nat) (ws : List Nat) (w : World) (h : Words w A n c ws) :
    Calls Try.prog 28 #[.slice A n c] w (BlksEnd w (allR ws)) := by
  have F := from_any A n c ws 128 w h
  rcases allR_cases ws with ⟨h1, e⟩ | ⟨h1, h2, e⟩ | ⟨l, h1, h2, h3, e⟩ | ⟨l, h1, h2, h3, hc, _, e⟩
  · rw [fromR_bad h1] at F
    rw [e]; exact all_err A n c 8 w (by decide) (Lib.hid F)
  · rw [fromR_heap h1, h2] at F
    rw [e]; exact all_err A n c 50 w (by decide) (Lib.hid F)
  · rw [fromR_heap h1, h2] at F
    have hl := chain_le (chain_of_parse ws l 128 (by have := h1.1; omega) h2)
    have := all_ok A n c l w (by have := h1.2.1; omega) (Lib.hid F)
    rw [if_pos h3] at this
    rw [e]; exact this
  · rw [fromR_heap h1, h2] at F
    have hl := chain_le hc
    have := all_ok A n c l w (by have := h1.2.1; omega) (Lib.hid F)
    rw [if_neg (by rw [h3]; simp)] at this
    rw [e]; exact this
theorem allR_err {ws : List Nat} (h : (allR ws).2 ≠ 0) : allR ws = ([], (allR ws).2) := by
  rcases allR_cases ws with ⟨_, e⟩ | ⟨_, _, e⟩ | ⟨l, _, _, _, e⟩ | ⟨l, _, _, _, _, _, e⟩ <;> rw [e] at h ⊢
  exact absurd rfl h
theorem findR_err {ws : List Nat} (h : (allR ws).2 ≠ 0) (a : Int) : findR ws a = (zeroB, (allR ws).2) := by unfold findR; rw [if_pos h]
theorem findR_ok {ws : List Nat} (h : (allR ws).2 = 0) (a : Int) : findR ws a = findO (findL (allR ws).1 a) := by
  unfold findR; rw [if_neg (by simpa using h)]; cases findL (allR ws).1 a <;> rfl
theorem pfind_any (A : Option Addr) (n c : Nat) (ws : List Nat) (a : Int) (w : World) (h : Words w A n c ws) :
    Calls Try.prog 41 #[.slice A n c, .int .i64 a] w (BlkEnd w (findR ws a)) := by
  have F := fun W (hW : Below w.heap.size w W) => all_any A n c ws W (h.below hW)
  by_cases he : (allR ws).2 = 0
  · rw [findR_ok he]
    rw [show allR ws = ((allR ws).1, 0) from Prod.ext rfl he] at F
    exact pfind_ok A n c a _ w (Lib.hid F)
  · rw [findR_err he]
    rw [allR_err he] at F
    exact pfind_err A n c _ a w he (Lib.hid F)
end Go.Proofs.Ytoifalgkeegklaa
