/- The laws of package sum, walked (4). -/
import Derived.Test.YtofigngilcgojaaLaw05c
import Derived.Test.YtofigngilcgojaaTwin
import Derived.Test.YtofigngilcgojaaSumRef
namespace Go.Proofs.Ytofigngilcgojaa
open Go.RowKit

set_option maxRecDepth 100000 in
set_option maxHeartbeats 1000000 in
theorem words_core (s : Nat) (A : Option Addr) (n c : Nat) (ws : List Nat) (d : Int) (w : World) (h : Words w A n c ws) (hn : n ≤ 100 ∨ 2048 < n) (hn2 : n ≤ 2100)
    (r1 r2 r3 : Nat) (e1 e2 e3 : Int)
    (N1 : Hid (∀ W A c, Words W A n c ws → Calls Try.prog 20 #[.int .u64 s, .slice A n c] W fun e w' => e = .returned (.tuple #[.int .u64 r1, .int .i64 e1]) ∧ Below W.heap.size W w'))
    (N2 : Hid (∀ W A c, Words W A n c ws → Calls Try.prog 32 #[.int .u64 s, .slice A n c] W fun e w' => e = .returned (.tuple #[.int .u64 r1, .int .i64 e1]) ∧ Below W.heap.size W w'))
    (O1 : Hid (∀ W A c, Words W A n c ws → Calls Try.prog 29 #[.slice A n c] W fun e w' => e = .returned (.tuple #[.int .u64 r2, .int .i64 e2]) ∧ Below W.heap.size W w'))
    (O2 : Hid (∀ W A c, Words W A n c ws → Calls Try.prog 33 #[.slice A n c] W fun e w' => e = .returned (.tuple #[.int .u64 r2, .int .i64 e2]) ∧ Below W.heap.size W w'))
    (L1 : Hid (∀ W A c, Words W A n c ws → Calls Try.prog 30 #[.slice A n c, .int .i64 d] W fun e w' => e = .returned (.tuple #[.int .u64 r3, .int .i64 e3]) ∧ Below W.heap.size W w'))
    (L2 : Hid (∀ W A c, Words W A n c ws → Calls Try.prog 34 #[.slice A n c, .int .i64 d] W fun e w' => e = .returned (.tuple #[.int .u64 r3, .int .i64 e3]) ∧ Below W.heap.size W w')) :
    Calls Try.prog 13 #[.int .u64 s, .slice A n c, .int .i64 d] w fun e w' => e = .returned (.bool true) ∧ Below w.heap.size w w' := by
  have H := Lib.hid h
  have hm := h.most
  have hc := h.cap
  have T := Lib.hid (twin_any A n c ws w h (by omega))
  clear h
  rcases hn with hn | hn
  · go_enter Try.func13, Try.ntmps13
    go_wp2_with fail
    refine T.out.mono ?_
    rintro e w1 ⟨A', c', rfl, hown, hb1⟩
    have HL : ∀ x ∈ ws, x < 18446744073709551616 := H.out.lt
    have X1 := Lib.hid (Words.own hown HL)
    have Y1 := Lib.hid (H.out.below hb1)
    have A1 := Lib.hid hb1
    clear hown HL hb1
    go_wp2_with fail
    refine (N1.out _ _ _ X1.out).mono ?_
    rintro e w2 ⟨rfl, hb2⟩
    have X2 := Lib.hid (X1.out.below hb2)
    have Y2 := Lib.hid (Y1.out.below hb2)
    have A2 := Lib.hid (A1.out.trans (hb2.mono A1.out.size))
    clear hb2
    go_wp2_with fail
    refine (N2.out _ _ _ Y2.out).mono ?_
    rintro e w3 ⟨rfl, hb3⟩
    have X3 := Lib.hid (X2.out.below hb3)
    have Y3 := Lib.hid (Y2.out.below hb3)
    have A3 := Lib.hid (A2.out.trans (hb3.mono A2.out.size))
    clear hb3
    go_wp2_with fail
    refine (O1.out _ _ _ X3.out).mono ?_
    rintro e w4 ⟨rfl, hb4⟩
    have X4 := Lib.hid (X3.out.below hb4)
    have Y4 := Lib.hid (Y3.out.below hb4)
    have A4 := Lib.hid (A3.out.trans (hb4.mono A3.out.size))
    clear hb4
    go_wp2_with fail
    refine (O2.out _ _ _ Y4.out).mono ?_
    rintro e w5 ⟨rfl, hb5⟩
    have X5 := Lib.hid (X4.out.below hb5)
    have Y5 := Lib.hid (Y4.out.below hb5)
    have A5 := Lib.hid (A4.out.trans (hb5.mono A4.out.size))
    clear hb5
    go_wp2_with fail
    refine (L1.out _ _ _ X5.out).mono ?_
    rintro e w6 ⟨rfl, hb6⟩
    have X6 := Lib.hid (X5.out.below hb6)
    have Y6 := Lib.hid (Y5.out.below hb6)
    have A6 := Lib.hid (A5.out.trans (hb6.mono A5.out.size))
    clear hb6
    go_wp2_with fail
    refine (L2.out _ _ _ Y6.out).mono ?_
    rintro e w7 ⟨rfl, hb7⟩
    have X7 := Lib.hid (X6.out.below hb7)
    have Y7 := Lib.hid (Y6.out.below hb7)
    have A7 := Lib.hid (A6.out.trans (hb7.mono A6.out.size))
    clear hb7
    go_wp2_with fail
    refine (same_eq _ _ _ _ _ _ _ X7.out Y7.out).mono ?_
    rintro e w9 ⟨rfl, hb9⟩
    go_wp2
    go_ret
    exact ⟨rfl, A7.out.trans (hb9.mono A7.out.size)⟩
  · have hn1 : ¬ n ≤ 100 := by omega
    have hn3 : ¬ n ≤ 2048 := by omega
    go_enter Try.func13, Try.ntmps13
    go_wp2_with fail
    refine T.out.mono ?_
    rintro e w1 ⟨A', c', rfl, hown, hb1⟩
    have HL : ∀ x ∈ ws, x < 18446744073709551616 := H.out.lt
    have X1 := Lib.hid (Words.own hown HL)
    have Y1 := Lib.hid (H.out.below hb1)
    have A1 := Lib.hid hb1
    clear hown HL hb1
    go_wp2_with fail
    refine (N1.out _ _ _ X1.out).mono ?_
    rintro e w2 ⟨rfl, hb2⟩
    have X2 := Lib.hid (X1.out.below hb2)
    have Y2 := Lib.hid (Y1.out.below hb2)
    have A2 := Lib.hid (A1.out.trans (hb2.mono A1.out.size))
    clear hb2
    go_wp2_with fail
    refine (N2.out _ _ _ Y2.out).mono ?_
    rintro e w3 ⟨rfl, hb3⟩
    have X3 := Lib.hid (X2.out.below hb3)
    have Y3 := Lib.hid (Y2.out.below hb3)
    have A3 := Lib.hid (A2.out.trans (hb3.mono A2.out.size))
    clear hb3
    go_wp2_with fail
    refine (O1.out _ _ _ X3.out).mono ?_
    rintro e w4 ⟨rfl, hb4⟩
    have X4 := Lib.hid (X3.out.below hb4)
    have Y4 := Lib.hid (Y3.out.below hb4)
    have A4 := Lib.hid (A3.out.trans (hb4.mono A3.out.size))
    clear hb4
    go_wp2_with fail
    refine (O2.out _ _ _ Y4.out).mono ?_
    rintro e w5 ⟨rfl, hb5⟩
    have X5 := Lib.hid (X4.out.below hb5)
    have Y5 := Lib.hid (Y4.out.below hb5)
    have A5 := Lib.hid (A4.out.trans (hb5.mono A4.out.size))
    clear hb5
    go_wp2_with fail
    refine (L1.out _ _ _ X5.out).mono ?_
    rintro e w6 ⟨rfl, hb6⟩
    have X6 := Lib.hid (X5.out.below hb6)
    have Y6 := Lib.hid (Y5.out.below hb6)
    have A6 := Lib.hid (A5.out.trans (hb6.mono A5.out.size))
    clear hb6
    go_wp2_with fail
    refine (L2.out _ _ _ Y6.out).mono ?_
    rintro e w7 ⟨rfl, hb7⟩
    have X7 := Lib.hid (X6.out.below hb7)
    have Y7 := Lib.hid (Y6.out.below hb7)
    have A7 := Lib.hid (A6.out.trans (hb7.mono A6.out.size))
    clear hb7
    go_wp2_with fail
    refine (same_eq _ _ _ _ _ _ _ X7.out Y7.out).mono ?_
    rintro e w9 ⟨rfl, hb9⟩
    go_wp2
    go_ret
    exact ⟨rfl, A7.out.trans (hb9.mono A7.out.size)⟩

set_option maxRecDepth 100000 in
theorem walkSumWords (s : Nat) (A : Option Addr) (n c : Nat) (ws : List Nat) (d : Int) (w : World) (hs : s < 18446744073709551616) (h : Words w A n c ws) (hd : -9223372036854775808 ≤ d) (hd2 : d ≤ 9223372036854775807) :
    Calls Try.prog 13 #[.int .u64 s, .slice A n c, .int .i64 d] w fun e w' => e = .returned (.bool true) ∧ Below w.heap.size w w' := by
  by_cases h1 : 2100 < n
  · have hm := h.most
    have hc := h.cap
    clear h
    go_enter Try.func13, Try.ntmps13
    go_wp2
    go_ret
    exact ⟨rfl, Below.refl _ _⟩
  by_cases h2 : 100 < n ∧ n ≤ 2048
  · obtain ⟨h2, h3⟩ := h2
    have hm := h.most
    have hc := h.cap
    clear h
    go_enter Try.func13, Try.ntmps13
    go_wp2
    go_ret
    exact ⟨rfl, Below.refl _ _⟩
  by_cases h4 : n ≤ 100
  · by_cases h5 : d < 8 ∨ 64 < d
    · exact words_core s A n c ws d w h (.inl h4) (by omega) _ _ 0 0 0 2
        (Lib.hid fun W A c h => next_ok s A n c ws W h (by omega) hs) (Lib.hid fun W A c h => rnext_ok s A n c ws W h (by omega) hs)
        (Lib.hid fun W A c h => of_ok A n c ws W h (by omega)) (Lib.hid fun W A c h => rof_ok A n c ws W h (by omega))
        (Lib.hid fun W A c h => low_bad A n c ws d W h (by omega) hd hd2 h5) (Lib.hid fun W A c h => (rlow_bad A n c ws d W h (by omega) h5).mono fun _ _ ⟨e, e'⟩ => ⟨e, e' ▸ Below.refl _ _⟩)
    · obtain ⟨D, rfl⟩ := Int.eq_ofNat_of_zero_le (show 0 ≤ d by omega)
      exact words_core s A n c ws D w h (.inl h4) (by omega) _ _ _ 0 0 0
        (Lib.hid fun W A c h => next_ok s A n c ws W h (by omega) hs) (Lib.hid fun W A c h => rnext_ok s A n c ws W h (by omega) hs)
        (Lib.hid fun W A c h => of_ok A n c ws W h (by omega)) (Lib.hid fun W A c h => rof_ok A n c ws W h (by omega))
        (Lib.hid fun W A c h => low_ok A n c ws D W h (by omega) (by omega) (by omega)) (Lib.hid fun W A c h => rlow_ok A n c ws D W h (by omega) (by omega) (by omega))
  · exact words_core s A n c ws d w h (.inr (by omega)) (by omega) 0 0 0 4 4 4
      (Lib.hid fun W A c h => (next_many s A n c ws W h (by omega)).mono fun _ _ ⟨e, e'⟩ => ⟨e, e' ▸ Below.refl _ _⟩) (Lib.hid fun W A c h => (rnext_many s A n c ws W h (by omega)).mono fun _ _ ⟨e, e'⟩ => ⟨e, e' ▸ Below.refl _ _⟩)
      (Lib.hid fun W A c h => (of_many A n c ws W h (by omega)).mono fun _ _ ⟨e, e'⟩ => ⟨e, e' ▸ Below.refl _ _⟩) (Lib.hid fun W A c h => (rof_many A n c ws W h (by omega)).mono fun _ _ ⟨e, e'⟩ => ⟨e, e' ▸ Below.refl _ _⟩)
      (Lib.hid fun W A c h => (low_many A n c ws d W h (by omega)).mono fun _ _ ⟨e, e'⟩ => ⟨e, e' ▸ Below.refl _ _⟩) (Lib.hid fun W A c h => (rlow_many A n c ws d W h (by omega)).mono fun _ _ ⟨e, e'⟩ => ⟨e, e' ▸ Below.refl _ _⟩)
end Go.Proofs.Ytofigngilcgojaa
