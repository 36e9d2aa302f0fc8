/- The laws of package sum, walked (7). -/
import Derived.Test.YtofigngilcgojaaLaw05f
namespace Go.Proofs.Ytofigngilcgojaa
open Go.RowKit

set_option maxRecDepth 100000 in
set_option maxHeartbeats 1000000 in
theorem walkSumMatters (s o : Nat) (A : Option Addr) (n c : Nat) (ws : List Nat) (i b : Int) (ch : Nat) (d : Int) (w : World) (hs : s < 18446744073709551616) (ho : o < 18446744073709551616) (h : Words w A n c ws)
    (hi : -9223372036854775808 ≤ i) (hi2 : i ≤ 9223372036854775807) (_hb : -9223372036854775808 ≤ b) (_hb2 : b ≤ 9223372036854775807) (hch : ch < 256) (_hd : -9223372036854775808 ≤ d) (_hd2 : d ≤ 9223372036854775807) :
    Calls Try.prog 15 #[.int .u64 s, .int .u64 o, .slice A n c, .int .i64 i, .int .i64 b, .int .u8 ch, .int .i64 d] w fun e w' => e = .returned (.bool true) ∧ Below w.heap.size w w' := by
  by_cases hx : n < 1 ∨ (1 ≤ n ∧ 100 < n) ∨ (1 ≤ n ∧ n ≤ 100 ∧ i < 0) ∨ (1 ≤ n ∧ n ≤ 100 ∧ 0 ≤ i ∧ n ≤ i) ∨ (1 ≤ n ∧ n ≤ 100 ∧ 0 ≤ i ∧ i < n ∧ b < 0) ∨ (1 ≤ n ∧ n ≤ 100 ∧ 0 ≤ i ∧ i < n ∧ 0 ≤ b ∧ 7 < b) ∨ (1 ≤ n ∧ n ≤ 100 ∧ 0 ≤ i ∧ i < n ∧ 0 ≤ b ∧ b ≤ 7 ∧ d < 8) ∨ (1 ≤ n ∧ n ≤ 100 ∧ 0 ≤ i ∧ i < n ∧ 0 ≤ b ∧ b ≤ 7 ∧ 8 ≤ d ∧ 64 < d)
  · exact early05 s o A n c ws i b ch d w h hx
  have g1 : 1 ≤ n := by omega
  have g2 : n ≤ 100 := by omega
  obtain ⟨I, rfl⟩ := Int.eq_ofNat_of_zero_le (show 0 ≤ i by omega)
  have g3 : I < n := by omega
  obtain ⟨B, rfl⟩ := Int.eq_ofNat_of_zero_le (show 0 ≤ b by omega)
  have g4 : B ≤ 7 := by omega
  obtain ⟨D, rfl⟩ := Int.eq_ofNat_of_zero_le (show 0 ≤ d by omega)
  have g5 : 8 ≤ D := by omega
  have g6 : D ≤ 64 := by omega
  clear hx hi hi2 _hb _hb2 _hd _hd2
  have hm := h.most
  have hc := h.cap
  have hl := h.len
  have H := Lib.hid h
  have hu := h.lt _ (List.getElem_mem (show I < ws.length by omega))
  have T := Lib.hid (twin_any A n c ws w h (by omega))
  have hI : I < ws.length := by omega
  have hS := beh_set s ws I hI ch B 64 (by omega) (by omega) (by omega) hch
  have hF := beh_set 14695981039346656037 ws I hI ch B D (by omega) (by omega) (by omega) hch
  have hset0 : ch = 0 → ws.set I (ws[I] ^^^ ch * 256 ^ B) = ws := by rintro rfl; simp
  have X := Lib.hid (xor_shl5 ws[I] ch B hu hch g4)
  have hy : ws[I] ^^^ ch * 256 ^ B < 18446744073709551616 := by
    refine xor_lt64 hu ?_
    have hp : (256 : Nat) ^ B = 2 ^ (8 * B) := by rw [Nat.pow_mul]
    rw [hp]; exact shl_lt (8 * B) 8 ch (by omega) hch
  have HG : ws[I]? = some ws[I] := List.getElem?_eq_getElem hI
  generalize ws[I] ^^^ ch * 256 ^ B = y at hS hF hset0 X hy
  generalize ws[I] = u at X hu HG
  have E1 : (((beh s ws : Nat) : Int) == ((beh s (ws.set I y) : Nat) : Int)) = ((ch : Int) == 0) := by
    by_cases h0 : ch = 0
    · rw [hset0 h0, h0]; simp
    · have := hS h0
      rw [beh_mod _ _ hs, beh_mod _ _ hs] at this
      have : ((ch : Int) == 0) = false := by simp; omega
      rw [this]; simp; omega
  have E2 : (((fld (beh 14695981039346656037 ws) 0 D : Nat) : Int) == ((fld (beh 14695981039346656037 (ws.set I y)) 0 D : Nat) : Int)) = ((ch : Int) == 0) := by
    by_cases h0 : ch = 0
    · rw [hset0 h0, h0]; simp
    · have := hF h0
      rw [← fld_mod, ← fld_mod] at this
      have : ((ch : Int) == 0) = false := by simp; omega
      rw [this]; simp; omega
  have E3 : (((beh s ws : Nat) : Int) == ((beh o ws : Nat) : Int)) = ((s : Int) == (o : Int)) := by
    by_cases h0 : s = o
    · rw [h0]; simp
    · have hne : beh s ws ≠ beh o ws := fun e => by
        have := beh_inj ws s o 64 (by omega) (by rw [e])
        rw [Nat.mod_eq_of_lt (by omega), Nat.mod_eq_of_lt (by omega)] at this
        exact h0 this
      have : ((s : Int) == (o : Int)) = false := by simp; omega
      rw [this]; simp; omega
  have HL : Hid (∀ x ∈ ws.set I y, x < 18446744073709551616) := fun x hx => by
    rcases List.mem_or_eq_of_mem_set hx with hx | rfl
    · exact h.lt x hx
    · exact hy
  have C1 := Lib.hid fun W A c h => next_ok s A n c ws W h (by omega) hs
  have C2 := Lib.hid fun W A c h => next_ok s A n c (ws.set I y) W h (by omega) hs
  have C3 := Lib.hid fun W A c h => next_ok o A n c ws W h (by omega) ho
  have C4 := Lib.hid fun W A c h => low_ok A n c ws D W h (by omega) g5 g6
  have C5 := Lib.hid fun W A c h => low_ok A n c (ws.set I y) D W h (by omega) g5 g6
  generalize beh s ws = r1 at C1 E1 E3
  generalize beh s (ws.set I y) = r2 at C2 E1
  generalize beh o ws = r3 at C3 E3
  generalize fld (beh 14695981039346656037 ws) 0 D = r4 at C4 E2
  generalize fld (beh 14695981039346656037 (ws.set I y)) 0 D = r5 at C5 E2
  clear hS hF hset0 hy h hI hl hs ho
  have HX := Lib.hid HG
  clear HG
  go_enter Try.func15, Try.ntmps15
  go_wp2_with fail
  refine T.out.mono ?_
  rintro e w1 ⟨A', c', rfl, hown, hb1⟩
  have hob := hown.lt
  obtain ⟨g, cap, hv, _⟩ := hown.form (by omega)
  simp only [Value.slice.injEq, true_and] at hv
  obtain ⟨rfl, rfl⟩ := hv
  have hg := (hob g rfl).1
  clear hob
  have hcell : w1.cell? ⟨g, I, none⟩ = some (.int .u64 (u : Int)) := by
    rw [World.ownsRow.cellAt hown I (by omega), List.getElem?_map, HX.out]; rfl
  have hfr := World.ownsRow.frozenAt hown I
  have O := Lib.hid hown
  have A1 := Lib.hid hb1
  clear hown hb1
  go_wp2_with fail
  have hw : IntKind.i64.wrap (8 * (B : Int)) = ((8 * B : Nat) : Int) := by rw [IntKind.wrap_i64]; omega
  have h0 : ¬ ((8 * B : Nat) : Int) < 0 := by omega
  have hcell2 : w1.drew.cell? ⟨g, I, none⟩ = some (.int .u64 (u : Int)) := hcell
  have hfr2 : w1.drew.frozen? ⟨g, I, none⟩ = false := hfr
  have O2 := Lib.hid O.out.drew
  have A2 := Lib.hid A1.out.drew
  go_still_tail 11, (by kernel_rfl)
  change wpList _ _ _ _ _ w1.drew
  generalize w1.drew = w2 at hcell2 hfr2 O2 A2 ⊢
  clear hcell hfr
  go_wp2_with fail
  rw [X.out]
  have S3 := O2.out.stored I (wv y)
  have e3 : (ws.map wv).set I (wv y) = (ws.set I y).map wv := (List.map_set ..).symm
  rw [e3] at S3
  have M3 := Lib.hid (Words.own S3.1 HL.out)
  have B3 := Lib.hid (A2.out.setCell (p := ⟨g, I, none⟩) hg (.int .u64 (y : Int)))
  clear S3 e3
  refine (C1.out _ _ _ (H.out.below B3.out)).mono ?_
  rintro e w4 ⟨rfl, hb4⟩
  have M4 := Lib.hid (M3.out.below hb4)
  have B4 := Lib.hid (B3.out.trans (hb4.mono B3.out.size))
  clear hb4
  go_wp2_with fail
  refine (C2.out _ _ _ M4.out).mono ?_
  rintro e w5 ⟨rfl, hb5⟩
  have M5 := Lib.hid (M4.out.below hb5)
  have B5 := Lib.hid (B4.out.trans (hb5.mono B4.out.size))
  clear hb5
  go_wp2_with fail
  refine (C3.out _ _ _ (H.out.below B5.out)).mono ?_
  rintro e w6 ⟨rfl, hb6⟩
  have M6 := Lib.hid (M5.out.below hb6)
  have B6 := Lib.hid (B5.out.trans (hb6.mono B5.out.size))
  clear hb6
  go_wp2_with fail
  refine (C4.out _ _ _ (H.out.below B6.out)).mono ?_
  rintro e w7 ⟨rfl, hb7⟩
  have M7 := Lib.hid (M6.out.below hb7)
  have B7 := Lib.hid (B6.out.trans (hb7.mono B6.out.size))
  clear hb7
  go_wp2_with fail
  refine (C5.out _ _ _ M7.out).mono ?_
  rintro e w8 ⟨rfl, hb8⟩
  have M8 := Lib.hid (M7.out.below hb8)
  have B8 := Lib.hid (B7.out.trans (hb8.mono B7.out.size))
  clear hb8
  go_wp2_with fail
  refine (alive05 _).mono ?_
  rintro e w9 ⟨rfl, hb9⟩
  go_wp2
  go_ret
  exact ⟨rfl, B8.out.trans (hb9.mono B8.out.size)⟩
end Go.Proofs.Ytofigngilcgojaa
