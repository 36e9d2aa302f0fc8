/- The functions of package sum, and of its reference, walked. -/
import Derived.Test.YtoifalgkeegklaaWordRefB
import Derived.Test.YtoifalgkeegklaaMem
import Derived.Test.YtoifalgkeegklaaSumPlain
namespace Go.Proofs.Ytoifalgkeegklaa
open Go.RowKit

theorem xor_cast (s b : Nat) (hs : s < 18446744073709551616) (hb : b < 256) : IntKind.u64.wrap (bits .xor .u64 (s : Int) (b : Int) * 1099511628211) = ((stp s b : Nat) : Int) := by
  rw [u64_xor_nat _ _ hs (by omega), IntKind.wrap_u64]
  unfold stp
  omega

theorem idx8_0 (a0 a1 a2 a3 a4 a5 a6 a7 : Int) (w : World) : (Instr.index 112 (.agg #[.int .u8 a0, .int .u8 a1, .int .u8 a2, .int .u8 a3, .int .u8 a4, .int .u8 a5, .int .u8 a6, .int .u8 a7]) (.int .i64 0)).run Try.prog w = .ok (.int .u8 a0) w := by kernel_rfl
theorem idx8_1 (a0 a1 a2 a3 a4 a5 a6 a7 : Int) (w : World) : (Instr.index 112 (.agg #[.int .u8 a0, .int .u8 a1, .int .u8 a2, .int .u8 a3, .int .u8 a4, .int .u8 a5, .int .u8 a6, .int .u8 a7]) (.int .i64 1)).run Try.prog w = .ok (.int .u8 a1) w := by kernel_rfl
theorem idx8_2 (a0 a1 a2 a3 a4 a5 a6 a7 : Int) (w : World) : (Instr.index 112 (.agg #[.int .u8 a0, .int .u8 a1, .int .u8 a2, .int .u8 a3, .int .u8 a4, .int .u8 a5, .int .u8 a6, .int .u8 a7]) (.int .i64 2)).run Try.prog w = .ok (.int .u8 a2) w := by kernel_rfl
theorem idx8_3 (a0 a1 a2 a3 a4 a5 a6 a7 : Int) (w : World) : (Instr.index 112 (.agg #[.int .u8 a0, .int .u8 a1, .int .u8 a2, .int .u8 a3, .int .u8 a4, .int .u8 a5, .int .u8 a6, .int .u8 a7]) (.int .i64 3)).run Try.prog w = .ok (.int .u8 a3) w := by kernel_rfl
theorem idx8_4 (a0 a1 a2 a3 a4 a5 a6 a7 : Int) (w : World) : (Instr.index 112 (.agg #[.int .u8 a0, .int .u8 a1, .int .u8 a2, .int .u8 a3, .int .u8 a4, .int .u8 a5, .int .u8 a6, .int .u8 a7]) (.int .i64 4)).run Try.prog w = .ok (.int .u8 a4) w := by kernel_rfl
theorem idx8_5 (a0 a1 a2 a3 a4 a5 a6 a7 : Int) (w : World) : (Instr.index 112 (.agg #[.int .u8 a0, .int .u8 a1, .int .u8 a2, .int .u8 a3, .int .u8 a4, .int .u8 a5, .int .u8 a6, .int .u8 a7]) (.int .i64 5)).run Try.prog w = .ok (.int .u8 a5) w := by kernel_rfl
theorem idx8_6 (a0 a1 a2 a3 a4 a5 a6 a7 : Int) (w : World) : (Instr.index 112 (.agg #[.int .u8 a0, .int .u8 a1, .int .u8 a2, .int .u8 a3, .int .u8 a4, .int .u8 a5, .int .u8 a6, .int .u8 a7]) (.int .i64 6)).run Try.prog w = .ok (.int .u8 a6) w := by kernel_rfl
theorem idx8_7 (a0 a1 a2 a3 a4 a5 a6 a7 : Int) (w : World) : (Instr.index 112 (.agg #[.int .u8 a0, .int .u8 a1, .int .u8 a2, .int .u8 a3, .int .u8 a4, .int .u8 a5, .int .u8 a6, .int .u8 a7]) (.int .i64 7)).run Try.prog w = .ok (.int .u8 a7) w := by kernel_rfl

theorem beh_take (s : Nat) (ws : List Nat) (k : Nat) (h : k < ws.length) : beh s (ws.take (k + 1)) = stw (beh s (ws.take k)) ws[k] := by
  rw [List.take_succ_eq_append_getElem h, beh_snoc]

set_option maxRecDepth 100000 in
theorem next_many (s : Nat) (A : Option Addr) (n c : Nat) (ws : List Nat) (w : World) (h : Words w A n c ws) (hn : 2048 < n) :
    Calls Try.prog 88 #[.int .u64 s, .slice A n c] w fun e w' => e = .returned (.tuple #[.int .u64 0, .int .i64 4]) ∧ w = w' := by
  have hm := h.most
  have hc := h.cap
  clear h
  go_enter Try.func88, Try.ntmps88
  go_wp2
  go_ret2
  exact ⟨rfl, rfl⟩

set_option maxRecDepth 100000 in
theorem next_ok (s : Nat) (A : Option Addr) (n c : Nat) (ws : List Nat) (w : World) (h : Words w A n c ws) (hn : n ≤ 2048) (hs : s < 18446744073709551616) :
    Calls Try.prog 88 #[.int .u64 s, .slice A n c] w fun e w' => e = .returned (.tuple #[.int .u64 (beh s ws : Nat), .int .i64 0]) ∧ Below w.heap.size w w' := by
  have H := Lib.hid h
  go_enter Try.func88, Try.ntmps88
  go_wp2
  go_loopw [0, 15] (fun t i wr => ∃ k : Nat, k ≤ n ∧ i = .int .i64 k ∧ t = .int .u64 (beh s (ws.take k) : Nat) ∧ Below w.heap.size w wr) (fun _ i _ => n - (intOf i).toNat)
  case atStart => exact ⟨0, Nat.zero_le _, rfl, rfl, Below.refl _ _⟩
  case round =>
    obtain ⟨k, hk, rfl, rfl, hnx⟩ := hrel
    by_cases hlt : k < n
    · obtain ⟨b, o, rfl, hbl, hcell⟩ := h.cell (by omega)
      have hlen := h.len
      have hcx : wr.cell? ⟨b, o + k, none⟩ = some (.int .u64 (ws[k]'(by omega) : Nat)) := (hnx.cell (p := ⟨b, o + k, none⟩) hbl).trans (hcell k (by omega))
      have hx := h.lt _ (List.getElem_mem (show k < ws.length by omega))
      have HT := Lib.hid (beh_take s ws k (by omega))
      have l0 := beh_lt s (ws.take k) hs
      generalize hs0 : beh s (ws.take k) = s0 at l0 HT ⊢
      generalize ws[k]'(by omega) = x at hcx hx HT
      clear hs0 hcell h hlen
      have E0 := Lib.hid fun W => bytes_any x W hx
      unfold bytV at E0
      unfold stw at HT
      have b0 := byt_lt x 0
      have b1 := byt_lt x 1
      have b2 := byt_lt x 2
      have b3 := byt_lt x 3
      have b4 := byt_lt x 4
      have b5 := byt_lt x 5
      have b6 := byt_lt x 6
      have b7 := byt_lt x 7
      generalize byt x 0 = z0 at E0 HT b0
      generalize byt x 1 = z1 at E0 HT b1
      generalize byt x 2 = z2 at E0 HT b2
      generalize byt x 3 = z3 at E0 HT b3
      generalize byt x 4 = z4 at E0 HT b4
      generalize byt x 5 = z5 at E0 HT b5
      generalize byt x 6 = z6 at E0 HT b6
      generalize byt x 7 = z7 at E0 HT b7
      have i0 := idx8_0 z0 z1 z2 z3 z4 z5 z6 z7
      have i1 := idx8_1 z0 z1 z2 z3 z4 z5 z6 z7
      have i2 := idx8_2 z0 z1 z2 z3 z4 z5 z6 z7
      have i3 := idx8_3 z0 z1 z2 z3 z4 z5 z6 z7
      have i4 := idx8_4 z0 z1 z2 z3 z4 z5 z6 z7
      have i5 := idx8_5 z0 z1 z2 z3 z4 z5 z6 z7
      have i6 := idx8_6 z0 z1 z2 z3 z4 z5 z6 z7
      have i7 := idx8_7 z0 z1 z2 z3 z4 z5 z6 z7
      go_wp2_with fail
      refine (E0.out _).mono ?_
      rintro e w1 ⟨rfl, hb1⟩
      clear hcx
      go_wp2_with fail
      refine wp_loop_rounds 9 ?_
      rw [rounds_succ]
      go_wp2_with fail
      rw [xor_cast s0 z0 l0 b0]
      have l1 := stp_lt s0 z0
      generalize hs1 : stp s0 z0 = s1 at l1 ⊢
      have G1 := Lib.hid hs1
      clear hs1
      rw [rounds_succ]
      go_wp2_with fail
      rw [xor_cast s1 z1 l1 b1]
      have l2 := stp_lt s1 z1
      generalize hs2 : stp s1 z1 = s2 at l2 ⊢
      have G2 := Lib.hid hs2
      clear hs2
      rw [rounds_succ]
      go_wp2_with fail
      rw [xor_cast s2 z2 l2 b2]
      have l3 := stp_lt s2 z2
      generalize hs3 : stp s2 z2 = s3 at l3 ⊢
      have G3 := Lib.hid hs3
      clear hs3
      rw [rounds_succ]
      go_wp2_with fail
      rw [xor_cast s3 z3 l3 b3]
      have l4 := stp_lt s3 z3
      generalize hs4 : stp s3 z3 = s4 at l4 ⊢
      have G4 := Lib.hid hs4
      clear hs4
      rw [rounds_succ]
      go_wp2_with fail
      rw [xor_cast s4 z4 l4 b4]
      have l5 := stp_lt s4 z4
      generalize hs5 : stp s4 z4 = s5 at l5 ⊢
      have G5 := Lib.hid hs5
      clear hs5
      rw [rounds_succ]
      go_wp2_with fail
      rw [xor_cast s5 z5 l5 b5]
      have l6 := stp_lt s5 z5
      generalize hs6 : stp s5 z5 = s6 at l6 ⊢
      have G6 := Lib.hid hs6
      clear hs6
      rw [rounds_succ]
      go_wp2_with fail
      rw [xor_cast s6 z6 l6 b6]
      have l7 := stp_lt s6 z6
      generalize hs7 : stp s6 z6 = s7 at l7 ⊢
      have G7 := Lib.hid hs7
      clear hs7
      rw [rounds_succ]
      go_wp2_with fail
      rw [xor_cast s7 z7 l7 b7]
      have l8 := stp_lt s7 z7
      generalize hs8 : stp s7 z7 = s8 at l8 ⊢
      have G8 := Lib.hid hs8
      clear hs8
      rw [rounds_succ]
      go_wp2
      go_roundw
      case rel => exact ⟨k + 1, by omega, by go_num, by rw [HT.out, G1.out, G2.out, G3.out, G4.out, G5.out, G6.out, G7.out, G8.out], hnx.trans (hb1.mono hnx.size)⟩
      case measure => simp [intOf]; omega
    · obtain rfl : k = n := by omega
      have hlen := h.len
      have e : ws.take k = ws := List.take_of_length_le (by omega)
      have E := Lib.hid e
      clear e h
      go_wp2
      go_ret2
      exact ⟨ret_tup (a := ((beh s (ws.take k) : Nat) : Int)) (by rw [E.out]), hnx⟩

/-- The first state. -/
theorem of_many (A : Option Addr) (n c : Nat) (ws : List Nat) (w : World) (h : Words w A n c ws) (hn : 2048 < n) :
    Calls Try.prog 81 #[.slice A n c] w fun e w' => e = .returned (.tuple #[.int .u64 0, .int .i64 4]) ∧ w = w' := by
  have C := Lib.hid (next_many 14695981039346656037 A n c ws w h hn)
  clear h hn
  go_enter Try.func81, Try.ntmps81
  go_wp2_with fail
  refine C.out.mono ?_
  rintro e w' ⟨rfl, rfl⟩
  go_wp2
  go_ret2
  exact ⟨rfl, rfl⟩
theorem of_ok (A : Option Addr) (n c : Nat) (ws : List Nat) (w : World) (h : Words w A n c ws) (hn : n ≤ 2048) :
    Calls Try.prog 81 #[.slice A n c] w fun e w' => e = .returned (.tuple #[.int .u64 (beh 14695981039346656037 ws : Nat), .int .i64 0]) ∧ Below w.heap.size w w' := by
  have C := Lib.hid (next_ok 14695981039346656037 A n c ws w h hn (by decide))
  clear h hn
  go_enter Try.func81, Try.ntmps81
  go_wp2_with fail
  refine C.out.mono ?_
  rintro e w' ⟨rfl, hb⟩
  go_wp2
  go_ret2
  exact ⟨rfl, hb⟩
theorem low_many (A : Option Addr) (n c : Nat) (ws : List Nat) (d : Int) (w : World) (h : Words w A n c ws) (hn : 2048 < n) :
    Calls Try.prog 73 #[.slice A n c, .int .i64 d] w fun e w' => e = .returned (.tuple #[.int .u64 0, .int .i64 4]) ∧ w = w' := by
  have C := Lib.hid (of_many A n c ws w h hn)
  clear h hn
  go_enter Try.func73, Try.ntmps73
  go_wp2_with fail
  refine C.out.mono ?_
  rintro e w' ⟨rfl, rfl⟩
  go_wp2
  go_ret2
  exact ⟨rfl, rfl⟩
theorem low_bad (A : Option Addr) (n c : Nat) (ws : List Nat) (d : Int) (w : World) (h : Words w A n c ws) (hn : n ≤ 2048) (hd : -9223372036854775808 ≤ d) (hd2 : d ≤ 9223372036854775807) (hb : d < 8 ∨ 64 < d) :
    Calls Try.prog 73 #[.slice A n c, .int .i64 d] w fun e w' => e = .returned (.tuple #[.int .u64 0, .int .i64 2]) ∧ Below w.heap.size w w' := by
  have C := Lib.hid (of_ok A n c ws w h hn)
  have hlt := beh_lt 14695981039346656037 ws (by decide)
  generalize beh 14695981039346656037 ws = S at C hlt
  clear h hn
  rcases hb with hb | hb
  · go_enter Try.func73, Try.ntmps73
    go_wp2_with fail
    refine C.out.mono ?_
    rintro e w' ⟨rfl, hb⟩
    go_wp2
    go_ret2
    exact ⟨rfl, hb⟩
  · go_enter Try.func73, Try.ntmps73
    go_wp2_with fail
    refine C.out.mono ?_
    rintro e w' ⟨rfl, hb'⟩
    go_wp2_with fail
    refine (get_no S 0 d _ (by omega) (by omega) hd hd2 (by unfold Fld; omega)).mono ?_
    rintro e w'' ⟨rfl, rfl⟩
    go_wp2
    go_ret2
    exact ⟨rfl, hb'⟩
theorem low_ok (A : Option Addr) (n c : Nat) (ws : List Nat) (d : Nat) (w : World) (h : Words w A n c ws) (hn : n ≤ 2048) (hd : 8 ≤ d) (hd2 : d ≤ 64) :
    Calls Try.prog 73 #[.slice A n c, .int .i64 d] w fun e w' => e = .returned (.tuple #[.int .u64 (fld (beh 14695981039346656037 ws) 0 d : Nat), .int .i64 0]) ∧ Below w.heap.size w w' := by
  have C := Lib.hid (of_ok A n c ws w h hn)
  have hlt := beh_lt 14695981039346656037 ws (by decide)
  generalize beh 14695981039346656037 ws = S at C hlt ⊢
  clear h hn
  go_enter Try.func73, Try.ntmps73
  go_wp2_with fail
  refine C.out.mono ?_
  rintro e w' ⟨rfl, hb⟩
  go_wp2_with fail
  refine (get_ok S 0 d _ hlt (by omega) (by omega)).mono ?_
  rintro e w'' ⟨rfl, rfl⟩
  go_wp2
  go_ret2
  exact ⟨rfl, hb⟩

/-! The reference. -/
theorem rstep_cast (s b : Nat) (hs : s < 18446744073709551616) (hb : b < 256) : IntKind.u64.wrap (IntKind.u64.wrap ((s : Int) - (s : Int) % 256 + IntKind.u64.wrap (bits .xor .u8 ((s : Int) % 256) (b : Int))) * 1099511628211) = ((stp s b : Nat) : Int) := by
  have e : ((s % 256 : Nat) : Int) = (s : Int) % 256 := by omega
  have hx := xor_low s b hb
  have l := xor_lt8 (Nat.mod_lt s (show 0 < 256 by decide)) hb
  have l2 := xor_lt64 hs (show b < 18446744073709551616 by omega)
  rw [← e, u8_xor_nat _ _ (Nat.mod_lt _ (by decide)) hb, IntKind.wrap_u64, IntKind.wrap_u64, IntKind.wrap_u64]
  generalize s % 256 ^^^ b = y at hx l
  have hz2 : ((s : Int) - ((s % 256 : Nat) : Int) + (y : Int) % 18446744073709551616) % 18446744073709551616 = ((s ^^^ b : Nat) : Int) := by rw [hx] at l2 ⊢; have := Nat.mod_le s 256; omega
  rw [hz2]
  unfold stp
  omega
theorem rstep_any (s b : Nat) (w : World) (hs : s < 18446744073709551616) (hb : b < 256) :
    Calls Try.prog 95 #[.int .u64 s, .int .u8 b] w fun e w' => e = .returned (.int .u64 (stp s b : Nat)) ∧ w = w' := by
  go_enter Try.func95, Try.ntmps95
  go_wp2
  go_ret
  exact ⟨ret_int (rstep_cast s b hs hb), rfl⟩

set_option maxRecDepth 100000 in
theorem rbehind_any (s : Nat) (A : Option Addr) (n c : Nat) (ws : List Nat) (w : World) (h : Words w A n c ws) (hs : s < 18446744073709551616) :
    Calls Try.prog 91 #[.int .u64 s, .slice A n c] w fun e w' => e = .returned (.int .u64 (beh s ws : Nat)) ∧ Below w.heap.size w w' := by
  have H := Lib.hid h
  have hmost := h.most
  have hcap := h.cap
  go_enter Try.func91, Try.ntmps91
  go_wp2
  go_loopw [0, 5] (fun t i wr => ∃ k : Nat, k ≤ n ∧ i = .int .i64 k ∧ t = .int .u64 (beh s (ws.take k) : Nat) ∧ Below w.heap.size w wr) (fun _ i _ => n - (intOf i).toNat)
  case atStart => exact ⟨0, Nat.zero_le _, rfl, rfl, Below.refl _ _⟩
  case round =>
    obtain ⟨k, hk, rfl, rfl, hnx⟩ := hrel
    by_cases hlt : k < n
    · obtain ⟨b, o, rfl, hbl, hcell⟩ := h.cell (by omega)
      have hlen := h.len
      have hcx : wr.cell? ⟨b, o + k, none⟩ = some (.int .u64 (ws[k]'(by omega) : Nat)) := (hnx.cell (p := ⟨b, o + k, none⟩) hbl).trans (hcell k (by omega))
      have hx := h.lt _ (List.getElem_mem (show k < ws.length by omega))
      have HT := Lib.hid (beh_take s ws k (by omega))
      have l0 := beh_lt s (ws.take k) hs
      generalize hs0 : beh s (ws.take k) = s0 at l0 HT ⊢
      generalize ws[k]'(by omega) = x at hcx hx HT
      clear hs0 hcell h hlen
      have E0 := Lib.hid fun W => rbytes_any x W hx
      unfold bytV at E0
      unfold stw at HT
      have b0 := byt_lt x 0
      have b1 := byt_lt x 1
      have b2 := byt_lt x 2
      have b3 := byt_lt x 3
      have b4 := byt_lt x 4
      have b5 := byt_lt x 5
      have b6 := byt_lt x 6
      have b7 := byt_lt x 7
      generalize byt x 0 = z0 at E0 HT b0
      generalize byt x 1 = z1 at E0 HT b1
      generalize byt x 2 = z2 at E0 HT b2
      generalize byt x 3 = z3 at E0 HT b3
      generalize byt x 4 = z4 at E0 HT b4
      generalize byt x 5 = z5 at E0 HT b5
      generalize byt x 6 = z6 at E0 HT b6
      generalize byt x 7 = z7 at E0 HT b7
      go_wp2_with fail
      refine (E0.out _).mono ?_
      rintro e w1 ⟨rfl, hb1⟩
      clear hcx
      go_wp2_with fail
      refine wp_loop_rounds 9 ?_
      rw [rounds_succ]
      go_wp2_with fail
      refine (rstep_any s0 z0 _ l0 b0).mono ?_
      rintro e w' ⟨rfl, rfl⟩
      have l1 := stp_lt s0 z0
      generalize hs1 : stp s0 z0 = s1 at l1 ⊢
      have G1 := Lib.hid hs1
      clear hs1
      go_wp2_with fail
      rw [rounds_succ]
      go_wp2_with fail
      refine (rstep_any s1 z1 _ l1 b1).mono ?_
      rintro e w' ⟨rfl, rfl⟩
      have l2 := stp_lt s1 z1
      generalize hs2 : stp s1 z1 = s2 at l2 ⊢
      have G2 := Lib.hid hs2
      clear hs2
      go_wp2_with fail
      rw [rounds_succ]
      go_wp2_with fail
      refine (rstep_any s2 z2 _ l2 b2).mono ?_
      rintro e w' ⟨rfl, rfl⟩
      have l3 := stp_lt s2 z2
      generalize hs3 : stp s2 z2 = s3 at l3 ⊢
      have G3 := Lib.hid hs3
      clear hs3
      go_wp2_with fail
      rw [rounds_succ]
      go_wp2_with fail
      refine (rstep_any s3 z3 _ l3 b3).mono ?_
      rintro e w' ⟨rfl, rfl⟩
      have l4 := stp_lt s3 z3
      generalize hs4 : stp s3 z3 = s4 at l4 ⊢
      have G4 := Lib.hid hs4
      clear hs4
      go_wp2_with fail
      rw [rounds_succ]
      go_wp2_with fail
      refine (rstep_any s4 z4 _ l4 b4).mono ?_
      rintro e w' ⟨rfl, rfl⟩
      have l5 := stp_lt s4 z4
      generalize hs5 : stp s4 z4 = s5 at l5 ⊢
      have G5 := Lib.hid hs5
      clear hs5
      go_wp2_with fail
      rw [rounds_succ]
      go_wp2_with fail
      refine (rstep_any s5 z5 _ l5 b5).mono ?_
      rintro e w' ⟨rfl, rfl⟩
      have l6 := stp_lt s5 z5
      generalize hs6 : stp s5 z5 = s6 at l6 ⊢
      have G6 := Lib.hid hs6
      clear hs6
      go_wp2_with fail
      rw [rounds_succ]
      go_wp2_with fail
      refine (rstep_any s6 z6 _ l6 b6).mono ?_
      rintro e w' ⟨rfl, rfl⟩
      have l7 := stp_lt s6 z6
      generalize hs7 : stp s6 z6 = s7 at l7 ⊢
      have G7 := Lib.hid hs7
      clear hs7
      go_wp2_with fail
      rw [rounds_succ]
      go_wp2_with fail
      refine (rstep_any s7 z7 _ l7 b7).mono ?_
      rintro e w' ⟨rfl, rfl⟩
      have l8 := stp_lt s7 z7
      generalize hs8 : stp s7 z7 = s8 at l8 ⊢
      have G8 := Lib.hid hs8
      clear hs8
      go_wp2_with fail
      rw [rounds_succ]
      go_wp2
      go_roundw
      case rel => exact ⟨k + 1, by omega, by go_num, by rw [HT.out, G1.out, G2.out, G3.out, G4.out, G5.out, G6.out, G7.out, G8.out], (hnx.trans (hb1.mono hnx.size)).alloc (Nat.le_trans hnx.size hb1.size) _⟩
      case measure => simp [intOf]; omega
    · obtain rfl : k = n := by omega
      have hlen := h.len
      have e : ws.take k = ws := List.take_of_length_le (by omega)
      have E := Lib.hid e
      clear e h
      go_wp2
      go_ret
      exact ⟨ret_int (by rw [E.out]), hnx⟩

theorem rsum_any (A : Option Addr) (n c : Nat) (ws : List Nat) (w : World) (h : Words w A n c ws) :
    Calls Try.prog 87 #[.slice A n c] w fun e w' => e = .returned (.int .u64 (beh 14695981039346656037 ws : Nat)) ∧ Below w.heap.size w w' := by
  have C := Lib.hid (rbehind_any 14695981039346656037 A n c ws w h (by decide))
  clear h
  go_enter Try.func87, Try.ntmps87
  go_wp2_with fail
  refine C.out.mono ?_
  rintro e w' ⟨rfl, hb⟩
  go_wp2
  go_ret
  exact ⟨rfl, hb⟩
theorem rpart_any (A : Option Addr) (n c : Nat) (ws : List Nat) (d : Nat) (w : World) (h : Words w A n c ws) (hd : d ≤ 64) :
    Calls Try.prog 76 #[.slice A n c, .int .i64 d] w fun e w' => e = .returned (.int .u64 (fld (beh 14695981039346656037 ws) 0 d : Nat)) ∧ Below w.heap.size w w' := by
  have C := Lib.hid (rsum_any A n c ws w h)
  have hlt := beh_lt 14695981039346656037 ws (by decide)
  generalize beh 14695981039346656037 ws = S at C hlt ⊢
  clear h
  go_enter Try.func76, Try.ntmps76
  go_wp2_with fail
  refine C.out.mono ?_
  rintro e w' ⟨rfl, hb⟩
  go_wp2_with fail
  refine (rvalue_any S 0 d _ hlt (by omega)).mono ?_
  rintro e w'' ⟨rfl, rfl⟩
  go_wp2
  go_ret
  exact ⟨rfl, hb⟩
end Go.Proofs.Ytoifalgkeegklaa
