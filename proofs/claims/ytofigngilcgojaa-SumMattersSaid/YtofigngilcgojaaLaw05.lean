/- The laws of package sum, walked (1). -/
import Derived.Test.YtofigngilcgojaaSum
namespace Go.Proofs.Ytofigngilcgojaa
open Go.RowKit

theorem names05a (W : World) : Calls Try.prog 29 #[.slice none 0 0] W fun e w' => e = .returned (.tuple #[.int .u64 14695981039346656037, .int .i64 0]) ∧ Below W.heap.size W w' :=
  of_ok none 0 0 [] W .nil (by decide)
theorem beh97 : beh 14695981039346656037 [97] = 7576763534199239620 := by decide +kernel

theorem names05b (W : World) : Calls Try.prog 20 #[.int .u64 5, .slice none 0 0] W fun e w' => e = .returned (.tuple #[.int .u64 5, .int .i64 0]) ∧ Below W.heap.size W w' :=
  next_ok 5 none 0 0 [] W .nil (by decide) (by decide)
theorem names05c (W : World) (n : Nat) (h : Words W (some ⟨n, 0, none⟩) 1 1 [97]) : Calls Try.prog 20 #[.int .u64 14695981039346656037, .slice (some ⟨n, 0, none⟩) 1 1] W fun e w' => e = .returned (.tuple #[.int .u64 7576763534199239620, .int .i64 0]) ∧ Below W.heap.size W w' := by
  have h := next_ok 14695981039346656037 (some ⟨n, 0, none⟩) 1 1 [97] W h (by decide) (by decide)
  rw [beh97] at h
  exact h

set_option maxRecDepth 100000 in
theorem alive05 (w : World) : Calls Try.prog 21 #[] w fun e w' => e = .returned (.bool true) ∧ Below w.heap.size w w' := by
  have C1 := Lib.hid names05a
  have C2 := Lib.hid names05c
  have C3 := Lib.hid names05b
  have W0 : IntKind.u64.wrap 13895833786518353934924369949156 = 620337896427418084 := by decide
  have W1 : IntKind.u64.wrap 682068730541897137521665967724 = 16560570466610644588 := by decide
  have W2 : IntKind.u64.wrap 18208539797846069841536115272068 = 12430017993500518788 := by decide
  have W3 : IntKind.u64.wrap 13666949322725782628067076328268 = 7920092309931805516 := by decide
  have W4 : IntKind.u64.wrap 8708233591274539529272151011876 = 10239812421428736548 := by decide
  have W5 : IntKind.u64.wrap 11258792828060332628796043555628 = 6667596654200091436 := by decide
  have W6 : IntKind.u64.wrap 7331100053513758466581437100996 = 7576763534199239620 := by decide
  go_enter Try.func21, Try.ntmps21
  go_wp2_with fail
  refine (C1.out _).mono ?_
  rintro e w1 ⟨rfl, hb1⟩
  go_wp2_with fail
  refine (C2.out _ _ (Words.one w1 97 22 (by decide))).mono ?_
  rintro e w2 ⟨rfl, hb2⟩
  have A2 := Lib.hid ((hb1.alloc hb1.size _).trans (hb2.mono (by have := hb1.size; simp; omega)) : Below w.heap.size w w2)
  go_wp2_with fail
  refine wp_loop_rounds 8 ?_
  rw [rounds_succ]
  go_wp2_with fail
  rw [rounds_succ]
  go_wp2_with fail
  rw [rounds_succ]
  go_wp2_with fail
  rw [rounds_succ]
  go_wp2_with fail
  rw [rounds_succ]
  go_wp2_with fail
  rw [rounds_succ]
  go_wp2_with fail
  rw [rounds_succ]
  go_wp2_with fail
  rw [rounds_succ]
  go_wp2_with fail
  refine (C3.out _).mono ?_
  rintro e w3 ⟨rfl, hb3⟩
  go_wp2
  go_ret
  exact ⟨rfl, A2.out.trans (hb3.mono A2.out.size)⟩

theorem byte_and (x k d : Nat) (hx : x < 18446744073709551616) (hd : d = 256 ^ k) : bits .and .u64 ((x : Int) / (d : Int)) ((255 : Nat) : Int) = ((byt x k : Nat) : Int) := by
  have e : ((x / d : Nat) : Int) = (x : Int) / (d : Int) := by simp
  rw [← e, u64_and_nat _ _ (Nat.lt_of_le_of_lt (Nat.div_le_self _ _) hx) (by decide), hd, show 255 = 2 ^ 8 - 1 by decide, Nat.and_two_pow_sub_one_eq_mod]
  rfl
theorem undo_cast (t s b : Nat) (h : stp s b = t) (hs : s < 18446744073709551616) (hb : b < 256) :
    bits .xor .u64 (IntKind.u64.wrap ((t : Int) * 14886173955864302971)) (b : Int) = (s : Int) := by
  have e := stp_undo s b hs hb
  rw [h] at e
  have e2 : IntKind.u64.wrap ((t : Int) * 14886173955864302971) = ((t * 14886173955864302971 % 18446744073709551616 : Nat) : Int) := by
    rw [IntKind.wrap_u64]; omega
  rw [e2, u64_xor_nat _ _ (Nat.mod_lt _ (by decide)) (by omega), e]

set_option maxRecDepth 100000 in
theorem walkSumBack (s x : Nat) (w : World) (hs : s < 18446744073709551616) (hx : x < 18446744073709551616) :
    Calls Try.prog 4 #[.int .u64 s, .int .u64 x] w fun e w' => e = .returned (.bool true) ∧ Below w.heap.size w w' := by
  have C := Lib.hid fun W n (h : Words W (some ⟨n, 0, none⟩) 1 1 [x]) => next_ok s (some ⟨n, 0, none⟩) 1 1 [x] W h (by decide) hs
  have Z0 : bits .and .u64 (x : Int) 255 = ((byt x 0 : Nat) : Int) := by have := byte_and x 0 1 hx (by decide); simpa using this
  have b0 := byt_lt x 0
  have Z1 : bits .and .u64 ((x : Int) / 256) 255 = ((byt x 1 : Nat) : Int) := by have := byte_and x 1 256 hx (by decide); simpa using this
  have b1 := byt_lt x 1
  have Z2 : bits .and .u64 ((x : Int) / 65536) 255 = ((byt x 2 : Nat) : Int) := by have := byte_and x 2 65536 hx (by decide); simpa using this
  have b2 := byt_lt x 2
  have Z3 : bits .and .u64 ((x : Int) / 16777216) 255 = ((byt x 3 : Nat) : Int) := by have := byte_and x 3 16777216 hx (by decide); simpa using this
  have b3 := byt_lt x 3
  have Z4 : bits .and .u64 ((x : Int) / 4294967296) 255 = ((byt x 4 : Nat) : Int) := by have := byte_and x 4 4294967296 hx (by decide); simpa using this
  have b4 := byt_lt x 4
  have Z5 : bits .and .u64 ((x : Int) / 1099511627776) 255 = ((byt x 5 : Nat) : Int) := by have := byte_and x 5 1099511627776 hx (by decide); simpa using this
  have b5 := byt_lt x 5
  have Z6 : bits .and .u64 ((x : Int) / 281474976710656) 255 = ((byt x 6 : Nat) : Int) := by have := byte_and x 6 281474976710656 hx (by decide); simpa using this
  have b6 := byt_lt x 6
  have Z7 : bits .and .u64 ((x : Int) / 72057594037927936) 255 = ((byt x 7 : Nat) : Int) := by have := byte_and x 7 72057594037927936 hx (by decide); simpa using this
  have b7 := byt_lt x 7
  have hT : beh s [x] = stw s x := by unfold beh; rw [List.foldl_cons, List.foldl_nil]
  unfold stw at hT
  generalize byt x 0 = z0 at Z0 b0 hT
  generalize byt x 1 = z1 at Z1 b1 hT
  generalize byt x 2 = z2 at Z2 b2 hT
  generalize byt x 3 = z3 at Z3 b3 hT
  generalize byt x 4 = z4 at Z4 b4 hT
  generalize byt x 5 = z5 at Z5 b5 hT
  generalize byt x 6 = z6 at Z6 b6 hT
  generalize byt x 7 = z7 at Z7 b7 hT
  have l1 := stp_lt s z0
  generalize h1 : stp s z0 = s1 at hT l1
  have U1 := Lib.hid (undo_cast s1 s z0 h1 hs b0)
  clear h1
  have l2 := stp_lt s1 z1
  generalize h2 : stp s1 z1 = s2 at hT l2
  have U2 := Lib.hid (undo_cast s2 s1 z1 h2 l1 b1)
  clear h2
  have l3 := stp_lt s2 z2
  generalize h3 : stp s2 z2 = s3 at hT l3
  have U3 := Lib.hid (undo_cast s3 s2 z2 h3 l2 b2)
  clear h3
  have l4 := stp_lt s3 z3
  generalize h4 : stp s3 z3 = s4 at hT l4
  have U4 := Lib.hid (undo_cast s4 s3 z3 h4 l3 b3)
  clear h4
  have l5 := stp_lt s4 z4
  generalize h5 : stp s4 z4 = s5 at hT l5
  have U5 := Lib.hid (undo_cast s5 s4 z4 h5 l4 b4)
  clear h5
  have l6 := stp_lt s5 z5
  generalize h6 : stp s5 z5 = s6 at hT l6
  have U6 := Lib.hid (undo_cast s6 s5 z5 h6 l5 b5)
  clear h6
  have l7 := stp_lt s6 z6
  generalize h7 : stp s6 z6 = s7 at hT l7
  have U7 := Lib.hid (undo_cast s7 s6 z6 h7 l6 b6)
  clear h7
  have l8 := stp_lt s7 z7
  generalize h8 : stp s7 z7 = s8 at hT l8
  have U8 := Lib.hid (undo_cast s8 s7 z7 h8 l7 b7)
  clear h8
  rw [hT] at C
  have Y0 := Lib.hid Z0
  clear Z0 b0 l1
  have Y1 := Lib.hid Z1
  clear Z1 b1 l2
  have Y2 := Lib.hid Z2
  clear Z2 b2 l3
  have Y3 := Lib.hid Z3
  clear Z3 b3 l4
  have Y4 := Lib.hid Z4
  clear Z4 b4 l5
  have Y5 := Lib.hid Z5
  clear Z5 b5 l6
  have Y6 := Lib.hid Z6
  clear Z6 b6 l7
  have Y7 := Lib.hid Z7
  clear Z7 b7 l8
  clear hT
  go_enter Try.func4, Try.ntmps4
  go_wp2_with fail
  refine (C.out _ _ (Words.one w x 22 hx)).mono ?_
  rintro e w1 ⟨rfl, hb1⟩
  have A1 := Lib.hid (((Below.refl _ _).alloc (Nat.le_refl _) _).trans (hb1.mono (by simp)) : Below w.heap.size w w1)
  go_wp2_with fail
  refine wp_loop_rounds 9 ?_
  rw [rounds_succ]
  go_wp2_with fail
  rw [Y7.out, U8.out]
  rw [rounds_succ]
  go_wp2_with fail
  rw [Y6.out, U7.out]
  rw [rounds_succ]
  go_wp2_with fail
  rw [Y5.out, U6.out]
  rw [rounds_succ]
  go_wp2_with fail
  rw [Y4.out, U5.out]
  rw [rounds_succ]
  go_wp2_with fail
  rw [Y3.out, U4.out]
  rw [rounds_succ]
  go_wp2_with fail
  rw [Y2.out, U3.out]
  rw [rounds_succ]
  go_wp2_with fail
  rw [Y1.out, U2.out]
  rw [rounds_succ]
  go_wp2_with fail
  rw [Y0.out, U1.out]
  rw [rounds_succ]
  go_wp2_with fail
  refine (alive05 _).mono ?_
  rintro e w2 ⟨rfl, hb2⟩
  go_wp2
  go_ret
  exact ⟨rfl, A1.out.trans (hb2.mono A1.out.size)⟩
end Go.Proofs.Ytofigngilcgojaa
