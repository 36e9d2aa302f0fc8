/- Plain facts on the sum: a byte changed changes every low part. No program in sight. -/
import Derived.Test.YtoifalgkeegklaaWordPlain
namespace Go.Proofs.Ytoifalgkeegklaa

theorem byt_xor (u c a i : Nat) (ha : a < 8) (hc : c < 256) : byt (u ^^^ c * 256 ^ a) i = byt u i ^^^ (if i = a then c else 0) := by
  unfold byt
  have p : ∀ n : Nat, (256 : Nat) ^ n = 2 ^ (8 * n) := fun n => by rw [Nat.pow_mul]
  rw [p, p, ← Nat.shiftRight_eq_div_pow, ← Nat.shiftRight_eq_div_pow, ← Nat.shiftLeft_eq]
  apply Nat.eq_of_testBit_eq; intro j
  rw [show (256 : Nat) = 2 ^ 8 by decide]
  simp only [Nat.testBit_mod_two_pow, Nat.testBit_xor, Nat.testBit_shiftRight, Nat.testBit_shiftLeft]
  by_cases hj : j < 8
  · by_cases hi : i = a
    · subst hi
      rw [if_pos rfl]
      have e : 8 * i + j - 8 * i = j := by omega
      simp [hj, e]
    · rw [if_neg hi]
      by_cases h : 8 * a ≤ 8 * i + j
      · have : c.testBit (8 * i + j - 8 * a) = false := Nat.testBit_lt_two_pow (Nat.lt_of_lt_of_le hc (by rw [show (256 : Nat) = 2 ^ 8 by decide]; exact Nat.pow_le_pow_right (by decide) (by omega)))
        simp [this]
      · simp [h]
  · have h0 : (if i = a then c else 0).testBit j = false := by
      split
      · exact Nat.testBit_lt_two_pow (Nat.lt_of_lt_of_le hc (by rw [show (256 : Nat) = 2 ^ 8 by decide]; exact Nat.pow_le_pow_right (by decide) (by omega)))
      · simp
    simp [hj, h0]

theorem xor_ne {a c : Nat} (h : c ≠ 0) : a ^^^ c ≠ a := fun e => by
  have := congrArg (a ^^^ ·) e
  simp [← Nat.xor_assoc] at this
  exact h this

/-- Words that differ in one byte alone leave states whose low parts differ. -/
theorem stw_byte (s u c a k : Nat) (h : k ≤ 64) (h8 : 8 ≤ k) (ha : a < 8) (hc : c < 256) (h0 : c ≠ 0) : stw s u % 2 ^ k ≠ stw s (u ^^^ c * 256 ^ a) % 2 ^ k := by
  intro e
  have hb := byt_lt
  have hx : byt u a ^^^ c < 256 := xor_lt8 (hb u a) hc
  have hn : byt u a ≠ byt u a ^^^ c := fun e => xor_ne h0 e.symm
  unfold stw at e
  simp only [byt_xor u c a _ ha hc] at e
  have ca : a = 0 ∨ a = 1 ∨ a = 2 ∨ a = 3 ∨ a = 4 ∨ a = 5 ∨ a = 6 ∨ a = 7 := by omega
  rcases ca with rfl | rfl | rfl | rfl | rfl | rfl | rfl | rfl <;> simp at e
  · exact hn (stp_byte _ _ _ k h h8 (hb _ _) hx (stp_inj _ _ _ _ h (stp_inj _ _ _ _ h (stp_inj _ _ _ _ h (stp_inj _ _ _ _ h (stp_inj _ _ _ _ h (stp_inj _ _ _ _ h (stp_inj _ _ _ _ h e))))))))
  · exact hn (stp_byte _ _ _ k h h8 (hb _ _) hx (stp_inj _ _ _ _ h (stp_inj _ _ _ _ h (stp_inj _ _ _ _ h (stp_inj _ _ _ _ h (stp_inj _ _ _ _ h (stp_inj _ _ _ _ h e)))))))
  · exact hn (stp_byte _ _ _ k h h8 (hb _ _) hx (stp_inj _ _ _ _ h (stp_inj _ _ _ _ h (stp_inj _ _ _ _ h (stp_inj _ _ _ _ h (stp_inj _ _ _ _ h e))))))
  · exact hn (stp_byte _ _ _ k h h8 (hb _ _) hx (stp_inj _ _ _ _ h (stp_inj _ _ _ _ h (stp_inj _ _ _ _ h (stp_inj _ _ _ _ h e)))))
  · exact hn (stp_byte _ _ _ k h h8 (hb _ _) hx (stp_inj _ _ _ _ h (stp_inj _ _ _ _ h (stp_inj _ _ _ _ h e))))
  · exact hn (stp_byte _ _ _ k h h8 (hb _ _) hx (stp_inj _ _ _ _ h (stp_inj _ _ _ _ h e)))
  · exact hn (stp_byte _ _ _ k h h8 (hb _ _) hx (stp_inj _ _ _ _ h e))
  · exact hn (stp_byte _ _ _ k h h8 (hb _ _) hx e)

/-- The same, with words before and behind. -/
theorem beh_byte (l m : List Nat) (s u c a k : Nat) (h : k ≤ 64) (h8 : 8 ≤ k) (ha : a < 8) (hc : c < 256) (h0 : c ≠ 0) :
    beh s (l ++ u :: m) % 2 ^ k ≠ beh s (l ++ (u ^^^ c * 256 ^ a) :: m) % 2 ^ k := by
  intro e
  rw [beh_append, beh_append] at e
  have e2 := beh_inj m (stw (beh s l) u) (stw (beh s l) (u ^^^ c * 256 ^ a)) k h e
  exact stw_byte _ _ _ _ _ h h8 ha hc h0 e2
end Go.Proofs.Ytoifalgkeegklaa
