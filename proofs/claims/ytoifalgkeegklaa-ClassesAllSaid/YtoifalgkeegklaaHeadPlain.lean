/- Blocks and their first words. No program in sight. -/
import Derived.Test.YtoifalgkeegklaaSumPlain
namespace Go.Proofs.Ytoifalgkeegklaa

/-- A block, as the program's struct has it. -/
structure Blk where
  at_ : Int
  size : Int
  kind : Int
  typ : Int
  mark : Bool
  next : Nat

theorem Blk.eq {b c : Blk} (h1 : b.at_ = c.at_) (h2 : b.size = c.size) (h3 : b.kind = c.kind) (h4 : b.typ = c.typ) (h5 : b.mark = c.mark) (h6 : b.next = c.next) : b = c := by
  cases b; cases c; simp_all

/-- The zero block. -/
def zeroB : Blk := ⟨0, 0, 0, 0, false, 0⟩
/-- A valid block. -/
def Blk.good (b : Blk) : Prop := 2 ≤ b.size ∧ b.size % 2 = 0 ∧ ((b.kind = 1 ∧ 0 ≤ b.typ ∧ b.typ < 8 ∧ b.size ≤ 10) ∨ (b.kind = 2 ∧ b.typ = 0 ∧ b.mark = false ∧ b.size ≤ 1920))
instance (b : Blk) : Decidable b.good := by unfold Blk.good; exact inferInstance
def mk01 (m : Bool) : Nat := if m then 1 else 0
theorem mk01_lt (m : Bool) : mk01 m < 2 := by cases m <;> decide
/-- The lower half of a first word. -/
def lowN (kind typ size : Nat) (mark : Bool) : Nat := kind + mk01 mark * 256 + typ * 512 + size * 65536
def Blk.low (b : Blk) : Nat := lowN b.kind.toNat b.typ.toNat b.size.toNat b.mark
/-- The low part of the sum of one word. -/
def hsh (x : Nat) : Nat := beh 14695981039346656037 [x] % 4294967296
/-- The first word. -/
def Blk.hdr (b : Blk) : Nat := b.low + hsh b.low * 4294967296
/-- What a word says. -/
def dec (w : Nat) : Blk := { at_ := 0, size := (w / 65536 % 65536 : Nat), kind := (w % 256 : Nat), typ := (w / 512 % 128 : Nat), mark := w / 256 % 2 == 1, next := 0 }
/-- The block with a first word. -/
def split (w : Nat) : Option Blk := if (dec w).good ∧ (dec w).hdr = w then some (dec w) else none

theorem hsh_lt (x : Nat) : hsh x < 4294967296 := Nat.mod_lt _ (by decide)
theorem low_lt {b : Blk} (h : b.good) : b.low < 4294967296 := by
  obtain ⟨h1, h2, h3⟩ := h
  have := mk01_lt b.mark
  unfold Blk.low lowN
  omega
theorem hdr_lt {b : Blk} (h : b.good) : b.hdr < 18446744073709551616 := by
  have := low_lt h
  have := hsh_lt b.low
  unfold Blk.hdr; omega
theorem mk01_eq (m : Bool) : (mk01 m == 1) = m := by cases m <;> rfl

/-- What is written is read as it. -/
theorem dec_hdr {b : Blk} (h : b.good) : dec b.hdr = { b with at_ := 0, next := 0 } := by
  have hh := hsh_lt b.low
  obtain ⟨h1, h2, h3⟩ := h
  have hm := mk01_lt b.mark
  have k : b.kind.toNat < 256 ∧ b.typ.toNat < 128 ∧ b.size.toNat < 65536 := by omega
  obtain ⟨k1, k2, k3⟩ := k
  have e : b.hdr % 256 = b.kind.toNat ∧ b.hdr / 256 % 2 = mk01 b.mark ∧ b.hdr / 512 % 128 = b.typ.toNat ∧ b.hdr / 65536 % 65536 = b.size.toNat := by
    unfold Blk.hdr Blk.low lowN at *
    omega
  obtain ⟨e1, e2, e3, e4⟩ := e
  apply Blk.eq
  · rfl
  · show ((b.hdr / 65536 % 65536 : Nat) : Int) = b.size
    rw [e4]; omega
  · show ((b.hdr % 256 : Nat) : Int) = b.kind
    rw [e1]; omega
  · show ((b.hdr / 512 % 128 : Nat) : Int) = b.typ
    rw [e3]; omega
  · show (b.hdr / 256 % 2 == 1) = b.mark
    rw [e2, mk01_eq]
  · rfl

theorem good_plain {b : Blk} (h : b.good) (a : Int) (n : Nat) : Blk.good { b with at_ := a, next := n } := h
theorem hdr_plain (b : Blk) (a : Int) (n : Nat) : Blk.hdr { b with at_ := a, next := n } = b.hdr := rfl
theorem split_hdr {b : Blk} (h : b.good) : split b.hdr = some { b with at_ := 0, next := 0 } := by
  unfold split
  rw [dec_hdr h, if_pos ⟨h, rfl⟩]
theorem split_some {w : Nat} {b : Blk} (h : split w = some b) : b.good ∧ b.hdr = w ∧ b.at_ = 0 ∧ b.next = 0 ∧ b = dec w := by
  unfold split at h
  split at h
  · injection h with h
    subst h
    rename_i h
    exact ⟨h.1, h.2, rfl, rfl, rfl⟩
  · cases h
/-- Blocks with one first word are one, but for At and Next. -/
theorem hdr_inj {b c : Blk} (hb : b.good) (hc : c.good) (e : b.hdr = c.hdr) : ({ b with at_ := 0, next := 0 } : Blk) = { c with at_ := 0, next := 0 } := by
  rw [← dec_hdr hb, ← dec_hdr hc, e]

theorem dec_mod (w : Nat) : dec w = dec (w % 4294967296) := by
  apply Blk.eq
  · rfl
  · show ((w / 65536 % 65536 : Nat) : Int) = ((w % 4294967296 / 65536 % 65536 : Nat) : Int); congr 1; omega
  · show ((w % 256 : Nat) : Int) = ((w % 4294967296 % 256 : Nat) : Int); congr 1; omega
  · show ((w / 512 % 128 : Nat) : Int) = ((w % 4294967296 / 512 % 128 : Nat) : Int); congr 1; omega
  · show (w / 256 % 2 == 1) = (w % 4294967296 / 256 % 2 == 1)
    have : w / 256 % 2 = w % 4294967296 / 256 % 2 := by omega
    rw [this]
  · rfl

theorem two32 : (2 : Nat) ^ 32 = 4294967296 := by decide

theorem hdr_parts {b : Blk} (h : b.low < 4294967296) : b.hdr % 4294967296 = b.low ∧ b.hdr / 4294967296 = hsh b.low := by
  unfold Blk.hdr; omega

/-- A first word that is spoilt in one byte is that of no block. -/
theorem split_spoilt {b : Blk} (h : b.good) {a c : Nat} (ha : a < 8) (hc : c < 256) (h0 : c ≠ 0) : split (b.hdr ^^^ c * 256 ^ a) = none := by
  have hlow := low_lt h
  have em : b.hdr % 4294967296 = b.low := by unfold Blk.hdr; omega
  have ed : b.hdr / 4294967296 = hsh b.low := by unfold Blk.hdr; omega
  have hne : b.hdr ^^^ c * 256 ^ a ≠ b.hdr := xor_ne (by have := Nat.pow_pos (n := a) (show 0 < 256 by decide); have := Nat.mul_pos (Nat.pos_of_ne_zero h0) this; omega)
  unfold split
  rw [if_neg]
  rintro ⟨hg, he⟩
  have hl2 := low_lt hg
  have em2 := (hdr_parts hl2).1
  have ed2 := (hdr_parts hl2).2
  rw [he] at em2 ed2
  by_cases h4 : a < 4
  · -- the lower half is changed: its sum differs, but stands as it was
    have hx : (b.hdr ^^^ c * 256 ^ a) % 4294967296 = b.low ^^^ c * 256 ^ a := by
      have hs : c * 256 ^ a < 4294967296 := by
        have : 256 ^ a ≤ 256 ^ 3 := Nat.pow_le_pow_right (by decide) (by omega)
        calc c * 256 ^ a ≤ 255 * 256 ^ 3 := Nat.mul_le_mul (by omega) this
          _ < 4294967296 := by decide
      rw [← two32, mod_xor, two32, em, Nat.mod_eq_of_lt hs]
    have hd : (b.hdr ^^^ c * 256 ^ a) / 4294967296 = hsh b.low := by
      have hs : c * 256 ^ a / 4294967296 = 0 := by
        apply Nat.div_eq_of_lt
        have : 256 ^ a ≤ 256 ^ 3 := Nat.pow_le_pow_right (by decide) (by omega)
        calc c * 256 ^ a ≤ 255 * 256 ^ 3 := Nat.mul_le_mul (by omega) this
          _ < 4294967296 := by decide
      rw [← two32, ← Nat.shiftRight_eq_div_pow, Nat.shiftRight_xor_distrib, Nat.shiftRight_eq_div_pow, Nat.shiftRight_eq_div_pow, two32, hs, Nat.xor_zero, ed]
    rw [hx] at em2
    rw [hd, ← em2] at ed2
    unfold hsh at ed2
    rw [← two32] at ed2
    exact beh_byte [] [] _ b.low c a 32 (by decide) (by decide) ha hc h0 ed2
  · -- the upper half is changed, the lower one not
    have hx : (b.hdr ^^^ c * 256 ^ a) % 4294967296 = b.low := by
      have hs : c * 256 ^ a % 4294967296 = 0 := by
        have : 256 ^ a = 4294967296 * 256 ^ (a - 4) := by
          rw [show (4294967296 : Nat) = 256 ^ 4 by decide, ← Nat.pow_add]; congr 1; omega
        rw [this, Nat.mul_left_comm, Nat.mul_mod_right]
      rw [← two32, mod_xor, two32, em, hs, Nat.xor_zero]
    have hd : dec (b.hdr ^^^ c * 256 ^ a) = dec b.hdr := by rw [dec_mod, hx, dec_mod b.hdr, em]
    rw [hd, dec_hdr h] at he
    exact hne he.symm
end Go.Proofs.Ytoifalgkeegklaa
