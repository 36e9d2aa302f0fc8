/- The heap, header by header. No program in sight. -/
import Derived.Test.YtoifalgkeegklaaHeadPlain
namespace Go.Proofs.Ytoifalgkeegklaa

/-- The block that stands at an address. -/
def stands (ws : List Nat) (a : Nat) : Option Blk :=
  match split (ws.getD a 0) with
  | none => none
  | some b => if (ws.length : Int) - a < b.size then none else some { b with at_ := a, next := ws.getD (a + 1) 0 }

def parseF (ws : List Nat) : Nat → Nat → Option (List Blk)
  | 0, _ => none
  | f + 1, a => if ws.length ≤ a then some [] else match stands ws a with
    | none => none
    | some b => (parseF ws f (a + b.size.toNat)).map (b :: ·)
/-- The blocks from an address on. -/
def parse (ws : List Nat) (a : Nat) : Option (List Blk) := parseF ws (ws.length + 1) a

theorem stands_some {ws : List Nat} {a : Nat} {b : Blk} (h : stands ws a = some b) :
    b.good ∧ b.hdr = ws.getD a 0 ∧ b.at_ = a ∧ b.next = ws.getD (a + 1) 0 ∧ b.size ≤ (ws.length : Int) - a ∧ split (ws.getD a 0) = some { b with at_ := 0, next := 0 } := by
  unfold stands at h
  cases hs : split (ws.getD a 0) with
  | none => rw [hs] at h; cases h
  | some c =>
    rw [hs] at h
    obtain ⟨h1, h2, h3, h4, _⟩ := split_some hs
    simp only at h
    split at h
    · cases h
    · injection h with h
      subst h
      refine ⟨h1, h2, rfl, rfl, by simp only; omega, ?_⟩
      congr 1
      exact Blk.eq h3 rfl rfl rfl rfl h4

theorem good_size {b : Blk} (h : b.good) : 2 ≤ b.size ∧ b.size % 2 = 0 ∧ b.size ≤ 1920 := by
  obtain ⟨h1, h2, h3⟩ := h
  omega

theorem parseF_more (ws : List Nat) : ∀ (f g a : Nat), 1 ≤ f → 1 ≤ g → ws.length < a + f → ws.length < a + g → parseF ws f a = parseF ws g a
  | 0, _, _, h, _, _, _ => absurd h (by omega)
  | _ + 1, 0, _, _, h, _, _ => absurd h (by omega)
  | f + 1, g + 1, a, _, _, hf, hg => by
    unfold parseF
    by_cases hl : ws.length ≤ a
    · rw [if_pos hl, if_pos hl]
    · rw [if_neg hl, if_neg hl]
      cases hs : stands ws a with
      | none => rfl
      | some b =>
        have := good_size (stands_some hs).1
        simp only
        rw [parseF_more ws f g (a + b.size.toNat) (by omega) (by omega) (by omega) (by omega)]

theorem parse_end {ws : List Nat} {a : Nat} (h : ws.length ≤ a) : parse ws a = some [] := by
  unfold parse parseF; rw [if_pos h]
theorem parse_none {ws : List Nat} {a : Nat} (h : a < ws.length) (hs : stands ws a = none) : parse ws a = none := by
  unfold parse parseF; rw [if_neg (by omega), hs]
theorem parse_step {ws : List Nat} {a : Nat} {b : Blk} (h : a < ws.length) (hs : stands ws a = some b) : parse ws a = (parse ws (a + b.size.toNat)).map (b :: ·) := by
  have := good_size (stands_some hs).1
  unfold parse
  conv => lhs; unfold parseF
  rw [if_neg (by omega), hs]
  simp only
  rw [parseF_more ws ws.length (ws.length + 1) _ (by omega) (by omega) (by omega) (by omega)]

/-- The blocks stand one behind the other. -/
def Chain (ws : List Nat) : Nat → List Blk → Prop
  | a, [] => a = ws.length
  | a, b :: l => a < ws.length ∧ stands ws a = some b ∧ Chain ws (a + b.size.toNat) l

theorem chain_of_parse (ws : List Nat) : ∀ (l : List Blk) (a : Nat), a ≤ ws.length → parse ws a = some l → Chain ws a l := by
  intro l
  induction l with
  | nil =>
    intro a ha h
    rcases Nat.lt_or_ge a ws.length with hl | hl
    · cases hs : stands ws a with
      | none => rw [parse_none hl hs] at h; cases h
      | some b => rw [parse_step hl hs] at h; cases hp : parse ws (a + b.size.toNat) <;> rw [hp] at h <;> cases h
    · exact Nat.le_antisymm ha hl
  | cons b l ih =>
    intro a ha h
    rcases Nat.lt_or_ge a ws.length with hl | hl
    · cases hs : stands ws a with
      | none => rw [parse_none hl hs] at h; cases h
      | some c =>
        rw [parse_step hl hs] at h
        cases hp : parse ws (a + c.size.toNat) with
        | none => rw [hp] at h; cases h
        | some m =>
          rw [hp] at h
          injection h with h
          injection h with h1 h2
          subst h1; subst h2
          have := (stands_some hs).2.2.2.2.1
          have := good_size (stands_some hs).1
          exact ⟨hl, hs, ih _ (by omega) hp⟩
    · rw [parse_end hl] at h; cases h
theorem parse_of_chain (ws : List Nat) : ∀ (l : List Blk) (a : Nat), Chain ws a l → parse ws a = some l := by
  intro l
  induction l with
  | nil => intro a h; exact parse_end (by rw [show a = ws.length from h]; exact Nat.le_refl _)
  | cons b l ih => rintro a ⟨h1, h2, h3⟩; rw [parse_step h1 h2, ih _ h3]; rfl

/-- The place of the block with an index. -/
def posn (a : Nat) : List Blk → Nat → Nat
  | [], _ => a
  | _ :: _, 0 => a
  | b :: l, i + 1 => posn (a + b.size.toNat) l i
theorem posn_zero (a : Nat) (l : List Blk) : posn a l 0 = a := by cases l <;> rfl
theorem chain_at {ws : List Nat} : ∀ {l : List Blk} {a i : Nat}, Chain ws a l → (h : i < l.length) → stands ws (posn a l i) = some l[i] ∧ posn a l i < ws.length ∧ posn a l (i + 1) = posn a l i + l[i].size.toNat ∧ a ≤ posn a l i
  | [], _, _, _, h => absurd h (by simp)
  | _ :: _, _, 0, hc, _ => ⟨hc.2.1, hc.1, posn_zero _ _, Nat.le_refl _⟩
  | b :: l, a, i + 1, hc, h => by
    have h' : i < l.length := by simpa using h
    obtain ⟨h1, h2, h3, h4⟩ := chain_at hc.2.2 h'
    exact ⟨h1, h2, h3, by show a ≤ posn (a + b.size.toNat) l i; omega⟩
theorem chain_end {ws : List Nat} : ∀ {l : List Blk} {a : Nat}, Chain ws a l → posn a l l.length = ws.length
  | [], _, h => h
  | _ :: l, _, h => chain_end (l := l) h.2.2
theorem chain_le {ws : List Nat} : ∀ {l : List Blk} {a : Nat}, Chain ws a l → a + 2 * l.length ≤ ws.length
  | [], a, h => by rw [show a = ws.length from h]; exact Nat.le_refl _
  | b :: l, a, h => by
    have := chain_le (l := l) h.2.2
    have := good_size (stands_some h.2.1).1
    simp only [List.length_cons]; omega
theorem chain_mem {ws : List Nat} {l : List Blk} {a : Nat} (h : Chain ws a l) {b : Blk} (hb : b ∈ l) : stands ws b.at_.toNat = some b ∧ b.good ∧ (a : Int) ≤ b.at_ ∧ b.at_ + b.size ≤ ws.length := by
  obtain ⟨i, hi, rfl⟩ := List.getElem_of_mem hb
  obtain ⟨h1, h2, h3, h4⟩ := chain_at h hi
  obtain ⟨g, _, e, _, s, _⟩ := stands_some h1
  rw [e]
  exact ⟨h1, g, by omega, by omega⟩
/-- The place of a block is its address. -/
theorem chain_posn {ws : List Nat} {l : List Blk} {a i : Nat} (h : Chain ws a l) (hi : i < l.length) : l[i].at_ = (posn a l i : Nat) := (stands_some (chain_at h hi).1).2.2.1

/-- What From has found at an address, if it stands behind these. -/
def Sofar (ws : List Nat) (a p : Nat) (done : List Blk) : Prop := p ≤ ws.length ∧ parse ws a = (parse ws p).map (done ++ ·) ∧ a + 2 * done.length ≤ p
theorem sofar_zero {ws : List Nat} {a : Nat} (h : a ≤ ws.length) : Sofar ws a a [] := ⟨h, by cases parse ws a <;> rfl, by simp⟩
theorem sofar_step {ws : List Nat} {a p : Nat} {done : List Blk} {b : Blk} (h : Sofar ws a p done) (hp : p < ws.length) (hs : stands ws p = some b) : Sofar ws a (p + b.size.toNat) (done ++ [b]) := by
  obtain ⟨h1, h2, h3⟩ := h
  have := (stands_some hs).2.2.2.2.1
  have := good_size (stands_some hs).1
  refine ⟨by omega, ?_, by simp; omega⟩
  rw [h2, parse_step hp hs]
  cases parse ws (p + b.size.toNat) <;> simp
theorem sofar_none {ws : List Nat} {a p : Nat} {done : List Blk} (h : Sofar ws a p done) (hp : p < ws.length) (hs : stands ws p = none) : parse ws a = none := by
  rw [h.2.1, parse_none hp hs]; rfl
theorem sofar_end {ws : List Nat} {a p : Nat} {done : List Blk} (h : Sofar ws a p done) (hp : ws.length ≤ p) : parse ws a = some done := by
  rw [h.2.1, parse_end hp]; simp

/-- The kind of the block with an index. -/
def kindAt (l : List Blk) (i : Nat) : Int := (l.getD i zeroB).kind
/-- Two free extents side by side, among the first ones. -/
def sideF (l : List Blk) : Nat → Bool
  | 0 => false
  | i + 1 => sideF l i || (decide (0 < i) && (kindAt l (i - 1) == 2 && kindAt l i == 2))
def side (l : List Blk) : Bool := sideF l l.length
theorem kindAt_get {l : List Blk} {i : Nat} (h : i < l.length) : kindAt l i = l[i].kind := by unfold kindAt; simp [List.getD, h]

theorem sideF_mono (l : List Blk) : ∀ (j i : Nat), i ≤ j → sideF l i = true → sideF l j = true
  | 0, i, h, hs => by obtain rfl : i = 0 := by omega
                      exact hs
  | j + 1, i, h, hs => by
    rcases Nat.lt_or_ge i (j + 1) with hl | hl
    · unfold sideF; rw [sideF_mono l j i (by omega) hs]; rfl
    · obtain rfl : i = j + 1 := by omega
      exact hs
theorem side_of {l : List Blk} {i : Nat} (h : i ≤ l.length) (hs : sideF l i = true) : side l = true := sideF_mono l _ _ h hs
theorem sideF_one (l : List Blk) : sideF l 1 = false := by simp [sideF]
theorem sideF_step (l : List Blk) (j : Nat) (h : j + 1 < l.length) : sideF l (j + 2) = (sideF l (j + 1) || (l[j].kind == 2 && l[j + 1].kind == 2)) := by
  conv => lhs; unfold sideF
  rw [show j + 1 - 1 = j by omega, kindAt_get (show j < l.length by omega), kindAt_get h]
  simp
/-- A number of words that is one of an image. -/
def imgOk (n : Nat) : Prop := 256 ≤ n ∧ n ≤ 2048 ∧ n % 8 = 0
instance (n : Nat) : Decidable (imgOk n) := by unfold imgOk; exact inferInstance
/-- The blocks of a heap that is parsable. -/
def heap (ws : List Nat) : Option (List Blk) := match parse ws 128 with
  | none => none
  | some l => if side l then none else some l
/-- What From returns. -/
def fromR (ws : List Nat) (a : Int) : List Blk × Int :=
  if ¬ imgOk ws.length then ([], 8) else if a < 128 ∨ (ws.length : Int) < a ∨ a % 2 ≠ 0 then ([], 2) else match parse ws a.toNat with
    | none => ([], 50)
    | some l => (l, 0)
/-- What All returns. -/
def allR (ws : List Nat) : List Blk × Int := if ¬ imgOk ws.length then ([], 8) else match heap ws with
  | none => ([], 50)
  | some l => (l, 0)
/-- The block of a list that begins at an address. -/
def findL (l : List Blk) (a : Int) : Option Blk := l.find? (fun b => b.at_ == a)
/-- What Find returns. -/
def findR (ws : List Nat) (a : Int) : Blk × Int := if (allR ws).2 ≠ 0 then (zeroB, (allR ws).2) else match findL (allR ws).1 a with
  | none => (zeroB, 6)
  | some b => (b, 0)

theorem heap_some {ws : List Nat} {l : List Blk} (h : heap ws = some l) : parse ws 128 = some l ∧ side l = false := by
  unfold heap at h
  cases hp : parse ws 128 with
  | none => rw [hp] at h; cases h
  | some m =>
    rw [hp] at h
    simp only at h
    split at h
    · cases h
    · injection h with h; subst h; exact ⟨rfl, by simpa using ‹¬ side m = true›⟩
theorem allR_cases (ws : List Nat) : (¬ imgOk ws.length ∧ allR ws = ([], 8)) ∨ (imgOk ws.length ∧ parse ws 128 = none ∧ allR ws = ([], 50)) ∨
    (∃ l, imgOk ws.length ∧ parse ws 128 = some l ∧ side l = true ∧ allR ws = ([], 50)) ∨ (∃ l, imgOk ws.length ∧ parse ws 128 = some l ∧ side l = false ∧ Chain ws 128 l ∧ heap ws = some l ∧ allR ws = (l, 0)) := by
  unfold allR
  by_cases h : imgOk ws.length
  · refine .inr ?_
    rw [if_neg (by simpa using h)]
    unfold heap
    cases hp : parse ws 128 with
    | none => exact .inl ⟨h, rfl, rfl⟩
    | some l =>
      cases hs : side l with
      | true => exact .inr (.inl ⟨l, h, rfl, hs, by simp [hs]⟩)
      | false => exact .inr (.inr ⟨l, h, rfl, hs, chain_of_parse ws l 128 (by have := h.1; omega) hp, by simp [hs], by simp [hs]⟩)
  · exact .inl ⟨h, by rw [if_pos h]⟩
end Go.Proofs.Ytoifalgkeegklaa
