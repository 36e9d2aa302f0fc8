/- A heap with one bit changed. No program in sight. -/
import Derived.Test.YtoifalgkeegklaaSegPlain
namespace Go.Proofs.Ytoifalgkeegklaa

def nextB (a x : Nat) (b : Blk) : Blk := if b.at_ + 1 = a then { b with next := b.next ^^^ x } else b
theorem nextB_yes {a x : Nat} {b : Blk} (h : b.at_ + 1 = a) : nextB a x b = { b with next := b.next ^^^ x } := by unfold nextB; rw [if_pos h]
theorem nextB_no {a x : Nat} {b : Blk} (h : b.at_ + 1 ≠ a) : nextB a x b = b := by unfold nextB; rw [if_neg h]
theorem nextB_kind (a x : Nat) (b : Blk) : (nextB a x b).kind = b.kind ∧ (nextB a x b).size = b.size := by unfold nextB; split <;> exact ⟨rfl, rfl⟩
theorem stands_next {ws ys : List Nat} {p : Nat} {b : Blk} (h : stands ws p = some b) (hl : ys.length = ws.length) (h0 : ys.getD p 0 = ws.getD p 0) : stands ys p = some { b with next := ys.getD (p + 1) 0 } := by
  obtain ⟨_, _, h3, h4, h5, h6⟩ := stands_some h
  unfold stands
  rw [h0, h6]
  simp only
  rw [hl, if_neg (by omega)]
  congr 1
  exact Blk.eq h3.symm rfl rfl rfl rfl rfl
theorem seg_next {ws : List Nat} {a x : Nat} (ha : a < ws.length) : ∀ {l : List Blk} {p e : Nat}, Seg ws p l e → (∀ b ∈ l, b.at_ ≠ a) → Seg (ws.set a (ws.getD a 0 ^^^ x)) p (l.map (nextB a x)) e
  | [], _, _, h, _ => h
  | b :: l, p, e, h, hn => by
    obtain ⟨_, _, h3, h4, _⟩ := stands_some h.1
    have hne := hn b (by simp)
    have ih := seg_next ha (x := x) (l := l) h.2 fun c hc => hn c (by simp [hc])
    have hs := stands_next h.1 (ys := ws.set a (ws.getD a 0 ^^^ x)) (by simp) (getD_set_ne (by omega))
    have e1 : ({ b with next := (ws.set a (ws.getD a 0 ^^^ x)).getD (p + 1) 0 } : Blk) = nextB a x b := by
      by_cases hp : b.at_ + 1 = a
      · rw [nextB_yes hp]
        have : p + 1 = a := by omega
        rw [h4, this, getD_set_eq ha]
      · rw [nextB_no hp, getD_set_ne (by omega), ← h4]
    rw [e1] at hs
    exact ⟨hs, by rw [(nextB_kind a x b).2]; exact ih⟩
/-- What All returns of a heap with one bit changed. -/
theorem allR_bit {ws : List Nat} {l : List Blk} {a bit : Nat} (hi : imgOk ws.length) (h : Seg ws 128 l ws.length) (hap : Apart l) (ha : a < ws.length) (hb : bit < 64) :
    (∀ i (hl : i < l.length), l[i].at_ = a → allR (ws.set a (ws.getD a 0 ^^^ 2 ^ bit)) = ([], 50)) ∧
    ((∀ i (hl : i < l.length), l[i].at_ ≠ a) → allR (ws.set a (ws.getD a 0 ^^^ 2 ^ bit)) = (l.map (nextB a (2 ^ bit)), 0)) := by
  constructor
  · intro i hl e
    obtain ⟨p, h1, h2, h3, h4⟩ := seg_at h hl
    have hp : p = a := by omega
    subst hp
    obtain ⟨g, hh, _⟩ := stands_some h3
    refine allR_spoilt (p := p) (by simpa using hi) (seg_same (by simp) (fun j _ hj => getD_set_ne (by omega)) h2) (by simpa using ha) ?_
    unfold stands
    have : split ((ws.set p (ws.getD p 0 ^^^ 2 ^ bit)).getD p 0) = none := by
      rw [getD_set_eq ha, ← hh]
      have e2 : (2 : Nat) ^ bit = 2 ^ (bit % 8) * 256 ^ (bit / 8) := by
        rw [show (256 : Nat) = 2 ^ 8 from rfl, ← Nat.pow_mul, ← Nat.pow_add, Nat.mod_add_div]
      rw [e2]
      have h8 : 2 ^ (bit % 8) < 2 ^ 8 := Nat.pow_lt_pow_right (by decide) (Nat.mod_lt _ (by decide))
      exact split_spoilt g (by omega) h8 (by have := Nat.pow_pos (n := bit % 8) (show 0 < 2 by decide); omega)
    rw [this]
  · intro hn
    refine allR_of (by simpa using hi) ?_ (apart_kinds (l := l) ?_ hap)
    · rw [List.length_set]
      refine seg_next ha h ?_
      intro b hb
      obtain ⟨i, hi, rfl⟩ := List.getElem_of_mem hb
      exact hn i hi
    · rw [List.map_map]
      apply List.map_congr_left
      intro b _
      exact (nextB_kind _ _ b).1.symm

/-- The first ones changed. -/
def mixF (f : Blk → Blk) (l : List Blk) (k : Nat) : List Blk := (l.take k).map f ++ l.drop k
theorem mixF_zero (f : Blk → Blk) (l : List Blk) : mixF f l 0 = l := rfl
theorem mixF_all (f : Blk → Blk) (l : List Blk) : mixF f l l.length = l.map f := by unfold mixF; simp
theorem mixF_len (f : Blk → Blk) (l : List Blk) (k : Nat) : (mixF f l k).length = l.length := by unfold mixF; simp; omega
theorem mixF_get (f : Blk → Blk) {l : List Blk} {k : Nat} (h : k < l.length) (h2 : k < (mixF f l k).length) : (mixF f l k)[k] = l[k] := by
  have : (mixF f l k)[k]? = some l[k] := by
    unfold mixF
    rw [List.getElem?_append_right (by simp; omega)]
    simp [Nat.min_eq_left (Nat.le_of_lt h), h]
  rw [List.getElem?_eq_getElem h2] at this
  injection this
theorem mixF_set (f : Blk → Blk) {l : List Blk} {k : Nat} (h : k < l.length) : mixF f l (k + 1) = (mixF f l k).set k (f l[k]) := by
  unfold mixF
  rw [List.set_append_right _ _ (by simp; omega), List.take_succ_eq_append_getElem h, List.map_append, List.append_assoc]
  congr 1
  rw [show k - ((l.take k).map f).length = 0 by simp; omega, List.drop_eq_getElem_cons h]
  rfl
theorem mixF_same (f : Blk → Blk) {l : List Blk} {k : Nat} (h : k < l.length) (e : f l[k] = l[k]) : mixF f l (k + 1) = mixF f l k := by
  rw [mixF_set f h, e]
  have h2 : k < (mixF f l k).length := by rw [mixF_len]; exact h
  conv => lhs; rw [← mixF_get f h h2]
  exact List.set_getElem_self h2
end Go.Proofs.Ytoifalgkeegklaa
