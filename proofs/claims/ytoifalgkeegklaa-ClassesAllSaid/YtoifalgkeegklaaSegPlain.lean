/- Blocks between two addresses; words that are changed. No program in sight. -/
import Derived.Test.YtoifalgkeegklaaArndPlain
namespace Go.Proofs.Ytoifalgkeegklaa

/-- The blocks stand one behind the other from an address up to another one. -/
def Seg (ws : List Nat) : Nat → List Blk → Nat → Prop
  | a, [], b => a = b
  | a, x :: l, b => stands ws a = some x ∧ Seg ws (a + x.size.toNat) l b
theorem stands_lt {ws : List Nat} {a : Nat} {x : Blk} (h : stands ws a = some x) : a + 2 ≤ a + x.size.toNat ∧ a + x.size.toNat ≤ ws.length := by
  have := (stands_some h).2.2.2.2.1
  have := good_size (stands_some h).1
  omega
theorem seg_of_chain {ws : List Nat} : ∀ {l : List Blk} {a : Nat}, Chain ws a l → Seg ws a l ws.length
  | [], _, h => h
  | _ :: l, _, h => ⟨h.2.1, seg_of_chain (l := l) h.2.2⟩
theorem chain_of_seg {ws : List Nat} : ∀ {l : List Blk} {a : Nat}, Seg ws a l ws.length → Chain ws a l
  | [], _, h => h
  | _ :: l, _, h => ⟨by have := stands_lt h.1; omega, h.1, chain_of_seg (l := l) h.2⟩
theorem seg_le {ws : List Nat} : ∀ {l : List Blk} {a b : Nat}, Seg ws a l b → a + 2 * l.length ≤ b
  | [], a, b, h => by rw [show a = b from h]; exact Nat.le_refl _
  | x :: l, a, b, h => by
    have := seg_le (l := l) h.2
    have := stands_lt h.1
    simp only [List.length_cons]; omega
theorem seg_append {ws : List Nat} : ∀ {l m : List Blk} {a c b : Nat}, Seg ws a l c → Seg ws c m b → Seg ws a (l ++ m) b
  | [], _, _, _, _, h, k => by rw [show _ = _ from h]; exact k
  | _ :: l, _, _, _, _, h, k => ⟨h.1, seg_append (l := l) h.2 k⟩
theorem seg_split {ws : List Nat} : ∀ {l m : List Blk} {a b : Nat}, Seg ws a (l ++ m) b → ∃ c, Seg ws a l c ∧ Seg ws c m b
  | [], _, a, _, h => ⟨a, rfl, h⟩
  | _ :: l, _, _, _, h => by
    obtain ⟨c, h1, h2⟩ := seg_split (l := l) h.2
    exact ⟨c, ⟨h.1, h1⟩, h2⟩
theorem stands_same {ws ys : List Nat} {a : Nat} (hl : ys.length = ws.length) (h0 : ys.getD a 0 = ws.getD a 0) (h1 : ys.getD (a + 1) 0 = ws.getD (a + 1) 0) : stands ys a = stands ws a := by
  unfold stands; rw [h0, h1, hl]
theorem seg_same {ws ys : List Nat} (hl : ys.length = ws.length) : ∀ {l : List Blk} {a b : Nat}, (∀ j, a ≤ j → j < b → ys.getD j 0 = ws.getD j 0) → Seg ws a l b → Seg ys a l b
  | [], _, _, _, h => h
  | x :: l, a, b, hs, h => by
    have h1 := seg_le h.2
    have h2 := stands_lt h.1
    exact ⟨(stands_same hl (hs a (Nat.le_refl _) (by omega)) (hs (a + 1) (by omega) (by omega))).trans h.1, seg_same hl (l := l) (fun j h3 h4 => hs j (by omega) h4) h.2⟩
theorem parse_seg {ws : List Nat} : ∀ {l : List Blk} {a b : Nat}, Seg ws a l b → parse ws a = (parse ws b).map (l ++ ·)
  | [], a, b, h => by rw [show a = b from h]; cases parse ws b <;> rfl
  | x :: l, a, b, h => by
    have h2 := stands_lt h.1
    rw [parse_step (by omega) h.1, parse_seg (l := l) h.2]
    cases parse ws b <;> rfl
/-- The block with an index, between those before it and those behind it. -/
theorem seg_at {ws : List Nat} {l : List Blk} {a b i : Nat} (h : Seg ws a l b) (hi : i < l.length) :
    ∃ p : Nat, l[i].at_ = p ∧ Seg ws a (l.take i) p ∧ stands ws p = some l[i] ∧ Seg ws (p + l[i].size.toNat) (l.drop (i + 1)) b := by
  have e : l = l.take i ++ (l[i] :: l.drop (i + 1)) := by rw [← List.drop_eq_getElem_cons hi, List.take_append_drop]
  rw [e] at h
  obtain ⟨p, h1, h2⟩ := seg_split h
  exact ⟨p, (stands_some h2.1).2.2.1, h1, h2.1, h2.2⟩
theorem getD_set {ws : List Nat} {i v j : Nat} : (ws.set i v).getD j 0 = if j = i ∧ i < ws.length then v else ws.getD j 0 := by
  simp only [List.getD_eq_getElem?_getD, List.getElem?_set]
  by_cases h : i = j
  · subst h
    by_cases hl : i < ws.length
    · simp [hl]
    · simp [hl]
  · rw [if_neg h, if_neg (by omega)]
theorem getD_set_ne {ws : List Nat} {i v j : Nat} (h : j ≠ i) : (ws.set i v).getD j 0 = ws.getD j 0 := by rw [getD_set, if_neg (by omega)]
theorem getD_set_eq {ws : List Nat} {i v : Nat} (h : i < ws.length) : (ws.set i v).getD i 0 = v := by rw [getD_set, if_pos ⟨rfl, h⟩]

/-- No two free ones side by side. -/
def Apart : List Blk → Prop
  | [] => True
  | [_] => True
  | x :: y :: l => ¬ (x.kind = 2 ∧ y.kind = 2) ∧ Apart (y :: l)
theorem apart_iff : ∀ (l : List Blk), Apart l ↔ ∀ j (h : j + 1 < l.length), ¬ (l[j].kind = 2 ∧ l[j + 1].kind = 2)
  | [] => ⟨fun _ _ h => absurd h (by simp), fun _ => trivial⟩
  | [_] => ⟨fun _ _ h => absurd h (by simp), fun _ => trivial⟩
  | x :: y :: l => by
    have ih := apart_iff (y :: l)
    constructor
    · rintro ⟨h1, h2⟩ j hj
      rcases j with _ | j
      · exact h1
      · exact ih.1 h2 j (by simpa using hj)
    · intro h
      refine ⟨h 0 (by simp), ih.2 fun j hj => ?_⟩
      exact h (j + 1) (by simpa using hj)
theorem sideF_false {l : List Blk} : ∀ k, k ≤ l.length → (sideF l k = false ↔ ∀ j (h : j + 1 < l.length), j + 1 < k → ¬ (l[j].kind = 2 ∧ l[j + 1].kind = 2))
  | 0, _ => ⟨fun _ _ _ h => absurd h (by omega), fun _ => rfl⟩
  | 1, _ => ⟨fun _ _ _ h => absurd h (by omega), fun _ => sideF_one l⟩
  | k + 2, hk => by
    have ih := sideF_false (l := l) (k + 1) (by omega)
    rw [sideF_step l k (by omega), Bool.or_eq_false_iff, ih]
    constructor
    · rintro ⟨h1, h2⟩ j hj hjk
      rcases Nat.lt_or_ge j k with hl | hl
      · exact h1 j hj (by omega)
      · obtain rfl : j = k := by omega
        rintro ⟨e1, e2⟩
        rw [e1, e2] at h2; cases h2
    · intro h
      refine ⟨fun j hj hjk => h j hj (by omega), ?_⟩
      have := h k (by omega) (by omega)
      rw [Bool.and_eq_false_iff]
      by_cases e : l[k].kind = 2
      · exact .inr (by simpa using fun e2 => this ⟨e, e2⟩)
      · exact .inl (by simpa using e)
theorem side_apart {l : List Blk} : side l = false ↔ Apart l := by
  unfold side
  rw [sideF_false l.length (Nat.le_refl _), apart_iff]
  exact ⟨fun h j hj => h j hj hj, fun h j hj _ => h j hj⟩
theorem apart_split : ∀ {l m : List Blk}, Apart (l ++ m) → Apart l ∧ Apart m
  | [], m, h => ⟨trivial, h⟩
  | [x], [], _ => ⟨trivial, trivial⟩
  | [x], y :: m, h => ⟨trivial, h.2⟩
  | x :: y :: l, m, h => by
    obtain ⟨h1, h2⟩ := apart_split (l := y :: l) (m := m) h.2
    exact ⟨⟨h.1, h1⟩, h2⟩
/-- An object between two lists. -/
theorem apart_mid : ∀ {l m : List Blk} {x : Blk}, Apart l → Apart m → x.kind ≠ 2 → Apart (l ++ x :: m)
  | [], [], _, _, _, _ => trivial
  | [], _ :: _, _, _, h, hx => ⟨fun h => hx h.1, h⟩
  | [_], _, _, _, h, hx => ⟨fun h => hx h.2, apart_mid (l := []) trivial h hx⟩
  | _ :: y :: l, _, _, hl, h, hx => ⟨hl.1, apart_mid (l := y :: l) hl.2 h hx⟩
/-- The last one of a list is free. -/
def LastFree (l : List Blk) : Prop := ∃ x, l.getLast? = some x ∧ x.kind = 2
def HeadFree (l : List Blk) : Prop := ∃ x, l.head? = some x ∧ x.kind = 2
/-- A free one between two lists that do not touch it with free ones. -/
theorem apart_free : ∀ {l m : List Blk} {x : Blk}, Apart l → Apart m → ¬ LastFree l → ¬ HeadFree m → Apart (l ++ x :: m)
  | [], [], _, _, _, _, _ => trivial
  | [], y :: _, _, _, h, _, hm => ⟨fun h => hm ⟨y, rfl, h.2⟩, h⟩
  | [z], _, _, _, h, hl, hm => ⟨fun h => hl ⟨z, rfl, h.1⟩, apart_free (l := []) trivial h (by rintro ⟨_, h, _⟩; cases h) hm⟩
  | _ :: y :: l, _, _, ha, h, hl, hm => ⟨ha.1, apart_free (l := y :: l) ha.2 h (by rintro ⟨q, h1, h2⟩; exact hl ⟨q, by rw [List.getLast?_cons_cons]; exact h1, h2⟩) hm⟩
theorem apart_kinds : ∀ {l m : List Blk}, l.map (·.kind) = m.map (·.kind) → Apart l → Apart m
  | [], [], _, _ => trivial
  | [_], [_], _, _ => trivial
  | x :: y :: l, z :: u :: m, h, ha => by
    simp only [List.map_cons, List.cons.injEq] at h
    refine ⟨?_, apart_kinds (l := y :: l) (by simp [h.2.1, h.2.2]) ha.2⟩
    rw [← h.1, ← h.2.1]; exact ha.1
  | [], _ :: _, h, _ => by cases h
  | _ :: _, [], h, _ => by cases h
  | [_], _ :: _ :: _, h, _ => by simp at h
  | _ :: _ :: _, [_], h, _ => by simp at h

/-- What All returns, by the blocks. -/
theorem allR_of {ws : List Nat} {l : List Blk} (hi : imgOk ws.length) (h : Seg ws 128 l ws.length) (ha : Apart l) : allR ws = (l, 0) := by
  have hp := parse_of_chain ws l 128 (chain_of_seg h)
  unfold allR heap
  rw [if_neg (by simpa using hi), hp]
  simp [side_apart.2 ha]
theorem allR_ok {ws : List Nat} (h : (allR ws).2 = 0) : imgOk ws.length ∧ ∃ l, Seg ws 128 l ws.length ∧ Apart l ∧ allR ws = (l, 0) := by
  rcases allR_cases ws with ⟨_, e⟩ | ⟨_, _, e⟩ | ⟨l, _, _, _, e⟩ | ⟨l, h1, _, h3, hc, _, e⟩
  · rw [e] at h; exact absurd h (by decide)
  · rw [e] at h; exact absurd h (by decide)
  · rw [e] at h; exact absurd h (by decide)
  · exact ⟨h1, l, seg_of_chain hc, side_apart.1 h3, e⟩
theorem allR_spoilt {ws : List Nat} {l : List Blk} {p : Nat} (hi : imgOk ws.length) (h : Seg ws 128 l p) (hp : p < ws.length) (hs : stands ws p = none) : allR ws = ([], 50) := by
  have := parse_seg h
  rw [parse_none hp hs] at this
  unfold allR heap
  rw [if_neg (by simpa using hi), this]
  rfl
end Go.Proofs.Ytoifalgkeegklaa
