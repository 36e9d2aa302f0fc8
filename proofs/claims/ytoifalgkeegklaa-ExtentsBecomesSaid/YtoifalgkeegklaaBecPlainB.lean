/- A heap with what an object becomes in its place (2). No program in sight. -/
import Derived.Test.YtoifalgkeegklaaBecPlain
import Derived.Test.YtoifalgkeegklaaSpoiltPlain
namespace Go.Proofs.Ytoifalgkeegklaa

theorem freeL_append (l m : List Blk) : freeL (l ++ m) = freeL l ++ freeL m := by unfold freeL; exact List.filter_append ..
theorem freeL_cut (l : List Blk) {lo hi : Nat} (h1 : lo ≤ hi) : freeL l = freeL (l.take lo) ++ (freeL ((l.take hi).drop lo) ++ freeL (l.drop hi)) := by
  conv => lhs; rw [list_cut l h1]
  rw [freeL_append, freeL_append]
section
variable {ws : List Nat} {l : List Blk} {i lo hi p q : Nat} {o x : Blk}
theorem Cut.low (c : Cut ws l i o x lo hi p q) : 128 ≤ p := by have := seg_le c.pre; omega
theorem Cut.high (c : Cut ws l i o x lo hi p q) : q ≤ ws.length := by have := seg_le c.post; omega
theorem Cut.good (c : Cut ws l i o x lo hi p q) (hi : imgOk ws.length) (h1 : x.kind = 2) (h2 : x.typ = 0) (h3 : x.mark = false) : x.good := by
  have := c.size
  have := c.pq
  have := c.even
  have := c.low
  have := c.high
  have := hi.2.1
  refine ⟨by omega, by omega, .inr ⟨h1, h2, h3, by omega⟩⟩
/-- The heap with it in its place. -/
theorem Cut.put (c : Cut ws l i o x lo hi p q) (hi_ : imgOk ws.length) (hg : x.good) {ys : List Nat} (hl : ys.length = ws.length) (h0 : ys.getD p 0 = x.hdr) (hs : ∀ j, j < p ∨ q ≤ j → ys.getD j 0 = ws.getD j 0) :
    allR ys = (l.take lo ++ { x with next := ys.getD (p + 1) 0 } :: l.drop hi, 0) := by
  have hq := c.high
  have hz := c.size
  have hpq := c.pq
  have hst : stands ys p = some { x with next := ys.getD (p + 1) 0 } := by
    unfold stands
    rw [h0, split_hdr hg]
    simp only
    rw [hl, if_neg (by omega)]
    congr 1
    exact Blk.eq c.at_.symm rfl rfl rfl rfl rfl
  refine allR_of (by rw [hl]; exact hi_) ?_ (apart_kinds (l := l.take lo ++ x :: l.drop hi) (by simp) c.apart)
  refine seg_append (c := p) (seg_same hl (fun j _ hj => hs j (.inl hj)) c.pre) ⟨hst, ?_⟩
  have e : p + ({ x with next := ys.getD (p + 1) 0 } : Blk).size.toNat = q := by show p + x.size.toNat = q; omega
  rw [e, hl]
  exact seg_same hl (fun j hj _ => hs j (.inr hj)) c.post
theorem Cut.count (c : Cut ws l i o x lo hi p q) {y : Blk} (hk : y.kind = 2) (hz : y.size = x.size) :
    sumL (freeL (l.take lo ++ y :: l.drop hi)) = sumL (freeL l) + o.size ∧ (freeL (l.take lo ++ y :: l.drop hi)).length + (one01 (decide ((p : Int) < o.at_)) + one01 (decide (o.at_ + o.size < q))) = (freeL l).length + 1 ∧
    y ∈ freeL (l.take lo ++ y :: l.drop hi) := by
  have hle : lo ≤ hi := by have := c.lo_; have := c.hi_; omega
  have e : freeL (l.take lo ++ y :: l.drop hi) = freeL (l.take lo) ++ (y :: freeL (l.drop hi)) := by
    rw [freeL_append]; congr 1
    unfold freeL; rw [List.filter_cons]; simp [hk]
  have h1 := c.sum
  have h2 := c.near
  rw [e, freeL_cut l hle]
  refine ⟨?_, ?_, by simp⟩
  · simp only [sumL_append, sumL]
    omega
  · simp only [List.length_append, List.length_cons]
    omega
end

theorem seek_of_find {ws : List Nat} {l : List Blk} {a : Int} {b : Blk} (hc : Seg ws 128 l ws.length) (h : findL l a = some b) (hk : b.kind = 1) : ∃ (i : Nat) (hi : i < l.length), l[i] = b ∧ b.at_ = a ∧ seek l a l.length 0 = some i := by
  have hf := h
  unfold findL at hf
  have hat : b.at_ = a := by simpa using List.find?_some hf
  obtain ⟨i, hi, e⟩ := List.getElem_of_mem (List.mem_of_find?_eq_some hf)
  refine ⟨i, hi, e, hat, ?_⟩
  cases hs : seek l a l.length 0 with
  | none =>
    have := seek_none l.length 0 hs i (by omega) (by omega)
    rw [atAt_get hi, kindAt_get hi, e] at this
    exact absurd ⟨hat, hk⟩ this
  | some j =>
    obtain ⟨_, hj, h1, h2⟩ := seek_some l.length 0 j hs
    have hj' : j < l.length := by omega
    rw [atAt_get hj'] at h1
    by_cases hij : j = i
    · rw [hij]
    · exact absurd (h1.trans (by rw [e]; exact hat.symm)) (chain_ne (chain_of_seg hc) hj' hi hij)
theorem seek_get {l : List Blk} {a : Int} {i : Nat} (h : seek l a l.length 0 = some i) : ∃ hi : i < l.length, l[i].at_ = a ∧ l[i].kind = 1 := by
  obtain ⟨_, hj, h1, h2⟩ := seek_some l.length 0 i h
  have hi : i < l.length := by omega
  rw [atAt_get hi] at h1
  rw [kindAt_get hi] at h2
  exact ⟨hi, h1, h2⟩

/-- What the law on what an object becomes asks. -/
theorem becomes_law {ws : List Nat} {l : List Blk} {a : Int} {i : Nat} (hi : imgOk ws.length) (hc : Seg ws 128 l ws.length) (ha : Apart l) (hs : seek l a l.length 0 = some i) :
    ∃ (hl : i < l.length) (p q : Nat) (m : List Blk), l[i].at_ = a ∧ l[i].kind = 1 ∧ (becomes l i).at_ = p ∧ (becomes l i).size = (q : Int) - p ∧ 128 ≤ p ∧ p + 2 ≤ q ∧ q ≤ ws.length ∧ (p : Int) ≤ a ∧ a + l[i].size ≤ q ∧ (becomes l i).good ∧
      allR ((ws.set p (becomes l i).hdr).set (p + 1) 0) = (m, 0) ∧ l.length ≤ m.length + 2 ∧ becomes l i ∈ freeL m := by
  obtain ⟨hl, h1, h2⟩ := seek_get hs
  obtain ⟨lo, hi', p, q, c⟩ := cut_ex hc ha hl h2
  have hq := c.high
  have hpq := c.pq
  have hg := c.good hi rfl rfl rfl
  have hp := c.put hi hg (ys := (ws.set p (becomes l i).hdr).set (p + 1) 0) (by simp) (by rw [getD_set_ne (by omega), getD_set_eq (by omega)])
    (fun j hj => by rw [getD_set_ne (by omega), getD_set_ne (by omega)])
  rw [getD_set_eq (by simp; omega)] at hp
  have e : ({ becomes l i with next := 0 } : Blk) = becomes l i := rfl
  rw [e] at hp
  have hcount := c.count (y := becomes l i) rfl rfl
  refine ⟨hl, p, q, _, h1, h2, c.at_, c.size, c.low, hpq, hq, ?_, ?_, hg, hp, ?_, hcount.2.2⟩
  · have := c.left; omega
  · have := c.right; omega
  · have := c.lo_
    have := c.hi_
    have := c.len
    have := c.three
    simp; omega

/-- What the law on growing asks. -/
theorem grow_law {ws : List Nat} {l : List Blk} {a : Int} {b : Blk} (hi : imgOk ws.length) (hc : Seg ws 128 l ws.length) (ha : Apart l) (hf : findL l a = some b) (hk : b.kind = 1) :
    ∃ (i p q : Nat) (m : List Blk), seek l a l.length 0 = some i ∧ b.at_ = a ∧ 0 ≤ b.size ∧ b.size ≤ 10 ∧ (becomes l i).at_ = p ∧ (becomes l i).size = (q : Int) - p ∧ 128 ≤ p ∧ p + 2 ≤ q ∧ q ≤ ws.length ∧ (p : Int) ≤ a ∧ a + b.size ≤ q ∧ (becomes l i).good ∧
      allR (ws.set p (becomes l i).hdr) = (m, 0) ∧ sumF (freeL m) (freeL m).length = sumF (freeL l) (freeL l).length + b.size ∧ (becomes l i).size ≤ maxF (freeL m) (freeL m).length ∧
      (freeL m).length + (one01 (decide ((p : Int) < a)) + one01 (decide (a + b.size < q))) = (freeL l).length + 1 := by
  obtain ⟨i, hl, e, hat, hs⟩ := seek_of_find hc hf hk
  obtain ⟨_, _, h2⟩ := seek_get hs
  obtain ⟨lo, hi', p, q, c⟩ := cut_ex hc ha hl h2
  have hq := c.high
  have hpq := c.pq
  have hg := c.good hi rfl rfl rfl
  have hp := c.put hi hg (ys := ws.set p (becomes l i).hdr) (by simp) (getD_set_eq (by omega)) (fun j hj => getD_set_ne (by omega))
  have hcount := c.count (y := { becomes l i with next := (ws.set p (becomes l i).hdr).getD (p + 1) 0 }) rfl rfl
  have hcl := c.left
  have hcr := c.right
  have hbg := (chain_mem (chain_of_seg hc) (List.getElem_mem hl)).2.1
  rw [e, hat] at hcount hcl hcr
  rw [e] at hbg
  have hb1 := good_size hbg
  have hb2 : b.size ≤ 10 := by
    rcases hbg.2.2 with h | h
    · exact h.2.2.2
    · omega
  refine ⟨i, p, q, _, hs, hat, by omega, hb2, c.at_, c.size, c.low, hpq, hq, hcl, hcr, hg, hp, ?_, ?_, hcount.2.1⟩
  · rw [sumF_all, sumF_all]; exact hcount.1
  · have := maxF_mem hcount.2.2
    exact this

/-- A list with one block changed in what does not matter. -/
structure Alike (l m : List Blk) : Prop where
  len : m.length = l.length
  get : ∀ j (h : j < l.length) (h' : j < m.length), m[j].at_ = l[j].at_ ∧ m[j].size = l[j].size ∧ m[j].kind = l[j].kind
theorem Alike.kindAt {l m : List Blk} (h : Alike l m) (j : Nat) : kindAt m j = kindAt l j := by
  rcases Nat.lt_or_ge j l.length with hl | hl
  · have hm : j < m.length := by rw [h.len]; exact hl
    rw [kindAt_get hm, kindAt_get hl]; exact (h.get j hl hm).2.2
  · have hm : m.length ≤ j := by rw [h.len]; exact hl
    simp [Go.Proofs.Ytoifalgkeegklaa.kindAt, List.getD_eq_getElem?_getD, List.getElem?_eq_none hl, List.getElem?_eq_none hm]
theorem Alike.sizeAt {l m : List Blk} (h : Alike l m) (j : Nat) : sizeAt m j = sizeAt l j := by
  rcases Nat.lt_or_ge j l.length with hl | hl
  · have hm : j < m.length := by rw [h.len]; exact hl
    rw [sizeAt_get hm, sizeAt_get hl]; exact (h.get j hl hm).2.1
  · have hm : m.length ≤ j := by rw [h.len]; exact hl
    simp [Go.Proofs.Ytoifalgkeegklaa.sizeAt, List.getD_eq_getElem?_getD, List.getElem?_eq_none hl, List.getElem?_eq_none hm]
theorem Alike.atAt {l m : List Blk} (h : Alike l m) (j : Nat) : atAt m j = atAt l j := by
  rcases Nat.lt_or_ge j l.length with hl | hl
  · have hm : j < m.length := by rw [h.len]; exact hl
    rw [atAt_get hm, atAt_get hl]; exact (h.get j hl hm).1
  · have hm : m.length ≤ j := by rw [h.len]; exact hl
    simp [Go.Proofs.Ytoifalgkeegklaa.atAt, List.getD_eq_getElem?_getD, List.getElem?_eq_none hl, List.getElem?_eq_none hm]
theorem Alike.seek {l m : List Blk} (h : Alike l m) (a : Int) : ∀ f k, seek m a f k = seek l a f k
  | 0, _ => rfl
  | f + 1, k => by
    unfold Go.Proofs.Ytoifalgkeegklaa.seek
    rw [h.atAt, h.kindAt, h.seek a f (k + 1)]
theorem Alike.becomes {l m : List Blk} (h : Alike l m) (i : Nat) : becomes m i = becomes l i := by
  unfold Go.Proofs.Ytoifalgkeegklaa.becomes leftF rightF
  rw [h.atAt, h.atAt, h.sizeAt, h.sizeAt, h.sizeAt, h.kindAt, h.kindAt, h.len]

/-- What the law on marks asks. -/
theorem marks_law {ws : List Nat} {l : List Blk} {a : Int} {b : Blk} {t : Int} {next : Nat} (hi : imgOk ws.length) (hc : Seg ws 128 l ws.length) (ha : Apart l) (hf : findL l a = some b) (hk : b.kind = 1) (h0 : 0 ≤ t) (h8 : t < 8) :
    ∃ (i p : Nat) (m : List Blk), a = p ∧ p + 1 < ws.length ∧ b.at_ = a ∧ Blk.good ⟨a, b.size, b.kind, t, !b.mark, 0⟩ ∧ seek l a l.length 0 = some i ∧
      allR ((ws.set p (Blk.hdr ⟨a, b.size, b.kind, t, !b.mark, 0⟩)).set (p + 1) next) = (m, 0) ∧ freeL m = freeL l ∧ seek m a m.length 0 = some i ∧ becomes m i = becomes l i := by
  obtain ⟨i, hl, e, hat, hs⟩ := seek_of_find hc hf hk
  obtain ⟨p, h1, h2, h3, h4⟩ := seg_at hc hl
  rw [e] at h1 h3 h4
  obtain ⟨hg, _, _, _, _, _⟩ := stands_some h3
  have hlt := stands_lt h3
  have hz := good_size hg
  have hg2 : Blk.good ⟨a, b.size, b.kind, t, !b.mark, 0⟩ := by
    refine ⟨hg.1, hg.2.1, .inl ⟨hk, h0, h8, ?_⟩⟩
    rcases hg.2.2 with h | h
    · exact h.2.2.2
    · have := h.1; omega
  have hap : a = p := by omega
  generalize hys : (ws.set p (Blk.hdr ⟨a, b.size, b.kind, t, !b.mark, 0⟩)).set (p + 1) next = ys
  have hyl : ys.length = ws.length := by rw [← hys]; simp
  have hy0 : ys.getD p 0 = Blk.hdr ⟨a, b.size, b.kind, t, !b.mark, 0⟩ := by rw [← hys, getD_set_ne (by omega), getD_set_eq (by omega)]
  have hyo : ∀ j, j < p ∨ p + 2 ≤ j → ys.getD j 0 = ws.getD j 0 := fun j hj => by rw [← hys, getD_set_ne (by omega), getD_set_ne (by omega)]
  have hst : stands ys p = some ⟨p, b.size, b.kind, t, !b.mark, ys.getD (p + 1) 0⟩ := by
    unfold stands
    rw [hy0, split_hdr hg2]
    simp only
    rw [hyl, if_neg (by omega)]
  obtain ⟨y, hy⟩ : ∃ y : Blk, y = ⟨p, b.size, b.kind, t, !b.mark, ys.getD (p + 1) 0⟩ := ⟨_, rfl⟩
  rw [← hy] at hst
  have hmi : (l.take i).length = i := by simp; omega
  have hseg : Seg ys 128 (l.take i ++ y :: l.drop (i + 1)) ys.length := by
    refine seg_append (c := p) (seg_same hyl (fun j _ hj => hyo j (.inl hj)) h2) ⟨hst, ?_⟩
    have e5 : p + y.size.toNat = p + b.size.toNat := by rw [hy]
    rw [e5, hyl]
    exact seg_same hyl (fun j hj _ => hyo j (.inr (by omega))) h4
  have hl2 : l = l.take i ++ b :: l.drop (i + 1) := by
    conv => lhs; rw [← List.take_append_drop i l, List.drop_eq_getElem_cons hl, e]
  have hap2 : Apart (l.take i ++ y :: l.drop (i + 1)) := by
    refine apart_kinds (l := l) ?_ ha
    conv => lhs; rw [hl2]
    simp [hy]
  have hfr : freeL (l.take i ++ y :: l.drop (i + 1)) = freeL l := by
    conv => rhs; rw [hl2]
    rw [freeL_append, freeL_append]
    congr 1
    unfold freeL
    rw [List.filter_cons, List.filter_cons]
    simp [hy, hk]
  have hal : Alike l (l.take i ++ y :: l.drop (i + 1)) := by
    refine ⟨by simp; omega, fun j hj hj' => ?_⟩
    have q1 : l[j]? = some l[j] := List.getElem?_eq_getElem hj
    have q2 : (l.take i ++ y :: l.drop (i + 1))[j]? = some ((l.take i ++ y :: l.drop (i + 1))[j]'hj') := List.getElem?_eq_getElem hj'
    generalize (l.take i ++ y :: l.drop (i + 1))[j]'hj' = u at q2 ⊢
    rcases Nat.lt_or_ge j i with hji | hji
    · rw [List.getElem?_append_left (by omega), List.getElem?_take, if_pos hji, q1] at q2
      injection q2 with q2
      subst q2
      exact ⟨rfl, rfl, rfl⟩
    · rw [List.getElem?_append_right (by omega), hmi] at q2
      rcases Nat.lt_or_ge i j with hij | hij
      · obtain ⟨d, rfl⟩ : ∃ d, j = i + 1 + d := ⟨j - (i + 1), by omega⟩
        rw [show i + 1 + d - i = d + 1 by omega, List.getElem?_cons_succ, List.getElem?_drop, q1] at q2
        injection q2 with q2
        subst q2
        exact ⟨rfl, rfl, rfl⟩
      · obtain rfl : j = i := by omega
        rw [Nat.sub_self, List.getElem?_cons_zero] at q2
        injection q2 with q2
        subst q2
        rw [e, hy]
        exact ⟨h1.symm, rfl, rfl⟩
  refine ⟨i, p, _, hap, by omega, hat, hg2, hs, ?_, hfr, ?_, hal.becomes i⟩
  · have := allR_of (by rw [hyl]; exact hi) hseg hap2
    rw [← hys] at this
    rw [hys] at this ⊢
    exact this
  · rw [hal.seek, hal.len]; exact hs
/-- What Find has found. -/
theorem find_main {ws : List Nat} {a : Int} (h : (findR ws a).2 = 0) : imgOk ws.length ∧ ∃ l b, Seg ws 128 l ws.length ∧ Apart l ∧ allR ws = (l, 0) ∧ findL l a = some b ∧ findR ws a = (b, 0) := by
  by_cases he : (allR ws).2 = 0
  · obtain ⟨hi, l, hc, ha, e⟩ := allR_ok he
    refine ⟨hi, l, ?_⟩
    unfold findR at h ⊢
    rw [if_neg (by rw [e]; simp), e] at h ⊢
    cases hf : findL l a with
    | none => simp only [hf] at h; exact absurd h (by decide)
    | some b => exact ⟨b, hc, ha, rfl, rfl, rfl⟩
  · unfold findR at h
    rw [if_pos he] at h
    exact absurd h he
/-- What Around returns. -/
theorem around_seek {ws : List Nat} {l : List Blk} (a : Int) (e : allR ws = (l, 0)) : aroundR ws a = aroundO l (seek l a l.length 0) := by
  unfold aroundR
  rw [if_neg (by rw [e]; simp), e]
end Go.Proofs.Ytoifalgkeegklaa
