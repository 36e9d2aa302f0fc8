/- The reference's helpers on lists of words, walked. -/
import Derived.Test.YtoifalgkeegklaaOwn
import Derived.Test.YtoifalgkeegklaaWord
import Derived.Deep.DrawnRows
import Derived.BigQuiet
namespace Go.Proofs.Ytoifalgkeegklaa
open Go.RowKit

theorem words_one (ws : List Nat) : ∀ u ∈ ws.map wv, u.oneCell' = true := by
  intro u hu
  obtain ⟨x, _, rfl⟩ := List.mem_map.1 hu
  rfl
theorem Words.cells_at {w : World} {a : Addr} {n c : Nat} {ws : List Nat} (h : Words w (some a) n c ws) : ∀ j u, (ws.map wv)[j]? = some u → w.cell? (a.add j) = some u := by
  intro j u hu
  have hj : j < ws.length := by
    rcases Nat.lt_or_ge j ws.length with hl | hl
    · exact hl
    · rw [List.getElem?_eq_none (by simpa using hl)] at hu; cases hu
  obtain ⟨b, o, e, _, hc⟩ := h.cell (by have := h.len; omega)
  injection e with e
  subst e
  have := hc j (by have := h.len; omega)
  rw [List.getElem?_map, List.getElem?_eq_getElem hj] at hu
  injection hu with hu
  subst hu
  have ea : Addr.add ⟨b, o, none⟩ j = ⟨b, o + j, none⟩ := by unfold Addr.add; split <;> simp_all
  rw [ea]
  exact this

/-- append of words that came in, nil or not, onto a row of words of the call's own. -/
theorem wpList_append_words (w : World) {ops : Array Oper} {rest : List Oper} {o : Oper} {a : Act} {Q : Exit → Act → World → Prop} (hgd : o.guard = none) (s x : Operand)
    (ho : o.op = .call { callee := .builtin .append, args := #[s, x], argTypes := #[33, 33] })
    (base : Nat) (v : Value) (n : Nat) (xs : List Value) (hs : a.eval s = v) (hown : w.ownsRow base 22 1 v n xs)
    (A : Option Addr) (m c : Nat) (ws : List Nat) (hx : a.eval x = .slice A m c) (h : Words w A m c ws) (hn : n ≤ 1000000) (hm : m ≤ 1000000) (hbase : base ≤ w.heap.size)
    (k : ∀ v' w', w'.ownsRow base 22 1 v' (n + m) (xs ++ ws.map wv) → w.grownBy w' v.ownBlock → (v'.ownBlock = v.ownBlock ∨ v'.ownBlock = some w.heap.size) → wpList Try.prog ops Q rest (a.put o.dst v') w') :
    wpList Try.prog ops Q (o :: rest) a w := by
  obtain ⟨i, hi, hz, h1, h8⟩ := info_parts info_u64
  cases A with
  | none =>
    have hz0 := h.none_ rfl
    have hc0 := h.cap
    obtain rfl : m = 0 := by omega
    subst hz0
    have hw : ws = [] := List.eq_nil_of_length_eq_zero h.len
    subst hw
    exact wpList_append_own_none hgd s x 33 ho base 22 i 1 Try.underlying33 hi v n xs hs hown hx (k v w (by simpa using hown) (World.grownBy.refl w _) (.inl rfl))
  | some ad =>
    exact wpList_append_own_at w hgd s x 33 ho base 22 i (.int .u64 0) 1 8 Try.underlying33 hi hz h1 h8 rfl (by decide) v n xs hs hown ad m c (ws.map wv) hx (by have := h.len; simpa using this) h.cells_at (words_one ws)
      (by unfold maxLen; omega) (by omega) hbase (fun v' w' h2 h3 _ h5 => k v' w' h2 h3 h5)

theorem own_form {w : World} {base n : Nat} {t : TypeId} {v : Value} {xs : List Value} {sz : Nat} (h : w.ownsRow base t sz v n xs) : ∃ A c, v = .slice A n c := by
  rcases h.2 with ⟨rfl, rfl⟩ | ⟨g, cap, cur, rfl, _⟩
  · exact ⟨_, _, rfl⟩
  · exact ⟨_, _, rfl⟩

set_option maxRecDepth 100000 in
theorem twin_any (A : Option Addr) (n c : Nat) (ws : List Nat) (w : World) (h : Words w A n c ws) (hn : n ≤ 1000000) :
    Calls Try.prog 31 #[.slice A n c] w fun e w' => ∃ A' c', e = .returned (.slice A' n c') ∧ w'.ownsRow w.heap.size 22 1 (.slice A' n c') n (ws.map wv) ∧ Below w.heap.size w w' := by
  obtain ⟨i, hi, hz, h1, h8⟩ := info_parts info_u64
  cases A with
  | none =>
    have hz0 := h.none_ rfl
    have hc0 := h.cap
    obtain rfl : n = 0 := by omega
    have hw : ws = [] := List.eq_nil_of_length_eq_zero h.len
    subst hw
    have hm := h.most
    clear h
    go_enter Try.func31, Try.ntmps31
    go_wp2
    go_ret
    exact ⟨_, _, rfl, World.ownsRow_made w #[] 0 (Nat.le_refl _) (by decide) rfl, (Below.refl _ _).alloc (Nat.le_refl _) _⟩
  | some a =>
    have H := Lib.hid h
    have K : ∀ j u, (ws.map wv)[j]? = some u → (w.alloc (.cells #[] 22)).cell? (a.add j) = some u :=
      (h.below ((Below.refl _ _).alloc (Nat.le_refl _) _)).cells_at
    have hl : (ws.map wv).length = n * 1 := by have := h.len; simpa using this
    have hm := h.most
    have hcap := h.cap
    have C3 : 0 + n ≤ maxLen := by unfold maxLen; omega
    have C4 : (0 + n) * 8 ≤ 140737488355328 := by omega
    clear h
    go_enter Try.func31, Try.ntmps31
    go_wp2_with (at_builtin; refine wpList_append_own_at _ rfl (.tmp 3) (.tmp 4) 33 rfl w.heap.size 22 i (.int .u64 0) 1 8 Try.underlying33 hi hz h1 h8 rfl (by decide) (.slice (some ⟨w.heap.size, 0, none⟩) 0 0) 0 [] rfl (World.ownsRow_made w #[] 0 (Nat.le_refl _) (by decide) rfl) a n c (ws.map wv) rfl hl K (words_one ws) C3 C4 (by simp) ?_; intro v' w' hown hg _ hat)
    simp only [Nat.zero_add, List.nil_append] at hown
    obtain ⟨A', c', rfl⟩ := own_form hown
    go_ret
    refine ⟨_, _, rfl, hown, ((Below.refl _ _).alloc (Nat.le_refl _) _).grown hg (by simp) ?_⟩
    intro k hk
    simp [Value.ownBlock] at hk
    omega

set_option maxRecDepth 100000 in
theorem same_eq (A : Option Addr) (n c : Nat) (A' : Option Addr) (c' : Nat) (ws : List Nat) (w : World) (h : Words w A n c ws) (h' : Words w A' n c' ws) :
    Calls Try.prog 36 #[.slice A n c, .slice A' n c'] w fun e w' => e = .returned (.bool true) ∧ Below w.heap.size w w' := by
  have H := Lib.hid h
  have H' := Lib.hid h'
  have hm := h.most
  have hcap := h.cap
  have hm' := h'.most
  have hcap' := h'.cap
  clear h h'
  go_enter Try.func36, Try.ntmps36
  go_wp2
  go_loopw [5] (fun i wr => ∃ k : Nat, k ≤ n ∧ i = .int .i64 k ∧ Below w.heap.size w wr) (fun i _ => n - (intOf i).toNat)
  case atStart => exact ⟨0, Nat.zero_le _, rfl, Below.refl _ _⟩
  case round =>
    obtain ⟨k, hk, rfl, hnx⟩ := hrel
    by_cases hlt : k < n
    · obtain ⟨b, o, rfl, hbl, hcell⟩ := H.out.cell (by omega)
      obtain ⟨b', o', rfl, hbl', hcell'⟩ := H'.out.cell (by omega)
      have hlen := H.out.len
      have hcx : wr.cell? ⟨b, o + k, none⟩ = some (.int .u64 (ws[k]'(by omega) : Nat)) := (hnx.cell (p := ⟨b, o + k, none⟩) hbl).trans (hcell k (by omega))
      have hcy : wr.cell? ⟨b', o' + k, none⟩ = some (.int .u64 (ws[k]'(by omega) : Nat)) := (hnx.cell (p := ⟨b', o' + k, none⟩) hbl').trans (hcell' k (by omega))
      generalize ws[k]'(by omega) = x at hcx hcy
      clear hcell hcell'
      go_wp2_with fail
      go_quiet (fail)
      go_wp2
      go_roundw
      case rel => exact ⟨k + 1, by omega, by go_num, ⟨hnx.os, hnx.tape, hnx.output, hnx.size, hnx.block⟩⟩
      case measure => simp [intOf]; omega
    · obtain rfl : k = n := by omega
      go_wp2
      go_ret
      exact ⟨rfl, hnx⟩
end Go.Proofs.Ytoifalgkeegklaa
