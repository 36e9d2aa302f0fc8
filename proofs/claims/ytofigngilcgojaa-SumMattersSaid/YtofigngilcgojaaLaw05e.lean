/- The laws of package sum, walked (5). -/
import Derived.Test.YtofigngilcgojaaLaw05d
namespace Go.Proofs.Ytofigngilcgojaa
open Go.RowKit

theorem low8 (x : Nat) (hx : x < 18446744073709551616) : bits .and .u64 (x : Int) 255 = ((fld x 0 8 : Nat) : Int) := by
  have h := byte_and x 0 1 hx (by decide)
  have e : byt x 0 = fld x 0 8 := by unfold byt fld; simp
  rw [← e]
  simpa using h

set_option maxRecDepth 100000 in
set_option maxHeartbeats 1000000 in
theorem walkSumParts (s : Nat) (A : Option Addr) (n c : Nat) (ws : List Nat) (A1 : Option Addr) (n1 c1 : Nat) (ws1 : List Nat) (w : World) (hs : s < 18446744073709551616) (h : Words w A n c ws) (h1 : Words w A1 n1 c1 ws1) :
    Calls Try.prog 14 #[.int .u64 s, .slice A n c, .slice A1 n1 c1] w fun e w' => e = .returned (.bool true) ∧ Below w.heap.size w w' := by
  have hm := h.most
  have hc := h.cap
  have hm1 := h1.most
  have hc1 := h1.cap
  by_cases g1 : 100 < n
  · clear h h1
    go_enter Try.func14, Try.ntmps14
    go_wp2_with fail
    refine (alive05 _).mono ?_
    rintro e w1 ⟨rfl, hb1⟩
    go_wp2
    go_ret
    exact ⟨rfl, hb1⟩
  by_cases g2 : 100 < n1
  · clear h h1
    go_enter Try.func14, Try.ntmps14
    go_wp2_with fail
    refine (alive05 _).mono ?_
    rintro e w1 ⟨rfl, hb1⟩
    go_wp2
    go_ret
    exact ⟨rfl, hb1⟩
  have H := Lib.hid h
  have H1 := Lib.hid h1
  have G := Lib.hid (h.below ((Below.refl _ _).alloc (Nat.le_refl _) (.cells #[] 22)))
  have L := Lib.hid (fun x (hx : x ∈ ws ++ ws1) => (List.mem_append.1 hx).elim (h.lt x) (h1.lt x))
  have B0 := Lib.hid ((Below.refl w.heap.size w).alloc (Nat.le_refl _) (.cells #[] 22))
  have O0 := Lib.hid (World.ownsRow_made w #[] 0 (e := 22) (size := 1) (Nat.le_refl w.heap.size) (by decide) rfl)
  clear h h1
  have C1 := Lib.hid fun W A c h => next_ok s A n c ws W h (by omega) hs
  have C2 := Lib.hid fun W A c h => next_ok (beh s ws) A n1 c ws1 W h (by omega) (beh_lt s ws hs)
  have C3 := Lib.hid fun W A c h => next_ok s A (n + n1) c (ws ++ ws1) W h (by omega) hs
  have C4 := Lib.hid fun W A c h => next_ok 14695981039346656037 A (n + n1) c (ws ++ ws1) W h (by omega) (by omega)
  have C5 := Lib.hid fun W A c h => of_ok A (n + n1) c (ws ++ ws1) W h (by omega)
  have C6 := Lib.hid fun W A c h => low_ok A (n + n1) c (ws ++ ws1) 8 W h (by omega) (by omega) (by omega)
  rw [beh_append] at C3
  have M8 := low8 (beh 14695981039346656037 (ws ++ ws1)) (beh_lt _ _ (by omega))
  generalize beh (beh s ws) ws1 = r2 at C2 C3
  generalize beh s ws = r1 at C1 C2
  generalize fld (beh 14695981039346656037 (ws ++ ws1)) 0 8 = lo at C6 M8
  generalize beh 14695981039346656037 (ws ++ ws1) = r3 at C4 C5 M8
  go_enter Try.func14, Try.ntmps14
  go_wp2_with (first
    | (at_builtin; refine wpList_append_words _ rfl (.tmp 29) (.tmp 30) rfl w.heap.size (.slice (some ⟨w.heap.size, 0, none⟩) 0 0) 0 [] rfl O0.out _ _ _ _ rfl G.out (by omega) (by omega) (by simp) ?_
       intro v' w1 hown hg hat
       simp only [Nat.zero_add, List.nil_append] at hown
       obtain ⟨A2, c2, rfl⟩ := own_form hown
       have X1 := Lib.hid hown
       have B1 := Lib.hid (B0.out.grown hg (by simp) (by intro k hk; simp [Value.ownBlock] at hk; omega))
       clear hown hg hat)
    | (at_builtin; refine wpList_append_words _ rfl (.tmp 31) (.tmp 32) rfl w.heap.size (.slice A2 n c2) n (ws.map wv) rfl X1.out _ _ _ _ rfl (H1.out.below B1.out) (by omega) (by omega) B1.out.size ?_
       intro v' w2 hown hg hat
       rw [← List.map_append] at hown
       obtain ⟨A3, c3, rfl⟩ := own_form hown
       have X2 := Lib.hid (Words.own hown L.out)
       have B2 := Lib.hid (B1.out.grown hg B1.out.size (fun k hk => (X1.out.lt k hk).1))
       clear hown hg hat)
    | fail)
  refine (C1.out _ _ _ (H.out.below B2.out)).mono ?_
  rintro e w3 ⟨rfl, hb3⟩
  have B3 := Lib.hid (B2.out.trans (hb3.mono B2.out.size))
  have X3 := Lib.hid (X2.out.below hb3)
  go_wp2_with fail
  refine (C2.out _ _ _ (H1.out.below B3.out)).mono ?_
  rintro e w4 ⟨rfl, hb4⟩
  have B4 := Lib.hid (B3.out.trans (hb4.mono B3.out.size))
  have X4 := Lib.hid (X3.out.below hb4)
  go_wp2_with fail
  refine (C3.out _ _ _ X4.out).mono ?_
  rintro e w5 ⟨rfl, hb5⟩
  have B5 := Lib.hid (B4.out.trans (hb5.mono B4.out.size))
  have X5 := Lib.hid (X4.out.below hb5)
  go_wp2_with fail
  refine (C4.out _ _ _ X5.out).mono ?_
  rintro e w6 ⟨rfl, hb6⟩
  have B6 := Lib.hid (B5.out.trans (hb6.mono B5.out.size))
  have X6 := Lib.hid (X5.out.below hb6)
  go_wp2_with fail
  refine (C5.out _ _ _ X6.out).mono ?_
  rintro e w7 ⟨rfl, hb7⟩
  have B7 := Lib.hid (B6.out.trans (hb7.mono B6.out.size))
  have X7 := Lib.hid (X6.out.below hb7)
  go_wp2_with fail
  refine (C6.out _ _ _ X7.out).mono ?_
  rintro e w8 ⟨rfl, hb8⟩
  have B8 := Lib.hid (B7.out.trans (hb8.mono B7.out.size))
  go_wp2_with fail
  refine (alive05 _).mono ?_
  rintro e w9 ⟨rfl, hb9⟩
  have B9 := Lib.hid (B8.out.trans (hb9.mono B8.out.size))
  go_wp2
  go_ret
  exact ⟨rfl, B9.out⟩
end Go.Proofs.Ytofigngilcgojaa
