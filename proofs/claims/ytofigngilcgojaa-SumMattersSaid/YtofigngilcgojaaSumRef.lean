/- The reference's Next, Of and Low, walked. -/
import Derived.Test.YtofigngilcgojaaSum
namespace Go.Proofs.Ytofigngilcgojaa
open Go.RowKit

theorem rnext_many (s : Nat) (A : Option Addr) (n c : Nat) (ws : List Nat) (w : World) (h : Words w A n c ws) (hn : 2048 < n) :
    Calls Try.prog 32 #[.int .u64 s, .slice A n c] w fun e w' => e = .returned (.tuple #[.int .u64 0, .int .i64 4]) ∧ w = w' := by
  have hm := h.most
  have hc := h.cap
  clear h
  go_enter Try.func32, Try.ntmps32
  go_wp2
  go_ret2
  exact ⟨rfl, rfl⟩
theorem rnext_ok (s : Nat) (A : Option Addr) (n c : Nat) (ws : List Nat) (w : World) (h : Words w A n c ws) (hn : n ≤ 2048) (hs : s < 18446744073709551616) :
    Calls Try.prog 32 #[.int .u64 s, .slice A n c] w fun e w' => e = .returned (.tuple #[.int .u64 (beh s ws : Nat), .int .i64 0]) ∧ Below w.heap.size w w' := by
  have C := Lib.hid (rbehind_any s A n c ws w h hs)
  have hm := h.most
  have hc := h.cap
  clear h
  go_enter Try.func32, Try.ntmps32
  go_wp2_with fail
  refine C.out.mono ?_
  rintro e w' ⟨rfl, hb⟩
  go_wp2
  go_ret2
  exact ⟨rfl, hb⟩
theorem rof_many (A : Option Addr) (n c : Nat) (ws : List Nat) (w : World) (h : Words w A n c ws) (hn : 2048 < n) :
    Calls Try.prog 33 #[.slice A n c] w fun e w' => e = .returned (.tuple #[.int .u64 0, .int .i64 4]) ∧ w = w' := by
  have hm := h.most
  have hc := h.cap
  clear h
  go_enter Try.func33, Try.ntmps33
  go_wp2
  go_ret2
  exact ⟨rfl, rfl⟩
theorem rof_ok (A : Option Addr) (n c : Nat) (ws : List Nat) (w : World) (h : Words w A n c ws) (hn : n ≤ 2048) :
    Calls Try.prog 33 #[.slice A n c] w fun e w' => e = .returned (.tuple #[.int .u64 (beh 14695981039346656037 ws : Nat), .int .i64 0]) ∧ Below w.heap.size w w' := by
  have C := Lib.hid (rsum_any A n c ws w h)
  have hm := h.most
  have hc := h.cap
  clear h
  go_enter Try.func33, Try.ntmps33
  go_wp2_with fail
  refine C.out.mono ?_
  rintro e w' ⟨rfl, hb⟩
  go_wp2
  go_ret2
  exact ⟨rfl, hb⟩
theorem rlow_many (A : Option Addr) (n c : Nat) (ws : List Nat) (d : Int) (w : World) (h : Words w A n c ws) (hn : 2048 < n) :
    Calls Try.prog 34 #[.slice A n c, .int .i64 d] w fun e w' => e = .returned (.tuple #[.int .u64 0, .int .i64 4]) ∧ w = w' := by
  have hm := h.most
  have hc := h.cap
  clear h
  go_enter Try.func34, Try.ntmps34
  go_wp2
  go_ret2
  exact ⟨rfl, rfl⟩
theorem rlow_bad (A : Option Addr) (n c : Nat) (ws : List Nat) (d : Int) (w : World) (h : Words w A n c ws) (hn : n ≤ 2048) (hb : d < 8 ∨ 64 < d) :
    Calls Try.prog 34 #[.slice A n c, .int .i64 d] w fun e w' => e = .returned (.tuple #[.int .u64 0, .int .i64 2]) ∧ w = w' := by
  have hm := h.most
  have hc := h.cap
  clear h
  rcases hb with hb | hb
  · go_enter Try.func34, Try.ntmps34
    go_wp2
    go_ret2
    exact ⟨rfl, rfl⟩
  · have h8 : ¬ d < 8 := by omega
    go_enter Try.func34, Try.ntmps34
    go_wp2
    go_ret2
    exact ⟨rfl, rfl⟩
theorem rlow_ok (A : Option Addr) (n c : Nat) (ws : List Nat) (d : Nat) (w : World) (h : Words w A n c ws) (hn : n ≤ 2048) (hd : 8 ≤ d) (hd2 : d ≤ 64) :
    Calls Try.prog 34 #[.slice A n c, .int .i64 d] w fun e w' => e = .returned (.tuple #[.int .u64 (fld (beh 14695981039346656037 ws) 0 d : Nat), .int .i64 0]) ∧ Below w.heap.size w w' := by
  have C := Lib.hid (rpart_any A n c ws d w h hd2)
  have hm := h.most
  have hc := h.cap
  clear h
  go_enter Try.func34, Try.ntmps34
  go_wp2_with fail
  refine C.out.mono ?_
  rintro e w' ⟨rfl, hb⟩
  go_wp2
  go_ret2
  exact ⟨rfl, hb⟩
end Go.Proofs.Ytofigngilcgojaa
