/- The laws of package word, walked. -/
import Derived.Test.YtofigngilcgojaaWordRef
namespace Go.Proofs.Ytofigngilcgojaa
open Go.RowKit

theorem fld_nat {f n : Int} (h : Fld f n) : ∃ F N : Nat, f = F ∧ n = N ∧ 1 ≤ N ∧ F + N ≤ 64 := by
  obtain ⟨h1, h2, h3, h4⟩ := h
  exact ⟨f.toNat, n.toNat, by omega, by omega, by omega, by omega⟩

theorem walkWordFields (x : Nat) (f n : Int) (v : Nat) (w : World) (hx : x < 18446744073709551616) (hf : -9223372036854775808 ≤ f) (hf2 : f ≤ 9223372036854775807) (hn : -9223372036854775808 ≤ n) (hn2 : n ≤ 9223372036854775807) (hv : v < 18446744073709551616) :
    Calls Try.prog 6 #[.int .u64 x, .int .i64 f, .int .i64 n, .int .u64 v] w fun e w' => e = .returned (.bool true) ∧ Below w.heap.size w w' := by
  by_cases h : Fld f n
  · obtain ⟨F, N, rfl, rfl, h1, h2⟩ := fld_nat h
    clear h hf hf2 hn hn2
    by_cases hr : v < 2 ^ N
    · have HR := Lib.hid hr
      clear hr
      go_enter Try.func6, Try.ntmps6
      go_wp2_with (first | (go_at_call 22; refine (get_ok x F N _ hx h1 h2).mono ?_; rintro e w' ⟨rfl, rfl⟩) | (go_at_call 23; refine (rget_ok x F N _ hx h1 h2).mono ?_; rintro e w' ⟨rfl, rfl⟩) | (go_at_call 24; refine (set_ok x F N v _ hx h1 h2 HR.out).mono ?_; rintro e w' ⟨rfl, rfl⟩) | (go_at_call 25; refine (rset_ok x F N v _ hx hv h1 h2 HR.out).mono ?_; rintro e w' ⟨rfl, rfl⟩))
      go_ret
      exact ⟨rfl, Below.refl _ _⟩
    · have HR := Lib.hid (Nat.le_of_not_lt hr)
      clear hr
      go_enter Try.func6, Try.ntmps6
      go_wp2_with (first | (go_at_call 22; refine (get_ok x F N _ hx h1 h2).mono ?_; rintro e w' ⟨rfl, rfl⟩) | (go_at_call 23; refine (rget_ok x F N _ hx h1 h2).mono ?_; rintro e w' ⟨rfl, rfl⟩) | (go_at_call 24; refine (set_range x F N v _ h1 h2 HR.out).mono ?_; rintro e w' ⟨rfl, rfl⟩) | (go_at_call 25; refine (rset_range x F N v _ hv h1 h2 HR.out).mono ?_; rintro e w' ⟨rfl, rfl⟩))
      go_ret
      exact ⟨rfl, Below.refl _ _⟩
  · have H := Lib.hid h
    clear h
    go_enter Try.func6, Try.ntmps6
    go_wp2_with (first | (go_at_call 22; refine (get_no x f n _ hf hf2 hn hn2 H.out).mono ?_; rintro e w' ⟨rfl, rfl⟩) | (go_at_call 23; refine (rget_no x f n _ hf hf2 hn hn2 H.out).mono ?_; rintro e w' ⟨rfl, rfl⟩) | (go_at_call 24; refine (set_no x v f n _ hf hf2 hn hn2 H.out).mono ?_; rintro e w' ⟨rfl, rfl⟩) | (go_at_call 25; refine (rset_no x v f n _ hf hf2 hn hn2 H.out).mono ?_; rintro e w' ⟨rfl, rfl⟩))
    go_ret
    exact ⟨rfl, Below.refl _ _⟩
end Go.Proofs.Ytofigngilcgojaa
