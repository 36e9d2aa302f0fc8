/- The laws on classes of sizes, walked. -/
import Derived.Test.YthdccahggcjogaaClassB
namespace Go.Proofs.Ythdccahggcjogaa
open Go.RowKit

theorem clsR_any (n : Int) : (n < 2 ∨ 1920 < n) ∨ ∃ m : Nat, n = m ∧ 2 ≤ m ∧ m ≤ 1920 := by
  by_cases h : n < 2 ∨ 1920 < n
  · exact .inl h
  · exact .inr ⟨n.toNat, by omega, by omega, by omega⟩
theorem bndR_any (n : Int) : (n < 1 ∨ 10 < n) ∨ ∃ m : Nat, n = m ∧ 1 ≤ m ∧ m ≤ 10 := by
  by_cases h : n < 1 ∨ 10 < n
  · exact .inl h
  · exact .inr ⟨n.toNat, by omega, by omega, by omega⟩
theorem tells_by (a k : Int) (x e0 u v g : Int) (w : World)
    (C1 : Hid (∀ W : World, Calls Try.prog 45 #[.int .i64 a] W fun e w' => e = .returned (.tuple #[.int .i64 x, .int .i64 e0]) ∧ W = w'))
    (C2 : Hid (∀ W : World, Calls Try.prog 46 #[.int .i64 a] W fun e w' => e = .returned (.tuple #[.int .i64 x, .int .i64 e0]) ∧ W = w'))
    (D1 : Hid (∀ W : World, Calls Try.prog 47 #[.int .i64 k] W fun e w' => e = .returned (.tuple #[.int .i64 u, .int .i64 v, .int .i64 g]) ∧ Below W.heap.size W w'))
    (D2 : Hid (∀ W : World, Calls Try.prog 48 #[.int .i64 k] W fun e w' => e = .returned (.tuple #[.int .i64 u, .int .i64 v, .int .i64 g]) ∧ W = w')) :
    Calls Try.prog 15 #[.int .i64 a, .int .i64 k] w fun e w' => e = .returned (.bool true) ∧ Below w.heap.size w w' := by
  go_enter Try.func15, Try.ntmps15
  go_wp2_with fail
  refine (C1.out _).mono ?_
  rintro e wd ⟨rfl, rfl⟩
  go_wp2_with fail
  refine (C2.out _).mono ?_
  rintro e wd ⟨rfl, rfl⟩
  go_wp2_with fail
  refine (D1.out _).mono ?_
  rintro e w1 ⟨rfl, hb⟩
  go_wp2_with fail
  refine (D2.out _).mono ?_
  rintro e wd ⟨rfl, rfl⟩
  go_wp2
  go_ret
  exact ⟨rfl, hb⟩
theorem walkClassesTells (a k : Int) (w : World) (_a1 : -9223372036854775808 ≤ a) (_a2 : a ≤ 9223372036854775807) (_k1 : -9223372036854775808 ≤ k) (_k2 : k ≤ 9223372036854775807) :
    Calls Try.prog 15 #[.int .i64 a, .int .i64 k] w fun e w' => e = .returned (.bool true) ∧ Below w.heap.size w w' := by
  rcases clsR_any a with h | ⟨m, rfl, h1, h2⟩ <;> rcases bndR_any k with g | ⟨j, rfl, g1, g2⟩
  · exact tells_by _ _ _ _ _ _ _ w (Lib.hid fun W => class_bad a W h) (Lib.hid fun W => rcls_bad a W h) (Lib.hid fun W => bounds_bad k W g) (Lib.hid fun W => rbounds_bad k W g)
  · exact tells_by _ _ _ _ _ _ _ w (Lib.hid fun W => class_bad a W h) (Lib.hid fun W => rcls_bad a W h) (Lib.hid fun W => bounds_ok j W g1 g2) (Lib.hid fun W => rbounds_ok j W g1 g2)
  · exact tells_by _ _ _ _ _ _ _ w (Lib.hid fun W => class_ok m W h1 h2) (Lib.hid fun W => rcls_ok m W h1 h2) (Lib.hid fun W => bounds_bad k W g) (Lib.hid fun W => rbounds_bad k W g)
  · exact tells_by _ _ _ _ _ _ _ w (Lib.hid fun W => class_ok m W h1 h2) (Lib.hid fun W => rcls_ok m W h1 h2) (Lib.hid fun W => bounds_ok j W g1 g2) (Lib.hid fun W => rbounds_ok j W g1 g2)

theorem order_err (a b k x e0 y f0 : Int) (w : World)
    (C1 : Hid (∀ W : World, Calls Try.prog 45 #[.int .i64 a] W fun e w' => e = .returned (.tuple #[.int .i64 x, .int .i64 e0]) ∧ W = w'))
    (C2 : Hid (∀ W : World, Calls Try.prog 45 #[.int .i64 b] W fun e w' => e = .returned (.tuple #[.int .i64 y, .int .i64 f0]) ∧ W = w'))
    (he : e0 = 0 ∨ (e0 = 2 ∧ (a < 2 ∨ 1920 < a))) (hf : f0 = 0 ∨ (f0 = 2 ∧ (b < 2 ∨ 1920 < b))) (hne : e0 = 2 ∨ f0 = 2) :
    Calls Try.prog 16 #[.int .i64 a, .int .i64 b, .int .i64 k] w fun e w' => e = .returned (.bool true) ∧ Below w.heap.size w w' := by
  rcases he with rfl | ⟨rfl, ha | ha⟩ <;> rcases hf with rfl | ⟨rfl, hb | hb⟩
  · exact absurd hne (by decide)
  · clear hne
    go_enter Try.func16, Try.ntmps16
    go_wp2_with fail
    refine (alive17 _).mono ?_
    rintro e wd ⟨rfl, rfl⟩
    go_wp2_with fail
    refine (C1.out _).mono ?_
    rintro e wd ⟨rfl, rfl⟩
    go_wp2_with fail
    refine (C2.out _).mono ?_
    rintro e wd ⟨rfl, rfl⟩
    go_wp2
    go_ret
    exact ⟨rfl, Below.refl _ _⟩
  · clear hne
    have n2 : decide (b < 2) = false := by simp; omega
    go_enter Try.func16, Try.ntmps16
    go_wp2_with fail
    refine (alive17 _).mono ?_
    rintro e wd ⟨rfl, rfl⟩
    go_wp2_with fail
    refine (C1.out _).mono ?_
    rintro e wd ⟨rfl, rfl⟩
    go_wp2_with fail
    refine (C2.out _).mono ?_
    rintro e wd ⟨rfl, rfl⟩
    go_wp2
    go_ret
    exact ⟨rfl, Below.refl _ _⟩
  · clear hne
    go_enter Try.func16, Try.ntmps16
    go_wp2_with fail
    refine (alive17 _).mono ?_
    rintro e wd ⟨rfl, rfl⟩
    go_wp2_with fail
    refine (C1.out _).mono ?_
    rintro e wd ⟨rfl, rfl⟩
    go_wp2_with fail
    refine (C2.out _).mono ?_
    rintro e wd ⟨rfl, rfl⟩
    go_wp2
    go_ret
    exact ⟨rfl, Below.refl _ _⟩
  · clear hne
    go_enter Try.func16, Try.ntmps16
    go_wp2_with fail
    refine (alive17 _).mono ?_
    rintro e wd ⟨rfl, rfl⟩
    go_wp2_with fail
    refine (C1.out _).mono ?_
    rintro e wd ⟨rfl, rfl⟩
    go_wp2_with fail
    refine (C2.out _).mono ?_
    rintro e wd ⟨rfl, rfl⟩
    go_wp2
    go_ret
    exact ⟨rfl, Below.refl _ _⟩
  · clear hne
    have n2 : decide (b < 2) = false := by simp; omega
    go_enter Try.func16, Try.ntmps16
    go_wp2_with fail
    refine (alive17 _).mono ?_
    rintro e wd ⟨rfl, rfl⟩
    go_wp2_with fail
    refine (C1.out _).mono ?_
    rintro e wd ⟨rfl, rfl⟩
    go_wp2_with fail
    refine (C2.out _).mono ?_
    rintro e wd ⟨rfl, rfl⟩
    go_wp2
    go_ret
    exact ⟨rfl, Below.refl _ _⟩
  · clear hne
    have n1 : decide (a < 2) = false := by simp; omega
    go_enter Try.func16, Try.ntmps16
    go_wp2_with fail
    refine (alive17 _).mono ?_
    rintro e wd ⟨rfl, rfl⟩
    go_wp2_with fail
    refine (C1.out _).mono ?_
    rintro e wd ⟨rfl, rfl⟩
    go_wp2_with fail
    refine (C2.out _).mono ?_
    rintro e wd ⟨rfl, rfl⟩
    go_wp2
    go_ret
    exact ⟨rfl, Below.refl _ _⟩
  · clear hne
    have n1 : decide (a < 2) = false := by simp; omega
    go_enter Try.func16, Try.ntmps16
    go_wp2_with fail
    refine (alive17 _).mono ?_
    rintro e wd ⟨rfl, rfl⟩
    go_wp2_with fail
    refine (C1.out _).mono ?_
    rintro e wd ⟨rfl, rfl⟩
    go_wp2_with fail
    refine (C2.out _).mono ?_
    rintro e wd ⟨rfl, rfl⟩
    go_wp2
    go_ret
    exact ⟨rfl, Below.refl _ _⟩
  · clear hne
    have n1 : decide (a < 2) = false := by simp; omega
    have n2 : decide (b < 2) = false := by simp; omega
    go_enter Try.func16, Try.ntmps16
    go_wp2_with fail
    refine (alive17 _).mono ?_
    rintro e wd ⟨rfl, rfl⟩
    go_wp2_with fail
    refine (C1.out _).mono ?_
    rintro e wd ⟨rfl, rfl⟩
    go_wp2_with fail
    refine (C2.out _).mono ?_
    rintro e wd ⟨rfl, rfl⟩
    go_wp2
    go_ret
    exact ⟨rfl, Below.refl _ _⟩

theorem order_ok (a b x y : Nat) (k lo hi g : Int) (w : World)
    (C1 : Hid (∀ W : World, Calls Try.prog 45 #[.int .i64 a] W fun e w' => e = .returned (.tuple #[.int .i64 x, .int .i64 0]) ∧ W = w'))
    (C2 : Hid (∀ W : World, Calls Try.prog 45 #[.int .i64 b] W fun e w' => e = .returned (.tuple #[.int .i64 y, .int .i64 0]) ∧ W = w'))
    (D : Hid (∀ W : World, Calls Try.prog 47 #[.int .i64 k] W fun e w' => e = .returned (.tuple #[.int .i64 lo, .int .i64 hi, .int .i64 g]) ∧ Below W.heap.size W w'))
    (hx : 1 ≤ x) (hx2 : x ≤ 10) (h1 : a ≤ b → x ≤ y) (h2 : x < y → a < b)
    (hg : (g = 2 ∧ (k < 1 ∨ 10 < k)) ∨ (g = 0 ∧ (((x : Int) = k ∧ lo ≤ a ∧ (a : Int) ≤ hi) ∨ ((x : Int) ≠ k ∧ ((a : Int) < lo ∨ (lo ≤ a ∧ hi < a)))))) :
    Calls Try.prog 16 #[.int .i64 a, .int .i64 b, .int .i64 k] w fun e w' => e = .returned (.bool true) ∧ Below w.heap.size w w' := by
  have k1 : decide ((x : Int) < 1) = false := by simp; omega
  have k2 : decide (10 < (x : Int)) = false := by simp; omega
  have k3 : decide (x < 1) = false := by simp; omega
  have k4 : decide (10 < x) = false := by simp; omega
  have HG := Lib.hid hg
  clear hg
  have T : (a ≤ b ∧ decide (y < x) = false ∧ (decide (x < y) = false ∨ (x < y ∧ decide (b ≤ a) = false))) ∨ (decide (a ≤ b) = false ∧ decide (x < y) = false) := by
    by_cases hab : a ≤ b
    · refine .inl ⟨hab, by simp; omega, ?_⟩
      by_cases hxy : x < y
      · exact .inr ⟨hxy, by have := h2 hxy; simp; omega⟩
      · exact .inl (by simpa using hxy)
    · exact .inr ⟨by simpa using hab, by
        have : ¬ x < y := fun h => hab (by have := h2 h; omega)
        simpa using this⟩
  clear h1 h2
  rcases T with ⟨t1, t2, t3 | ⟨t3, t4⟩⟩ | ⟨t1, t2⟩
  all_goals
    rcases HG.out with ⟨rfl, g1 | g1⟩ | ⟨rfl, ⟨g1, g2, g3⟩ | ⟨g1, g2 | ⟨g2, g3⟩⟩⟩
    · go_enter Try.func16, Try.ntmps16
      go_wp2_with fail
      refine (alive17 _).mono ?_
      rintro e wd ⟨rfl, rfl⟩
      go_wp2_with fail
      refine (C1.out _).mono ?_
      rintro e wd ⟨rfl, rfl⟩
      go_wp2_with fail
      refine (C2.out _).mono ?_
      rintro e wd ⟨rfl, rfl⟩
      go_wp2_with fail
      refine (D.out _).mono ?_
      rintro e w1 ⟨rfl, hb⟩
      go_wp2
      go_ret
      exact ⟨rfl, hb⟩
    · have n1 : decide (k < 1) = false := by simp; omega
      go_enter Try.func16, Try.ntmps16
      go_wp2_with fail
      refine (alive17 _).mono ?_
      rintro e wd ⟨rfl, rfl⟩
      go_wp2_with fail
      refine (C1.out _).mono ?_
      rintro e wd ⟨rfl, rfl⟩
      go_wp2_with fail
      refine (C2.out _).mono ?_
      rintro e wd ⟨rfl, rfl⟩
      go_wp2_with fail
      refine (D.out _).mono ?_
      rintro e w1 ⟨rfl, hb⟩
      go_wp2
      go_ret
      exact ⟨rfl, hb⟩
    · have n1 : (((x : Nat) : Int) == k) = true := by simpa using g1
      clear g1
      go_enter Try.func16, Try.ntmps16
      go_wp2_with fail
      refine (alive17 _).mono ?_
      rintro e wd ⟨rfl, rfl⟩
      go_wp2_with fail
      refine (C1.out _).mono ?_
      rintro e wd ⟨rfl, rfl⟩
      go_wp2_with fail
      refine (C2.out _).mono ?_
      rintro e wd ⟨rfl, rfl⟩
      go_wp2_with fail
      refine (D.out _).mono ?_
      rintro e w1 ⟨rfl, hb⟩
      go_wp2
      go_ret
      exact ⟨rfl, hb⟩
    · have n1 : (((x : Nat) : Int) == k) = false := by simpa using g1
      have n2 : decide (lo ≤ (a : Int)) = false := by simp; omega
      clear g1
      go_enter Try.func16, Try.ntmps16
      go_wp2_with fail
      refine (alive17 _).mono ?_
      rintro e wd ⟨rfl, rfl⟩
      go_wp2_with fail
      refine (C1.out _).mono ?_
      rintro e wd ⟨rfl, rfl⟩
      go_wp2_with fail
      refine (C2.out _).mono ?_
      rintro e wd ⟨rfl, rfl⟩
      go_wp2_with fail
      refine (D.out _).mono ?_
      rintro e w1 ⟨rfl, hb⟩
      go_wp2
      go_ret
      exact ⟨rfl, hb⟩
    · have n1 : (((x : Nat) : Int) == k) = false := by simpa using g1
      have n2 : decide ((a : Int) ≤ hi) = false := by simp; omega
      clear g1
      go_enter Try.func16, Try.ntmps16
      go_wp2_with fail
      refine (alive17 _).mono ?_
      rintro e wd ⟨rfl, rfl⟩
      go_wp2_with fail
      refine (C1.out _).mono ?_
      rintro e wd ⟨rfl, rfl⟩
      go_wp2_with fail
      refine (C2.out _).mono ?_
      rintro e wd ⟨rfl, rfl⟩
      go_wp2_with fail
      refine (D.out _).mono ?_
      rintro e w1 ⟨rfl, hb⟩
      go_wp2
      go_ret
      exact ⟨rfl, hb⟩

theorem log_mono {a b : Nat} (ha : 2 ≤ a) (h : a ≤ b) : Nat.log2 a ≤ Nat.log2 b := by
  have := (Nat.log2_lt (n := b) (k := Nat.log2 b + 1) (by omega)).1 (by omega)
  have := (Nat.log2_lt (n := a) (k := Nat.log2 b + 1) (by omega)).2 (by omega)
  omega
theorem log_lo (a : Nat) (ha : 2 ≤ a) : 2 ^ Nat.log2 a ≤ a := Nat.log2_self_le (by omega)
theorem log_hi (a : Nat) : a < 2 ^ (Nat.log2 a + 1) := Nat.lt_log2_self
theorem pow_mono {i j : Nat} (h : i ≤ j) : 2 ^ i ≤ 2 ^ j := Nat.pow_le_pow_right (by decide) h
theorem walkClassesOrder (a b k : Int) (w : World) (_a1 : -9223372036854775808 ≤ a) (_a2 : a ≤ 9223372036854775807) (_b1 : -9223372036854775808 ≤ b) (_b2 : b ≤ 9223372036854775807) (_k1 : -9223372036854775808 ≤ k) (_k2 : k ≤ 9223372036854775807) :
    Calls Try.prog 16 #[.int .i64 a, .int .i64 b, .int .i64 k] w fun e w' => e = .returned (.bool true) ∧ Below w.heap.size w w' := by
  rcases clsR_any a with h | ⟨m, rfl, h1, h2⟩ <;> rcases clsR_any b with g | ⟨j, rfl, g1, g2⟩
  · exact order_err _ _ k _ _ _ _ w (Lib.hid fun W => class_bad a W h) (Lib.hid fun W => class_bad b W g) (.inr ⟨rfl, h⟩) (.inr ⟨rfl, g⟩) (.inl rfl)
  · exact order_err _ _ k _ _ _ _ w (Lib.hid fun W => class_bad a W h) (Lib.hid fun W => class_ok j W g1 g2) (.inr ⟨rfl, h⟩) (.inl rfl) (.inl rfl)
  · exact order_err _ _ k _ _ _ _ w (Lib.hid fun W => class_ok m W h1 h2) (Lib.hid fun W => class_bad b W g) (.inl rfl) (.inr ⟨rfl, g⟩) (.inr rfl)
  · have lr := log_range m h1 h2
    have o1 := @log_mono m j h1
    have o2 : Nat.log2 m < Nat.log2 j → m < j := fun hl => by
      rcases Nat.lt_or_ge m j with h | h
      · exact h
      · have := log_mono g1 h; omega
    have p1 := log_lo m h1
    have p2 := log_hi m
    rcases bndR_any k with c | ⟨i, rfl, c1, c2⟩
    · exact order_ok m j _ _ k _ _ _ w (Lib.hid fun W => class_ok m W h1 h2) (Lib.hid fun W => class_ok j W g1 g2) (Lib.hid fun W => bounds_bad k W c) lr.1 lr.2 o1 o2 (.inl ⟨rfl, c⟩)
    · refine order_ok m j _ _ i _ _ _ w (Lib.hid fun W => class_ok m W h1 h2) (Lib.hid fun W => class_ok j W g1 g2) (Lib.hid fun W => bounds_ok i W c1 c2) lr.1 lr.2 o1 o2 (.inr ⟨rfl, ?_⟩)
      rcases Nat.lt_trichotomy (Nat.log2 m) i with hl | hl | hl
      · have := pow_mono (show Nat.log2 m + 1 ≤ i by omega)
        exact .inr ⟨by omega, .inl (by omega)⟩
      · subst hl
        refine .inl ⟨rfl, by omega, ?_⟩
        have : m ≤ hiN (Nat.log2 m) := by unfold hiN; omega
        omega
      · have := pow_mono (show i + 1 ≤ Nat.log2 m by omega)
        have := pow_mono (show i ≤ i + 1 by omega)
        have : hiN i < m := by
          have : 0 < 2 ^ (i + 1) := Nat.two_pow_pos _
          unfold hiN; omega
        exact .inr ⟨by omega, .inr ⟨by omega, by omega⟩⟩

theorem cbounds_bad (k : Int) (w : World) (h : k < 1 ∨ 10 < k) : Calls Try.prog 17 #[.int .i64 k] w fun e w' => e = .returned (.bool true) ∧ Below w.heap.size w w' := by
  have D := Lib.hid (bounds_bad k w h)
  rcases h with h | h
  · go_enter Try.func17, Try.ntmps17
    go_wp2_with fail
    refine (alive17 _).mono ?_
    rintro e wd ⟨rfl, rfl⟩
    go_wp2_with fail
    refine D.out.mono ?_
    rintro e w1 ⟨rfl, hb⟩
    go_wp2
    go_ret
    exact ⟨rfl, hb⟩
  · have n1 : decide (k < 1) = false := by simp; omega
    go_enter Try.func17, Try.ntmps17
    go_wp2_with fail
    refine (alive17 _).mono ?_
    rintro e wd ⟨rfl, rfl⟩
    go_wp2_with fail
    refine D.out.mono ?_
    rintro e w1 ⟨rfl, hb⟩
    go_wp2
    go_ret
    exact ⟨rfl, hb⟩
theorem cbounds_1 (w : World) : Calls Try.prog 17 #[.int .i64 1] w fun e w' => e = .returned (.bool true) ∧ Below w.heap.size w w' := by
  have D := Lib.hid (show Calls Try.prog 47 #[.int .i64 1] w fun e w' => e = .returned (.tuple #[.int .i64 2, .int .i64 3, .int .i64 0]) ∧ Below w.heap.size w w' from bounds_ok 1 w (by decide) (by decide))
  have E := Lib.hid fun W => class_bad 1 W (by omega)
  have F := Lib.hid fun W => (show Calls Try.prog 45 #[.int .i64 4] W fun e w' => e = .returned (.tuple #[.int .i64 2, .int .i64 0]) ∧ W = w' from class_ok 4 W (by decide) (by decide))
  have G := Lib.hid fun W => is_yes 2 1 W (by decide) (by decide) (by decide)
  have H := Lib.hid fun W => is_yes 3 1 W (by decide) (by decide) (by decide)
  go_enter Try.func17, Try.ntmps17
  go_wp2_with fail
  refine (alive17 _).mono ?_
  rintro e wd ⟨rfl, rfl⟩
  go_wp2_with fail
  refine D.out.mono ?_
  rintro e w1 ⟨rfl, hb⟩
  go_wp2_with fail
  refine (E.out _).mono ?_
  rintro e wd ⟨rfl, rfl⟩
  go_wp2_with fail
  refine (F.out _).mono ?_
  rintro e wd ⟨rfl, rfl⟩
  go_wp2_with fail
  refine (G.out _).mono ?_
  rintro e wd ⟨rfl, rfl⟩
  go_wp2_with fail
  refine (H.out _).mono ?_
  rintro e wd ⟨rfl, rfl⟩
  go_wp2
  go_ret
  exact ⟨rfl, hb⟩
theorem cbounds_2 (w : World) : Calls Try.prog 17 #[.int .i64 2] w fun e w' => e = .returned (.bool true) ∧ Below w.heap.size w w' := by
  have D := Lib.hid (show Calls Try.prog 47 #[.int .i64 2] w fun e w' => e = .returned (.tuple #[.int .i64 4, .int .i64 7, .int .i64 0]) ∧ Below w.heap.size w w' from bounds_ok 2 w (by decide) (by decide))
  have E := Lib.hid fun W => (show Calls Try.prog 45 #[.int .i64 3] W fun e w' => e = .returned (.tuple #[.int .i64 1, .int .i64 0]) ∧ W = w' from class_ok 3 W (by decide) (by decide))
  have F := Lib.hid fun W => (show Calls Try.prog 45 #[.int .i64 8] W fun e w' => e = .returned (.tuple #[.int .i64 3, .int .i64 0]) ∧ W = w' from class_ok 8 W (by decide) (by decide))
  have G := Lib.hid fun W => is_yes 4 2 W (by decide) (by decide) (by decide)
  have H := Lib.hid fun W => is_yes 7 2 W (by decide) (by decide) (by decide)
  go_enter Try.func17, Try.ntmps17
  go_wp2_with fail
  refine (alive17 _).mono ?_
  rintro e wd ⟨rfl, rfl⟩
  go_wp2_with fail
  refine D.out.mono ?_
  rintro e w1 ⟨rfl, hb⟩
  go_wp2_with fail
  refine (E.out _).mono ?_
  rintro e wd ⟨rfl, rfl⟩
  go_wp2_with fail
  refine (F.out _).mono ?_
  rintro e wd ⟨rfl, rfl⟩
  go_wp2_with fail
  refine (G.out _).mono ?_
  rintro e wd ⟨rfl, rfl⟩
  go_wp2_with fail
  refine (H.out _).mono ?_
  rintro e wd ⟨rfl, rfl⟩
  go_wp2
  go_ret
  exact ⟨rfl, hb⟩
theorem cbounds_3 (w : World) : Calls Try.prog 17 #[.int .i64 3] w fun e w' => e = .returned (.bool true) ∧ Below w.heap.size w w' := by
  have D := Lib.hid (show Calls Try.prog 47 #[.int .i64 3] w fun e w' => e = .returned (.tuple #[.int .i64 8, .int .i64 15, .int .i64 0]) ∧ Below w.heap.size w w' from bounds_ok 3 w (by decide) (by decide))
  have E := Lib.hid fun W => (show Calls Try.prog 45 #[.int .i64 7] W fun e w' => e = .returned (.tuple #[.int .i64 2, .int .i64 0]) ∧ W = w' from class_ok 7 W (by decide) (by decide))
  have F := Lib.hid fun W => (show Calls Try.prog 45 #[.int .i64 16] W fun e w' => e = .returned (.tuple #[.int .i64 4, .int .i64 0]) ∧ W = w' from class_ok 16 W (by decide) (by decide))
  have G := Lib.hid fun W => is_yes 8 3 W (by decide) (by decide) (by decide)
  have H := Lib.hid fun W => is_yes 15 3 W (by decide) (by decide) (by decide)
  go_enter Try.func17, Try.ntmps17
  go_wp2_with fail
  refine (alive17 _).mono ?_
  rintro e wd ⟨rfl, rfl⟩
  go_wp2_with fail
  refine D.out.mono ?_
  rintro e w1 ⟨rfl, hb⟩
  go_wp2_with fail
  refine (E.out _).mono ?_
  rintro e wd ⟨rfl, rfl⟩
  go_wp2_with fail
  refine (F.out _).mono ?_
  rintro e wd ⟨rfl, rfl⟩
  go_wp2_with fail
  refine (G.out _).mono ?_
  rintro e wd ⟨rfl, rfl⟩
  go_wp2_with fail
  refine (H.out _).mono ?_
  rintro e wd ⟨rfl, rfl⟩
  go_wp2
  go_ret
  exact ⟨rfl, hb⟩
theorem cbounds_4 (w : World) : Calls Try.prog 17 #[.int .i64 4] w fun e w' => e = .returned (.bool true) ∧ Below w.heap.size w w' := by
  have D := Lib.hid (show Calls Try.prog 47 #[.int .i64 4] w fun e w' => e = .returned (.tuple #[.int .i64 16, .int .i64 31, .int .i64 0]) ∧ Below w.heap.size w w' from bounds_ok 4 w (by decide) (by decide))
  have E := Lib.hid fun W => (show Calls Try.prog 45 #[.int .i64 15] W fun e w' => e = .returned (.tuple #[.int .i64 3, .int .i64 0]) ∧ W = w' from class_ok 15 W (by decide) (by decide))
  have F := Lib.hid fun W => (show Calls Try.prog 45 #[.int .i64 32] W fun e w' => e = .returned (.tuple #[.int .i64 5, .int .i64 0]) ∧ W = w' from class_ok 32 W (by decide) (by decide))
  have G := Lib.hid fun W => is_yes 16 4 W (by decide) (by decide) (by decide)
  have H := Lib.hid fun W => is_yes 31 4 W (by decide) (by decide) (by decide)
  go_enter Try.func17, Try.ntmps17
  go_wp2_with fail
  refine (alive17 _).mono ?_
  rintro e wd ⟨rfl, rfl⟩
  go_wp2_with fail
  refine D.out.mono ?_
  rintro e w1 ⟨rfl, hb⟩
  go_wp2_with fail
  refine (E.out _).mono ?_
  rintro e wd ⟨rfl, rfl⟩
  go_wp2_with fail
  refine (F.out _).mono ?_
  rintro e wd ⟨rfl, rfl⟩
  go_wp2_with fail
  refine (G.out _).mono ?_
  rintro e wd ⟨rfl, rfl⟩
  go_wp2_with fail
  refine (H.out _).mono ?_
  rintro e wd ⟨rfl, rfl⟩
  go_wp2
  go_ret
  exact ⟨rfl, hb⟩
theorem cbounds_5 (w : World) : Calls Try.prog 17 #[.int .i64 5] w fun e w' => e = .returned (.bool true) ∧ Below w.heap.size w w' := by
  have D := Lib.hid (show Calls Try.prog 47 #[.int .i64 5] w fun e w' => e = .returned (.tuple #[.int .i64 32, .int .i64 63, .int .i64 0]) ∧ Below w.heap.size w w' from bounds_ok 5 w (by decide) (by decide))
  have E := Lib.hid fun W => (show Calls Try.prog 45 #[.int .i64 31] W fun e w' => e = .returned (.tuple #[.int .i64 4, .int .i64 0]) ∧ W = w' from class_ok 31 W (by decide) (by decide))
  have F := Lib.hid fun W => (show Calls Try.prog 45 #[.int .i64 64] W fun e w' => e = .returned (.tuple #[.int .i64 6, .int .i64 0]) ∧ W = w' from class_ok 64 W (by decide) (by decide))
  have G := Lib.hid fun W => is_yes 32 5 W (by decide) (by decide) (by decide)
  have H := Lib.hid fun W => is_yes 63 5 W (by decide) (by decide) (by decide)
  go_enter Try.func17, Try.ntmps17
  go_wp2_with fail
  refine (alive17 _).mono ?_
  rintro e wd ⟨rfl, rfl⟩
  go_wp2_with fail
  refine D.out.mono ?_
  rintro e w1 ⟨rfl, hb⟩
  go_wp2_with fail
  refine (E.out _).mono ?_
  rintro e wd ⟨rfl, rfl⟩
  go_wp2_with fail
  refine (F.out _).mono ?_
  rintro e wd ⟨rfl, rfl⟩
  go_wp2_with fail
  refine (G.out _).mono ?_
  rintro e wd ⟨rfl, rfl⟩
  go_wp2_with fail
  refine (H.out _).mono ?_
  rintro e wd ⟨rfl, rfl⟩
  go_wp2
  go_ret
  exact ⟨rfl, hb⟩
theorem cbounds_6 (w : World) : Calls Try.prog 17 #[.int .i64 6] w fun e w' => e = .returned (.bool true) ∧ Below w.heap.size w w' := by
  have D := Lib.hid (show Calls Try.prog 47 #[.int .i64 6] w fun e w' => e = .returned (.tuple #[.int .i64 64, .int .i64 127, .int .i64 0]) ∧ Below w.heap.size w w' from bounds_ok 6 w (by decide) (by decide))
  have E := Lib.hid fun W => (show Calls Try.prog 45 #[.int .i64 63] W fun e w' => e = .returned (.tuple #[.int .i64 5, .int .i64 0]) ∧ W = w' from class_ok 63 W (by decide) (by decide))
  have F := Lib.hid fun W => (show Calls Try.prog 45 #[.int .i64 128] W fun e w' => e = .returned (.tuple #[.int .i64 7, .int .i64 0]) ∧ W = w' from class_ok 128 W (by decide) (by decide))
  have G := Lib.hid fun W => is_yes 64 6 W (by decide) (by decide) (by decide)
  have H := Lib.hid fun W => is_yes 127 6 W (by decide) (by decide) (by decide)
  go_enter Try.func17, Try.ntmps17
  go_wp2_with fail
  refine (alive17 _).mono ?_
  rintro e wd ⟨rfl, rfl⟩
  go_wp2_with fail
  refine D.out.mono ?_
  rintro e w1 ⟨rfl, hb⟩
  go_wp2_with fail
  refine (E.out _).mono ?_
  rintro e wd ⟨rfl, rfl⟩
  go_wp2_with fail
  refine (F.out _).mono ?_
  rintro e wd ⟨rfl, rfl⟩
  go_wp2_with fail
  refine (G.out _).mono ?_
  rintro e wd ⟨rfl, rfl⟩
  go_wp2_with fail
  refine (H.out _).mono ?_
  rintro e wd ⟨rfl, rfl⟩
  go_wp2
  go_ret
  exact ⟨rfl, hb⟩
theorem cbounds_7 (w : World) : Calls Try.prog 17 #[.int .i64 7] w fun e w' => e = .returned (.bool true) ∧ Below w.heap.size w w' := by
  have D := Lib.hid (show Calls Try.prog 47 #[.int .i64 7] w fun e w' => e = .returned (.tuple #[.int .i64 128, .int .i64 255, .int .i64 0]) ∧ Below w.heap.size w w' from bounds_ok 7 w (by decide) (by decide))
  have E := Lib.hid fun W => (show Calls Try.prog 45 #[.int .i64 127] W fun e w' => e = .returned (.tuple #[.int .i64 6, .int .i64 0]) ∧ W = w' from class_ok 127 W (by decide) (by decide))
  have F := Lib.hid fun W => (show Calls Try.prog 45 #[.int .i64 256] W fun e w' => e = .returned (.tuple #[.int .i64 8, .int .i64 0]) ∧ W = w' from class_ok 256 W (by decide) (by decide))
  have G := Lib.hid fun W => is_yes 128 7 W (by decide) (by decide) (by decide)
  have H := Lib.hid fun W => is_yes 255 7 W (by decide) (by decide) (by decide)
  go_enter Try.func17, Try.ntmps17
  go_wp2_with fail
  refine (alive17 _).mono ?_
  rintro e wd ⟨rfl, rfl⟩
  go_wp2_with fail
  refine D.out.mono ?_
  rintro e w1 ⟨rfl, hb⟩
  go_wp2_with fail
  refine (E.out _).mono ?_
  rintro e wd ⟨rfl, rfl⟩
  go_wp2_with fail
  refine (F.out _).mono ?_
  rintro e wd ⟨rfl, rfl⟩
  go_wp2_with fail
  refine (G.out _).mono ?_
  rintro e wd ⟨rfl, rfl⟩
  go_wp2_with fail
  refine (H.out _).mono ?_
  rintro e wd ⟨rfl, rfl⟩
  go_wp2
  go_ret
  exact ⟨rfl, hb⟩
theorem cbounds_8 (w : World) : Calls Try.prog 17 #[.int .i64 8] w fun e w' => e = .returned (.bool true) ∧ Below w.heap.size w w' := by
  have D := Lib.hid (show Calls Try.prog 47 #[.int .i64 8] w fun e w' => e = .returned (.tuple #[.int .i64 256, .int .i64 511, .int .i64 0]) ∧ Below w.heap.size w w' from bounds_ok 8 w (by decide) (by decide))
  have E := Lib.hid fun W => (show Calls Try.prog 45 #[.int .i64 255] W fun e w' => e = .returned (.tuple #[.int .i64 7, .int .i64 0]) ∧ W = w' from class_ok 255 W (by decide) (by decide))
  have F := Lib.hid fun W => (show Calls Try.prog 45 #[.int .i64 512] W fun e w' => e = .returned (.tuple #[.int .i64 9, .int .i64 0]) ∧ W = w' from class_ok 512 W (by decide) (by decide))
  have G := Lib.hid fun W => is_yes 256 8 W (by decide) (by decide) (by decide)
  have H := Lib.hid fun W => is_yes 511 8 W (by decide) (by decide) (by decide)
  go_enter Try.func17, Try.ntmps17
  go_wp2_with fail
  refine (alive17 _).mono ?_
  rintro e wd ⟨rfl, rfl⟩
  go_wp2_with fail
  refine D.out.mono ?_
  rintro e w1 ⟨rfl, hb⟩
  go_wp2_with fail
  refine (E.out _).mono ?_
  rintro e wd ⟨rfl, rfl⟩
  go_wp2_with fail
  refine (F.out _).mono ?_
  rintro e wd ⟨rfl, rfl⟩
  go_wp2_with fail
  refine (G.out _).mono ?_
  rintro e wd ⟨rfl, rfl⟩
  go_wp2_with fail
  refine (H.out _).mono ?_
  rintro e wd ⟨rfl, rfl⟩
  go_wp2
  go_ret
  exact ⟨rfl, hb⟩
theorem cbounds_9 (w : World) : Calls Try.prog 17 #[.int .i64 9] w fun e w' => e = .returned (.bool true) ∧ Below w.heap.size w w' := by
  have D := Lib.hid (show Calls Try.prog 47 #[.int .i64 9] w fun e w' => e = .returned (.tuple #[.int .i64 512, .int .i64 1023, .int .i64 0]) ∧ Below w.heap.size w w' from bounds_ok 9 w (by decide) (by decide))
  have E := Lib.hid fun W => (show Calls Try.prog 45 #[.int .i64 511] W fun e w' => e = .returned (.tuple #[.int .i64 8, .int .i64 0]) ∧ W = w' from class_ok 511 W (by decide) (by decide))
  have F := Lib.hid fun W => (show Calls Try.prog 45 #[.int .i64 1024] W fun e w' => e = .returned (.tuple #[.int .i64 10, .int .i64 0]) ∧ W = w' from class_ok 1024 W (by decide) (by decide))
  have G := Lib.hid fun W => is_yes 512 9 W (by decide) (by decide) (by decide)
  have H := Lib.hid fun W => is_yes 1023 9 W (by decide) (by decide) (by decide)
  go_enter Try.func17, Try.ntmps17
  go_wp2_with fail
  refine (alive17 _).mono ?_
  rintro e wd ⟨rfl, rfl⟩
  go_wp2_with fail
  refine D.out.mono ?_
  rintro e w1 ⟨rfl, hb⟩
  go_wp2_with fail
  refine (E.out _).mono ?_
  rintro e wd ⟨rfl, rfl⟩
  go_wp2_with fail
  refine (F.out _).mono ?_
  rintro e wd ⟨rfl, rfl⟩
  go_wp2_with fail
  refine (G.out _).mono ?_
  rintro e wd ⟨rfl, rfl⟩
  go_wp2_with fail
  refine (H.out _).mono ?_
  rintro e wd ⟨rfl, rfl⟩
  go_wp2
  go_ret
  exact ⟨rfl, hb⟩
theorem cbounds_10 (w : World) : Calls Try.prog 17 #[.int .i64 10] w fun e w' => e = .returned (.bool true) ∧ Below w.heap.size w w' := by
  have D := Lib.hid (show Calls Try.prog 47 #[.int .i64 10] w fun e w' => e = .returned (.tuple #[.int .i64 1024, .int .i64 1920, .int .i64 0]) ∧ Below w.heap.size w w' from bounds_ok 10 w (by decide) (by decide))
  have E := Lib.hid fun W => (show Calls Try.prog 45 #[.int .i64 1023] W fun e w' => e = .returned (.tuple #[.int .i64 9, .int .i64 0]) ∧ W = w' from class_ok 1023 W (by decide) (by decide))
  have F := Lib.hid fun W => class_bad 1921 W (by omega)
  have G := Lib.hid fun W => is_yes 1024 10 W (by decide) (by decide) (by decide)
  have H := Lib.hid fun W => is_yes 1920 10 W (by decide) (by decide) (by decide)
  go_enter Try.func17, Try.ntmps17
  go_wp2_with fail
  refine (alive17 _).mono ?_
  rintro e wd ⟨rfl, rfl⟩
  go_wp2_with fail
  refine D.out.mono ?_
  rintro e w1 ⟨rfl, hb⟩
  go_wp2_with fail
  refine (E.out _).mono ?_
  rintro e wd ⟨rfl, rfl⟩
  go_wp2_with fail
  refine (F.out _).mono ?_
  rintro e wd ⟨rfl, rfl⟩
  go_wp2_with fail
  refine (G.out _).mono ?_
  rintro e wd ⟨rfl, rfl⟩
  go_wp2_with fail
  refine (H.out _).mono ?_
  rintro e wd ⟨rfl, rfl⟩
  go_wp2
  go_ret
  exact ⟨rfl, hb⟩
theorem walkClassesBounds (k : Int) (w : World) (_k1 : -9223372036854775808 ≤ k) (_k2 : k ≤ 9223372036854775807) :
    Calls Try.prog 17 #[.int .i64 k] w fun e w' => e = .returned (.bool true) ∧ Below w.heap.size w w' := by
  rcases bndR_any k with c | ⟨i, rfl, c1, c2⟩
  · exact cbounds_bad k w c
  · rcases ten c1 c2 with rfl | rfl | rfl | rfl | rfl | rfl | rfl | rfl | rfl | rfl
    · exact cbounds_1 w
    · exact cbounds_2 w
    · exact cbounds_3 w
    · exact cbounds_4 w
    · exact cbounds_5 w
    · exact cbounds_6 w
    · exact cbounds_7 w
    · exact cbounds_8 w
    · exact cbounds_9 w
    · exact cbounds_10 w
end Go.Proofs.Ythdccahggcjogaa
