/- The law that it fits if one does, walked. -/
import Derived.Test.YtoifalgkeegklaaLaw21b
import Derived.Test.YtoifalgkeegklaaExtB
import Derived.Test.YtoifalgkeegklaaClassB
import Derived.Test.YtoifalgkeegklaaBlkEq
namespace Go.Proofs.Ytoifalgkeegklaa
open Go.RowKit

/-- What the best one is good for. -/
def Best (l : List Blk) (z : Int) (k j : Nat) : Prop := ∃ hj : j < l.length, j < k ∧ bst l z k = (l[j], Nat.log2 l[j].size.toNat) ∧ z ≤ l[j].size ∧ 1 ≤ Nat.log2 l[j].size.toNat ∧
  (∀ i (hi : i < l.length), i < k → z ≤ l[i].size → Nat.log2 l[j].size.toNat ≤ Nat.log2 l[i].size.toNat) ∧ ∀ i (hi : i < l.length), i < j → z ≤ l[i].size → Nat.log2 l[j].size.toNat < Nat.log2 l[i].size.toNat
theorem bst_spec {l : List Blk} {z : Int} (hs : Sized l) : ∀ k, k ≤ l.length → (bst l z k = (zeroB, 0) ∧ ∀ j (hj : j < l.length), j < k → l[j].size < z) ∨ ∃ j, Best l z k j
  | 0, _ => .inl ⟨rfl, fun _ _ h => absurd h (by omega)⟩
  | k + 1, hk => by
    have hkl : k < l.length := by omega
    have hb := hs.get hkl
    have lr := log_range l[k].size.toNat (by omega) (by omega)
    rcases bst_spec hs k (by omega) with ⟨h1, h2⟩ | ⟨j, hj, h1, h2, h3, h4, h5, h6⟩
    · by_cases hz : z ≤ l[k].size
      · refine .inr ⟨k, hkl, by omega, bst_yes hkl hz (.inl (by rw [h1])), hz, lr.1, fun i hi hik hzi => ?_, fun i hi hik hzi => ?_⟩
        · rcases Nat.lt_or_ge i k with hl | hl
          · have := h2 i hi hl; omega
          · obtain rfl : i = k := by omega
            exact Nat.le_refl _
        · have := h2 i hi hik; omega
      · refine .inl ⟨by rw [bst_no hkl (fun h => hz h.1)]; exact h1, fun j hj hjk => ?_⟩
        rcases Nat.lt_or_ge j k with hl | hl
        · exact h2 j hj hl
        · obtain rfl : j = k := by omega
          omega
    · by_cases hz : z ≤ l[k].size ∧ Nat.log2 l[k].size.toNat < Nat.log2 l[j].size.toNat
      · refine .inr ⟨k, hkl, by omega, bst_yes hkl hz.1 (.inr (by rw [h2]; exact hz.2)), hz.1, lr.1, fun i hi hik hzi => ?_, fun i hi hik hzi => ?_⟩
        · rcases Nat.lt_or_ge i k with hl | hl
          · have := h5 i hi hl hzi; omega
          · obtain rfl : i = k := by omega
            exact Nat.le_refl _
        · have := h5 i hi hik hzi; omega
      · refine .inr ⟨j, hj, by omega, ?_, h3, h4, fun i hi hik hzi => ?_, h6⟩
        · rw [bst_no hkl ?_]
          · exact h2
          · rw [h2]
            rintro ⟨g1, g2 | g2⟩
            · simp only at g2; omega
            · exact hz ⟨g1, g2⟩
        · rcases Nat.lt_or_ge i k with hl | hl
          · exact h5 i hi hl hzi
          · obtain rfl : i = k := by omega
            rcases Nat.lt_or_ge (Nat.log2 l[i].size.toNat) (Nat.log2 l[j].size.toNat) with g | g
            · exact absurd ⟨hzi, g⟩ hz
            · exact g
theorem maxF_lt {l : List Blk} {z : Int} (hz : 0 < z) : ∀ k, k ≤ l.length → (∀ j (hj : j < l.length), j < k → l[j].size < z) → maxF l k < z
  | 0, _, _ => hz
  | k + 1, hk, h => by
    have := maxF_lt hz k (by omega) (fun j hj hjk => h j hj (by omega))
    have := h k (by omega) (by omega)
    rw [maxF_step (by omega)]; omega
theorem maxF_ge {l : List Blk} {j : Nat} (hj : j < l.length) : ∀ k, k ≤ l.length → j < k → l[j].size ≤ maxF l k
  | 0, _, h => absurd h (by omega)
  | k + 1, hk, h => by
    rw [maxF_step (by omega)]
    rcases Nat.lt_or_ge j k with hl | hl
    · have := maxF_ge hj k (by omega) hl; omega
    · obtain rfl : j = k := by omega
      omega
/-- What Find returns, by what there is. -/
theorem fit_cases {l : List Blk} {z : Int} (hs : Sized l) : (fitO l z = (zeroB, 20) ∧ ∀ j (hj : j < l.length), l[j].size < z) ∨ ∃ (j : Nat) (hj : j < l.length), fitO l z = (l[j], 0) ∧ Best l z l.length j := by
  rcases bst_spec (z := z) hs l.length (Nat.le_refl _) with ⟨h1, h2⟩ | ⟨j, hj, h1, h2, h3, h4, h5, h6⟩
  · exact .inl ⟨by unfold fitO; rw [h1]; rfl, fun j hj => h2 j hj hj⟩
  · refine .inr ⟨j, hj, ?_, hj, h1, h2, h3, h4, h5, h6⟩
    unfold fitO
    rw [h2, if_neg (by simp only; omega)]

/-- How far the search for one block has come. -/
def Met (l : List Blk) (b : Blk) (k : Nat) (v : Bool) : Prop := v = true ↔ ∃ (i : Nat) (hi : i < l.length), i < k ∧ l[i] = b
theorem met_zero (l : List Blk) (b : Blk) : Met l b 0 false := ⟨fun h => (by cases h), fun ⟨_, _, h, _⟩ => absurd h (by omega)⟩
theorem met_yes {l : List Blk} {b : Blk} {k : Nat} (hk : k < l.length) (h : l[k] = b) : Met l b (k + 1) true := ⟨fun _ => ⟨k, hk, by omega, h⟩, fun _ => rfl⟩
theorem met_on {l : List Blk} {b : Blk} {k : Nat} (hm : Met l b k true) : Met l b (k + 1) true := by
  obtain ⟨i, hi, h1, h2⟩ := hm.1 rfl
  exact ⟨fun _ => ⟨i, hi, by omega, h2⟩, fun _ => rfl⟩
theorem met_no {l : List Blk} {b : Blk} {k : Nat} (hk : k < l.length) (h : l[k] ≠ b) (hm : Met l b k false) : Met l b (k + 1) false := by
  refine ⟨fun h => (by cases h), ?_⟩
  rintro ⟨i, hi, h1, h2⟩
  rcases Nat.lt_or_ge i k with hl | hl
  · exact hm.2 ⟨i, hi, hl, h2⟩
  · obtain rfl : i = k := by omega
    exact absurd h2 h

set_option maxRecDepth 100000 in
set_option maxHeartbeats 8000000 in
theorem walkFitOne (A : Option Addr) (n c : Nat) (ws : List Nat) (z : Int) (w : World) (h : Words w A n c ws) (_h1 : -9223372036854775808 ≤ z) (_h2 : z ≤ 9223372036854775807) :
    Calls Try.prog 5 #[.slice A n c, .int .i64 z] w fun e w' => e = .returned (.bool true) ∧ Below w.heap.size w w' := by
  have hm := h.most
  have hcap := h.cap
  have A0 := Lib.hid (Since.refl w)
  by_cases hn : n ≤ 2100
  case neg =>
    have G := Lib.hid fun W => great_yes A n c W (by omega)
    clear h
    go_enter Try.func5, Try.ntmps5
    go_wp2_with fail
    refine (alive21 _).mono ?_
    rintro e w1 ⟨rfl, hb1⟩
    have A1 := Lib.hid (show Since w w1 from Since.via (by repeat (first | with_reducible exact A0.out | with_reducible exact Since.refl _ | with_reducible refine Since.alloc ?_ _ | with_reducible refine Since.setCell ?_ (by first | omega | (simp; done) | (simp; omega)) _ | with_reducible refine Since.drew ?_ | with_reducible refine Since.drewN ?_ _)) hb1)
    have s1 := A1.out.size
    clear hb1
    go_wp2_with fail
    refine (G.out _).mono ?_
    rintro e wd ⟨rfl, rfl⟩
    go_wp2
    go_ret
    exact ⟨rfl, (Since.out (by repeat (first | with_reducible exact A1.out | with_reducible exact Since.refl _ | with_reducible refine Since.alloc ?_ _ | with_reducible refine Since.setCell ?_ (by first | omega | (simp; done) | (simp; omega)) _ | with_reducible refine Since.drew ?_ | with_reducible refine Since.drewN ?_ _)))⟩
  have G := Lib.hid fun W => great_no A n c W hn
  by_cases hi : imgOk n
  case neg =>
    have K := Lib.hid fun W => rimg_bad A n c W (by omega) hi
    clear h hi
    go_enter Try.func5, Try.ntmps5
    go_wp2_with fail
    refine (alive21 _).mono ?_
    rintro e w1 ⟨rfl, hb1⟩
    have A1 := Lib.hid (show Since w w1 from Since.via (by repeat (first | with_reducible exact A0.out | with_reducible exact Since.refl _ | with_reducible refine Since.alloc ?_ _ | with_reducible refine Since.setCell ?_ (by first | omega | (simp; done) | (simp; omega)) _ | with_reducible refine Since.drew ?_ | with_reducible refine Since.drewN ?_ _)) hb1)
    have s1 := A1.out.size
    clear hb1
    go_wp2_with fail
    refine (G.out _).mono ?_
    rintro e wd ⟨rfl, rfl⟩
    go_wp2_with fail
    refine (K.out _).mono ?_
    rintro e wd ⟨rfl, rfl⟩
    go_wp2
    go_ret
    exact ⟨rfl, (Since.out (by repeat (first | with_reducible exact A1.out | with_reducible exact Since.refl _ | with_reducible refine Since.alloc ?_ _ | with_reducible refine Since.setCell ?_ (by first | omega | (simp; done) | (simp; omega)) _ | with_reducible refine Since.drew ?_ | with_reducible refine Since.drewN ?_ _)))⟩
  have K := Lib.hid fun W => rimg_ok A n c W (by omega) hi
  have H0 := Lib.hid h
  by_cases z1 : z < 2
  · clear h hi
    go_enter Try.func5, Try.ntmps5
    go_wp2_with fail
    refine (alive21 _).mono ?_
    rintro e w1 ⟨rfl, hb1⟩
    have A1 := Lib.hid (show Since w w1 from Since.via (by repeat (first | with_reducible exact A0.out | with_reducible exact Since.refl _ | with_reducible refine Since.alloc ?_ _ | with_reducible refine Since.setCell ?_ (by first | omega | (simp; done) | (simp; omega)) _ | with_reducible refine Since.drew ?_ | with_reducible refine Since.drewN ?_ _)) hb1)
    have s1 := A1.out.size
    have B1 := Lib.hid (show Since w w1 from Since.via (by repeat (first | with_reducible exact Since.refl _ | with_reducible refine Since.alloc ?_ _ | with_reducible refine Since.setCell ?_ (by first | omega | (simp; done) | (simp; omega)) _ | with_reducible refine Since.drew ?_ | with_reducible refine Since.drewN ?_ _)) hb1)
    have H1 := Lib.hid (H0.out.below B1.out)
    clear hb1
    go_wp2_with fail
    refine (G.out _).mono ?_
    rintro e wd ⟨rfl, rfl⟩
    go_wp2_with fail
    refine (K.out _).mono ?_
    rintro e wd ⟨rfl, rfl⟩
    go_wp2
    go_ret
    exact ⟨rfl, (Since.out (by repeat (first | with_reducible exact A1.out | with_reducible exact Since.refl _ | with_reducible refine Since.alloc ?_ _ | with_reducible refine Since.setCell ?_ (by first | omega | (simp; done) | (simp; omega)) _ | with_reducible refine Since.drew ?_ | with_reducible refine Since.drewN ?_ _)))⟩
  have y1 : decide (z < 2) = false := by simpa using z1
  by_cases z2 : 10 < z
  · clear h hi
    go_enter Try.func5, Try.ntmps5
    go_wp2_with fail
    refine (alive21 _).mono ?_
    rintro e w1 ⟨rfl, hb1⟩
    have A1 := Lib.hid (show Since w w1 from Since.via (by repeat (first | with_reducible exact A0.out | with_reducible exact Since.refl _ | with_reducible refine Since.alloc ?_ _ | with_reducible refine Since.setCell ?_ (by first | omega | (simp; done) | (simp; omega)) _ | with_reducible refine Since.drew ?_ | with_reducible refine Since.drewN ?_ _)) hb1)
    have s1 := A1.out.size
    have B1 := Lib.hid (show Since w w1 from Since.via (by repeat (first | with_reducible exact Since.refl _ | with_reducible refine Since.alloc ?_ _ | with_reducible refine Since.setCell ?_ (by first | omega | (simp; done) | (simp; omega)) _ | with_reducible refine Since.drew ?_ | with_reducible refine Since.drewN ?_ _)) hb1)
    have H1 := Lib.hid (H0.out.below B1.out)
    clear hb1
    go_wp2_with fail
    refine (G.out _).mono ?_
    rintro e wd ⟨rfl, rfl⟩
    go_wp2_with fail
    refine (K.out _).mono ?_
    rintro e wd ⟨rfl, rfl⟩
    go_wp2
    go_ret
    exact ⟨rfl, (Since.out (by repeat (first | with_reducible exact A1.out | with_reducible exact Since.refl _ | with_reducible refine Since.alloc ?_ _ | with_reducible refine Since.setCell ?_ (by first | omega | (simp; done) | (simp; omega)) _ | with_reducible refine Since.drew ?_ | with_reducible refine Since.drewN ?_ _)))⟩
  have y2 : decide (10 < z) = false := by simpa using z2
  by_cases z3 : z % 2 = 0
  case neg =>
    have y3 : (z % 2 != 0) = true := by simpa using z3
    clear h hi z3
    go_enter Try.func5, Try.ntmps5
    go_wp2_with fail
    refine (alive21 _).mono ?_
    rintro e w1 ⟨rfl, hb1⟩
    have A1 := Lib.hid (show Since w w1 from Since.via (by repeat (first | with_reducible exact A0.out | with_reducible exact Since.refl _ | with_reducible refine Since.alloc ?_ _ | with_reducible refine Since.setCell ?_ (by first | omega | (simp; done) | (simp; omega)) _ | with_reducible refine Since.drew ?_ | with_reducible refine Since.drewN ?_ _)) hb1)
    have s1 := A1.out.size
    have B1 := Lib.hid (show Since w w1 from Since.via (by repeat (first | with_reducible exact Since.refl _ | with_reducible refine Since.alloc ?_ _ | with_reducible refine Since.setCell ?_ (by first | omega | (simp; done) | (simp; omega)) _ | with_reducible refine Since.drew ?_ | with_reducible refine Since.drewN ?_ _)) hb1)
    have H1 := Lib.hid (H0.out.below B1.out)
    clear hb1
    go_wp2_with fail
    refine (G.out _).mono ?_
    rintro e wd ⟨rfl, rfl⟩
    go_wp2_with fail
    refine (K.out _).mono ?_
    rintro e wd ⟨rfl, rfl⟩
    go_wp2
    go_ret
    exact ⟨rfl, (Since.out (by repeat (first | with_reducible exact A1.out | with_reducible exact Since.refl _ | with_reducible refine Since.alloc ?_ _ | with_reducible refine Since.setCell ?_ (by first | omega | (simp; done) | (simp; omega)) _ | with_reducible refine Since.drew ?_ | with_reducible refine Since.drewN ?_ _)))⟩
  have y3 : (z % 2 != 0) = false := by simpa using z3
  have F1 := Lib.hid fun W A c h => find_any A n c ws z W h
  have F2 := Lib.hid fun W A c h => words_any A n c ws W h
  have F3 := Lib.hid fun W A c h => ext_any A n c ws W h
  by_cases he : (allR ws).2 = 0
  case neg =>
    have E1 : fitR ws z = (zeroB, (allR ws).2) := by unfold fitR; rw [if_pos he]
    have E3 := extR_err he
    rw [E1] at F1
    rw [E3] at F3
    generalize (allR ws).2 = x at *
    have hx : (x != 0) = true := by simpa using he
    clear E1 E3 h hi z3 he
    go_enter Try.func5, Try.ntmps5
    go_wp2_with fail
    refine (alive21 _).mono ?_
    rintro e w1 ⟨rfl, hb1⟩
    have A1 := Lib.hid (show Since w w1 from Since.via (by repeat (first | with_reducible exact A0.out | with_reducible exact Since.refl _ | with_reducible refine Since.alloc ?_ _ | with_reducible refine Since.setCell ?_ (by first | omega | (simp; done) | (simp; omega)) _ | with_reducible refine Since.drew ?_ | with_reducible refine Since.drewN ?_ _)) hb1)
    have s1 := A1.out.size
    have B1 := Lib.hid (show Since w w1 from Since.via (by repeat (first | with_reducible exact Since.refl _ | with_reducible refine Since.alloc ?_ _ | with_reducible refine Since.setCell ?_ (by first | omega | (simp; done) | (simp; omega)) _ | with_reducible refine Since.drew ?_ | with_reducible refine Since.drewN ?_ _)) hb1)
    have H1 := Lib.hid (H0.out.below B1.out)
    clear hb1
    go_wp2_with fail
    refine (G.out _).mono ?_
    rintro e wd ⟨rfl, rfl⟩
    go_wp2_with fail
    refine (K.out _).mono ?_
    rintro e wd ⟨rfl, rfl⟩
    go_wp2_with fail
    refine (F1.out _ _ _ (H1.out.below (Since.out (by repeat (first | with_reducible exact Since.refl _ | with_reducible refine Since.alloc ?_ _ | with_reducible refine Since.setCell ?_ (by first | omega | (simp; done) | (simp; omega)) _ | with_reducible refine Since.drew ?_ | with_reducible refine Since.drewN ?_ _))))).mono ?_
    rintro e w2 ⟨rfl, hb2⟩
    have A2 := Lib.hid (show Since w w2 from Since.via (by repeat (first | with_reducible exact A1.out | with_reducible exact Since.refl _ | with_reducible refine Since.alloc ?_ _ | with_reducible refine Since.setCell ?_ (by first | omega | (simp; done) | (simp; omega)) _ | with_reducible refine Since.drew ?_ | with_reducible refine Since.drewN ?_ _)) hb2)
    have s2 := A2.out.size
    have B2 := Lib.hid (show Since w1 w2 from Since.via (by repeat (first | with_reducible exact Since.refl _ | with_reducible refine Since.alloc ?_ _ | with_reducible refine Since.setCell ?_ (by first | omega | (simp; done) | (simp; omega)) _ | with_reducible refine Since.drew ?_ | with_reducible refine Since.drewN ?_ _)) hb2)
    have H2 := Lib.hid (H1.out.below B2.out)
    clear hb2
    go_wp2_with fail
    refine (F2.out _ _ _ (H2.out.below (Since.out (by repeat (first | with_reducible exact Since.refl _ | with_reducible refine Since.alloc ?_ _ | with_reducible refine Since.setCell ?_ (by first | omega | (simp; done) | (simp; omega)) _ | with_reducible refine Since.drew ?_ | with_reducible refine Since.drewN ?_ _))))).mono ?_
    rintro e w3 ⟨rfl, hb3⟩
    have A3 := Lib.hid (show Since w w3 from Since.via (by repeat (first | with_reducible exact A2.out | with_reducible exact Since.refl _ | with_reducible refine Since.alloc ?_ _ | with_reducible refine Since.setCell ?_ (by first | omega | (simp; done) | (simp; omega)) _ | with_reducible refine Since.drew ?_ | with_reducible refine Since.drewN ?_ _)) hb3)
    have s3 := A3.out.size
    have B3 := Lib.hid (show Since w2 w3 from Since.via (by repeat (first | with_reducible exact Since.refl _ | with_reducible refine Since.alloc ?_ _ | with_reducible refine Since.setCell ?_ (by first | omega | (simp; done) | (simp; omega)) _ | with_reducible refine Since.drew ?_ | with_reducible refine Since.drewN ?_ _)) hb3)
    have H3 := Lib.hid (H2.out.below B3.out)
    clear hb3
    go_wp2_with fail
    refine (F3.out _ _ _ (H3.out.below (Since.out (by repeat (first | with_reducible exact Since.refl _ | with_reducible refine Since.alloc ?_ _ | with_reducible refine Since.setCell ?_ (by first | omega | (simp; done) | (simp; omega)) _ | with_reducible refine Since.drew ?_ | with_reducible refine Since.drewN ?_ _))))).mono ?_
    rintro e w4 ⟨B1, d1, rfl, hB, hb4⟩
    have A4 := Lib.hid (show Since w w4 from Since.via (by repeat (first | with_reducible exact A3.out | with_reducible exact Since.refl _ | with_reducible refine Since.alloc ?_ _ | with_reducible refine Since.setCell ?_ (by first | omega | (simp; done) | (simp; omega)) _ | with_reducible refine Since.drew ?_ | with_reducible refine Since.drewN ?_ _)) hb4)
    have s4 := A4.out.size
    clear hb4
    go_wp2
    go_ret
    exact ⟨rfl, (Since.out (by repeat (first | with_reducible exact A4.out | with_reducible exact Since.refl _ | with_reducible refine Since.alloc ?_ _ | with_reducible refine Since.setCell ?_ (by first | omega | (simp; done) | (simp; omega)) _ | with_reducible refine Since.drew ?_ | with_reducible refine Since.drewN ?_ _)))⟩
  have hz : okSize z := ⟨by omega, by omega, z3⟩
  have E1 : fitR ws z = fitO (extR ws).1 z := by unfold fitR; rw [if_neg (by simpa using he), if_neg (by simpa using hz)]
  have E3 : extR ws = ((extR ws).1, 0) := Prod.ext rfl he
  have hs := extR_sized ws
  have hl := extR_le ws
  have hw : wordsR ws = (sumF (extR ws).1 (extR ws).1.length, maxF (extR ws).1 (extR ws).1.length) := rfl
  simp only [he, hw] at F2
  rw [E1] at F1
  rw [E3] at F3
  generalize (extR ws).1 = l at *
  clear E1 E3 hw he h hi z3 hz
  rcases fit_cases (z := z) hs with ⟨hf, hall⟩ | ⟨j, hj, hf, hbest⟩
  · rw [hf] at F1
    simp only [zeroB] at F1
    have hm := maxF_lt (z := z) (by omega) l.length (Nat.le_refl _) (fun j hj _ => hall j hj)
    generalize maxF l l.length = mx at *
    generalize sumF l l.length = sm at *
    clear hf hall hs
    go_enter Try.func5, Try.ntmps5
    go_wp2_with fail
    refine (alive21 _).mono ?_
    rintro e w1 ⟨rfl, hb1⟩
    have A1 := Lib.hid (show Since w w1 from Since.via (by repeat (first | with_reducible exact A0.out | with_reducible exact Since.refl _ | with_reducible refine Since.alloc ?_ _ | with_reducible refine Since.setCell ?_ (by first | omega | (simp; done) | (simp; omega)) _ | with_reducible refine Since.drew ?_ | with_reducible refine Since.drewN ?_ _)) hb1)
    have s1 := A1.out.size
    have B1 := Lib.hid (show Since w w1 from Since.via (by repeat (first | with_reducible exact Since.refl _ | with_reducible refine Since.alloc ?_ _ | with_reducible refine Since.setCell ?_ (by first | omega | (simp; done) | (simp; omega)) _ | with_reducible refine Since.drew ?_ | with_reducible refine Since.drewN ?_ _)) hb1)
    have H1 := Lib.hid (H0.out.below B1.out)
    clear hb1
    go_wp2_with fail
    refine (G.out _).mono ?_
    rintro e wd ⟨rfl, rfl⟩
    go_wp2_with fail
    refine (K.out _).mono ?_
    rintro e wd ⟨rfl, rfl⟩
    go_wp2_with fail
    refine (F1.out _ _ _ (H1.out.below (Since.out (by repeat (first | with_reducible exact Since.refl _ | with_reducible refine Since.alloc ?_ _ | with_reducible refine Since.setCell ?_ (by first | omega | (simp; done) | (simp; omega)) _ | with_reducible refine Since.drew ?_ | with_reducible refine Since.drewN ?_ _))))).mono ?_
    rintro e w2 ⟨rfl, hb2⟩
    have A2 := Lib.hid (show Since w w2 from Since.via (by repeat (first | with_reducible exact A1.out | with_reducible exact Since.refl _ | with_reducible refine Since.alloc ?_ _ | with_reducible refine Since.setCell ?_ (by first | omega | (simp; done) | (simp; omega)) _ | with_reducible refine Since.drew ?_ | with_reducible refine Since.drewN ?_ _)) hb2)
    have s2 := A2.out.size
    have B2 := Lib.hid (show Since w1 w2 from Since.via (by repeat (first | with_reducible exact Since.refl _ | with_reducible refine Since.alloc ?_ _ | with_reducible refine Since.setCell ?_ (by first | omega | (simp; done) | (simp; omega)) _ | with_reducible refine Since.drew ?_ | with_reducible refine Since.drewN ?_ _)) hb2)
    have H2 := Lib.hid (H1.out.below B2.out)
    clear hb2
    go_wp2_with fail
    refine (F2.out _ _ _ (H2.out.below (Since.out (by repeat (first | with_reducible exact Since.refl _ | with_reducible refine Since.alloc ?_ _ | with_reducible refine Since.setCell ?_ (by first | omega | (simp; done) | (simp; omega)) _ | with_reducible refine Since.drew ?_ | with_reducible refine Since.drewN ?_ _))))).mono ?_
    rintro e w3 ⟨rfl, hb3⟩
    have A3 := Lib.hid (show Since w w3 from Since.via (by repeat (first | with_reducible exact A2.out | with_reducible exact Since.refl _ | with_reducible refine Since.alloc ?_ _ | with_reducible refine Since.setCell ?_ (by first | omega | (simp; done) | (simp; omega)) _ | with_reducible refine Since.drew ?_ | with_reducible refine Since.drewN ?_ _)) hb3)
    have s3 := A3.out.size
    have B3 := Lib.hid (show Since w2 w3 from Since.via (by repeat (first | with_reducible exact Since.refl _ | with_reducible refine Since.alloc ?_ _ | with_reducible refine Since.setCell ?_ (by first | omega | (simp; done) | (simp; omega)) _ | with_reducible refine Since.drew ?_ | with_reducible refine Since.drewN ?_ _)) hb3)
    have H3 := Lib.hid (H2.out.below B3.out)
    have X3 := Lib.hid (show Cells w3 (w2.heap.size) 24 (#[.int .i64 0, .int .i64 0, .int .i64 0, .int .i64 0, .bool false, .int .u64 0]) from Cells.kept (by repeat (first | with_reducible exact X2.out | with_reducible exact Cells.at_ _ _ _ (by first | omega | (simp; done) | (simp; omega)) | with_reducible refine Cells.alloc ?_ _ | with_reducible refine Cells.far' ?_ (by first | omega | (simp; done) | (simp; omega)) _ | with_reducible refine Cells.drew ?_ | with_reducible refine Cells.drewN ?_ _)) hb3)
    have Xz3 := X3.out.lt
    clear hb3
    go_wp2_with fail
    refine (F3.out _ _ _ (H3.out.below (Since.out (by repeat (first | with_reducible exact Since.refl _ | with_reducible refine Since.alloc ?_ _ | with_reducible refine Since.setCell ?_ (by first | omega | (simp; done) | (simp; omega)) _ | with_reducible refine Since.drew ?_ | with_reducible refine Since.drewN ?_ _))))).mono ?_
    rintro e w4 ⟨B1, d1, rfl, hB, hb4⟩
    have A4 := Lib.hid (show Since w w4 from Since.via (by repeat (first | with_reducible exact A3.out | with_reducible exact Since.refl _ | with_reducible refine Since.alloc ?_ _ | with_reducible refine Since.setCell ?_ (by first | omega | (simp; done) | (simp; omega)) _ | with_reducible refine Since.drew ?_ | with_reducible refine Since.drewN ?_ _)) hb4)
    have s4 := A4.out.size
    have X4 := Lib.hid (show Cells w4 (w2.heap.size) 24 (#[.int .i64 0, .int .i64 0, .int .i64 0, .int .i64 0, .bool false, .int .u64 0]) from Cells.kept (by repeat (first | with_reducible exact X3.out | with_reducible exact Cells.at_ _ _ _ (by first | omega | (simp; done) | (simp; omega)) | with_reducible refine Cells.alloc ?_ _ | with_reducible refine Cells.far' ?_ (by first | omega | (simp; done) | (simp; omega)) _ | with_reducible refine Cells.drew ?_ | with_reducible refine Cells.drewN ?_ _)) hb4)
    have Xz4 := X4.out.lt
    clear hb4
    obtain ⟨Xq0, Xq1, Xq2, Xq3, Xq4, Xq5⟩ := X4.out.six
    have Xlt := X4.out.lt
    go_wp2
    go_ret
    exact ⟨rfl, (Since.out (by repeat (first | with_reducible exact A4.out | with_reducible exact Since.refl _ | with_reducible refine Since.alloc ?_ _ | with_reducible refine Since.setCell ?_ (by first | omega | (simp; done) | (simp; omega)) _ | with_reducible refine Since.drew ?_ | with_reducible refine Since.drewN ?_ _)))⟩
  · rw [hf] at F1
    have hm := maxF_ge hj l.length (Nat.le_refl _) hj
    obtain ⟨_, _, _, hzb, _⟩ := hbest
    generalize maxF l l.length = mx at *
    generalize sumF l l.length = sm at *
    obtain ⟨b, hb⟩ : ∃ b, l[j] = b := ⟨_, rfl⟩
    rw [hb] at F1 hm hzb
    have HB := Lib.hid hb
    have hmz : z ≤ mx := by omega
    clear hf hs hb
    go_enter Try.func5, Try.ntmps5
    go_wp2_with fail
    refine (alive21 _).mono ?_
    rintro e w1 ⟨rfl, hb1⟩
    have A1 := Lib.hid (show Since w w1 from Since.via (by repeat (first | with_reducible exact A0.out | with_reducible exact Since.refl _ | with_reducible refine Since.alloc ?_ _ | with_reducible refine Since.setCell ?_ (by first | omega | (simp; done) | (simp; omega)) _ | with_reducible refine Since.drew ?_ | with_reducible refine Since.drewN ?_ _)) hb1)
    have s1 := A1.out.size
    have B1 := Lib.hid (show Since w w1 from Since.via (by repeat (first | with_reducible exact Since.refl _ | with_reducible refine Since.alloc ?_ _ | with_reducible refine Since.setCell ?_ (by first | omega | (simp; done) | (simp; omega)) _ | with_reducible refine Since.drew ?_ | with_reducible refine Since.drewN ?_ _)) hb1)
    have H1 := Lib.hid (H0.out.below B1.out)
    clear hb1
    go_wp2_with fail
    refine (G.out _).mono ?_
    rintro e wd ⟨rfl, rfl⟩
    go_wp2_with fail
    refine (K.out _).mono ?_
    rintro e wd ⟨rfl, rfl⟩
    go_wp2_with fail
    refine (F1.out _ _ _ (H1.out.below (Since.out (by repeat (first | with_reducible exact Since.refl _ | with_reducible refine Since.alloc ?_ _ | with_reducible refine Since.setCell ?_ (by first | omega | (simp; done) | (simp; omega)) _ | with_reducible refine Since.drew ?_ | with_reducible refine Since.drewN ?_ _))))).mono ?_
    rintro e w2 ⟨rfl, hb2⟩
    have A2 := Lib.hid (show Since w w2 from Since.via (by repeat (first | with_reducible exact A1.out | with_reducible exact Since.refl _ | with_reducible refine Since.alloc ?_ _ | with_reducible refine Since.setCell ?_ (by first | omega | (simp; done) | (simp; omega)) _ | with_reducible refine Since.drew ?_ | with_reducible refine Since.drewN ?_ _)) hb2)
    have s2 := A2.out.size
    have B2 := Lib.hid (show Since w1 w2 from Since.via (by repeat (first | with_reducible exact Since.refl _ | with_reducible refine Since.alloc ?_ _ | with_reducible refine Since.setCell ?_ (by first | omega | (simp; done) | (simp; omega)) _ | with_reducible refine Since.drew ?_ | with_reducible refine Since.drewN ?_ _)) hb2)
    have H2 := Lib.hid (H1.out.below B2.out)
    clear hb2
    go_wp2_with fail
    refine (F2.out _ _ _ (H2.out.below (Since.out (by repeat (first | with_reducible exact Since.refl _ | with_reducible refine Since.alloc ?_ _ | with_reducible refine Since.setCell ?_ (by first | omega | (simp; done) | (simp; omega)) _ | with_reducible refine Since.drew ?_ | with_reducible refine Since.drewN ?_ _))))).mono ?_
    rintro e w3 ⟨rfl, hb3⟩
    have A3 := Lib.hid (show Since w w3 from Since.via (by repeat (first | with_reducible exact A2.out | with_reducible exact Since.refl _ | with_reducible refine Since.alloc ?_ _ | with_reducible refine Since.setCell ?_ (by first | omega | (simp; done) | (simp; omega)) _ | with_reducible refine Since.drew ?_ | with_reducible refine Since.drewN ?_ _)) hb3)
    have s3 := A3.out.size
    have B3 := Lib.hid (show Since w2 w3 from Since.via (by repeat (first | with_reducible exact Since.refl _ | with_reducible refine Since.alloc ?_ _ | with_reducible refine Since.setCell ?_ (by first | omega | (simp; done) | (simp; omega)) _ | with_reducible refine Since.drew ?_ | with_reducible refine Since.drewN ?_ _)) hb3)
    have H3 := Lib.hid (H2.out.below B3.out)
    have X3 := Lib.hid (show Cells w3 (w2.heap.size) 24 (#[.int .i64 b.at_, .int .i64 b.size, .int .i64 b.kind, .int .i64 b.typ, .bool b.mark, .int .u64 (b.next : Nat)]) from Cells.kept (by repeat (first | with_reducible exact X2.out | with_reducible exact Cells.at_ _ _ _ (by first | omega | (simp; done) | (simp; omega)) | with_reducible refine Cells.alloc ?_ _ | with_reducible refine Cells.far' ?_ (by first | omega | (simp; done) | (simp; omega)) _ | with_reducible refine Cells.drew ?_ | with_reducible refine Cells.drewN ?_ _)) hb3)
    have Xz3 := X3.out.lt
    clear hb3
    go_wp2_with fail
    refine (F3.out _ _ _ (H3.out.below (Since.out (by repeat (first | with_reducible exact Since.refl _ | with_reducible refine Since.alloc ?_ _ | with_reducible refine Since.setCell ?_ (by first | omega | (simp; done) | (simp; omega)) _ | with_reducible refine Since.drew ?_ | with_reducible refine Since.drewN ?_ _))))).mono ?_
    rintro e w4 ⟨B1, d1, rfl, hB, hb4⟩
    have A4 := Lib.hid (show Since w w4 from Since.via (by repeat (first | with_reducible exact A3.out | with_reducible exact Since.refl _ | with_reducible refine Since.alloc ?_ _ | with_reducible refine Since.setCell ?_ (by first | omega | (simp; done) | (simp; omega)) _ | with_reducible refine Since.drew ?_ | with_reducible refine Since.drewN ?_ _)) hb4)
    have s4 := A4.out.size
    have L4 := Lib.hid hB
    clear hB
    have X4 := Lib.hid (show Cells w4 (w2.heap.size) 24 (#[.int .i64 b.at_, .int .i64 b.size, .int .i64 b.kind, .int .i64 b.typ, .bool b.mark, .int .u64 (b.next : Nat)]) from Cells.kept (by repeat (first | with_reducible exact X3.out | with_reducible exact Cells.at_ _ _ _ (by first | omega | (simp; done) | (simp; omega)) | with_reducible refine Cells.alloc ?_ _ | with_reducible refine Cells.far' ?_ (by first | omega | (simp; done) | (simp; omega)) _ | with_reducible refine Cells.drew ?_ | with_reducible refine Cells.drewN ?_ _)) hb4)
    have Xz4 := X4.out.lt
    clear hb4
    have hcap := L4.out.cap
    have hmost := L4.out.most
    go_wp2
    go_loopw [13, 14] (fun v t wr => ∃ (k : Nat) (y : Bool), t = .int .i64 k ∧ v = .bool y ∧ k ≤ l.length ∧ Hid (Met l b k y) ∧ Since w4 wr) (fun _ t _ => l.length - (intOf t).toNat)
    case atStart => exact ⟨0, false, rfl, rfl, Nat.zero_le _, met_zero _ _, Since.refl _⟩
    case round =>
      obtain ⟨k, y, rfl, rfl, hk, hM, hnx⟩ := hrel
      have C5 := Lib.hid hnx
      have A5 := Lib.hid (Since.trans A4.out hnx)
      have X5 := Lib.hid (X4.out.kept hnx)
      have L5 := Lib.hid (L4.out.below hnx)
      have s5 := C5.out.size
      clear hnx
      by_cases hlt : k < l.length
      · obtain ⟨g, o, rfl, hg⟩ := L5.out.at_ (by omega)
        cases y with
        | true =>
          go_wp2_with fail
          go_quiet (fail)
          go_wp2
          go_roundw
          case rel => exact ⟨k + 1, true, by go_num, rfl, by omega, Lib.hid (met_on hM.out), (by repeat (first | with_reducible exact C5.out | with_reducible exact Since.refl _ | with_reducible refine Since.alloc ?_ _ | with_reducible refine Since.setCell ?_ (by first | omega | (simp; done) | (simp; omega)) _ | with_reducible refine Since.drew ?_ | with_reducible refine Since.drewN ?_ _))⟩
          case measure => simp [intOf]; omega
        | false =>
          obtain ⟨c0, c1, c2, c3, c4, c5⟩ := L5.out.same hlt
          obtain ⟨Xq0, Xq1, Xq2, Xq3, Xq4, Xq5⟩ := X5.out.six
          have Xlt := X5.out.lt
          by_cases heq : l[k] = b
          · have MY := Lib.hid (met_yes hlt heq)
            rw [heq] at c0 c1 c2 c3 c4 c5
            clear heq
            go_wp2_with fail
            go_quiet (fail)
            go_wp2
            go_roundw
            case rel => exact ⟨k + 1, true, by go_num, rfl, by omega, MY, (by repeat (first | with_reducible exact C5.out | with_reducible exact Since.refl _ | with_reducible refine Since.alloc ?_ _ | with_reducible refine Since.setCell ?_ (by first | omega | (simp; done) | (simp; omega)) _ | with_reducible refine Since.drew ?_ | with_reducible refine Since.drewN ?_ _))⟩
            case measure => simp [intOf]; omega
          · have MN := Lib.hid (met_no hlt heq hM.out)
            have ne := blk_ne l[k] b heq
            generalize l[k] = bb at *
            clear heq
            go_wp2_with fail
            go_quiet (fail)
            go_wp2
            go_roundw
            case rel => exact ⟨k + 1, false, by go_num, rfl, by omega, MN, (by repeat (first | with_reducible exact C5.out | with_reducible exact Since.refl _ | with_reducible refine Since.alloc ?_ _ | with_reducible refine Since.setCell ?_ (by first | omega | (simp; done) | (simp; omega)) _ | with_reducible refine Since.drew ?_ | with_reducible refine Since.drewN ?_ _))⟩
            case measure => simp [intOf]; omega
      · obtain rfl : k = l.length := by omega
        obtain rfl : y = true := hM.out.2 ⟨j, hj, hj, HB.out⟩
        obtain ⟨Xq0, Xq1, Xq2, Xq3, Xq4, Xq5⟩ := X5.out.six
        have Xlt := X5.out.lt
        go_wp2
        go_ret
        exact ⟨rfl, (Since.out (by repeat (first | with_reducible exact A5.out | with_reducible exact Since.refl _ | with_reducible refine Since.alloc ?_ _ | with_reducible refine Since.setCell ?_ (by first | omega | (simp; done) | (simp; omega)) _ | with_reducible refine Since.drew ?_ | with_reducible refine Since.drewN ?_ _)))⟩
end Go.Proofs.Ytoifalgkeegklaa
