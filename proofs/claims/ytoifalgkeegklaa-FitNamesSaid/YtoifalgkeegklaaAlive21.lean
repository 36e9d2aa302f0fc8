/- The chapter's examples of package fit, walked. -/
import Derived.Test.YtoifalgkeegklaaFind21
import Derived.Test.YtoifalgkeegklaaAlive15
namespace Go.Proofs.Ytoifalgkeegklaa
open Go.RowKit

theorem find_any (A : Option Addr) (n c : Nat) (ws : List Nat) (z : Int) (w : World) (h : Words w A n c ws) :
    Calls Try.prog 24 #[.slice A n c, .int .i64 z] w (BlkEnd w (fitR ws z)) := by
  have F := fun W (hW : Below w.heap.size w W) => ext_any A n c ws W (h.below hW)
  unfold fitR
  by_cases he : (allR ws).2 = 0
  · rw [if_neg (by simpa using he)]
    have e1 : extR ws = ((extR ws).1, 0) := Prod.ext rfl he
    rw [e1] at F
    by_cases hz : okSize z
    · rw [if_neg (by simpa using hz)]
      exact find_ok A n c _ z w (Nat.le_trans (freeL_len _) (allR_le ws)) (allR_sized ws).free hz (Lib.hid F)
    · rw [if_pos hz]
      exact find_arg A n c _ z w hz (Lib.hid F)
  · rw [if_pos he]
    have e1 : extR ws = ([], (allR ws).2) := by unfold extR; rw [allR_err he]; rfl
    rw [e1] at F
    exact find_err A n c _ z w he (Lib.hid F)

def ex21 : List Blk := [objB 4, freeB 4, objB 10, objB 4, freeB 6, objB 10, objB 4, freeB 20, objB 10, freeB 4, objB 10, objB 10, objB 10, objB 10, objB 10, objB 2]
def exW : List Nat := laid 256 ex21
theorem ex_good : ∀ b ∈ ex21, b.good := by decide
theorem ex_next : ∀ b ∈ ex21, b.next < 18446744073709551616 := by decide
theorem ex_cells : (#[.int .i64 0, .int .i64 4, .int .i64 1, .int .i64 0, .bool false, .int .u64 0, .int .i64 0, .int .i64 4, .int .i64 2, .int .i64 0, .bool false, .int .u64 0, .int .i64 0, .int .i64 10, .int .i64 1, .int .i64 0, .bool false, .int .u64 0, .int .i64 0, .int .i64 4, .int .i64 1, .int .i64 0, .bool false, .int .u64 0, .int .i64 0, .int .i64 6, .int .i64 2, .int .i64 0, .bool false, .int .u64 0, .int .i64 0, .int .i64 10, .int .i64 1, .int .i64 0, .bool false, .int .u64 0, .int .i64 0, .int .i64 4, .int .i64 1, .int .i64 0, .bool false, .int .u64 0, .int .i64 0, .int .i64 20, .int .i64 2, .int .i64 0, .bool false, .int .u64 0, .int .i64 0, .int .i64 10, .int .i64 1, .int .i64 0, .bool false, .int .u64 0, .int .i64 0, .int .i64 4, .int .i64 2, .int .i64 0, .bool false, .int .u64 0, .int .i64 0, .int .i64 10, .int .i64 1, .int .i64 0, .bool false, .int .u64 0, .int .i64 0, .int .i64 10, .int .i64 1, .int .i64 0, .bool false, .int .u64 0, .int .i64 0, .int .i64 10, .int .i64 1, .int .i64 0, .bool false, .int .u64 0, .int .i64 0, .int .i64 10, .int .i64 1, .int .i64 0, .bool false, .int .u64 0, .int .i64 0, .int .i64 10, .int .i64 1, .int .i64 0, .bool false, .int .u64 0, .int .i64 0, .int .i64 2, .int .i64 1, .int .i64 0, .bool false, .int .u64 0] : Array Value) = (flat ex21).toArray := rfl
theorem fit4 : fitR exW 4 = (⟨132, 4, 2, 0, false, 0⟩, 0) := by decide +kernel
theorem fit6 : fitR exW 6 = (⟨150, 6, 2, 0, false, 0⟩, 0) := by decide +kernel
theorem fit8 : fitR exW 8 = (⟨170, 20, 2, 0, false, 0⟩, 0) := by decide +kernel

theorem free21 (z : Int) (w : World) : Calls Try.prog 69 #[.int .i64 z] w fun e w' => e = .returned (.agg #[.int .i64 0, .int .i64 z, .int .i64 2, .int .i64 0, .bool false, .int .u64 0]) ∧ Below w.heap.size w w' := by
  go_enter Try.func69, Try.ntmps69
  go_wp2
  exact bodyPost_ret (v := .agg #[.int .i64 0, .int .i64 z, .int .i64 2, .int .i64 0, .bool false, .int .u64 0])
    (by simp [results, Try.results69, go_sem]) rfl ⟨rfl, (Below.refl _ _).alloc (Nat.le_refl _) _⟩
theorem obj21 (z : Int) (w : World) : Calls Try.prog 70 #[.int .i64 z] w fun e w' => e = .returned (.agg #[.int .i64 0, .int .i64 z, .int .i64 1, .int .i64 0, .bool false, .int .u64 0]) ∧ Below w.heap.size w w' := by
  go_enter Try.func70, Try.ntmps70
  go_wp2
  exact bodyPost_ret (v := .agg #[.int .i64 0, .int .i64 z, .int .i64 1, .int .i64 0, .bool false, .int .u64 0])
    (by simp [results, Try.results70, go_sem]) rfl ⟨rfl, (Below.refl _ _).alloc (Nat.le_refl _) _⟩

set_option maxRecDepth 100000 in
set_option maxHeartbeats 8000000 in
theorem example21 (w : World) : Calls Try.prog 50 #[] w fun e w' => ∃ B, e = .returned (.slice B 256 256) ∧ Words w' B 256 256 exW ∧ Below w.heap.size w w' := by
  have L1 := Lib.hid fun W g (h : Cells W g 24 (#[.int .i64 0, .int .i64 4, .int .i64 1, .int .i64 0, .bool false, .int .u64 0, .int .i64 0, .int .i64 4, .int .i64 2, .int .i64 0, .bool false, .int .u64 0, .int .i64 0, .int .i64 10, .int .i64 1, .int .i64 0, .bool false, .int .u64 0, .int .i64 0, .int .i64 4, .int .i64 1, .int .i64 0, .bool false, .int .u64 0, .int .i64 0, .int .i64 6, .int .i64 2, .int .i64 0, .bool false, .int .u64 0, .int .i64 0, .int .i64 10, .int .i64 1, .int .i64 0, .bool false, .int .u64 0, .int .i64 0, .int .i64 4, .int .i64 1, .int .i64 0, .bool false, .int .u64 0, .int .i64 0, .int .i64 20, .int .i64 2, .int .i64 0, .bool false, .int .u64 0, .int .i64 0, .int .i64 10, .int .i64 1, .int .i64 0, .bool false, .int .u64 0, .int .i64 0, .int .i64 4, .int .i64 2, .int .i64 0, .bool false, .int .u64 0, .int .i64 0, .int .i64 10, .int .i64 1, .int .i64 0, .bool false, .int .u64 0, .int .i64 0, .int .i64 10, .int .i64 1, .int .i64 0, .bool false, .int .u64 0, .int .i64 0, .int .i64 10, .int .i64 1, .int .i64 0, .bool false, .int .u64 0, .int .i64 0, .int .i64 10, .int .i64 1, .int .i64 0, .bool false, .int .u64 0, .int .i64 0, .int .i64 10, .int .i64 1, .int .i64 0, .bool false, .int .u64 0, .int .i64 0, .int .i64 2, .int .i64 1, .int .i64 0, .bool false, .int .u64 0] : Array Value)) => laid_ex 256 (some ⟨g, 0, none⟩) 16 ex21 W (by omega) (by omega) (Blks.lit (ex_cells ▸ h) (by decide)) (by decide) ex_good ex_next
  have A0 := Lib.hid (Since.refl w)
  go_enter Try.func50, Try.ntmps50
  go_wp2_with fail
  refine (obj21 _ _).mono ?_
  rintro e w1 ⟨rfl, hb1⟩
  have A1 := Lib.hid (show Since w w1 from Since.via (by repeat (first | with_reducible exact A0.out | with_reducible exact Since.refl _ | with_reducible refine Since.alloc ?_ _ | with_reducible refine Since.setCell ?_ (by first | omega | (simp; done) | (simp; omega)) _ | with_reducible refine Since.drew ?_ | with_reducible refine Since.drewN ?_ _)) hb1)
  have s1 := A1.out.size
  clear hb1
  go_wp2_with fail
  refine (free21 _ _).mono ?_
  rintro e w2 ⟨rfl, hb2⟩
  have A2 := Lib.hid (show Since w w2 from Since.via (by repeat (first | with_reducible exact A1.out | with_reducible exact Since.refl _ | with_reducible refine Since.alloc ?_ _ | with_reducible refine Since.setCell ?_ (by first | omega | (simp; done) | (simp; omega)) _ | with_reducible refine Since.drew ?_ | with_reducible refine Since.drewN ?_ _)) hb2)
  have s2 := A2.out.size
  clear hb2
  go_wp2_with fail
  refine (obj21 _ _).mono ?_
  rintro e w3 ⟨rfl, hb3⟩
  have A3 := Lib.hid (show Since w w3 from Since.via (by repeat (first | with_reducible exact A2.out | with_reducible exact Since.refl _ | with_reducible refine Since.alloc ?_ _ | with_reducible refine Since.setCell ?_ (by first | omega | (simp; done) | (simp; omega)) _ | with_reducible refine Since.drew ?_ | with_reducible refine Since.drewN ?_ _)) hb3)
  have s3 := A3.out.size
  clear hb3
  go_wp2_with fail
  refine (obj21 _ _).mono ?_
  rintro e w4 ⟨rfl, hb4⟩
  have A4 := Lib.hid (show Since w w4 from Since.via (by repeat (first | with_reducible exact A3.out | with_reducible exact Since.refl _ | with_reducible refine Since.alloc ?_ _ | with_reducible refine Since.setCell ?_ (by first | omega | (simp; done) | (simp; omega)) _ | with_reducible refine Since.drew ?_ | with_reducible refine Since.drewN ?_ _)) hb4)
  have s4 := A4.out.size
  clear hb4
  go_wp2_with fail
  refine (free21 _ _).mono ?_
  rintro e w5 ⟨rfl, hb5⟩
  have A5 := Lib.hid (show Since w w5 from Since.via (by repeat (first | with_reducible exact A4.out | with_reducible exact Since.refl _ | with_reducible refine Since.alloc ?_ _ | with_reducible refine Since.setCell ?_ (by first | omega | (simp; done) | (simp; omega)) _ | with_reducible refine Since.drew ?_ | with_reducible refine Since.drewN ?_ _)) hb5)
  have s5 := A5.out.size
  clear hb5
  go_wp2_with fail
  refine (obj21 _ _).mono ?_
  rintro e w6 ⟨rfl, hb6⟩
  have A6 := Lib.hid (show Since w w6 from Since.via (by repeat (first | with_reducible exact A5.out | with_reducible exact Since.refl _ | with_reducible refine Since.alloc ?_ _ | with_reducible refine Since.setCell ?_ (by first | omega | (simp; done) | (simp; omega)) _ | with_reducible refine Since.drew ?_ | with_reducible refine Since.drewN ?_ _)) hb6)
  have s6 := A6.out.size
  clear hb6
  go_wp2_with fail
  refine (obj21 _ _).mono ?_
  rintro e w7 ⟨rfl, hb7⟩
  have A7 := Lib.hid (show Since w w7 from Since.via (by repeat (first | with_reducible exact A6.out | with_reducible exact Since.refl _ | with_reducible refine Since.alloc ?_ _ | with_reducible refine Since.setCell ?_ (by first | omega | (simp; done) | (simp; omega)) _ | with_reducible refine Since.drew ?_ | with_reducible refine Since.drewN ?_ _)) hb7)
  have s7 := A7.out.size
  clear hb7
  go_wp2_with fail
  refine (free21 _ _).mono ?_
  rintro e w8 ⟨rfl, hb8⟩
  have A8 := Lib.hid (show Since w w8 from Since.via (by repeat (first | with_reducible exact A7.out | with_reducible exact Since.refl _ | with_reducible refine Since.alloc ?_ _ | with_reducible refine Since.setCell ?_ (by first | omega | (simp; done) | (simp; omega)) _ | with_reducible refine Since.drew ?_ | with_reducible refine Since.drewN ?_ _)) hb8)
  have s8 := A8.out.size
  clear hb8
  go_wp2_with fail
  refine (obj21 _ _).mono ?_
  rintro e w9 ⟨rfl, hb9⟩
  have A9 := Lib.hid (show Since w w9 from Since.via (by repeat (first | with_reducible exact A8.out | with_reducible exact Since.refl _ | with_reducible refine Since.alloc ?_ _ | with_reducible refine Since.setCell ?_ (by first | omega | (simp; done) | (simp; omega)) _ | with_reducible refine Since.drew ?_ | with_reducible refine Since.drewN ?_ _)) hb9)
  have s9 := A9.out.size
  clear hb9
  go_wp2_with fail
  refine (free21 _ _).mono ?_
  rintro e w10 ⟨rfl, hb10⟩
  have A10 := Lib.hid (show Since w w10 from Since.via (by repeat (first | with_reducible exact A9.out | with_reducible exact Since.refl _ | with_reducible refine Since.alloc ?_ _ | with_reducible refine Since.setCell ?_ (by first | omega | (simp; done) | (simp; omega)) _ | with_reducible refine Since.drew ?_ | with_reducible refine Since.drewN ?_ _)) hb10)
  have s10 := A10.out.size
  clear hb10
  go_wp2_with fail
  refine (obj21 _ _).mono ?_
  rintro e w11 ⟨rfl, hb11⟩
  have A11 := Lib.hid (show Since w w11 from Since.via (by repeat (first | with_reducible exact A10.out | with_reducible exact Since.refl _ | with_reducible refine Since.alloc ?_ _ | with_reducible refine Since.setCell ?_ (by first | omega | (simp; done) | (simp; omega)) _ | with_reducible refine Since.drew ?_ | with_reducible refine Since.drewN ?_ _)) hb11)
  have s11 := A11.out.size
  clear hb11
  go_wp2_with fail
  refine (obj21 _ _).mono ?_
  rintro e w12 ⟨rfl, hb12⟩
  have A12 := Lib.hid (show Since w w12 from Since.via (by repeat (first | with_reducible exact A11.out | with_reducible exact Since.refl _ | with_reducible refine Since.alloc ?_ _ | with_reducible refine Since.setCell ?_ (by first | omega | (simp; done) | (simp; omega)) _ | with_reducible refine Since.drew ?_ | with_reducible refine Since.drewN ?_ _)) hb12)
  have s12 := A12.out.size
  clear hb12
  go_wp2_with fail
  refine (obj21 _ _).mono ?_
  rintro e w13 ⟨rfl, hb13⟩
  have A13 := Lib.hid (show Since w w13 from Since.via (by repeat (first | with_reducible exact A12.out | with_reducible exact Since.refl _ | with_reducible refine Since.alloc ?_ _ | with_reducible refine Since.setCell ?_ (by first | omega | (simp; done) | (simp; omega)) _ | with_reducible refine Since.drew ?_ | with_reducible refine Since.drewN ?_ _)) hb13)
  have s13 := A13.out.size
  clear hb13
  go_wp2_with fail
  refine (obj21 _ _).mono ?_
  rintro e w14 ⟨rfl, hb14⟩
  have A14 := Lib.hid (show Since w w14 from Since.via (by repeat (first | with_reducible exact A13.out | with_reducible exact Since.refl _ | with_reducible refine Since.alloc ?_ _ | with_reducible refine Since.setCell ?_ (by first | omega | (simp; done) | (simp; omega)) _ | with_reducible refine Since.drew ?_ | with_reducible refine Since.drewN ?_ _)) hb14)
  have s14 := A14.out.size
  clear hb14
  go_wp2_with fail
  refine (obj21 _ _).mono ?_
  rintro e w15 ⟨rfl, hb15⟩
  have A15 := Lib.hid (show Since w w15 from Since.via (by repeat (first | with_reducible exact A14.out | with_reducible exact Since.refl _ | with_reducible refine Since.alloc ?_ _ | with_reducible refine Since.setCell ?_ (by first | omega | (simp; done) | (simp; omega)) _ | with_reducible refine Since.drew ?_ | with_reducible refine Since.drewN ?_ _)) hb15)
  have s15 := A15.out.size
  clear hb15
  go_wp2_with fail
  refine (obj21 _ _).mono ?_
  rintro e w16 ⟨rfl, hb16⟩
  have A16 := Lib.hid (show Since w w16 from Since.via (by repeat (first | with_reducible exact A15.out | with_reducible exact Since.refl _ | with_reducible refine Since.alloc ?_ _ | with_reducible refine Since.setCell ?_ (by first | omega | (simp; done) | (simp; omega)) _ | with_reducible refine Since.drew ?_ | with_reducible refine Since.drewN ?_ _)) hb16)
  have s16 := A16.out.size
  clear hb16
  go_wp2_with fail
  refine (L1.out _ _ (Cells.new _ _ _)).mono ?_
  rintro e w17 ⟨D, rfl, hT, hb17⟩
  have A17 := Lib.hid (show Since w w17 from Since.via (by repeat (first | with_reducible exact A16.out | with_reducible exact Since.refl _ | with_reducible refine Since.alloc ?_ _ | with_reducible refine Since.setCell ?_ (by first | omega | (simp; done) | (simp; omega)) _ | with_reducible refine Since.drew ?_ | with_reducible refine Since.drewN ?_ _)) hb17)
  have s17 := A17.out.size
  have T17 := Lib.hid hT
  clear hT
  clear hb17
  go_wp2
  go_ret
  exact ⟨D, rfl, T17.out, (Since.out (by repeat (first | with_reducible exact A17.out | with_reducible exact Since.refl _ | with_reducible refine Since.alloc ?_ _ | with_reducible refine Since.setCell ?_ (by first | omega | (simp; done) | (simp; omega)) _ | with_reducible refine Since.drew ?_ | with_reducible refine Since.drewN ?_ _)))⟩

set_option maxRecDepth 100000 in
theorem takes_by (z a : Int) (b : Blk) (w : World) (hf : fitR exW z = (b, 0)) (ha : b.at_ = a) : Calls Try.prog 55 #[.int .i64 z, .int .i64 a] w fun e w' => e = .returned (.bool true) ∧ Below w.heap.size w w' := by
  have F := Lib.hid fun W A h => find_any A 256 256 exW z W h
  rw [hf] at F
  obtain ⟨ba, bs, bk, bt, bm, bn⟩ := b
  simp only at ha
  subst ha
  have A0 := Lib.hid (Since.refl w)
  clear hf
  go_enter Try.func55, Try.ntmps55
  go_wp2_with fail
  refine (example21 _).mono ?_
  rintro e w1 ⟨D, rfl, hT, hb1⟩
  have A1 := Lib.hid (show Since w w1 from Since.via (by repeat (first | with_reducible exact A0.out | with_reducible exact Since.refl _ | with_reducible refine Since.alloc ?_ _ | with_reducible refine Since.setCell ?_ (by first | omega | (simp; done) | (simp; omega)) _ | with_reducible refine Since.drew ?_ | with_reducible refine Since.drewN ?_ _)) hb1)
  have s1 := A1.out.size
  have T1 := Lib.hid hT
  clear hT
  clear hb1
  go_wp2_with fail
  refine (F.out _ _ (T1.out.below (Since.out (by repeat (first | with_reducible exact Since.refl _ | with_reducible refine Since.alloc ?_ _ | with_reducible refine Since.setCell ?_ (by first | omega | (simp; done) | (simp; omega)) _ | with_reducible refine Since.drew ?_ | with_reducible refine Since.drewN ?_ _))))).mono ?_
  rintro e w2 ⟨rfl, hb2⟩
  have A2 := Lib.hid (show Since w w2 from Since.via (by repeat (first | with_reducible exact A1.out | with_reducible exact Since.refl _ | with_reducible refine Since.alloc ?_ _ | with_reducible refine Since.setCell ?_ (by first | omega | (simp; done) | (simp; omega)) _ | with_reducible refine Since.drew ?_ | with_reducible refine Since.drewN ?_ _)) hb2)
  have s2 := A2.out.size
  clear hb2
  go_wp2
  go_ret
  exact ⟨rfl, (Since.out (by repeat (first | with_reducible exact A2.out | with_reducible exact Since.refl _ | with_reducible refine Since.alloc ?_ _ | with_reducible refine Since.setCell ?_ (by first | omega | (simp; done) | (simp; omega)) _ | with_reducible refine Since.drew ?_ | with_reducible refine Since.drewN ?_ _)))⟩

set_option maxRecDepth 100000 in
theorem alive21 (w : World) : Calls Try.prog 20 #[] w fun e w' => e = .returned (.bool true) ∧ Below w.heap.size w w' := by
  have F := Lib.hid fun W A h => find_any A 256 256 exW 8 W h
  rw [fit8] at F
  have G0 := fun W => fleft_rest 170 20 2 0 false 0 8 W (by decide) rfl (by decide) (by decide)
  simp only [show wrap64 (170 + 8) = 178 from by unfold wrap64; omega, show (20 : Int) - 8 = 12 from by omega] at G0
  have G := Lib.hid G0
  clear G0
  have T4 := Lib.hid fun W => takes_by 4 132 _ W fit4 rfl
  have T6 := Lib.hid fun W => takes_by 6 150 _ W fit6 rfl
  have T8 := Lib.hid fun W => takes_by 8 170 _ W fit8 rfl
  have A0 := Lib.hid (Since.refl w)
  go_enter Try.func20, Try.ntmps20
  go_wp2_with fail
  refine (example21 _).mono ?_
  rintro e w1 ⟨D, rfl, hT, hb1⟩
  have A1 := Lib.hid (show Since w w1 from Since.via (by repeat (first | with_reducible exact A0.out | with_reducible exact Since.refl _ | with_reducible refine Since.alloc ?_ _ | with_reducible refine Since.setCell ?_ (by first | omega | (simp; done) | (simp; omega)) _ | with_reducible refine Since.drew ?_ | with_reducible refine Since.drewN ?_ _)) hb1)
  have s1 := A1.out.size
  have T1 := Lib.hid hT
  clear hT
  clear hb1
  go_wp2_with fail
  refine (F.out _ _ (T1.out.below (Since.out (by repeat (first | with_reducible exact Since.refl _ | with_reducible refine Since.alloc ?_ _ | with_reducible refine Since.setCell ?_ (by first | omega | (simp; done) | (simp; omega)) _ | with_reducible refine Since.drew ?_ | with_reducible refine Since.drewN ?_ _))))).mono ?_
  rintro e w2 ⟨rfl, hb2⟩
  have A2 := Lib.hid (show Since w w2 from Since.via (by repeat (first | with_reducible exact A1.out | with_reducible exact Since.refl _ | with_reducible refine Since.alloc ?_ _ | with_reducible refine Since.setCell ?_ (by first | omega | (simp; done) | (simp; omega)) _ | with_reducible refine Since.drew ?_ | with_reducible refine Since.drewN ?_ _)) hb2)
  have s2 := A2.out.size
  clear hb2
  go_wp2_with fail
  refine (G.out _).mono ?_
  rintro e w3 ⟨rfl, hb3⟩
  have A3 := Lib.hid (show Since w w3 from Since.via (by repeat (first | with_reducible exact A2.out | with_reducible exact Since.refl _ | with_reducible refine Since.alloc ?_ _ | with_reducible refine Since.setCell ?_ (by first | omega | (simp; done) | (simp; omega)) _ | with_reducible refine Since.drew ?_ | with_reducible refine Since.drewN ?_ _)) hb3)
  have s3 := A3.out.size
  clear hb3
  go_wp2_with fail
  refine (T4.out _).mono ?_
  rintro e w4 ⟨rfl, hb4⟩
  have A4 := Lib.hid (show Since w w4 from Since.via (by repeat (first | with_reducible exact A3.out | with_reducible exact Since.refl _ | with_reducible refine Since.alloc ?_ _ | with_reducible refine Since.setCell ?_ (by first | omega | (simp; done) | (simp; omega)) _ | with_reducible refine Since.drew ?_ | with_reducible refine Since.drewN ?_ _)) hb4)
  have s4 := A4.out.size
  have X4 := Lib.hid (show Cells w4 (w3.heap.size) 24 (#[.int .i64 178, .int .i64 12, .int .i64 2, .int .i64 0, .bool false, .int .u64 0]) from Cells.kept (by repeat (first | with_reducible exact X3.out | with_reducible exact Cells.at_ _ _ _ (by first | omega | (simp; done) | (simp; omega)) | with_reducible refine Cells.alloc ?_ _ | with_reducible refine Cells.far' ?_ (by first | omega | (simp; done) | (simp; omega)) _ | with_reducible refine Cells.drew ?_ | with_reducible refine Cells.drewN ?_ _)) hb4)
  have Xz4 := X4.out.lt
  clear hb4
  go_wp2_with fail
  refine (T6.out _).mono ?_
  rintro e w5 ⟨rfl, hb5⟩
  have A5 := Lib.hid (show Since w w5 from Since.via (by repeat (first | with_reducible exact A4.out | with_reducible exact Since.refl _ | with_reducible refine Since.alloc ?_ _ | with_reducible refine Since.setCell ?_ (by first | omega | (simp; done) | (simp; omega)) _ | with_reducible refine Since.drew ?_ | with_reducible refine Since.drewN ?_ _)) hb5)
  have s5 := A5.out.size
  have X5 := Lib.hid (show Cells w5 (w3.heap.size) 24 (#[.int .i64 178, .int .i64 12, .int .i64 2, .int .i64 0, .bool false, .int .u64 0]) from Cells.kept (by repeat (first | with_reducible exact X4.out | with_reducible exact Cells.at_ _ _ _ (by first | omega | (simp; done) | (simp; omega)) | with_reducible refine Cells.alloc ?_ _ | with_reducible refine Cells.far' ?_ (by first | omega | (simp; done) | (simp; omega)) _ | with_reducible refine Cells.drew ?_ | with_reducible refine Cells.drewN ?_ _)) hb5)
  have Xz5 := X5.out.lt
  clear hb5
  go_wp2_with fail
  refine (T8.out _).mono ?_
  rintro e w6 ⟨rfl, hb6⟩
  have A6 := Lib.hid (show Since w w6 from Since.via (by repeat (first | with_reducible exact A5.out | with_reducible exact Since.refl _ | with_reducible refine Since.alloc ?_ _ | with_reducible refine Since.setCell ?_ (by first | omega | (simp; done) | (simp; omega)) _ | with_reducible refine Since.drew ?_ | with_reducible refine Since.drewN ?_ _)) hb6)
  have s6 := A6.out.size
  have X6 := Lib.hid (show Cells w6 (w3.heap.size) 24 (#[.int .i64 178, .int .i64 12, .int .i64 2, .int .i64 0, .bool false, .int .u64 0]) from Cells.kept (by repeat (first | with_reducible exact X5.out | with_reducible exact Cells.at_ _ _ _ (by first | omega | (simp; done) | (simp; omega)) | with_reducible refine Cells.alloc ?_ _ | with_reducible refine Cells.far' ?_ (by first | omega | (simp; done) | (simp; omega)) _ | with_reducible refine Cells.drew ?_ | with_reducible refine Cells.drewN ?_ _)) hb6)
  have Xz6 := X6.out.lt
  clear hb6
  obtain ⟨Xq0, Xq1, Xq2, Xq3, Xq4, Xq5⟩ := X6.out.six
  have Xlt := X6.out.lt
  go_wp2
  go_ret
  exact ⟨rfl, (Since.out (by repeat (first | with_reducible exact A6.out | with_reducible exact Since.refl _ | with_reducible refine Since.alloc ?_ _ | with_reducible refine Since.setCell ?_ (by first | omega | (simp; done) | (simp; omega)) _ | with_reducible refine Since.drew ?_ | with_reducible refine Since.drewN ?_ _)))⟩
end Go.Proofs.Ytoifalgkeegklaa
