/- The law on the smallest class and the lowest address, walked. -/
import Derived.Test.YtoifalgkeegklaaLaw21c
namespace Go.Proofs.Ytoifalgkeegklaa
open Go.RowKit

/-- Free extents come in the order of addresses. -/
theorem ext_sorted (ws : List Nat) {i j : Nat} (hi : i < (extR ws).1.length) (hj : j < (extR ws).1.length) (hij : i < j) : (extR ws).1[i].at_ < (extR ws).1[j].at_ := by
  have hp : (extR ws).1.Pairwise (fun a b => a.at_ < b.at_) := by
    unfold extR freeL
    refine List.Pairwise.filter _ ?_
    rcases allR_cases ws with ⟨_, e⟩ | ⟨_, _, e⟩ | ⟨l, _, _, _, e⟩ | ⟨l, _, _, _, hc, _, e⟩ <;> rw [e]
    · exact List.Pairwise.nil
    · exact List.Pairwise.nil
    · exact List.Pairwise.nil
    · refine List.pairwise_iff_getElem.2 fun i j hi hj hij => ?_
      have h1 := chain_inc hc j i hj hij
      have h2 : 2 ≤ l[i].size := (good_size (chain_mem hc (List.getElem_mem hi)).2.1).1
      show l[i].at_ < l[j].at_
      omega
  exact List.pairwise_iff_getElem.1 hp i j hi hj hij
theorem fitR_ok {ws : List Nat} {z : Int} (h : (fitR ws z).2 = 0) : (allR ws).2 = 0 ∧ okSize z ∧ ∃ (j : Nat) (hj : j < (extR ws).1.length), fitR ws z = ((extR ws).1[j], 0) ∧ Best (extR ws).1 z (extR ws).1.length j := by
  unfold fitR at h ⊢
  by_cases he : (allR ws).2 = 0
  · rw [if_neg (by simpa using he)] at h ⊢
    by_cases hz : okSize z
    · rw [if_neg (by simpa using hz)] at h ⊢
      rcases fit_cases (z := z) (extR_sized ws) with ⟨e, _⟩ | ⟨j, hj, e, hb⟩
      · rw [e] at h; exact absurd h (by decide)
      · exact ⟨he, hz, j, hj, e, hb⟩
    · rw [if_pos hz] at h; exact absurd h (by decide)
  · rw [if_pos he] at h; exact absurd h he

set_option maxRecDepth 100000 in
set_option maxHeartbeats 8000000 in
theorem walkFitLeast (A : Option Addr) (n c : Nat) (ws : List Nat) (z y : Int) (w : World) (h : Words w A n c ws) (_h1 : -9223372036854775808 ≤ z) (_h2 : z ≤ 9223372036854775807) (_h3 : -9223372036854775808 ≤ y) (_h4 : y ≤ 9223372036854775807) :
    Calls Try.prog 17 #[.slice A n c, .int .i64 z, .int .i64 y] w fun e w' => e = .returned (.bool true) ∧ Below w.heap.size w w' := by
  have hm := h.most
  have hcap := h.cap
  have A0 := Lib.hid (Since.refl w)
  by_cases hn : n ≤ 2100
  case neg =>
    have G := Lib.hid fun W => great_yes A n c W (by omega)
    clear h
    go_enter Try.func17, Try.ntmps17
    go_wp2_with fail
    refine (alive21 _).mono ?_
    rintro e w1 ⟨rfl, hb1⟩
    have A1 := Lib.hid (show Since w w1 from Since.via (by repeat (first | with_reducible exact A0.out | with_reducible exact Since.refl _ | with_reducible refine Since.alloc ?_ _ | with_reducible refine Since.setCell ?_ (by first | omega | (simp; done) | (simp; omega)) _ | with_reducible refine Since.drew ?_ | with_reducible refine Since.drewN ?_ _)) hb1)
    have s1 := A1.out.size
    clear hb1
    go_wp2_with fail
    refine (G.out _).mono ?_
    rintro e wd ⟨rfl, rfl⟩
    go_wp2
    go_ret
    exact ⟨rfl, (Since.out (by repeat (first | with_reducible exact A1.out | with_reducible exact Since.refl _ | with_reducible refine Since.alloc ?_ _ | with_reducible refine Since.setCell ?_ (by first | omega | (simp; done) | (simp; omega)) _ | with_reducible refine Since.drew ?_ | with_reducible refine Since.drewN ?_ _)))⟩
  have G := Lib.hid fun W => great_no A n c W hn
  by_cases hi : imgOk n
  case neg =>
    have K := Lib.hid fun W => rimg_bad A n c W (by omega) hi
    clear h hi
    go_enter Try.func17, Try.ntmps17
    go_wp2_with fail
    refine (alive21 _).mono ?_
    rintro e w1 ⟨rfl, hb1⟩
    have A1 := Lib.hid (show Since w w1 from Since.via (by repeat (first | with_reducible exact A0.out | with_reducible exact Since.refl _ | with_reducible refine Since.alloc ?_ _ | with_reducible refine Since.setCell ?_ (by first | omega | (simp; done) | (simp; omega)) _ | with_reducible refine Since.drew ?_ | with_reducible refine Since.drewN ?_ _)) hb1)
    have s1 := A1.out.size
    clear hb1
    go_wp2_with fail
    refine (G.out _).mono ?_
    rintro e wd ⟨rfl, rfl⟩
    go_wp2_with fail
    refine (K.out _).mono ?_
    rintro e wd ⟨rfl, rfl⟩
    go_wp2
    go_ret
    exact ⟨rfl, (Since.out (by repeat (first | with_reducible exact A1.out | with_reducible exact Since.refl _ | with_reducible refine Since.alloc ?_ _ | with_reducible refine Since.setCell ?_ (by first | omega | (simp; done) | (simp; omega)) _ | with_reducible refine Since.drew ?_ | with_reducible refine Since.drewN ?_ _)))⟩
  have K := Lib.hid fun W => rimg_ok A n c W (by omega) hi
  have H0 := Lib.hid h
  have F1 := Lib.hid fun W A c h => find_any A n c ws z W h
  have F2 := Lib.hid fun W A c h => ext_any A n c ws W h
  have F3 := Lib.hid fun W A c h => find_any A n c ws y W h
  by_cases he : (fitR ws z).2 = 0
  case neg =>
    obtain ⟨⟨b, x⟩, hr⟩ : ∃ r, fitR ws z = r := ⟨_, rfl⟩
    obtain ⟨⟨l, q⟩, hr2⟩ : ∃ r, extR ws = r := ⟨_, rfl⟩
    rw [hr] at he
    simp only at he
    simp only [hr, hr2] at F1 F2
    have hx : (x != 0) = true := by simpa using he
    clear F3 hr hr2 he h hi
    go_enter Try.func17, Try.ntmps17
    go_wp2_with fail
    refine (alive21 _).mono ?_
    rintro e w1 ⟨rfl, hb1⟩
    have A1 := Lib.hid (show Since w w1 from Since.via (by repeat (first | with_reducible exact A0.out | with_reducible exact Since.refl _ | with_reducible refine Since.alloc ?_ _ | with_reducible refine Since.setCell ?_ (by first | omega | (simp; done) | (simp; omega)) _ | with_reducible refine Since.drew ?_ | with_reducible refine Since.drewN ?_ _)) hb1)
    have s1 := A1.out.size
    have B1 := Lib.hid (show Since w w1 from Since.via (by repeat (first | with_reducible exact Since.refl _ | with_reducible refine Since.alloc ?_ _ | with_reducible refine Since.setCell ?_ (by first | omega | (simp; done) | (simp; omega)) _ | with_reducible refine Since.drew ?_ | with_reducible refine Since.drewN ?_ _)) hb1)
    have H1 := Lib.hid (H0.out.below B1.out)
    clear hb1
    go_wp2_with fail
    refine (G.out _).mono ?_
    rintro e wd ⟨rfl, rfl⟩
    go_wp2_with fail
    refine (K.out _).mono ?_
    rintro e wd ⟨rfl, rfl⟩
    go_wp2_with fail
    refine (F1.out _ _ _ (H1.out.below (Since.out (by repeat (first | with_reducible exact Since.refl _ | with_reducible refine Since.alloc ?_ _ | with_reducible refine Since.setCell ?_ (by first | omega | (simp; done) | (simp; omega)) _ | with_reducible refine Since.drew ?_ | with_reducible refine Since.drewN ?_ _))))).mono ?_
    rintro e w2 ⟨rfl, hb2⟩
    have A2 := Lib.hid (show Since w w2 from Since.via (by repeat (first | with_reducible exact A1.out | with_reducible exact Since.refl _ | with_reducible refine Since.alloc ?_ _ | with_reducible refine Since.setCell ?_ (by first | omega | (simp; done) | (simp; omega)) _ | with_reducible refine Since.drew ?_ | with_reducible refine Since.drewN ?_ _)) hb2)
    have s2 := A2.out.size
    have B2 := Lib.hid (show Since w1 w2 from Since.via (by repeat (first | with_reducible exact Since.refl _ | with_reducible refine Since.alloc ?_ _ | with_reducible refine Since.setCell ?_ (by first | omega | (simp; done) | (simp; omega)) _ | with_reducible refine Since.drew ?_ | with_reducible refine Since.drewN ?_ _)) hb2)
    have H2 := Lib.hid (H1.out.below B2.out)
    clear hb2
    go_wp2_with fail
    refine (F2.out _ _ _ (H2.out.below (Since.out (by repeat (first | with_reducible exact Since.refl _ | with_reducible refine Since.alloc ?_ _ | with_reducible refine Since.setCell ?_ (by first | omega | (simp; done) | (simp; omega)) _ | with_reducible refine Since.drew ?_ | with_reducible refine Since.drewN ?_ _))))).mono ?_
    rintro e w3 ⟨B1, d1, rfl, hB, hb3⟩
    have A3 := Lib.hid (show Since w w3 from Since.via (by repeat (first | with_reducible exact A2.out | with_reducible exact Since.refl _ | with_reducible refine Since.alloc ?_ _ | with_reducible refine Since.setCell ?_ (by first | omega | (simp; done) | (simp; omega)) _ | with_reducible refine Since.drew ?_ | with_reducible refine Since.drewN ?_ _)) hb3)
    have s3 := A3.out.size
    clear hb3
    go_wp2
    go_ret
    exact ⟨rfl, (Since.out (by repeat (first | with_reducible exact A3.out | with_reducible exact Since.refl _ | with_reducible refine Since.alloc ?_ _ | with_reducible refine Since.setCell ?_ (by first | omega | (simp; done) | (simp; omega)) _ | with_reducible refine Since.drew ?_ | with_reducible refine Since.drewN ?_ _)))⟩
  obtain ⟨he1, hz, j, hj, hf, hbest⟩ := fitR_ok he
  have E3 : extR ws = ((extR ws).1, 0) := Prod.ext rfl he1
  have hs := extR_sized ws
  have hl := extR_le ws
  have SO := Lib.hid fun i j hi hj hij => @ext_sorted ws i j hi hj hij
  have HY := Lib.hid (@fitR_ok ws y)
  obtain ⟨⟨cc, cx⟩, hcr⟩ : ∃ r, fitR ws y = r := ⟨_, rfl⟩
  rw [hcr] at HY F3
  rw [hf] at F1
  rw [E3] at F2
  generalize (extR ws).1 = l at *
  obtain ⟨_, _, _, hzb, _, hmin, hfirst⟩ := hbest
  have hbs := hs.get hj
  obtain ⟨b, hb⟩ : ∃ b, l[j] = b := ⟨_, rfl⟩
  rw [hb] at F1 hzb hbs hmin hfirst
  have HB := Lib.hid hb
  obtain ⟨S, hSS⟩ := Int.eq_ofNat_of_zero_le (show 0 ≤ b.size by omega)
  rw [hSS] at hbs
  simp only [hSS, Int.toNat_natCast] at hmin hfirst
  have CB := Lib.hid fun W => class_ok S W (by omega) (by omega)
  rw [← hSS] at CB
  obtain ⟨q, hq⟩ : ∃ q, Nat.log2 S = q := ⟨_, rfl⟩
  rw [hq] at CB hmin hfirst
  have MN := Lib.hid hmin
  have FI := Lib.hid hfirst
  have HS := Lib.hid hs
  clear hf E3 he he1 hz hs hb hSS hq hmin hfirst h hi hcr
  go_enter Try.func17, Try.ntmps17
  go_wp2_with fail
  refine (alive21 _).mono ?_
  rintro e w1 ⟨rfl, hb1⟩
  have A1 := Lib.hid (show Since w w1 from Since.via (by repeat (first | with_reducible exact A0.out | with_reducible exact Since.refl _ | with_reducible refine Since.alloc ?_ _ | with_reducible refine Since.setCell ?_ (by first | omega | (simp; done) | (simp; omega)) _ | with_reducible refine Since.drew ?_ | with_reducible refine Since.drewN ?_ _)) hb1)
  have s1 := A1.out.size
  have B1 := Lib.hid (show Since w w1 from Since.via (by repeat (first | with_reducible exact Since.refl _ | with_reducible refine Since.alloc ?_ _ | with_reducible refine Since.setCell ?_ (by first | omega | (simp; done) | (simp; omega)) _ | with_reducible refine Since.drew ?_ | with_reducible refine Since.drewN ?_ _)) hb1)
  have H1 := Lib.hid (H0.out.below B1.out)
  clear hb1
  go_wp2_with fail
  refine (G.out _).mono ?_
  rintro e wd ⟨rfl, rfl⟩
  go_wp2_with fail
  refine (K.out _).mono ?_
  rintro e wd ⟨rfl, rfl⟩
  go_wp2_with fail
  refine (F1.out _ _ _ (H1.out.below (Since.out (by repeat (first | with_reducible exact Since.refl _ | with_reducible refine Since.alloc ?_ _ | with_reducible refine Since.setCell ?_ (by first | omega | (simp; done) | (simp; omega)) _ | with_reducible refine Since.drew ?_ | with_reducible refine Since.drewN ?_ _))))).mono ?_
  rintro e w2 ⟨rfl, hb2⟩
  have A2 := Lib.hid (show Since w w2 from Since.via (by repeat (first | with_reducible exact A1.out | with_reducible exact Since.refl _ | with_reducible refine Since.alloc ?_ _ | with_reducible refine Since.setCell ?_ (by first | omega | (simp; done) | (simp; omega)) _ | with_reducible refine Since.drew ?_ | with_reducible refine Since.drewN ?_ _)) hb2)
  have s2 := A2.out.size
  have B2 := Lib.hid (show Since w1 w2 from Since.via (by repeat (first | with_reducible exact Since.refl _ | with_reducible refine Since.alloc ?_ _ | with_reducible refine Since.setCell ?_ (by first | omega | (simp; done) | (simp; omega)) _ | with_reducible refine Since.drew ?_ | with_reducible refine Since.drewN ?_ _)) hb2)
  have H2 := Lib.hid (H1.out.below B2.out)
  clear hb2
  go_wp2_with fail
  refine (F2.out _ _ _ (H2.out.below (Since.out (by repeat (first | with_reducible exact Since.refl _ | with_reducible refine Since.alloc ?_ _ | with_reducible refine Since.setCell ?_ (by first | omega | (simp; done) | (simp; omega)) _ | with_reducible refine Since.drew ?_ | with_reducible refine Since.drewN ?_ _))))).mono ?_
  rintro e w3 ⟨B1, d1, rfl, hB, hb3⟩
  have A3 := Lib.hid (show Since w w3 from Since.via (by repeat (first | with_reducible exact A2.out | with_reducible exact Since.refl _ | with_reducible refine Since.alloc ?_ _ | with_reducible refine Since.setCell ?_ (by first | omega | (simp; done) | (simp; omega)) _ | with_reducible refine Since.drew ?_ | with_reducible refine Since.drewN ?_ _)) hb3)
  have s3 := A3.out.size
  have B3 := Lib.hid (show Since w2 w3 from Since.via (by repeat (first | with_reducible exact Since.refl _ | with_reducible refine Since.alloc ?_ _ | with_reducible refine Since.setCell ?_ (by first | omega | (simp; done) | (simp; omega)) _ | with_reducible refine Since.drew ?_ | with_reducible refine Since.drewN ?_ _)) hb3)
  have H3 := Lib.hid (H2.out.below B3.out)
  have L3 := Lib.hid hB
  clear hB
  have X3 := Lib.hid (show Cells w3 (w2.heap.size) 24 (#[.int .i64 b.at_, .int .i64 b.size, .int .i64 b.kind, .int .i64 b.typ, .bool b.mark, .int .u64 (b.next : Nat)]) from Cells.kept (by repeat (first | with_reducible exact X2.out | with_reducible exact Cells.at_ _ _ _ (by first | omega | (simp; done) | (simp; omega)) | with_reducible refine Cells.alloc ?_ _ | with_reducible refine Cells.far' ?_ (by first | omega | (simp; done) | (simp; omega)) _ | with_reducible refine Cells.drew ?_ | with_reducible refine Cells.drewN ?_ _)) hb3)
  have Xz3 := X3.out.lt
  clear hb3
  have hcap := L3.out.cap
  have hmost := L3.out.most
  obtain ⟨Xq0, Xq1, Xq2, Xq3, Xq4, Xq5⟩ := X3.out.six
  have Xlt := X3.out.lt
  go_wp2_with fail
  refine (CB.out _).mono ?_
  rintro ee wd ⟨rfl, rfl⟩
  clear Xq0 Xq1 Xq2 Xq3 Xq4 Xq5 Xlt
  go_wp2
  go_loopw [14] (fun t wr => ∃ k : Nat, t = .int .i64 k ∧ k ≤ l.length ∧ Since w3 wr) (fun t _ => l.length - (intOf t).toNat)
  case atStart => exact ⟨0, rfl, Nat.zero_le _, Since.refl _⟩
  case round =>
    obtain ⟨k, rfl, hk, hnx⟩ := hrel
    have C6 := Lib.hid hnx
    have A6 := Lib.hid (Since.trans A3.out hnx)
    have X6 := Lib.hid (X3.out.kept hnx)
    have L6 := Lib.hid (L3.out.below hnx)
    have H6 := Lib.hid (H3.out.below hnx)
    have s6 := C6.out.size
    clear hnx
    by_cases hlt : k < l.length
    · obtain ⟨g, o, rfl, hg⟩ := L6.out.at_ (by omega)
      obtain ⟨c0, c1, _⟩ := L6.out.same hlt
      have hbs' := HS.out.get hlt
      have MK := MN.out k hlt hlt
      have FK := FI.out k hlt
      have SK := fun h => SO.out j k hj hlt h
      rw [HB.out] at SK
      have HKJ := fun (h : k = j) => show l[k].at_ = b.at_ by subst h; rw [HB.out]
      obtain ⟨T, hTT⟩ := Int.eq_ofNat_of_zero_le (show 0 ≤ l[k].size by omega)
      simp only [hTT, Int.toNat_natCast] at MK FK c1 hbs'
      have CC := Lib.hid fun W => class_ok T W (by omega) (by omega)
      obtain ⟨q', hq'⟩ : ∃ q', Nat.log2 T = q' := ⟨_, rfl⟩
      rw [hq'] at CC MK FK
      generalize l[k].at_ = ka at *
      clear hTT hq'
      have hcase : ¬ z ≤ (T : Int) ∨ (z ≤ (T : Int) ∧ ¬ q' < q ∧ q' ≠ q) ∨ (z ≤ (T : Int) ∧ q' = q ∧ ¬ ka < b.at_) := by
        by_cases hz : z ≤ (T : Int)
        · have hm := MK hz
          by_cases hq : q' = q
          · refine .inr (.inr ⟨hz, hq, ?_⟩)
            rcases Nat.lt_trichotomy k j with hl | hl | hl
            · have := FK hl hz; omega
            · have := HKJ hl; omega
            · have := SK hl; omega
          · exact .inr (.inl ⟨hz, by omega, hq⟩)
        · exact .inl hz
      clear MK FK SK HKJ
      obtain ⟨Xq0, Xq1, Xq2, Xq3, Xq4, Xq5⟩ := X6.out.six
      have Xlt := X6.out.lt
      rcases hcase with h1 | ⟨h1, h2, h3⟩ | ⟨h1, rfl, h3⟩
      · have n1 : decide (z ≤ (T : Int)) = false := by simpa using h1
        clear h1
        go_wp2_with fail
        refine (CC.out _).mono ?_
        rintro ee wd ⟨rfl, rfl⟩
        go_wp2_with fail
        go_quiet (fail)
        go_wp2
        go_roundw
        case rel => exact ⟨k + 1, by go_num, by omega, (by repeat (first | with_reducible exact C6.out | with_reducible exact Since.refl _ | with_reducible refine Since.alloc ?_ _ | with_reducible refine Since.setCell ?_ (by first | omega | (simp; done) | (simp; omega)) _ | with_reducible refine Since.drew ?_ | with_reducible refine Since.drewN ?_ _))⟩
        case measure => simp [intOf]; omega
      · have n2 : decide ((q' : Int) < (q : Int)) = false := by simp; omega
        have n4 : decide (q' < q) = false := by simp; omega
        have n3 : ((q' : Int) == (q : Int)) = false := by simp; omega
        clear h2 h3
        go_wp2_with fail
        refine (CC.out _).mono ?_
        rintro ee wd ⟨rfl, rfl⟩
        go_wp2_with fail
        go_quiet (fail)
        go_wp2
        go_roundw
        case rel => exact ⟨k + 1, by go_num, by omega, (by repeat (first | with_reducible exact C6.out | with_reducible exact Since.refl _ | with_reducible refine Since.alloc ?_ _ | with_reducible refine Since.setCell ?_ (by first | omega | (simp; done) | (simp; omega)) _ | with_reducible refine Since.drew ?_ | with_reducible refine Since.drewN ?_ _))⟩
        case measure => simp [intOf]; omega
      · have n2 : decide ((q' : Int) < (q' : Int)) = false := by simp
        have n3 : decide (ka < b.at_) = false := by simp; omega
        clear h3
        go_wp2_with fail
        refine (CC.out _).mono ?_
        rintro ee wd ⟨rfl, rfl⟩
        go_wp2_with fail
        go_quiet (fail)
        go_wp2
        go_roundw
        case rel => exact ⟨k + 1, by go_num, by omega, (by repeat (first | with_reducible exact C6.out | with_reducible exact Since.refl _ | with_reducible refine Since.alloc ?_ _ | with_reducible refine Since.setCell ?_ (by first | omega | (simp; done) | (simp; omega)) _ | with_reducible refine Since.drew ?_ | with_reducible refine Since.drewN ?_ _))⟩
        case measure => simp [intOf]; omega
    · obtain rfl : k = l.length := by omega
      go_wp2_with fail
      refine (F3.out _ _ _ (H6.out.below (Since.out (by repeat (first | with_reducible exact Since.refl _ | with_reducible refine Since.alloc ?_ _ | with_reducible refine Since.setCell ?_ (by first | omega | (simp; done) | (simp; omega)) _ | with_reducible refine Since.drew ?_ | with_reducible refine Since.drewN ?_ _))))).mono ?_
      rintro e w7 ⟨rfl, hb7⟩
      have A7 := Lib.hid (show Since w w7 from Since.via (by repeat (first | with_reducible exact A6.out | with_reducible exact Since.refl _ | with_reducible refine Since.alloc ?_ _ | with_reducible refine Since.setCell ?_ (by first | omega | (simp; done) | (simp; omega)) _ | with_reducible refine Since.drew ?_ | with_reducible refine Since.drewN ?_ _)) hb7)
      have s7 := A7.out.size
      have X7 := Lib.hid (show Cells w7 (w2.heap.size) 24 (#[.int .i64 b.at_, .int .i64 b.size, .int .i64 b.kind, .int .i64 b.typ, .bool b.mark, .int .u64 (b.next : Nat)]) from Cells.kept (by repeat (first | with_reducible exact X6.out | with_reducible exact Cells.at_ _ _ _ (by first | omega | (simp; done) | (simp; omega)) | with_reducible refine Cells.alloc ?_ _ | with_reducible refine Cells.far' ?_ (by first | omega | (simp; done) | (simp; omega)) _ | with_reducible refine Cells.drew ?_ | with_reducible refine Cells.drewN ?_ _)) hb7)
      have Xz7 := X7.out.lt
      clear hb7
      by_cases hcx : cx = 0
      · subst hcx
        by_cases hyz : y < z
        · go_wp2
          go_ret
          exact ⟨rfl, (Since.out (by repeat (first | with_reducible exact A7.out | with_reducible exact Since.refl _ | with_reducible refine Since.alloc ?_ _ | with_reducible refine Since.setCell ?_ (by first | omega | (simp; done) | (simp; omega)) _ | with_reducible refine Since.drew ?_ | with_reducible refine Since.drewN ?_ _)))⟩
        · obtain ⟨_, _, j', hj', hE, hB'⟩ := HY.out rfl
          have hcc : cc = l[j'] := congrArg Prod.fst hE
          obtain ⟨_, _, _, hy2, _⟩ := hB'
          have hbs' := HS.out.get hj'
          have MK := MN.out j' hj' hj'
          rw [← hcc] at hy2 hbs' MK
          obtain ⟨T, hTT⟩ := Int.eq_ofNat_of_zero_le (show 0 ≤ cc.size by omega)
          have HTT := Lib.hid hTT
          simp only [hTT, Int.toNat_natCast] at MK hbs' hy2
          have hqq := MK (by omega)
          have CC := Lib.hid fun W => class_ok T W (by omega) (by omega)
          obtain ⟨q', hq'⟩ : ∃ q', Nat.log2 T = q' := ⟨_, rfl⟩
          rw [hq'] at CC hqq
          have n1 : decide (y < z) = false := by simpa using hyz
          obtain ⟨ca, cs, ck, ct, cm, cn⟩ := cc
          simp only at hTT
          subst hTT
          clear MK hcc hq' hE hyz
          go_wp2_with fail
          refine (CC.out _).mono ?_
          rintro ee wd ⟨rfl, rfl⟩
          go_wp2
          go_ret
          exact ⟨rfl, (Since.out (by repeat (first | with_reducible exact A7.out | with_reducible exact Since.refl _ | with_reducible refine Since.alloc ?_ _ | with_reducible refine Since.setCell ?_ (by first | omega | (simp; done) | (simp; omega)) _ | with_reducible refine Since.drew ?_ | with_reducible refine Since.drewN ?_ _)))⟩
      · have n1 : (cx != 0) = true := by simpa using hcx
        go_wp2
        go_ret
        exact ⟨rfl, (Since.out (by repeat (first | with_reducible exact A7.out | with_reducible exact Since.refl _ | with_reducible refine Since.alloc ?_ _ | with_reducible refine Since.setCell ?_ (by first | omega | (simp; done) | (simp; omega)) _ | with_reducible refine Since.drew ?_ | with_reducible refine Since.drewN ?_ _)))⟩
end Go.Proofs.Ytoifalgkeegklaa
