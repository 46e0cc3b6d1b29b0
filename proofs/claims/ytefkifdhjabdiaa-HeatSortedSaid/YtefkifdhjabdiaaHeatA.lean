/- The walk of HeatApart: over whatever calls come in it returns true. -/
import Derived.Test.YtefkifdhjabdiaaHeat4
import Derived.Test.YtefkifdhjabdiaaRd
namespace Go.Proofs.Ytefkifdhjabdiaa
set_option linter.unusedVariables false
set_option linter.unusedSimpArgs false
open Go.RowKit Go.Maps

abbrev rd3 : Rd (Int × Int × Int) := Rd.pair Rd.int (Rd.pair Rd.int Rd.int)

set_option maxRecDepth 100000 in
set_option maxHeartbeats 8000000 in
theorem apart_some (a0 : Int) (b0 : -9223372036854775808 ≤ a0) (b1 : a0 ≤ 9223372036854775807) (w : World) (A : Option Addr) (n c : Nat) (xs : List (Int × Int × Int)) (hC : rd3.CB w.heap.size w A n xs) (hnc : n ≤ c) (hcm : c ≤ 9223372036854775807) (hn0 : 0 < n) (hn90 : n ≤ 90) :
    Calls Try.prog 4 #[.int .i64 a0, .slice A n c] w fun e w' => e = .returned (.bool true) ∧ Below w.heap.size w w' := by
  have hC' := Lib.hid hC; clear hC
  go_enter Try.func4, Try.ntmps4
  go_wp2_with fail
  refine (rest_any a0 20 _ (by omega) (by omega) b0 b1).mono ?_
  rintro e w1 ⟨rfl, rfl⟩
  obtain ⟨r0, r1⟩ := restF_bd a0 20 (by omega)
  generalize restF a0 20 = h0 at r0 r1 ⊢
  go_wp2_with fail
  refine (newT (h0 + 1) _ (by omega) (by omega)).mono ?_
  rintro e w1 ⟨hb, mb, rfl, h1, hB, c1, c2⟩
  go_wp2_with fail
  refine (newT (h0 + 1) _ (by omega) (by omega)).mono ?_
  rintro e w2 ⟨gb, mg, rfl, g1, hB2, d1, d2⟩
  obtain ⟨hl1, hl2⟩ := h1.lt
  go_wp2_with fail
  have hCw := (hC'.out.below hB).below (hB2.mono hB.size)
  obtain ⟨⟨f, a, k⟩, hx0⟩ : ∃ x, xs[0]? = some x := ⟨_, List.getElem?_eq_getElem (by rw [hC'.out.1]; exact hn0)⟩
  obtain ⟨ad, cs, rfl, had, _, ⟨_, _, rfl, ⟨rfl, hf⟩, _, _, rfl, ⟨rfl, ha⟩, ⟨rfl, hk⟩⟩, hcell⟩ := hCw.at_ 0 _ hx0
  have e0 : w2.cell? ad = some (.int .i64 f) := by have := hcell 0 _ rfl; simpa [Addr.add] using this
  have e1 : w2.cell? ⟨ad.block, ad.off + 1, none⟩ = some (.int .i64 a) := by have := hcell 1 _ rfl; simpa [Addr.add] using this
  clear hcell hCw hx0
  go_quiet (fail)
  go_wp2_with fail
  have hqB : Below w.heap.size w (w2.drewN nq) := pw_below_drewN (hB.trans (hB2.mono hB.size)) nq
  have hq1 := (h1.below hB2).drewN nq
  have hq2 := g1.drewN nq
  go_loopw [64] (fun I wr => ∃ (i : Nat) (T1 T2 : Int → Int → Option Hd), I = .int .i64 (i : Int) ∧ i ≤ n ∧ HeatT wr hb (h0 + 1) mb i T1 ∧ HeatT wr gb (h0 + 1) mg i T2 ∧ T1 f a = T2 f a ∧ Below w.heap.size w wr) (fun i _ => n - (intOf i).toNat)
  case atStart => exact ⟨0, fun _ _ => none, fun _ _ => none, rfl, by omega, hq1, hq2, rfl, hqB⟩
  case round =>
    obtain ⟨i, T1, T2, rfl, hi, H1, H2, hT, hBw⟩ := hrel
    obtain ⟨hl3, hl4⟩ := H1.lt
    by_cases hlt : i < n
    · obtain ⟨⟨x, y, z⟩, hxi⟩ : ∃ x, xs[i]? = some x := ⟨_, List.getElem?_eq_getElem (by rw [hC'.out.1]; omega)⟩
      obtain ⟨ad', cs, hade, _, _, ⟨_, _, rfl, ⟨rfl, hx⟩, _, _, rfl, ⟨rfl, hy⟩, ⟨rfl, hz⟩⟩, hcl0, hcl1⟩ := (hC'.out.below hBw).elem i _ hxi
      obtain rfl : ad = ad' := by injection hade
      have f0 : wr.cell? (ad.add (i * 3)) = some (.int .i64 x) := hcl0 _ rfl
      have f1 : wr.cell? ⟨(ad.add (i * 3)).block, (ad.add (i * 3)).off + 1, none⟩ = some (.int .i64 y) := hcl1 0 _ rfl
      have f2 : wr.cell? ⟨(ad.add (i * 3)).block, (ad.add (i * 3)).off + 2, none⟩ = some (.int .i64 z) := hcl1 1 _ rfl
      clear hcl0 hcl1 hxi
      have K := Lib.hid hBw
      have hii : i < 90 := by omega
      clear hBw
      have KT := Lib.hid hT
      clear hT
      by_cases hz0 : z = 0
      · subst hz0
        by_cases hxf : f = x
        · subst hxf
          by_cases hya : a = y
          · subst hya
            go_wp2_with fail
            refine (turnT (H1.below ((Below.refl _ _).alloc (Nat.le_refl _) _)) f a (by omega)).mono ?_
            rintro e w5 ⟨told, er, T1', rfl, G1, hg1, ht1, hne1⟩
            go_wp2_with fail
            refine (turnT ((H2.below ((Below.refl _ _).alloc (Nat.le_refl _) _)).grown hg1 (by simp; omega) (by simp; omega)) f a (by omega)).mono ?_
            rintro e w6 ⟨told2, er2, T2', rfl, G2, hg2, ht2, hne2⟩
            obtain ⟨ht, hT'⟩ := ht1.same ht2 KT.out (hne1 (by omega)) (hne2 (by omega))
            obtain rfl := ht
            have KT' := Lib.hid hT'
            clear hT' ht1 ht2
            go_wp2_with fail
            have b5 := (K.out.alloc K.out.size _).grown hg1 (K.out.alloc K.out.size _).size (by intro k hk; cases hk; omega)
            have b6 := b5.grown hg2 b5.size (by intro k hk; cases hk; omega)
            go_roundw
            case rel => exact ⟨i + 1, T1', T2', by go_num, by omega, G1.grown hg2 (by simp; omega) (by simp; omega), G2, KT'.out, b6⟩
            case measure => simp [intOf]; omega
          · have hyb : (y == a) = false := by simp; omega
            go_wp2_with fail
            refine (turnT (H1.below ((Below.refl _ _).alloc (Nat.le_refl _) _)) f y (by omega)).mono ?_
            rintro e w5 ⟨told, er, T1', rfl, G1, hg1, ht1, hne1⟩
            have hT' := (ht1.other (g := f) (b := a) (by omega)).trans KT.out
            have KT' := Lib.hid hT'
            clear hT' ht1
            go_wp2_with fail
            have b5 := (K.out.alloc K.out.size _).grown hg1 (K.out.alloc K.out.size _).size (by intro k hk; cases hk; omega)
            go_roundw
            case rel => exact ⟨i + 1, T1', T2, by go_num, by omega, G1, ((H2.below ((Below.refl _ _).alloc (Nat.le_refl _) _)).grown hg1 (by simp; omega) (by simp; omega)).mono (by omega), KT'.out, b5⟩
            case measure => simp [intOf]; omega
        · have hxb : (x == f) = false := by simp; omega
          go_wp2_with fail
          refine (turnT (H1.below ((Below.refl _ _).alloc (Nat.le_refl _) _)) x y (by omega)).mono ?_
          rintro e w5 ⟨told, er, T1', rfl, G1, hg1, ht1, hne1⟩
          have hT' := (ht1.other (g := f) (b := a) (by omega)).trans KT.out
          have KT' := Lib.hid hT'
          clear hT' ht1
          go_wp2_with fail
          have b5 := (K.out.alloc K.out.size _).grown hg1 (K.out.alloc K.out.size _).size (by intro k hk; cases hk; omega)
          go_roundw
          case rel => exact ⟨i + 1, T1', T2, by go_num, by omega, G1, ((H2.below ((Below.refl _ _).alloc (Nat.le_refl _) _)).grown hg1 (by simp; omega) (by simp; omega)).mono (by omega), KT'.out, b5⟩
          case measure => simp [intOf]; omega
      · have hzb : (z == 0) = false := by simp [hz0]
        by_cases hz1 : z = 1
        · subst hz1
          by_cases hxf : f = x
          · subst hxf
            by_cases hya : a = y
            · subst hya
              go_wp2_with fail
              refine (takenT (H1.below ((Below.refl _ _).alloc (Nat.le_refl _) _)) f a true (by omega) (WalkArith.wf_i64 hx) (WalkArith.wf_i64 hy)).mono ?_
              rintro e w5 ⟨rfl, G1, hg1⟩
              have hc2 : w5.cell? ⟨wr.heap.size, 2, none⟩ = some (.int .i64 1) := hg1.cell (by simp) (by simp; omega)
              go_wp2_with fail
              refine (takenT ((H2.below ((Below.refl _ _).alloc (Nat.le_refl _) _)).grown hg1 (by simp; omega) (by simp; omega)) f a true (by omega) (WalkArith.wf_i64 hx) (WalkArith.wf_i64 hy)).mono ?_
              rintro e w6 ⟨rfl, G2, hg2⟩
              obtain ⟨ht, hT'⟩ := taken_same KT.out true
              have KT' := Lib.hid hT'
              clear hT'
              go_wp2_with fail
              have b5 := (K.out.alloc K.out.size _).grown hg1 (K.out.alloc K.out.size _).size (by intro k hk; cases hk; omega)
              have b6 := b5.grown hg2 b5.size (by intro k hk; cases hk; omega)
              go_roundw
              case rel => exact ⟨i + 1, _, _, by go_num, by omega, G1.grown hg2 (by simp; omega) (by simp; omega), G2, KT'.out, b6⟩
              case measure => simp [intOf]; omega
            · have hyb : (y == a) = false := by simp; omega
              go_wp2_with fail
              refine (takenT (H1.below ((Below.refl _ _).alloc (Nat.le_refl _) _)) f y true (by omega) (WalkArith.wf_i64 hx) (WalkArith.wf_i64 hy)).mono ?_
              rintro e w5 ⟨rfl, G1, hg1⟩
              have KT' : Hid (takenN T1 f y true f a = T2 f a) := Lib.hid ((taken_other true (by omega)).trans KT.out)
              go_wp2_with fail
              have b5 := (K.out.alloc K.out.size _).grown hg1 (K.out.alloc K.out.size _).size (by intro k hk; cases hk; omega)
              go_roundw
              case rel => exact ⟨i + 1, _, T2, by go_num, by omega, G1, ((H2.below ((Below.refl _ _).alloc (Nat.le_refl _) _)).grown hg1 (by simp; omega) (by simp; omega)).mono (by omega), KT'.out, b5⟩
              case measure => simp [intOf]; omega
          · have hxb : (x == f) = false := by simp; omega
            go_wp2_with fail
            refine (takenT (H1.below ((Below.refl _ _).alloc (Nat.le_refl _) _)) x y true (by omega) (WalkArith.wf_i64 hx) (WalkArith.wf_i64 hy)).mono ?_
            rintro e w5 ⟨rfl, G1, hg1⟩
            have KT' : Hid (takenN T1 x y true f a = T2 f a) := Lib.hid ((taken_other true (by omega)).trans KT.out)
            go_wp2_with fail
            have b5 := (K.out.alloc K.out.size _).grown hg1 (K.out.alloc K.out.size _).size (by intro k hk; cases hk; omega)
            go_roundw
            case rel => exact ⟨i + 1, _, T2, by go_num, by omega, G1, ((H2.below ((Below.refl _ _).alloc (Nat.le_refl _) _)).grown hg1 (by simp; omega) (by simp; omega)).mono (by omega), KT'.out, b5⟩
            case measure => simp [intOf]; omega
        · have hzc : (z == 1) = false := by simp [hz1]
          by_cases hxf : f = x
          · subst hxf
            by_cases hya : a = y
            · subst hya
              go_wp2_with fail
              refine (takenT (H1.below ((Below.refl _ _).alloc (Nat.le_refl _) _)) f a false (by omega) (WalkArith.wf_i64 hx) (WalkArith.wf_i64 hy)).mono ?_
              rintro e w5 ⟨rfl, G1, hg1⟩
              have hc2 : w5.cell? ⟨wr.heap.size, 2, none⟩ = some (.int .i64 z) := hg1.cell (by simp) (by simp; omega)
              go_wp2_with fail
              refine (takenT ((H2.below ((Below.refl _ _).alloc (Nat.le_refl _) _)).grown hg1 (by simp; omega) (by simp; omega)) f a false (by omega) (WalkArith.wf_i64 hx) (WalkArith.wf_i64 hy)).mono ?_
              rintro e w6 ⟨rfl, G2, hg2⟩
              obtain ⟨ht, hT'⟩ := taken_same KT.out false
              have KT' := Lib.hid hT'
              clear hT'
              go_wp2_with fail
              have b5 := (K.out.alloc K.out.size _).grown hg1 (K.out.alloc K.out.size _).size (by intro k hk; cases hk; omega)
              have b6 := b5.grown hg2 b5.size (by intro k hk; cases hk; omega)
              go_roundw
              case rel => exact ⟨i + 1, _, _, by go_num, by omega, G1.grown hg2 (by simp; omega) (by simp; omega), G2, KT'.out, b6⟩
              case measure => simp [intOf]; omega
            · have hyb : (y == a) = false := by simp; omega
              go_wp2_with fail
              refine (takenT (H1.below ((Below.refl _ _).alloc (Nat.le_refl _) _)) f y false (by omega) (WalkArith.wf_i64 hx) (WalkArith.wf_i64 hy)).mono ?_
              rintro e w5 ⟨rfl, G1, hg1⟩
              have KT' : Hid (takenN T1 f y false f a = T2 f a) := Lib.hid ((taken_other false (by omega)).trans KT.out)
              go_wp2_with fail
              have b5 := (K.out.alloc K.out.size _).grown hg1 (K.out.alloc K.out.size _).size (by intro k hk; cases hk; omega)
              go_roundw
              case rel => exact ⟨i + 1, _, T2, by go_num, by omega, G1, ((H2.below ((Below.refl _ _).alloc (Nat.le_refl _) _)).grown hg1 (by simp; omega) (by simp; omega)).mono (by omega), KT'.out, b5⟩
              case measure => simp [intOf]; omega
          · have hxb : (x == f) = false := by simp; omega
            go_wp2_with fail
            refine (takenT (H1.below ((Below.refl _ _).alloc (Nat.le_refl _) _)) x y false (by omega) (WalkArith.wf_i64 hx) (WalkArith.wf_i64 hy)).mono ?_
            rintro e w5 ⟨rfl, G1, hg1⟩
            have KT' : Hid (takenN T1 x y false f a = T2 f a) := Lib.hid ((taken_other false (by omega)).trans KT.out)
            go_wp2_with fail
            have b5 := (K.out.alloc K.out.size _).grown hg1 (K.out.alloc K.out.size _).size (by intro k hk; cases hk; omega)
            go_roundw
            case rel => exact ⟨i + 1, _, T2, by go_num, by omega, G1, ((H2.below ((Below.refl _ _).alloc (Nat.le_refl _) _)).grown hg1 (by simp; omega) (by simp; omega)).mono (by omega), KT'.out, b5⟩
            case measure => simp [intOf]; omega
    · go_wp2_with fail
      refine (heated_any _).mono ?_
      rintro e w7 ⟨rfl, h7⟩
      go_wp2_with fail
      go_ret
      exact ⟨rfl, hBw.trans (h7.mono hBw.size)⟩

set_option maxRecDepth 100000 in
set_option maxHeartbeats 8000000 in
theorem apart_many (a0 : Int) (b0 : -9223372036854775808 ≤ a0) (b1 : a0 ≤ 9223372036854775807) (w : World) (A : Option Addr) (n c : Nat) (xs : List (Int × Int × Int)) (hC : rd3.CB w.heap.size w A n xs) (hnc : n ≤ c) (hcm : c ≤ 9223372036854775807) (hn90 : 90 < n) :
    Calls Try.prog 4 #[.int .i64 a0, .slice A n c] w fun e w' => e = .returned (.bool true) ∧ Below w.heap.size w w' := by
  have hC' := Lib.hid hC; clear hC
  have hn0 : 0 < n := by omega
  go_enter Try.func4, Try.ntmps4
  go_wp2_with fail
  refine (rest_any a0 20 _ (by omega) (by omega) b0 b1).mono ?_
  rintro e w1 ⟨rfl, rfl⟩
  obtain ⟨r0, r1⟩ := restF_bd a0 20 (by omega)
  generalize restF a0 20 = h0 at r0 r1 ⊢
  go_wp2_with fail
  refine (newT (h0 + 1) _ (by omega) (by omega)).mono ?_
  rintro e w1 ⟨hb, mb, rfl, h1, hB, c1, c2⟩
  go_wp2_with fail
  refine (newT (h0 + 1) _ (by omega) (by omega)).mono ?_
  rintro e w2 ⟨gb, mg, rfl, g1, hB2, d1, d2⟩
  obtain ⟨hl1, hl2⟩ := h1.lt
  go_wp2_with fail
  have hCw := (hC'.out.below hB).below (hB2.mono hB.size)
  obtain ⟨⟨f, a, k⟩, hx0⟩ : ∃ x, xs[0]? = some x := ⟨_, List.getElem?_eq_getElem (by rw [hC'.out.1]; exact hn0)⟩
  obtain ⟨ad, cs, rfl, had, _, ⟨_, _, rfl, ⟨rfl, hf⟩, _, _, rfl, ⟨rfl, ha⟩, ⟨rfl, hk⟩⟩, hcell⟩ := hCw.at_ 0 _ hx0
  have e0 : w2.cell? ad = some (.int .i64 f) := by have := hcell 0 _ rfl; simpa [Addr.add] using this
  have e1 : w2.cell? ⟨ad.block, ad.off + 1, none⟩ = some (.int .i64 a) := by have := hcell 1 _ rfl; simpa [Addr.add] using this
  clear hcell hCw hx0
  go_quiet (fail)
  go_wp2_with fail
  have hqB : Below w.heap.size w (w2.drewN nq) := pw_below_drewN (hB.trans (hB2.mono hB.size)) nq
  have hq1 := (h1.below hB2).drewN nq
  have hq2 := g1.drewN nq
  go_loopw [64] (fun I wr => ∃ (i : Nat) (T1 T2 : Int → Int → Option Hd), I = .int .i64 (i : Int) ∧ i ≤ 90 ∧ HeatT wr hb (h0 + 1) mb i T1 ∧ HeatT wr gb (h0 + 1) mg i T2 ∧ T1 f a = T2 f a ∧ Below w.heap.size w wr) (fun i _ => 90 - (intOf i).toNat)
  case atStart => exact ⟨0, fun _ _ => none, fun _ _ => none, rfl, by omega, hq1, hq2, rfl, hqB⟩
  case round =>
    obtain ⟨i, T1, T2, rfl, hi, H1, H2, hT, hBw⟩ := hrel
    obtain ⟨hl3, hl4⟩ := H1.lt
    by_cases hlt : i < 90
    · obtain ⟨⟨x, y, z⟩, hxi⟩ : ∃ x, xs[i]? = some x := ⟨_, List.getElem?_eq_getElem (by rw [hC'.out.1]; omega)⟩
      obtain ⟨ad', cs, hade, _, _, ⟨_, _, rfl, ⟨rfl, hx⟩, _, _, rfl, ⟨rfl, hy⟩, ⟨rfl, hz⟩⟩, hcl0, hcl1⟩ := (hC'.out.below hBw).elem i _ hxi
      obtain rfl : ad = ad' := by injection hade
      have f0 : wr.cell? (ad.add (i * 3)) = some (.int .i64 x) := hcl0 _ rfl
      have f1 : wr.cell? ⟨(ad.add (i * 3)).block, (ad.add (i * 3)).off + 1, none⟩ = some (.int .i64 y) := hcl1 0 _ rfl
      have f2 : wr.cell? ⟨(ad.add (i * 3)).block, (ad.add (i * 3)).off + 2, none⟩ = some (.int .i64 z) := hcl1 1 _ rfl
      clear hcl0 hcl1 hxi
      have K := Lib.hid hBw
      have hii : i < 90 := by omega
      clear hBw
      have KT := Lib.hid hT
      clear hT
      by_cases hz0 : z = 0
      · subst hz0
        by_cases hxf : f = x
        · subst hxf
          by_cases hya : a = y
          · subst hya
            go_wp2_with fail
            refine (turnT (H1.below ((Below.refl _ _).alloc (Nat.le_refl _) _)) f a (by omega)).mono ?_
            rintro e w5 ⟨told, er, T1', rfl, G1, hg1, ht1, hne1⟩
            go_wp2_with fail
            refine (turnT ((H2.below ((Below.refl _ _).alloc (Nat.le_refl _) _)).grown hg1 (by simp; omega) (by simp; omega)) f a (by omega)).mono ?_
            rintro e w6 ⟨told2, er2, T2', rfl, G2, hg2, ht2, hne2⟩
            obtain ⟨ht, hT'⟩ := ht1.same ht2 KT.out (hne1 (by omega)) (hne2 (by omega))
            obtain rfl := ht
            have KT' := Lib.hid hT'
            clear hT' ht1 ht2
            go_wp2_with fail
            have b5 := (K.out.alloc K.out.size _).grown hg1 (K.out.alloc K.out.size _).size (by intro k hk; cases hk; omega)
            have b6 := b5.grown hg2 b5.size (by intro k hk; cases hk; omega)
            go_roundw
            case rel => exact ⟨i + 1, T1', T2', by go_num, by omega, G1.grown hg2 (by simp; omega) (by simp; omega), G2, KT'.out, b6⟩
            case measure => simp [intOf]; omega
          · have hyb : (y == a) = false := by simp; omega
            go_wp2_with fail
            refine (turnT (H1.below ((Below.refl _ _).alloc (Nat.le_refl _) _)) f y (by omega)).mono ?_
            rintro e w5 ⟨told, er, T1', rfl, G1, hg1, ht1, hne1⟩
            have hT' := (ht1.other (g := f) (b := a) (by omega)).trans KT.out
            have KT' := Lib.hid hT'
            clear hT' ht1
            go_wp2_with fail
            have b5 := (K.out.alloc K.out.size _).grown hg1 (K.out.alloc K.out.size _).size (by intro k hk; cases hk; omega)
            go_roundw
            case rel => exact ⟨i + 1, T1', T2, by go_num, by omega, G1, ((H2.below ((Below.refl _ _).alloc (Nat.le_refl _) _)).grown hg1 (by simp; omega) (by simp; omega)).mono (by omega), KT'.out, b5⟩
            case measure => simp [intOf]; omega
        · have hxb : (x == f) = false := by simp; omega
          go_wp2_with fail
          refine (turnT (H1.below ((Below.refl _ _).alloc (Nat.le_refl _) _)) x y (by omega)).mono ?_
          rintro e w5 ⟨told, er, T1', rfl, G1, hg1, ht1, hne1⟩
          have hT' := (ht1.other (g := f) (b := a) (by omega)).trans KT.out
          have KT' := Lib.hid hT'
          clear hT' ht1
          go_wp2_with fail
          have b5 := (K.out.alloc K.out.size _).grown hg1 (K.out.alloc K.out.size _).size (by intro k hk; cases hk; omega)
          go_roundw
          case rel => exact ⟨i + 1, T1', T2, by go_num, by omega, G1, ((H2.below ((Below.refl _ _).alloc (Nat.le_refl _) _)).grown hg1 (by simp; omega) (by simp; omega)).mono (by omega), KT'.out, b5⟩
          case measure => simp [intOf]; omega
      · have hzb : (z == 0) = false := by simp [hz0]
        by_cases hz1 : z = 1
        · subst hz1
          by_cases hxf : f = x
          · subst hxf
            by_cases hya : a = y
            · subst hya
              go_wp2_with fail
              refine (takenT (H1.below ((Below.refl _ _).alloc (Nat.le_refl _) _)) f a true (by omega) (WalkArith.wf_i64 hx) (WalkArith.wf_i64 hy)).mono ?_
              rintro e w5 ⟨rfl, G1, hg1⟩
              have hc2 : w5.cell? ⟨wr.heap.size, 2, none⟩ = some (.int .i64 1) := hg1.cell (by simp) (by simp; omega)
              go_wp2_with fail
              refine (takenT ((H2.below ((Below.refl _ _).alloc (Nat.le_refl _) _)).grown hg1 (by simp; omega) (by simp; omega)) f a true (by omega) (WalkArith.wf_i64 hx) (WalkArith.wf_i64 hy)).mono ?_
              rintro e w6 ⟨rfl, G2, hg2⟩
              obtain ⟨ht, hT'⟩ := taken_same KT.out true
              have KT' := Lib.hid hT'
              clear hT'
              go_wp2_with fail
              have b5 := (K.out.alloc K.out.size _).grown hg1 (K.out.alloc K.out.size _).size (by intro k hk; cases hk; omega)
              have b6 := b5.grown hg2 b5.size (by intro k hk; cases hk; omega)
              go_roundw
              case rel => exact ⟨i + 1, _, _, by go_num, by omega, G1.grown hg2 (by simp; omega) (by simp; omega), G2, KT'.out, b6⟩
              case measure => simp [intOf]; omega
            · have hyb : (y == a) = false := by simp; omega
              go_wp2_with fail
              refine (takenT (H1.below ((Below.refl _ _).alloc (Nat.le_refl _) _)) f y true (by omega) (WalkArith.wf_i64 hx) (WalkArith.wf_i64 hy)).mono ?_
              rintro e w5 ⟨rfl, G1, hg1⟩
              have KT' : Hid (takenN T1 f y true f a = T2 f a) := Lib.hid ((taken_other true (by omega)).trans KT.out)
              go_wp2_with fail
              have b5 := (K.out.alloc K.out.size _).grown hg1 (K.out.alloc K.out.size _).size (by intro k hk; cases hk; omega)
              go_roundw
              case rel => exact ⟨i + 1, _, T2, by go_num, by omega, G1, ((H2.below ((Below.refl _ _).alloc (Nat.le_refl _) _)).grown hg1 (by simp; omega) (by simp; omega)).mono (by omega), KT'.out, b5⟩
              case measure => simp [intOf]; omega
          · have hxb : (x == f) = false := by simp; omega
            go_wp2_with fail
            refine (takenT (H1.below ((Below.refl _ _).alloc (Nat.le_refl _) _)) x y true (by omega) (WalkArith.wf_i64 hx) (WalkArith.wf_i64 hy)).mono ?_
            rintro e w5 ⟨rfl, G1, hg1⟩
            have KT' : Hid (takenN T1 x y true f a = T2 f a) := Lib.hid ((taken_other true (by omega)).trans KT.out)
            go_wp2_with fail
            have b5 := (K.out.alloc K.out.size _).grown hg1 (K.out.alloc K.out.size _).size (by intro k hk; cases hk; omega)
            go_roundw
            case rel => exact ⟨i + 1, _, T2, by go_num, by omega, G1, ((H2.below ((Below.refl _ _).alloc (Nat.le_refl _) _)).grown hg1 (by simp; omega) (by simp; omega)).mono (by omega), KT'.out, b5⟩
            case measure => simp [intOf]; omega
        · have hzc : (z == 1) = false := by simp [hz1]
          by_cases hxf : f = x
          · subst hxf
            by_cases hya : a = y
            · subst hya
              go_wp2_with fail
              refine (takenT (H1.below ((Below.refl _ _).alloc (Nat.le_refl _) _)) f a false (by omega) (WalkArith.wf_i64 hx) (WalkArith.wf_i64 hy)).mono ?_
              rintro e w5 ⟨rfl, G1, hg1⟩
              have hc2 : w5.cell? ⟨wr.heap.size, 2, none⟩ = some (.int .i64 z) := hg1.cell (by simp) (by simp; omega)
              go_wp2_with fail
              refine (takenT ((H2.below ((Below.refl _ _).alloc (Nat.le_refl _) _)).grown hg1 (by simp; omega) (by simp; omega)) f a false (by omega) (WalkArith.wf_i64 hx) (WalkArith.wf_i64 hy)).mono ?_
              rintro e w6 ⟨rfl, G2, hg2⟩
              obtain ⟨ht, hT'⟩ := taken_same KT.out false
              have KT' := Lib.hid hT'
              clear hT'
              go_wp2_with fail
              have b5 := (K.out.alloc K.out.size _).grown hg1 (K.out.alloc K.out.size _).size (by intro k hk; cases hk; omega)
              have b6 := b5.grown hg2 b5.size (by intro k hk; cases hk; omega)
              go_roundw
              case rel => exact ⟨i + 1, _, _, by go_num, by omega, G1.grown hg2 (by simp; omega) (by simp; omega), G2, KT'.out, b6⟩
              case measure => simp [intOf]; omega
            · have hyb : (y == a) = false := by simp; omega
              go_wp2_with fail
              refine (takenT (H1.below ((Below.refl _ _).alloc (Nat.le_refl _) _)) f y false (by omega) (WalkArith.wf_i64 hx) (WalkArith.wf_i64 hy)).mono ?_
              rintro e w5 ⟨rfl, G1, hg1⟩
              have KT' : Hid (takenN T1 f y false f a = T2 f a) := Lib.hid ((taken_other false (by omega)).trans KT.out)
              go_wp2_with fail
              have b5 := (K.out.alloc K.out.size _).grown hg1 (K.out.alloc K.out.size _).size (by intro k hk; cases hk; omega)
              go_roundw
              case rel => exact ⟨i + 1, _, T2, by go_num, by omega, G1, ((H2.below ((Below.refl _ _).alloc (Nat.le_refl _) _)).grown hg1 (by simp; omega) (by simp; omega)).mono (by omega), KT'.out, b5⟩
              case measure => simp [intOf]; omega
          · have hxb : (x == f) = false := by simp; omega
            go_wp2_with fail
            refine (takenT (H1.below ((Below.refl _ _).alloc (Nat.le_refl _) _)) x y false (by omega) (WalkArith.wf_i64 hx) (WalkArith.wf_i64 hy)).mono ?_
            rintro e w5 ⟨rfl, G1, hg1⟩
            have KT' : Hid (takenN T1 x y false f a = T2 f a) := Lib.hid ((taken_other false (by omega)).trans KT.out)
            go_wp2_with fail
            have b5 := (K.out.alloc K.out.size _).grown hg1 (K.out.alloc K.out.size _).size (by intro k hk; cases hk; omega)
            go_roundw
            case rel => exact ⟨i + 1, _, T2, by go_num, by omega, G1, ((H2.below ((Below.refl _ _).alloc (Nat.le_refl _) _)).grown hg1 (by simp; omega) (by simp; omega)).mono (by omega), KT'.out, b5⟩
            case measure => simp [intOf]; omega
    · go_wp2_with fail
      refine (heated_any _).mono ?_
      rintro e w7 ⟨rfl, h7⟩
      go_wp2_with fail
      go_ret
      exact ⟨rfl, hBw.trans (h7.mono hBw.size)⟩

theorem apart_none (a0 : Int) (b0 : -9223372036854775808 ≤ a0) (b1 : a0 ≤ 9223372036854775807) (w : World) (A : Option Addr) (c : Nat) (hcm : c ≤ 9223372036854775807) :
    Calls Try.prog 4 #[.int .i64 a0, .slice A 0 c] w fun e w' => e = .returned (.bool true) ∧ Below w.heap.size w w' := by
  go_enter Try.func4, Try.ntmps4
  go_wp2_with fail
  refine (rest_any a0 20 _ (by omega) (by omega) b0 b1).mono ?_
  rintro e w1 ⟨rfl, rfl⟩
  obtain ⟨r0, r1⟩ := restF_bd a0 20 (by omega)
  generalize restF a0 20 = h0 at r0 r1 ⊢
  go_wp2_with fail
  refine (newT (h0 + 1) _ (by omega) (by omega)).mono ?_
  rintro e w1 ⟨hb, mb, rfl, h1, hB, c1, c2⟩
  go_wp2_with fail
  refine (newT (h0 + 1) _ (by omega) (by omega)).mono ?_
  rintro e w2 ⟨gb, mg, rfl, g1, hB2, d1, d2⟩
  obtain ⟨hl1, hl2⟩ := h1.lt
  go_wp2_with fail
  refine wp_loop_rounds 1 ?_
  rw [rounds_succ]
  go_wp2_with fail
  refine (heated_any _).mono ?_
  rintro e w7 ⟨rfl, h7⟩
  go_wp2_with fail
  go_ret
  exact ⟨rfl, (hB.trans (hB2.mono hB.size)).trans (h7.mono (hB.trans (hB2.mono hB.size)).size)⟩
theorem apart_any (a0 : Int) (b0 : -9223372036854775808 ≤ a0) (b1 : a0 ≤ 9223372036854775807) (w : World) (A : Option Addr) (n c : Nat) (xs : List (Int × Int × Int)) (hC : rd3.CB w.heap.size w A n xs) (hnc : n ≤ c) (hcm : c ≤ 9223372036854775807) :
    Calls Try.prog 4 #[.int .i64 a0, .slice A n c] w fun e w' => e = .returned (.bool true) ∧ Below w.heap.size w w' := by
  by_cases h1 : n = 0
  · subst h1; exact apart_none a0 b0 b1 w A c hcm
  · by_cases h2 : n ≤ 90
    · exact apart_some a0 b0 b1 w A n c xs hC hnc hcm (by omega) h2
    · exact apart_many a0 b0 b1 w A n c xs hC hnc hcm (by omega)
end Go.Proofs.Ytefkifdhjabdiaa
