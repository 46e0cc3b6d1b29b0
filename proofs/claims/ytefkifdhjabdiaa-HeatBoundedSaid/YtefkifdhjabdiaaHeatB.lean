import Derived.Test.YtefkifdhjabdiaaHeat3
namespace Go.Proofs.Ytefkifdhjabdiaa
set_option linter.unusedVariables false
set_option linter.unusedSimpArgs false
open Go.RowKit Go.Maps

/-- The state behind i turns: how often it was asked, when next; the head. -/
def BRel (hot : Int) (m : Value → Option Value) (n i : Nat) (asked next : Int) : Prop :=
  ∃ c l s : Int, HeadOf m hot 1 2 c l asked s ∧ (m (place 1 2) = none → i = 0) ∧ n ≤ 3 * i ∧ 0 ≤ c ∧ c ≤ i ∧
    ((asked = 0 ∧ l = hot ∧ s = 0 ∧ c < l ∧ next = i + (l - c)) ∨ (asked = 1 ∧ l = 2 * hot ∧ s = 0 ∧ c < l ∧ next = i + (l - c)) ∨ (asked = 2 ∧ l = 2 * (2 * hot) ∧ s = 0 ∧ c < l ∧ next = i + (l - c)) ∨ (asked = 3 ∧ l = 2 * (2 * (2 * hot)) ∧ s = 3))

set_option maxHeartbeats 4000000 in
theorem bounded_any (a0 a1 : Int) (b0 : -9223372036854775808 ≤ a0) (b1 : a0 ≤ 9223372036854775807) (b2 : -9223372036854775808 ≤ a1) (b3 : a1 ≤ 9223372036854775807) (w : World) :
    Calls Try.prog 3 #[.int .i64 a0, .int .i64 a1] w fun e w' => e = .returned (.bool true) ∧ Below w.heap.size w w' := by
  go_enter Try.func3, Try.ntmps3
  go_wp2_with fail
  refine (rest_any a0 50 _ (by omega) (by omega) b0 b1).mono ?_
  rintro e w1 ⟨rfl, rfl⟩
  obtain ⟨r0, r1⟩ := restF_bd a0 50 (by omega)
  generalize restF a0 50 = h0 at r0 r1 ⊢
  go_wp2_with fail
  refine (rest_any a1 1000 _ (by omega) (by omega) b2 b3).mono ?_
  rintro e w1 ⟨rfl, rfl⟩
  obtain ⟨r2, r3⟩ := restF_bd a1 1000 (by omega)
  generalize restF a1 1000 = turns at r2 r3 ⊢
  go_wp2_with fail
  refine (new_any (h0 + 1) _ (by omega) (by omega)).mono ?_
  rintro e w1 ⟨hb, mb, rfl, h1, hB, c1, c2⟩
  go_wp2_with fail
  go_loopw [7, 8, 9] (fun A N I wr => ∃ (i n : Nat) (asked next : Int) (m : Value → Option Value), I = .int .i64 (i + 1 : Int) ∧ A = .int .i64 asked ∧ N = .int .i64 next ∧ (i : Int) ≤ turns ∧ HeatAt wr hb (h0 + 1) mb n m ∧ BRel (h0 + 1) m n i asked next ∧ Below w.heap.size w wr) (fun _ _ i _ => (turns + 1 - intOf i).toNat)
  case atStart => exact ⟨0, 0, 0, h0 + 1, fun _ => none, rfl, rfl, rfl, r2, h1, ⟨0, h0 + 1, 0, .inr ⟨rfl, rfl, rfl, rfl, rfl⟩, fun _ => rfl, by omega, by omega, by omega, .inl ⟨rfl, rfl, rfl, by omega, by simp⟩⟩, hB⟩
  case round =>
    obtain ⟨i, n, asked, next, m, rfl, rfl, rfl, hi, hH, hR, hBw⟩ := hrel
    by_cases hlt : (i : Int) + 1 ≤ turns
    · obtain ⟨c, l, s, hd, hz, hn, hc0, hci, hcase⟩ := hR
      have hBB := Lib.hid hBw; clear hBw
      have hnn : n < 100000 := by omega
      have hzz : m (place 1 2) = none → n < 100 := fun h => by have := hz h; omega
      rcases hcase with ⟨rfl, hl, rfl, hcl, hnx⟩ | ⟨rfl, hl, rfl, hcl, hnx⟩ | ⟨rfl, hl, rfl, hcl, hnx⟩ | ⟨rfl, hl, rfl⟩
      · have hlb : 0 ≤ l ∧ l ≤ 4000 := by omega
        have HL := Lib.hid hl; clear hl
        have HN := Lib.hid hnx; clear hnx
        by_cases hcc : c + 1 ≥ l
        · have htell : tellN c l 0 = 1 := by simp [tellN, hcc]
          have hnb : ((i : Int) + 1 == next) = true := by have := HN.out; simp; omega
          go_wp2_with fail
          refine (turn_any hH 1 2 c l 0 0 hd hnn hzz (by omega) (by omega) (by omega) (by omega) hc0 (by omega) (.inl rfl) (by omega) (by omega)).mono ?_
          rintro e w2 ⟨rfl, h2, hg2⟩
          have hk2 : updF m (place 1 2) (headV 1 2 (countN c 0) l 0 (isN c l 0)) (place 1 2) = some (headV 1 2 (c + 1) l 0 1) := by rw [updF_same]; simp [countN, isN, hcc]
          generalize updF m (place 1 2) (headV 1 2 (countN c 0) l 0 (isN c l 0)) = m2 at h2 hk2
          have Hk2 := Lib.hid hk2; clear hk2
          go_wp2_with fail
          refine (taken_bad h2 1 2 (c + 1) l 0 (by omega) (by decide) (by decide) Hk2.out (by omega) (by omega) (by omega) (by omega)).mono ?_
          rintro e w3 ⟨rfl, h3, hg3⟩
          have hk3 : updF m2 (place 1 2) (headV 1 2 0 (2 * l) (0 + 1) (if (0 : Int) + 1 ≥ 3 then 3 else 0)) (place 1 2) = some (headV 1 2 0 (2 * l) 1 0) := by rw [updF_same]; simp
          generalize updF m2 (place 1 2) (headV 1 2 0 (2 * l) (0 + 1) (if (0 : Int) + 1 ≥ 3 then 3 else 0)) = m3 at h3 hk3
          have Hk3 := Lib.hid hk3; clear hk3
          go_wp2_with fail
          refine (taken_state h3 1 2 0 (2 * l) 1 0 false (by decide) (by decide) Hk3.out (by omega)).mono ?_
          rintro e w4 ⟨rfl, h4⟩
          go_wp2_with fail
          have e2 := hBB.out.grown hg2 hBB.out.size (by intro k hk; cases hk; exact c2)
          have e3 := e2.grown hg3 e2.size (by intro k hk; cases hk; exact c2)
          go_roundw
          case rel => exact ⟨i + 1, n + 1 + 1, 1, _, m3, by go_num, rfl, rfl, by omega, h3.same h4 h3.lt.1 h3.lt.2, ⟨0, 2 * l, 0, .inl Hk3.out, (fun h => absurd (Hk3.out.symm.trans h) (by simp)), by omega, by omega, by omega, .inr (.inl ⟨rfl, by rw [HL.out], rfl, by omega, by have := HN.out; have := HL.out; omega⟩)⟩, e3.trans (h4.mono e3.size)⟩
          case measure => simp [intOf]; omega
        · have htell : tellN c l 0 = 0 := by simp [tellN]; omega
          have hnb : ((i : Int) + 1 == next) = false := by have := HN.out; simp; omega
          go_wp2_with fail
          refine (turn_any hH 1 2 c l 0 0 hd hnn hzz (by omega) (by omega) (by omega) (by omega) hc0 (by omega) (.inl rfl) (by omega) (by omega)).mono ?_
          rintro e w2 ⟨rfl, h2, hg2⟩
          have hk2 : updF m (place 1 2) (headV 1 2 (countN c 0) l 0 (isN c l 0)) (place 1 2) = some (headV 1 2 (c + 1) l 0 0) := by rw [updF_same]; simp [countN, isN, show ¬ (l ≤ c + 1) by omega]
          generalize updF m (place 1 2) (headV 1 2 (countN c 0) l 0 (isN c l 0)) = m2 at h2 hk2
          have Hk2 := Lib.hid hk2; clear hk2
          go_wp2_with fail
          have e2 := hBB.out.grown hg2 hBB.out.size (by intro k hk; cases hk; exact c2)
          go_roundw
          case rel => exact ⟨i + 1, n + 1, 0, next, m2, by go_num, rfl, rfl, by omega, h2, ⟨c + 1, l, 0, .inl Hk2.out, (fun h => absurd (Hk2.out.symm.trans h) (by simp)), by omega, by omega, by omega, .inl ⟨rfl, HL.out, rfl, by omega, by have := HN.out; omega⟩⟩, e2⟩
          case measure => simp [intOf]; omega
      · have hlb : 0 ≤ l ∧ l ≤ 4000 := by omega
        have HL := Lib.hid hl; clear hl
        have HN := Lib.hid hnx; clear hnx
        by_cases hcc : c + 1 ≥ l
        · have htell : tellN c l 0 = 1 := by simp [tellN, hcc]
          have hnb : ((i : Int) + 1 == next) = true := by have := HN.out; simp; omega
          go_wp2_with fail
          refine (turn_any hH 1 2 c l 1 0 hd hnn hzz (by omega) (by omega) (by omega) (by omega) hc0 (by omega) (.inl rfl) (by omega) (by omega)).mono ?_
          rintro e w2 ⟨rfl, h2, hg2⟩
          have hk2 : updF m (place 1 2) (headV 1 2 (countN c 0) l 1 (isN c l 0)) (place 1 2) = some (headV 1 2 (c + 1) l 1 1) := by rw [updF_same]; simp [countN, isN, hcc]
          generalize updF m (place 1 2) (headV 1 2 (countN c 0) l 1 (isN c l 0)) = m2 at h2 hk2
          have Hk2 := Lib.hid hk2; clear hk2
          go_wp2_with fail
          refine (taken_bad h2 1 2 (c + 1) l 1 (by omega) (by decide) (by decide) Hk2.out (by omega) (by omega) (by omega) (by omega)).mono ?_
          rintro e w3 ⟨rfl, h3, hg3⟩
          have hk3 : updF m2 (place 1 2) (headV 1 2 0 (2 * l) (1 + 1) (if (1 : Int) + 1 ≥ 3 then 3 else 0)) (place 1 2) = some (headV 1 2 0 (2 * l) 2 0) := by rw [updF_same]; simp
          generalize updF m2 (place 1 2) (headV 1 2 0 (2 * l) (1 + 1) (if (1 : Int) + 1 ≥ 3 then 3 else 0)) = m3 at h3 hk3
          have Hk3 := Lib.hid hk3; clear hk3
          go_wp2_with fail
          refine (taken_state h3 1 2 0 (2 * l) 2 0 false (by decide) (by decide) Hk3.out (by omega)).mono ?_
          rintro e w4 ⟨rfl, h4⟩
          go_wp2_with fail
          have e2 := hBB.out.grown hg2 hBB.out.size (by intro k hk; cases hk; exact c2)
          have e3 := e2.grown hg3 e2.size (by intro k hk; cases hk; exact c2)
          go_roundw
          case rel => exact ⟨i + 1, n + 1 + 1, 2, _, m3, by go_num, rfl, rfl, by omega, h3.same h4 h3.lt.1 h3.lt.2, ⟨0, 2 * l, 0, .inl Hk3.out, (fun h => absurd (Hk3.out.symm.trans h) (by simp)), by omega, by omega, by omega, .inr (.inr (.inl ⟨rfl, by rw [HL.out], rfl, by omega, by have := HN.out; have := HL.out; omega⟩))⟩, e3.trans (h4.mono e3.size)⟩
          case measure => simp [intOf]; omega
        · have htell : tellN c l 0 = 0 := by simp [tellN]; omega
          have hnb : ((i : Int) + 1 == next) = false := by have := HN.out; simp; omega
          go_wp2_with fail
          refine (turn_any hH 1 2 c l 1 0 hd hnn hzz (by omega) (by omega) (by omega) (by omega) hc0 (by omega) (.inl rfl) (by omega) (by omega)).mono ?_
          rintro e w2 ⟨rfl, h2, hg2⟩
          have hk2 : updF m (place 1 2) (headV 1 2 (countN c 0) l 1 (isN c l 0)) (place 1 2) = some (headV 1 2 (c + 1) l 1 0) := by rw [updF_same]; simp [countN, isN, show ¬ (l ≤ c + 1) by omega]
          generalize updF m (place 1 2) (headV 1 2 (countN c 0) l 1 (isN c l 0)) = m2 at h2 hk2
          have Hk2 := Lib.hid hk2; clear hk2
          go_wp2_with fail
          have e2 := hBB.out.grown hg2 hBB.out.size (by intro k hk; cases hk; exact c2)
          go_roundw
          case rel => exact ⟨i + 1, n + 1, 1, next, m2, by go_num, rfl, rfl, by omega, h2, ⟨c + 1, l, 0, .inl Hk2.out, (fun h => absurd (Hk2.out.symm.trans h) (by simp)), by omega, by omega, by omega, .inr (.inl ⟨rfl, HL.out, rfl, by omega, by have := HN.out; omega⟩)⟩, e2⟩
          case measure => simp [intOf]; omega
      · have hlb : 0 ≤ l ∧ l ≤ 4000 := by omega
        have HL := Lib.hid hl; clear hl
        have HN := Lib.hid hnx; clear hnx
        by_cases hcc : c + 1 ≥ l
        · have htell : tellN c l 0 = 1 := by simp [tellN, hcc]
          have hnb : ((i : Int) + 1 == next) = true := by have := HN.out; simp; omega
          go_wp2_with fail
          refine (turn_any hH 1 2 c l 2 0 hd hnn hzz (by omega) (by omega) (by omega) (by omega) hc0 (by omega) (.inl rfl) (by omega) (by omega)).mono ?_
          rintro e w2 ⟨rfl, h2, hg2⟩
          have hk2 : updF m (place 1 2) (headV 1 2 (countN c 0) l 2 (isN c l 0)) (place 1 2) = some (headV 1 2 (c + 1) l 2 1) := by rw [updF_same]; simp [countN, isN, hcc]
          generalize updF m (place 1 2) (headV 1 2 (countN c 0) l 2 (isN c l 0)) = m2 at h2 hk2
          have Hk2 := Lib.hid hk2; clear hk2
          go_wp2_with fail
          refine (taken_bad h2 1 2 (c + 1) l 2 (by omega) (by decide) (by decide) Hk2.out (by omega) (by omega) (by omega) (by omega)).mono ?_
          rintro e w3 ⟨rfl, h3, hg3⟩
          have hk3 : updF m2 (place 1 2) (headV 1 2 0 (2 * l) (2 + 1) (if (2 : Int) + 1 ≥ 3 then 3 else 0)) (place 1 2) = some (headV 1 2 0 (2 * l) 3 3) := by rw [updF_same]; simp
          generalize updF m2 (place 1 2) (headV 1 2 0 (2 * l) (2 + 1) (if (2 : Int) + 1 ≥ 3 then 3 else 0)) = m3 at h3 hk3
          have Hk3 := Lib.hid hk3; clear hk3
          go_wp2_with fail
          refine (taken_state h3 1 2 0 (2 * l) 3 3 false (by decide) (by decide) Hk3.out (by omega)).mono ?_
          rintro e w4 ⟨rfl, h4⟩
          go_wp2_with fail
          have e2 := hBB.out.grown hg2 hBB.out.size (by intro k hk; cases hk; exact c2)
          have e3 := e2.grown hg3 e2.size (by intro k hk; cases hk; exact c2)
          go_roundw
          case rel => exact ⟨i + 1, n + 1 + 1, 3, _, m3, by go_num, rfl, rfl, by omega, h3.same h4 h3.lt.1 h3.lt.2, ⟨0, 2 * l, 3, .inl Hk3.out, (fun h => absurd (Hk3.out.symm.trans h) (by simp)), by omega, by omega, by omega, .inr (.inr (.inr ⟨rfl, by rw [HL.out], rfl⟩))⟩, e3.trans (h4.mono e3.size)⟩
          case measure => simp [intOf]; omega
        · have htell : tellN c l 0 = 0 := by simp [tellN]; omega
          have hnb : ((i : Int) + 1 == next) = false := by have := HN.out; simp; omega
          go_wp2_with fail
          refine (turn_any hH 1 2 c l 2 0 hd hnn hzz (by omega) (by omega) (by omega) (by omega) hc0 (by omega) (.inl rfl) (by omega) (by omega)).mono ?_
          rintro e w2 ⟨rfl, h2, hg2⟩
          have hk2 : updF m (place 1 2) (headV 1 2 (countN c 0) l 2 (isN c l 0)) (place 1 2) = some (headV 1 2 (c + 1) l 2 0) := by rw [updF_same]; simp [countN, isN, show ¬ (l ≤ c + 1) by omega]
          generalize updF m (place 1 2) (headV 1 2 (countN c 0) l 2 (isN c l 0)) = m2 at h2 hk2
          have Hk2 := Lib.hid hk2; clear hk2
          go_wp2_with fail
          have e2 := hBB.out.grown hg2 hBB.out.size (by intro k hk; cases hk; exact c2)
          go_roundw
          case rel => exact ⟨i + 1, n + 1, 2, next, m2, by go_num, rfl, rfl, by omega, h2, ⟨c + 1, l, 0, .inl Hk2.out, (fun h => absurd (Hk2.out.symm.trans h) (by simp)), by omega, by omega, by omega, .inr (.inr (.inl ⟨rfl, HL.out, rfl, by omega, by have := HN.out; omega⟩))⟩, e2⟩
          case measure => simp [intOf]; omega
      · have HL := Lib.hid hl; clear hl
        have htell : tellN c l 3 = 3 := by simp [tellN]
        go_wp2_with fail
        refine (turn_any hH 1 2 c l 3 3 hd hnn hzz (by omega) (by omega) (by omega) (by omega) hc0 (by omega) (by omega) (by omega) (by omega)).mono ?_
        rintro e w2 ⟨rfl, h2, hg2⟩
        have hk2 : updF m (place 1 2) (headV 1 2 (countN c 3) l 3 (isN c l 3)) (place 1 2) = some (headV 1 2 c l 3 3) := by rw [updF_same]; simp [countN, isN]
        generalize updF m (place 1 2) (headV 1 2 (countN c 3) l 3 (isN c l 3)) = m2 at h2 hk2
        have Hk2 := Lib.hid hk2; clear hk2
        go_wp2_with fail
        all_goals
          have e2 := hBB.out.grown hg2 hBB.out.size (by intro k hk; cases hk; exact c2)
          go_roundw
          case rel => exact ⟨i + 1, n + 1, 3, next, m2, by go_num, rfl, rfl, by omega, h2, ⟨c, l, 3, .inl Hk2.out, (fun h => absurd (Hk2.out.symm.trans h) (by simp)), by omega, by omega, by omega, .inr (.inr (.inr ⟨rfl, HL.out, rfl⟩))⟩, e2⟩
          case measure => simp [intOf]; omega
    · go_wp2_with fail
      refine (heated_any _).mono ?_
      rintro e w5 ⟨rfl, h5⟩
      go_wp2_with fail
      go_ret
      exact ⟨rfl, hBw.trans (h5.mono hBw.size)⟩
end Go.Proofs.Ytefkifdhjabdiaa
