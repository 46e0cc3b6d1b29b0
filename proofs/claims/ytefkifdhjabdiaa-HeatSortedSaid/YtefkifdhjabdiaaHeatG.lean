/- The walk of HeatSorted, where there is no call. -/
import Derived.Test.YtefkifdhjabdiaaHeatF
namespace Go.Proofs.Ytefkifdhjabdiaa
set_option linter.unusedVariables false
set_option linter.unusedSimpArgs false
open Go.RowKit Go.Maps Go.Lib

set_option maxHeartbeats 2000000 in
theorem sorted_none (a0 : Int) (b0 : -9223372036854775808 ≤ a0) (b1 : a0 ≤ 9223372036854775807) (w : World) (A : Option Addr) (c : Nat) (hcm : c ≤ 9223372036854775807) :
    Calls Try.prog 6 #[.int .i64 a0, .slice A 0 c] w fun e w' => e = .returned (.bool true) ∧ Below w.heap.size w w' := by
  go_enter Try.func6, Try.ntmps6
  go_wp2_with fail
  refine (rest_any a0 20 _ (by omega) (by omega) b0 b1).mono ?_
  rintro e w1 ⟨rfl, rfl⟩
  obtain ⟨r0, r1⟩ := restF_bd a0 20 (by omega)
  generalize restF a0 20 = h0 at r0 r1 ⊢
  go_wp2_with fail
  refine (newT (h0 + 1) _ (by omega) (by omega)).mono ?_
  rintro e w1 ⟨hb, mb, rfl, h1, hB, c1, c2⟩
  go_wp2_with fail
  refine wp_loop_rounds 1 ?_
  rw [rounds_succ]
  go_wp2_with fail
  refine (all_any h1 (by omega)).mono ?_
  rintro e w2 ⟨v, ys, rfl, hO, hB2⟩
  have hy : ys = [] := by
    cases ys with
    | nil => rfl
    | cons y r => exact absurd (hO.tab y (List.mem_cons_self ..)) (by simp)
  subst hy
  have hBW := hB.trans (hB2.mono hB.size)
  rcases hO.row with ⟨rfl, _⟩ | ⟨g, cap, rfl, _, _⟩
  · go_wp2_with fail
    refine wp_loop_rounds 1 ?_
    rw [rounds_succ]
    go_wp2_with fail
    refine (heated_any _).mono ?_
    rintro e w7 ⟨rfl, h7⟩
    go_wp2_with fail
    go_ret
    exact ⟨rfl, hBW.trans (h7.mono hBW.size)⟩
  · simp only [List.length_nil]
    go_wp2_with fail
    refine wp_loop_rounds 1 ?_
    rw [rounds_succ]
    go_wp2_with fail
    refine (heated_any _).mono ?_
    rintro e w7 ⟨rfl, h7⟩
    go_wp2_with fail
    go_ret
    exact ⟨rfl, hBW.trans (h7.mono hBW.size)⟩
theorem sorted_any (a0 : Int) (b0 : -9223372036854775808 ≤ a0) (b1 : a0 ≤ 9223372036854775807) (w : World) (A : Option Addr) (n c : Nat) (xs : List (Int × Int × Int)) (hC : rd3.CB w.heap.size w A n xs) (hnc : n ≤ c) (hcm : c ≤ 9223372036854775807) :
    Calls Try.prog 6 #[.int .i64 a0, .slice A n c] w fun e w' => e = .returned (.bool true) ∧ Below w.heap.size w w' := by
  by_cases h1 : n = 0
  · subst h1; exact sorted_none a0 b0 b1 w A c hcm
  · exact sorted_calls a0 b0 b1 w A n c xs hC hnc hcm (by omega)
end Go.Proofs.Ytefkifdhjabdiaa
