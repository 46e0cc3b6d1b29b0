import Derived.Test.YtefkifdhjabdiaaProg
import Derived.Test.YtefkifdhjabdiaaMaps
import Derived.DeepKeys4
import Derived.MapViews
import Derived.WalkLawsBesides
namespace Go.Proofs.Ytefkifdhjabdiaa
set_option linter.unusedVariables false
set_option linter.unusedSimpArgs false
open Go.RowKit Go.Maps

def restF (n m : Int) : Int := if n.tmod m < 0 then n.tmod m + m else n.tmod m
theorem restF_bd (n m : Int) (hm : 0 < m) : 0 ≤ restF n m ∧ restF n m < m := by
  have h1 : n.tmod m < m := Int.tmod_lt_of_pos n hm
  have h2 : -m < n.tmod m := by
    have := Int.tmod_lt_of_pos (-n) hm
    rw [Int.neg_tmod] at this; omega
  unfold restF; split <;> omega

theorem rest_any (n m : Int) (w : World) (hm : 0 < m) (hm2 : m ≤ 1000000) (hn : -9223372036854775808 ≤ n) (hn2 : n ≤ 9223372036854775807) :
    Calls Try.prog 7 #[.int .i64 n, .int .i64 m] w fun e w' => e = .returned (.int .i64 (restF n m)) ∧ w = w' := by
  have h1 : n.tmod m < m := Int.tmod_lt_of_pos n hm
  have h2 : -m < n.tmod m := by
    have := Int.tmod_lt_of_pos (-n) hm
    rw [Int.neg_tmod] at this; omega
  by_cases h : n.tmod m < 0
  · go_enter Try.func7, Try.ntmps7
    go_wp2
    go_ret
    exact ⟨by simp [restF, h], rfl⟩
  · go_enter Try.func7, Try.ntmps7
    go_wp2
    go_ret
    exact ⟨by simp [restF]; intro h; omega, rfl⟩

/-! ### keys and heads -/
def place (f a : Int) : Value := .agg #[.int .i64 f, .int .i64 a]
def headV (f a c l x s : Int) : Value := .agg #[.int .i64 f, .int .i64 a, .int .i64 c, .int .i64 l, .int .i64 x, .int .i64 s]
theorem laidOutK : laidOutB Try.prog = true := by kernel_rfl
theorem rowK : (52 : TypeId) < Try.prog.types.size := of_decide_eq_true (by kernel_rfl)
theorem wideK : (match Try.prog.underlying 52 with | some (.array _ _) | some (.struct _) => true | _ => false) = true := by rw [Try.underlying52]
theorem keyedK : Keyed Try.prog 52 := Keyed.of_law (deep_law_laid laidOutK (m := 2) (by omega) rowK (by kernel_rfl) wideK)
theorem cellsK : Try.prog.cellsOf 52 = 2 := by kernel_rfl
theorem cellsInt : Try.prog.cellsOf 3 = 1 := by kernel_rfl
theorem keyTypeK : Try.prog.keyType 52 = true := by kernel_rfl
theorem keyK (f a : Int) (hf : (Lit.int .i64 f).wf = true) (ha : (Lit.int .i64 a).wf = true) : ∃ kl, keyOf Try.prog 52 (place f a) = some kl := by
  unfold keyOf
  rw [Try.underlying52]
  obtain ⟨m, hm⟩ : ∃ m, Try.prog.types.size = m + 1 := ⟨Try.prog.types.size - 1, by have h : 0 < Try.prog.types.size := Nat.lt_of_le_of_lt (Nat.zero_le _) rowK; omega⟩
  rw [hm]
  simp only [keyTypeK, place, Value.formed, Try.underlying52, cellsK, Value.cells]
  simp [Program.keyLits, Try.underlying52, cellsK, Try.underlying3, cellsInt, hf, ha]
theorem zeroHead (w : World) : (zeroValue 47).run Try.prog w = .ok (headV 0 0 0 0 0 0) w := by kernel_rfl
end Go.Proofs.Ytefkifdhjabdiaa
