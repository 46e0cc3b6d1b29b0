/- The order of heads: cmp.Compare, cmp.Or, the closure of All. -/
import Derived.Test.YtefkifdhjabdiaaHeat4
import Derived.Deep.RegionHeld3
import Derived.WalkSpells
import Derived.Lib.Small
import Derived.Lib.Walk
import Derived.Sort.Grow
namespace Go.Proofs.Ytefkifdhjabdiaa
set_option linter.unusedVariables false
set_option linter.unusedSimpArgs false
open Go.RowKit Go.Maps Go.Lib Go.Sort

instance : Inhabited Hd := ⟨⟨0, 0, 0, 0⟩⟩
/-- An element's cells. -/
def encH (x : Int × Int × Hd) : List Value := [.int .i64 x.1, .int .i64 x.2.1, .int .i64 x.2.2.c, .int .i64 x.2.2.l, .int .i64 x.2.2.x, .int .i64 x.2.2.s]
def orI (a b : Int) : Int := if a ≠ 0 then a else b
def cfH (x y : Int × Int × Hd) : Int := orI (Lib.compareInt x.1 y.1) (Lib.compareInt x.2.1 y.2.1)

theorem cmp_isNaN (x : Int) (w : World) : Calls Try.prog 27 #[.int .i64 x] w fun e w' => e = .returned (.bool false) ∧ w' = w := by
  go_enter Try.func27, Try.ntmps27
  go_wp2
  go_ret
  exact ⟨by simp, rfl⟩
theorem cmp_int (x y : Int) (w : World) : Calls Try.prog 23 #[.int .i64 x, .int .i64 y] w fun e w' => e = .returned (.int .i64 (Lib.compareInt x y)) ∧ w' = w := by
  go_enter Try.func23, Try.ntmps23
  go_wp2_with (go_at_call 27; refine (cmp_isNaN _ _).mono ?_; rintro e w' ⟨rfl, hw⟩; rw [hw])
  all_goals (go_ret; refine ⟨?_, rfl⟩; unfold Lib.compareInt; (repeat' split) <;> first | rfl | (exfalso; omega))
theorem cmp_or (a b : Int) (W : World) (p : Addr) (h0 : W.cell? p = some (.int .i64 a)) (h1 : W.cell? ⟨p.block, p.off + 1, none⟩ = some (.int .i64 b)) : Calls Try.prog 22 #[.slice (some p) 2 2] W fun e w' => e = .returned (.int .i64 (orI a b)) ∧ w' = W := by
  by_cases ha : a = 0
  · subst ha
    go_enter Try.func22, Try.ntmps22
    go_wp2
    refine wp_loop_rounds 3 ?_
    rw [rounds_succ]
    go_wp2
    rw [rounds_succ]
    go_wp2
    · go_ret
      exact ⟨by simp [orI], rfl⟩
    · rename_i hb
      have hb' : b = 0 := by simpa using hb
      rw [rounds_succ]
      go_wp2
      go_ret
      exact ⟨by simp [orI, hb'], rfl⟩
  · have hab : (a != 0) = true := by simp [ha]
    go_enter Try.func22, Try.ntmps22
    go_wp2
    refine wp_loop_rounds 3 ?_
    rw [rounds_succ]
    go_wp2
    go_ret
    exact ⟨by simp [orI, ha], rfl⟩

theorem cmp_or' (a b : Int) (W : World) (o o' : Obj) : Calls Try.prog 22 #[.slice (some ⟨W.heap.size + 1 + 1, 0, none⟩) 2 2] (((W.alloc o).alloc o').alloc (.cells #[.int .i64 a, .int .i64 b] 3)).drew fun e w' => e = .returned (.int .i64 (orI a b)) ∧ w' = (((W.alloc o).alloc o').alloc (.cells #[.int .i64 a, .int .i64 b] 3)).drew := by
  have hb : (((W.alloc o).alloc o').alloc (.cells #[.int .i64 a, .int .i64 b] 3)).drew.heap[W.heap.size + 1 + 1]? = some (.cells #[.int .i64 a, .int .i64 b] 3 (0, 0)) := by
    have hb := heap_alloc_new ((W.alloc o).alloc o') (.cells #[.int .i64 a, .int .i64 b] 3)
    simp only [World.size_alloc] at hb
    exact hb
  refine cmp_or a b _ _ ?_ ?_
  · simp only [World.cell?, hb]; rfl
  · simp only [World.cell?, hb]; rfl

set_option maxHeartbeats 1000000 in
theorem closureH (x y : Int × Int × Hd) (W : World) : Calls Try.prog 21 #[.agg (encH x).toArray, .agg (encH y).toArray] W fun e w' => e = .returned (.int .i64 (cfH x y)) ∧ ∃ q os', w' = grow (W.drewN q) os' := by
  obtain ⟨c, hc, he⟩ : ∃ c : Int → Int → Int, (∀ a b W', Calls Try.prog 23 #[.int .i64 a, .int .i64 b] W' fun e w' => e = .returned (.int .i64 (c a b)) ∧ w' = W') ∧ cfH x y = orI (c x.1 y.1) (c x.2.1 y.2.1) := ⟨Lib.compareInt, cmp_int, rfl⟩
  rw [he]
  clear he
  unfold encH
  go_enter Try.func21, Try.ntmps21
  go_wp2
  go_region_held3 (fun w' => w'.cell? ⟨W.heap.size, 0, none⟩ = some (.int .i64 x.1) ∧ w'.cell? ⟨W.heap.size, 1, none⟩ = some (.int .i64 x.2.1) ∧ w'.cell? ⟨W.heap.size + 1, 0, none⟩ = some (.int .i64 y.1) ∧ w'.cell? ⟨W.heap.size + 1, 1, none⟩ = some (.int .i64 y.2.1)) (go_keep)
    (first
      | (go_at_call 23; refine (hc _ _ _).mono ?_; rintro e w' ⟨rfl, hw⟩; subst hw)
      | (go_at_call 22; refine (cmp_or' _ _ _ _ _).mono ?_; rintro e w' ⟨rfl, hw⟩; subst hw))
  go_wp2
  go_ret
  exact ⟨rfl, 1, _, by rw [alloc_eq_grow, alloc_eq_grow, alloc_eq_grow, grow_grow, grow_grow]; rfl⟩
end Go.Proofs.Ytefkifdhjabdiaa
