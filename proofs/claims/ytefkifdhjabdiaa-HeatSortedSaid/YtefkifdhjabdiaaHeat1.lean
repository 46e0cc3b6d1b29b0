import Derived.Test.YtefkifdhjabdiaaHeat0
import Derived.BigRegion
import Derived.BigQuiet
import Derived.Lib.Hide
import Derived.Carry
import Derived.Maps.AppendAt
namespace Go.Proofs.Ytefkifdhjabdiaa
set_option linter.unusedVariables false
set_option linter.unusedSimpArgs false
open Go.RowKit Go.Maps

/-- A Heat at block hb: its limit, its map in block mb. -/
structure HeatAt (w : World) (hb : Nat) (hot : Int) (mb n : Nat) (m : Value → Option Value) : Prop where
  cells : w.heap[hb]? = some (.cells #[.int .i64 hot, .map (some mb)] 50 (0, 0))
  map : MapIs Try.prog 52 w mb n m

theorem HeatAt.c0 {w : World} {hb mb n : Nat} {hot : Int} {m : Value → Option Value} (h : HeatAt w hb hot mb n m) : w.cell? ⟨hb, 0, none⟩ = some (.int .i64 hot) := by simp [World.cell?, h.cells]
theorem HeatAt.c1 {w : World} {hb mb n : Nat} {hot : Int} {m : Value → Option Value} (h : HeatAt w hb hot mb n m) : w.cell? ⟨hb, 1, none⟩ = some (.map (some mb)) := by simp [World.cell?, h.cells]
theorem HeatAt.ne {w : World} {hb mb n : Nat} {hot : Int} {m : Value → Option Value} (h : HeatAt w hb hot mb n m) : hb ≠ mb := by
  rintro rfl
  obtain ⟨D, ⟨es, clock, h1, _⟩, _⟩ := h.map
  rw [h.cells] at h1
  cases h1

theorem new_any (hot : Int) (w : World) (h1 : 1 ≤ hot) (h2 : hot ≤ 1000) :
    Calls Try.prog 8 #[.int .i64 hot] w fun e w' => ∃ hb mb, e = .returned (.tuple #[.pointer (some ⟨hb, 0, none⟩), .int .i64 0]) ∧ HeatAt w' hb hot mb 0 (fun _ => none) ∧ Below w.heap.size w w' ∧ w.heap.size ≤ hb ∧ w.heap.size ≤ mb := by
  have hmm := @run_makeMap Try.prog
  go_enter Try.func8, Try.ntmps8
  go_wp2
  go_ret2
  refine ⟨w.heap.size + 1, w.heap.size, rfl, ⟨?_, ?_⟩, ?_, by omega, Nat.le_refl _⟩
  · have := heap_alloc_new (w.alloc (.map #[] 0)) (.cells #[.int .i64 hot, .map (some w.heap.size)] 50)
    simpa using this
  · exact (MapIs.made _ _ _).alloc _
  · exact ((Below.refl _ _).alloc (Nat.le_refl _) _).alloc (by simp) _

def tellN (c l s : Int) : Int := if s = 0 then (if c + 1 ≥ l then 1 else 0) else if s = 2 ∨ s = 3 then s else 0
def countN (c s : Int) : Int := if s = 0 then c + 1 else c
def isN (c l s : Int) : Int := if s = 0 ∧ c + 1 ≥ l then 1 else s

theorem store_two {w : World} {hb mb n : Nat} {hot : Int} {m : Value → Option Value} (h : HeatAt w hb hot mb n m) {key : Value} {kl : Lit} (hk : keyOf Try.prog 52 key = some kl) (hn : n < 100000) :
    ∃ S : Obj → Obj → Value → World, (∀ o o' v, (Instr.mapUpdate 48 (.map (some mb)) key v).run Try.prog ((w.alloc o).alloc o').drew.drew = .ok () (S o o' v)) ∧
      ∀ o o' v, HeatAt (S o o' v) hb hot mb (n + 1) (updF m key v) ∧ w.grownBy (S o o' v) (some mb) := by
  have st : ∀ o o' v, ∃ w', (Instr.mapUpdate 48 (.map (some mb)) key v).run Try.prog ((w.alloc o).alloc o').drew.drew = .ok () w' ∧ MapIs Try.prog 52 w' mb (n + 1) (updF m key v) ∧ ((w.alloc o).alloc o').drew.drew.mapTurned w' mb := fun o o' v =>
    (((h.map.alloc o).alloc o').drew.drew).store keyedK Try.underlying48 (by unfold maxLen; omega) hk v
  refine ⟨fun o o' v => Classical.choose (st o o' v), fun o o' v => (Classical.choose_spec (st o o' v)).1, fun o o' v => ?_⟩
  obtain ⟨_, h2, h3⟩ := Classical.choose_spec (st o o' v)
  have hg := h3.grown
  have hlt : hb < w.heap.size := (Array.getElem?_eq_some_iff.1 h.cells).1
  have hne := h.ne
  have e1 : ((w.alloc o).alloc o').heap[hb]? = w.heap[hb]? := by
    rw [Below.heap_alloc _ _ _ (by simp; omega), Below.heap_alloc _ _ _ hlt]
  refine ⟨⟨?_, h2⟩, ?_⟩
  · rw [hg.block hb (by show hb < ((w.alloc o).alloc o').heap.size; simp; omega) (by simpa using hne)]
    exact e1.trans h.cells
  · refine World.grownBy.trans ?_ hg
    exact ⟨rfl, rfl, rfl, by show w.heap.size ≤ ((w.alloc o).alloc o').heap.size; simp; omega, fun k hk _ => by
      show ((w.alloc o).alloc o').heap[k]? = _
      rw [Below.heap_alloc _ _ _ (by simp; omega), Below.heap_alloc _ _ _ hk]⟩

set_option maxHeartbeats 1000000 in
theorem turn_known {w : World} {hb mb n : Nat} {hot : Int} {m : Value → Option Value} (h : HeatAt w hb hot mb n m) (f a c l x s : Int) (hn : n < 100000)
    (f0 : 0 ≤ f) (f1 : f < 60) (a0 : 0 ≤ a) (a1 : a < 600) (hx : m (place f a) = some (headV f a c l x s)) (c0 : 0 ≤ c) (c1 : c ≤ 1000000000) (s0 : s = 0 ∨ s = 1 ∨ s = 2 ∨ s = 3) :
    Calls Try.prog 9 #[.pointer (some ⟨hb, 0, none⟩), .int .i64 f, .int .i64 a] w fun e w' => e = .returned (.tuple #[.int .i64 (tellN c l s), .int .i64 0]) ∧
      HeatAt w' hb hot mb (n + 1) (updF m (place f a) (headV f a (countN c s) l x (isN c l s))) ∧ w.grownBy w' (some mb) := by
  have g0 := h.c0
  have g1 := h.c1
  have hlt : hb < w.heap.size := (Array.getElem?_eq_some_iff.1 h.cells).1
  obtain ⟨kl, hk⟩ := keyK f a (WalkArith.wf_i64 (by omega)) (WalkArith.wf_i64 (by omega))
  have l1 : ∀ o, (Instr.lookup 48 (.map (some mb)) (place f a) true).run Try.prog (w.alloc o).drew = .ok (.tuple #[headV f a c l x s, .bool true]) (w.alloc o).drew := fun o => by
    rw [(((h.map.alloc o).drew)).look_ok keyedK Try.underlying48 (zeroHead _) hk, hx]; rfl
  have l2 : ∀ o o', (Instr.lookup 48 (.map (some mb)) (place f a) true).run Try.prog ((w.alloc o).alloc o').drew = .ok (.tuple #[headV f a c l x s, .bool true]) ((w.alloc o).alloc o').drew := fun o o' => by
    rw [((((h.map.alloc o).alloc o').drew)).look_ok keyedK Try.underlying48 (zeroHead _) hk, hx]; rfl
  obtain ⟨S, hr, hS0⟩ := store_two h hk hn
  have hS := Lib.hid hS0
  clear hS0 hk hx
  unfold place headV at l1 l2
  unfold place at hr
  by_cases hc : c + 1 ≥ l
  · rcases s0 with rfl | rfl | rfl | rfl
    all_goals
      go_enter Try.func9, Try.ntmps9
      go_wp2
      go_region
      go_wp2
      go_region
      go_wp2
      go_ret2
      refine ⟨by simp [tellN, hc], ?_, (hS.out _ _ _).2⟩
      simp [headV, countN, isN, hc]
      exact (hS.out _ _ _).1
  · rcases s0 with rfl | rfl | rfl | rfl
    all_goals
      go_enter Try.func9, Try.ntmps9
      go_wp2
      go_region
      go_wp2
      go_region
      go_wp2
      go_ret2
      refine ⟨by simp [tellN, show ¬ (l ≤ c + 1) by omega], ?_, (hS.out _ _ _).2⟩
      simp [headV, countN, isN, show ¬ (l ≤ c + 1) by omega]
      exact (hS.out _ _ _).1
end Go.Proofs.Ytefkifdhjabdiaa
