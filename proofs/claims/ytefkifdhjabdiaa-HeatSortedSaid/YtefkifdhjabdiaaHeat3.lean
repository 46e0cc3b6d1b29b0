import Derived.Test.YtefkifdhjabdiaaHeat2
namespace Go.Proofs.Ytefkifdhjabdiaa
set_option linter.unusedVariables false
set_option linter.unusedSimpArgs false
open Go.RowKit Go.Maps

theorem HeatAt.same {w w1 : World} {hb mb n : Nat} {hot : Int} {m : Value → Option Value} (h : HeatAt w hb hot mb n m) {B : Nat} (hb1 : Below B w w1) (h1 : hb < B) (h2 : mb < B) : HeatAt w1 hb hot mb n m :=
  ⟨by rw [hb1.block hb h1]; exact h.cells, h.map.below hb1 h2⟩
theorem HeatAt.lt {w : World} {hb mb n : Nat} {hot : Int} {m : Value → Option Value} (h : HeatAt w hb hot mb n m) : hb < w.heap.size ∧ mb < w.heap.size := ⟨(Array.getElem?_eq_some_iff.1 h.cells).1, h.map.lt⟩
theorem grownBy_of_below {w w1 : World} (h : Below w.heap.size w w1) (r : Option Nat) : w.grownBy w1 r := ⟨h.os, h.tape, h.output, h.size, fun k hk _ => h.block k hk⟩

set_option maxHeartbeats 1000000 in
theorem taken_state {w : World} {hb mb n : Nat} {hot : Int} {m : Value → Option Value} (h : HeatAt w hb hot mb n m) (f a c l x s : Int) (good : Bool)
    (wf : (Lit.int .i64 f).wf = true) (wa : (Lit.int .i64 a).wf = true) (hx : m (place f a) = some (headV f a c l x s)) (hs : s = 0 ∨ s = 2 ∨ s = 3) :
    Calls Try.prog 10 #[.pointer (some ⟨hb, 0, none⟩), .int .i64 f, .int .i64 a, .bool good] w fun e w' => e = .returned (.int .i64 8) ∧ Below w.heap.size w w' := by
  have g0 := h.c0
  have g1 := h.c1
  have hlt : hb < w.heap.size := (Array.getElem?_eq_some_iff.1 h.cells).1
  obtain ⟨kl, hk⟩ := keyK f a wf wa
  have l1 : ∀ o, (Instr.lookup 48 (.map (some mb)) (place f a) true).run Try.prog (w.alloc o).drew = .ok (.tuple #[headV f a c l x s, .bool true]) (w.alloc o).drew := fun o => by
    rw [(((h.map.alloc o).drew)).look_ok keyedK Try.underlying48 (zeroHead _) hk, hx]; rfl
  have l2 : ∀ o o', (Instr.lookup 48 (.map (some mb)) (place f a) true).run Try.prog ((w.alloc o).alloc o').drew = .ok (.tuple #[headV f a c l x s, .bool true]) ((w.alloc o).alloc o').drew := fun o o' => by
    rw [((((h.map.alloc o).alloc o').drew)).look_ok keyedK Try.underlying48 (zeroHead _) hk, hx]; rfl
  clear hk hx
  unfold place headV at l1 l2
  rcases hs with rfl | rfl | rfl
  all_goals
    go_enter Try.func10, Try.ntmps10
    go_wp2
    go_region
    go_wp2
    go_ret
    exact ⟨rfl, (((Below.refl _ _).alloc (Nat.le_refl _) _).alloc (by simp) _).drew⟩

set_option maxHeartbeats 1000000 in
theorem taken_none {w : World} {hb mb n : Nat} {hot : Int} {m : Value → Option Value} (h : HeatAt w hb hot mb n m) (f a : Int) (good : Bool)
    (wf : (Lit.int .i64 f).wf = true) (wa : (Lit.int .i64 a).wf = true) (hx : m (place f a) = none) :
    Calls Try.prog 10 #[.pointer (some ⟨hb, 0, none⟩), .int .i64 f, .int .i64 a, .bool good] w fun e w' => e = .returned (.int .i64 5) ∧ Below w.heap.size w w' := by
  have g0 := h.c0
  have g1 := h.c1
  have hlt : hb < w.heap.size := (Array.getElem?_eq_some_iff.1 h.cells).1
  obtain ⟨kl, hk⟩ := keyK f a wf wa
  have l1 : ∀ o, (Instr.lookup 48 (.map (some mb)) (place f a) true).run Try.prog (w.alloc o).drew = .ok (.tuple #[headV 0 0 0 0 0 0, .bool false]) (w.alloc o).drew := fun o => by
    rw [(((h.map.alloc o).drew)).look_ok keyedK Try.underlying48 (zeroHead _) hk, hx]; rfl
  have l2 : ∀ o o', (Instr.lookup 48 (.map (some mb)) (place f a) true).run Try.prog ((w.alloc o).alloc o').drew = .ok (.tuple #[headV 0 0 0 0 0 0, .bool false]) ((w.alloc o).alloc o').drew := fun o o' => by
    rw [((((h.map.alloc o).alloc o').drew)).look_ok keyedK Try.underlying48 (zeroHead _) hk, hx]; rfl
  clear hk hx
  unfold place headV at l1 l2
  go_enter Try.func10, Try.ntmps10
  go_wp2
  go_region
  go_wp2
  go_ret
  exact ⟨rfl, (((Below.refl _ _).alloc (Nat.le_refl _) _).alloc (by simp) _).drew⟩

set_option maxHeartbeats 1000000 in
theorem taken_good {w : World} {hb mb n : Nat} {hot : Int} {m : Value → Option Value} (h : HeatAt w hb hot mb n m) (f a c l x : Int) (hn : n < 100000)
    (wf : (Lit.int .i64 f).wf = true) (wa : (Lit.int .i64 a).wf = true) (hx : m (place f a) = some (headV f a c l x 1)) :
    Calls Try.prog 10 #[.pointer (some ⟨hb, 0, none⟩), .int .i64 f, .int .i64 a, .bool true] w fun e w' => e = .returned (.int .i64 0) ∧
      HeatAt w' hb hot mb (n + 1) (updF m (place f a) (headV f a c l x 2)) ∧ w.grownBy w' (some mb) := by
  have g0 := h.c0
  have g1 := h.c1
  have hlt : hb < w.heap.size := (Array.getElem?_eq_some_iff.1 h.cells).1
  obtain ⟨kl, hk⟩ := keyK f a wf wa
  have l1 : ∀ o, (Instr.lookup 48 (.map (some mb)) (place f a) true).run Try.prog (w.alloc o).drew = .ok (.tuple #[headV f a c l x 1, .bool true]) (w.alloc o).drew := fun o => by
    rw [(((h.map.alloc o).drew)).look_ok keyedK Try.underlying48 (zeroHead _) hk, hx]; rfl
  have l2 : ∀ o o', (Instr.lookup 48 (.map (some mb)) (place f a) true).run Try.prog ((w.alloc o).alloc o').drew = .ok (.tuple #[headV f a c l x 1, .bool true]) ((w.alloc o).alloc o').drew := fun o o' => by
    rw [((((h.map.alloc o).alloc o').drew)).look_ok keyedK Try.underlying48 (zeroHead _) hk, hx]; rfl
  obtain ⟨S, hr, hS0⟩ := store_two h hk (by omega)
  have hS := Lib.hid hS0
  clear hS0 hk hx
  unfold place headV at l1 l2
  unfold place at hr
  go_enter Try.func10, Try.ntmps10
  go_wp2
  go_region
  go_wp2
  go_region
  go_wp2
  go_ret
  exact ⟨rfl, (hS.out _ _ _).1, (hS.out _ _ _).2⟩

/-- The closed fact. -/
theorem heated_any (w : World) : Calls Try.prog 11 #[] w fun e w' => e = .returned (.bool true) ∧ Below w.heap.size w w' := by
  have t0 : tellN 0 2 0 = 0 := rfl
  have t1 : tellN 1 2 0 = 1 := rfl
  go_enter Try.func11, Try.ntmps11
  go_wp2_with fail
  refine (new_any 2 _ (by omega) (by omega)).mono ?_
  rintro e w1 ⟨hb, mb, rfl, h1, hB, b1, b2⟩
  go_wp2_with fail
  refine (turn_new h1 0 3 (by omega) (by omega) (by omega) (by omega) (by omega) rfl (by omega) (by omega)).mono ?_
  rintro e w2 ⟨rfl, h2, hg2⟩
  go_wp2_with fail
  refine (turn_known h2 0 3 1 2 0 (isN 0 2 0) (by omega) (by omega) (by omega) (by omega) (by omega) (updF_same _ _ _) (by omega) (by omega) (.inl rfl)).mono ?_
  rintro e w3 ⟨rfl, h3, hg3⟩
  have t2 : tellN 1 2 (isN 0 2 0) = 1 := rfl
  go_wp2_with fail
  refine (taken_good h3 0 3 2 2 0 (by omega) (by decide) (by decide) (updF_same _ _ _)).mono ?_
  rintro e w4 ⟨rfl, h4, hg4⟩
  go_wp2_with fail
  go_ret
  refine ⟨rfl, ?_⟩
  have e1 := hB.grown hg2 hB.size (by intro k hk; cases hk; exact b2)
  have e2 := e1.grown hg3 e1.size (by intro k hk; cases hk; exact b2)
  exact e2.grown hg4 e2.size (by intro k hk; cases hk; exact b2)

/-- What the map has of a head: it, or nothing, which is as a head at its begin. -/
def HeadOf (m : Value → Option Value) (hot f a c l x s : Int) : Prop := m (place f a) = some (headV f a c l x s) ∨ (m (place f a) = none ∧ c = 0 ∧ l = hot ∧ x = 0 ∧ s = 0)

theorem turn_any {w : World} {hb mb n : Nat} {hot : Int} {m : Value → Option Value} (h : HeatAt w hb hot mb n m) (f a c l x s : Int) (hd : HeadOf m hot f a c l x s) (hn : n < 100000) (hn' : m (place f a) = none → n < 100)
    (f0 : 0 ≤ f) (f1 : f < 60) (a0 : 0 ≤ a) (a1 : a < 600) (c0 : 0 ≤ c) (c1 : c ≤ 1000000000) (s0 : s = 0 ∨ s = 1 ∨ s = 2 ∨ s = 3) (h1 : 1 ≤ hot) (h2 : hot ≤ 1000) :
    Calls Try.prog 9 #[.pointer (some ⟨hb, 0, none⟩), .int .i64 f, .int .i64 a] w fun e w' => e = .returned (.tuple #[.int .i64 (tellN c l s), .int .i64 0]) ∧
      HeatAt w' hb hot mb (n + 1) (updF m (place f a) (headV f a (countN c s) l x (isN c l s))) ∧ w.grownBy w' (some mb) := by
  rcases hd with hx | ⟨hx, rfl, rfl, rfl, rfl⟩
  · exact turn_known h f a c l x s hn f0 f1 a0 a1 hx c0 c1 s0
  · exact turn_new h f a (hn' hx) f0 f1 a0 a1 hx h1 h2
end Go.Proofs.Ytefkifdhjabdiaa
