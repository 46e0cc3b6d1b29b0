import Derived.Test.YtefkifdhjabdiaaHeat1
namespace Go.Proofs.Ytefkifdhjabdiaa
set_option linter.unusedVariables false
set_option linter.unusedSimpArgs false
open Go.RowKit Go.Maps

set_option maxHeartbeats 1000000 in
theorem turn_new' {w : World} {hb mb n : Nat} {hot : Int} {m : Value → Option Value} (h : HeatAt w hb hot mb n m) (f a : Int) (sz : Nat) (hsz : sz < 100)
    (hlen : ∀ w1 : World, w1.heap[mb]? = w.heap[mb]? → ∀ ty, (Builtin.len_ #[48] ty #[.map (some mb)]).run Try.prog w1 = .ok (.int .i64 (sz : Int)) w1) (hn : n < 100000)
    (f0 : 0 ≤ f) (f1 : f < 60) (a0 : 0 ≤ a) (a1 : a < 600) (hx : m (place f a) = none) (h1 : 1 ≤ hot) (h2 : hot ≤ 1000) :
    Calls Try.prog 9 #[.pointer (some ⟨hb, 0, none⟩), .int .i64 f, .int .i64 a] w fun e w' => e = .returned (.tuple #[.int .i64 (tellN 0 hot 0), .int .i64 0]) ∧
      HeatAt w' hb hot mb (n + 1) (updF m (place f a) (headV f a 1 hot 0 (isN 0 hot 0))) ∧ w.grownBy w' (some mb) := by
  have g0 := h.c0
  have g1 := h.c1
  have hlt : hb < w.heap.size := (Array.getElem?_eq_some_iff.1 h.cells).1
  have hltm : mb < w.heap.size := h.map.lt
  obtain ⟨kl, hk⟩ := keyK f a (WalkArith.wf_i64 (by omega)) (WalkArith.wf_i64 (by omega))
  have l1 : ∀ o, (Instr.lookup 48 (.map (some mb)) (place f a) true).run Try.prog (w.alloc o).drew = .ok (.tuple #[headV 0 0 0 0 0 0, .bool false]) (w.alloc o).drew := fun o => by
    rw [(((h.map.alloc o).drew)).look_ok keyedK Try.underlying48 (zeroHead _) hk, hx]; rfl
  have l2 : ∀ o o', (Instr.lookup 48 (.map (some mb)) (place f a) true).run Try.prog ((w.alloc o).alloc o').drew = .ok (.tuple #[headV 0 0 0 0 0 0, .bool false]) ((w.alloc o).alloc o').drew := fun o o' => by
    rw [((((h.map.alloc o).alloc o').drew)).look_ok keyedK Try.underlying48 (zeroHead _) hk, hx]; rfl
  have hl : ∀ o o' ty, (Builtin.len_ #[48] ty #[.map (some mb)]).run Try.prog ((w.alloc o).alloc o').drew = .ok (.int .i64 (sz : Int)) ((w.alloc o).alloc o').drew := fun o o' ty => hlen _ (by
    show ((w.alloc o).alloc o').heap[mb]? = _
    rw [Below.heap_alloc _ _ _ (by simp; omega), Below.heap_alloc _ _ _ hltm]) ty
  clear hlen
  have hszd : decide ((100 : Int) ≤ (sz : Int)) = false := by simp; omega
  obtain ⟨S, hr, hS0⟩ := store_two h hk (by omega)
  have hS := Lib.hid hS0
  clear hS0 hk hx
  unfold place headV at l1 l2
  unfold place at hr
  by_cases hc : 1 ≥ hot
  · obtain rfl : hot = 1 := by omega
    go_enter Try.func9, Try.ntmps9
    go_wp2
    go_region
    go_wp2
    go_region
    go_wp2
    go_ret2
    refine ⟨by simp [tellN], ?_, (hS.out _ _ _).2⟩
    simp [headV, isN]
    exact (hS.out _ _ _).1
  · have hc' : 1 < hot := by omega
    go_enter Try.func9, Try.ntmps9
    go_wp2
    go_region
    go_wp2
    go_region
    go_wp2
    go_ret2
    refine ⟨by simp [tellN, show ¬ (hot ≤ 1) by omega], ?_, (hS.out _ _ _).2⟩
    simp [headV, isN, show ¬ (hot ≤ 1) by omega]
    exact (hS.out _ _ _).1

theorem turn_new {w : World} {hb mb n : Nat} {hot : Int} {m : Value → Option Value} (h : HeatAt w hb hot mb n m) (f a : Int) (hn : n < 100)
    (f0 : 0 ≤ f) (f1 : f < 60) (a0 : 0 ≤ a) (a1 : a < 600) (hx : m (place f a) = none) (h1 : 1 ≤ hot) (h2 : hot ≤ 1000) :
    Calls Try.prog 9 #[.pointer (some ⟨hb, 0, none⟩), .int .i64 f, .int .i64 a] w fun e w' => e = .returned (.tuple #[.int .i64 (tellN 0 hot 0), .int .i64 0]) ∧
      HeatAt w' hb hot mb (n + 1) (updF m (place f a) (headV f a 1 hot 0 (isN 0 hot 0))) ∧ w.grownBy w' (some mb) := by
  obtain ⟨sz, hsz, hlen⟩ := h.map.len (t := 48) (e := 47) Try.underlying48
  exact turn_new' h f a sz (by omega) hlen (by omega) f0 f1 a0 a1 hx h1 h2

-- Taken of a head that was asked for.
set_option maxHeartbeats 1000000 in
theorem taken_bad {w : World} {hb mb n : Nat} {hot : Int} {m : Value → Option Value} (h : HeatAt w hb hot mb n m) (f a c l x : Int) (hn : n < 100000)
    (wf : (Lit.int .i64 f).wf = true) (wa : (Lit.int .i64 a).wf = true) (hx : m (place f a) = some (headV f a c l x 1)) (x0 : 0 ≤ x) (x1 : x ≤ 10) (l0 : 0 ≤ l) (l1' : l ≤ 1000000) :
    Calls Try.prog 10 #[.pointer (some ⟨hb, 0, none⟩), .int .i64 f, .int .i64 a, .bool false] w fun e w' => e = .returned (.int .i64 0) ∧
      HeatAt w' hb hot mb (n + 1) (updF m (place f a) (headV f a 0 (2 * l) (x + 1) (if x + 1 ≥ 3 then 3 else 0))) ∧ w.grownBy w' (some mb) := by
  have g0 := h.c0
  have g1 := h.c1
  have hlt : hb < w.heap.size := (Array.getElem?_eq_some_iff.1 h.cells).1
  obtain ⟨kl, hk⟩ := keyK f a wf wa
  have l1 : ∀ o, (Instr.lookup 48 (.map (some mb)) (place f a) true).run Try.prog (w.alloc o).drew = .ok (.tuple #[headV f a c l x 1, .bool true]) (w.alloc o).drew := fun o => by
    rw [(((h.map.alloc o).drew)).look_ok keyedK Try.underlying48 (zeroHead _) hk, hx]; rfl
  have l2 : ∀ o o', (Instr.lookup 48 (.map (some mb)) (place f a) true).run Try.prog ((w.alloc o).alloc o').drew = .ok (.tuple #[headV f a c l x 1, .bool true]) ((w.alloc o).alloc o').drew := fun o o' => by
    rw [((((h.map.alloc o).alloc o').drew)).look_ok keyedK Try.underlying48 (zeroHead _) hk, hx]; rfl
  obtain ⟨S, hr, hS0⟩ := store_two h hk (by omega)
  have hS := Lib.hid hS0
  clear hS0 hk hx
  unfold place headV at l1 l2
  unfold place at hr
  by_cases hc : x + 1 ≥ 3
  · go_enter Try.func10, Try.ntmps10
    go_wp2
    go_region
    go_wp2
    go_region
    go_wp2
    go_ret
    refine ⟨rfl, ?_, (hS.out _ _ _).2⟩
    simp [headV, show 3 ≤ x + 1 from hc]
    exact (hS.out _ _ _).1
  · have hc' : x + 1 < 3 := by omega
    go_enter Try.func10, Try.ntmps10
    go_wp2
    go_region
    go_wp2
    go_region
    go_wp2
    go_ret
    refine ⟨rfl, ?_, (hS.out _ _ _).2⟩
    simp [headV, show ¬ (3 ≤ x + 1) by omega]
    exact (hS.out _ _ _).1
end Go.Proofs.Ytefkifdhjabdiaa
