/- The walk of AliasEither. -/
import Derived.Test.YtefkifdhjabdiaaApart
import Derived.Deep.RegionHeld3
namespace Go.Proofs.Ytefkifdhjabdiaa
set_option linter.unusedVariables false
set_option linter.unusedSimpArgs false
open Go.RowKit

theorem apartF_self (xs : List Ins) (loop a : Int) : apartF xs loop (min a a) (max a a) = false := by
  unfold apartF
  rw [if_pos (by omega)]

set_option maxRecDepth 100000 in
set_option maxHeartbeats 4000000 in
theorem either_any (w : World) (ok : Nat → Prop) (A : Option Addr) (n c : Nat) (xs : List Ins) (hC : rdIns.C ok w A n xs) (fn at_ loop : Int) (ve t0 t1 t2 t3 b0 b1 b2 b3 : Value)
    (o0 : ve.oneCell' = true) (o1 : t0.oneCell' = true) (o2 : t1.oneCell' = true) (o3 : t2.oneCell' = true) (o4 : t3.oneCell' = true) (o5 : b0.oneCell' = true) (o6 : b1.oneCell' = true) (o7 : b2.oneCell' = true) (o8 : b3.oneCell' = true) (a b : Int) :
    Calls Try.prog 5 #[.agg #[.int .i64 fn, .int .i64 at_, .int .i64 loop, .slice A n c, ve, t0, t1, t2, t3, b0, b1, b2, b3], .int .i64 a, .int .i64 b] w fun e w' => e = .returned (.bool true) ∧ Below w.heap.size w w' := by
  have HC := Lib.hid hC
  clear hC
  obtain ⟨r, hr⟩ : ∃ r, r = apartF xs loop (min a b) (max a b) := ⟨_, rfl⟩
  obtain ⟨W0, hW0⟩ : ∃ W0, W0 = w.alloc (.cells #[.int .i64 fn, .int .i64 at_, .int .i64 loop, .slice A n c, ve, t0, t1, t2, t3, b0, b1, b2, b3] 42) := ⟨_, rfl⟩
  have B0 : Below w.heap.size w W0 := by rw [hW0]; exact (Below.refl _ _).alloc (Nat.le_refl _) _
  have sz0 : W0.heap.size = w.heap.size + 1 := by rw [hW0]; simp
  have cm : ∀ w', Below (w.heap.size + 1) W0 w' → rdIns.C ok w' A n xs := fun w' h' => HC.out.move (fun k _ hk => by rw [h'.block k (by omega), B0.block k hk])
  have K1 : ∀ w', Below (w.heap.size + 1) W0 w' → Calls Try.prog 13 #[.agg #[.int .i64 fn, .int .i64 at_, .int .i64 loop, .slice A n c, ve, t0, t1, t2, t3, b0, b1, b2, b3], .int .i64 a, .int .i64 b] w' fun e w'' => e = .returned (.bool r) ∧ Below w'.heap.size w' w'' := fun w' h' => by
    rw [hr]; exact apart_any w' ok A n c xs (cm w' h') fn at_ loop ve t0 t1 t2 t3 b0 b1 b2 b3 a b
  have K2 : ∀ w', Below (w.heap.size + 1) W0 w' → Calls Try.prog 13 #[.agg #[.int .i64 fn, .int .i64 at_, .int .i64 loop, .slice A n c, ve, t0, t1, t2, t3, b0, b1, b2, b3], .int .i64 b, .int .i64 a] w' fun e w'' => e = .returned (.bool r) ∧ Below w'.heap.size w' w'' := fun w' h' => by
    rw [hr, Int.min_comm, Int.max_comm]; exact apart_any w' ok A n c xs (cm w' h') fn at_ loop ve t0 t1 t2 t3 b0 b1 b2 b3 b a
  have K3 : ∀ w', Below (w.heap.size + 1) W0 w' → Calls Try.prog 13 #[.agg #[.int .i64 fn, .int .i64 at_, .int .i64 loop, .slice A n c, ve, t0, t1, t2, t3, b0, b1, b2, b3], .int .i64 a, .int .i64 a] w' fun e w'' => e = .returned (.bool false) ∧ Below w'.heap.size w' w'' := fun w' h' => by
    have := apart_any w' ok A n c xs (cm w' h') fn at_ loop ve t0 t1 t2 t3 b0 b1 b2 b3 a a
    rwa [apartF_self] at this
  have fa : ∀ w', Below (w.heap.size + 1) W0 w' → w'.cell? ⟨w.heap.size, 0, none⟩ = some (.int .i64 fn) ∧ w'.cell? ⟨w.heap.size, 1, none⟩ = some (.int .i64 at_) ∧ w'.cell? ⟨w.heap.size, 2, none⟩ = some (.int .i64 loop) ∧ w'.cell? ⟨w.heap.size, 3, none⟩ = some (.slice A n c) ∧ w'.cell? ⟨w.heap.size, 4, none⟩ = some ve ∧
      w'.cell? ⟨w.heap.size, 5, none⟩ = some t0 ∧ w'.cell? ⟨w.heap.size, 6, none⟩ = some t1 ∧ w'.cell? ⟨w.heap.size, 7, none⟩ = some t2 ∧ w'.cell? ⟨w.heap.size, 8, none⟩ = some t3 ∧ w'.cell? ⟨w.heap.size, 9, none⟩ = some b0 ∧ w'.cell? ⟨w.heap.size, 10, none⟩ = some b1 ∧ w'.cell? ⟨w.heap.size, 11, none⟩ = some b2 ∧ w'.cell? ⟨w.heap.size, 12, none⟩ = some b3 ∧
      w.heap.size < w'.heap.size ∧ Below (w.heap.size + 1) W0 w' := fun w' h' => by
    have e : ∀ i, w'.cell? ⟨w.heap.size, i, none⟩ = W0.cell? ⟨w.heap.size, i, none⟩ := fun i => h'.cell (p := ⟨w.heap.size, i, none⟩) (by simp)
    refine ⟨?_, ?_, ?_, ?_, ?_, ?_, ?_, ?_, ?_, ?_, ?_, ?_, ?_, by have := h'.size; omega, h'⟩ <;> (rw [e, hW0]; simp)
  have H1 := Lib.hid K1
  have H2 := Lib.hid K2
  have H3 := Lib.hid K3
  have HF := Lib.hid fa
  have HB := Lib.hid B0
  have HW := Lib.hid hW0
  have HS := Lib.hid sz0
  clear K1 K2 K3 fa B0 cm hr hW0 sz0
  go_enter Try.func5, Try.ntmps5
  go_wp2_with fail
  go_region_held3 (fun w' => w'.cell? ⟨w.heap.size, 0, none⟩ = some (.int .i64 fn) ∧ w'.cell? ⟨w.heap.size, 1, none⟩ = some (.int .i64 at_) ∧ w'.cell? ⟨w.heap.size, 2, none⟩ = some (.int .i64 loop) ∧ w'.cell? ⟨w.heap.size, 3, none⟩ = some (.slice A n c) ∧ w'.cell? ⟨w.heap.size, 4, none⟩ = some ve ∧
      w'.cell? ⟨w.heap.size, 5, none⟩ = some t0 ∧ w'.cell? ⟨w.heap.size, 6, none⟩ = some t1 ∧ w'.cell? ⟨w.heap.size, 7, none⟩ = some t2 ∧ w'.cell? ⟨w.heap.size, 8, none⟩ = some t3 ∧ w'.cell? ⟨w.heap.size, 9, none⟩ = some b0 ∧ w'.cell? ⟨w.heap.size, 10, none⟩ = some b1 ∧ w'.cell? ⟨w.heap.size, 11, none⟩ = some b2 ∧ w'.cell? ⟨w.heap.size, 12, none⟩ = some b3 ∧
      w.heap.size < w'.heap.size ∧ Below (w.heap.size + 1) W0 w')
    (first | exact HF.out _ (by rw [HW.out]; exact (Below.refl _ _).drew) | (go_split_ands; exact HF.out _ ((by assumption : Below (w.heap.size + 1) W0 _).trans (hbb.mono (by omega)))))
    (first | (go_at_call 12; refine (irred_any _).mono ?_; rintro e w' ⟨rfl, hbb⟩) | (go_at_call 13; (with_reducible refine (H1.out _ ?_).mono ?_); (first | assumption | (go_split_ands; assumption)); rintro e w' ⟨rfl, hbb⟩) | (go_at_call 13; (with_reducible refine (H2.out _ ?_).mono ?_); (first | assumption | (go_split_ands; assumption)); rintro e w' ⟨rfl, hbb⟩) | (go_at_call 13; (with_reducible refine (H3.out _ ?_).mono ?_); (first | assumption | (go_split_ands; assumption)); rintro e w' ⟨rfl, hbb⟩))
  go_wp2_with fail
  go_ret
  refine ⟨rfl, ?_⟩
  go_split_ands
  refine HB.out.trans (Below.mono (B := w.heap.size + 1) ?_ (by omega))
  assumption
end Go.Proofs.Ytefkifdhjabdiaa
